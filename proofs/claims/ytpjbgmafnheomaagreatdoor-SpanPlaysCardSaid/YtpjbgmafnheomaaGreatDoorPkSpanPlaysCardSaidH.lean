/-
  Lemmas of SpanPlaysCardSaid, part 8.
-/
import Derived.Test.YtpjbgmafnheomaaGreatDoorPkSpanPlaysCardSaidG
namespace Go.Proofs.YtpjbgmafnheomaaGreatDoor.Sim
open Go.RowKit
set_option linter.unusedVariables false
set_option linter.unusedSimpArgs false
section
variable {P : Program} {F : Fr} {s : St} {o : Oper}
theorem run_appendZ {t ty e : TypeId} {i : TypeInfo} {zv : Value} (ht : P.underlying t = some (.slice e)) (hi : P.info? e = some i) (hz : i.zero = some zv) {z : Nat} (hs : i.size = z) (hzs : zv.cells.size = z) {w : World} {g : Nat} {us olds : List Value} {T : TypeId} (hT : T = e) (hg : w.heap[g]? = some (.cells us.toArray T (0, 0)))
    {n cap m c2 : Nat} {ad a2 : Addr} {news : List Value} (ho : us.take (n * z) = olds) (hol : olds.length = n * z) (hn : n ≤ cap) (had : 0 < cap → ad = ⟨g, 0, none⟩ ∧ cap * z ≤ us.length) (hnl : news.length = m * z) (hm : 0 < m) (hnews : ∀ j v, news[j]? = some v → w.cell? (a2.add j) = some v) (h1 : ∀ u ∈ news, u.oneCell' = true)
    (hb : ((n + m : Nat) : Int) ≤ 9223372036854775807) (hby : (n + m) * i.bytes ≤ 140737488355328) :
    ∃ (w' : World) (g' cap' : Nat) (us' : List Value) (ad' : Addr), (Builtin.append_ #[t, t] ty #[.slice (some ad) n cap, .slice (some a2) m c2]).run P w = .ok (.slice (some ad') (n + m) cap') w' ∧ (g' = g ∨ g' = w.heap.size) ∧ w'.heap[g']? = some (.cells us'.toArray T (0, 0)) ∧
      us'.take ((n + m) * z) = olds ++ news ∧ n + m ≤ cap' ∧ (0 < cap' → ad' = ⟨g', 0, none⟩ ∧ cap' * z ≤ us'.length) ∧ (n + m) * z ≤ us'.length ∧ w.grownBy w' (some g) := by
  subst hT
  subst hs
  have e0 : (n + m) * i.size = n * i.size + m * i.size := Nat.add_mul _ _ _
  by_cases hroom : n + m ≤ cap
  · have hcap : 0 < cap := by omega
    obtain ⟨rfl, hcu⟩ := had hcap
    have hle : (n + m) * i.size ≤ cap * i.size := Nat.mul_le_mul_right _ hroom
    have hrun := run_append_room (P := P) w t ty T i ht hi g n cap us.toArray hg a2 m c2 news hnl hnews h1 hroom (by simp; omega)
    refine ⟨_, g, cap, us.take (n * i.size) ++ news ++ us.drop (n * i.size + news.length), ⟨g, 0, none⟩, hrun, .inl rfl, by simpa using setRow_heap w g us.toArray (us.take (n * i.size) ++ news ++ us.drop (n * i.size + news.length)).toArray _ _ hg, ?_, hroom, fun _ => ⟨rfl, ?_⟩, ?_, ⟨rfl, rfl, rfl, by simp, fun k hk hne => setRow_other w g k _ (fun e => hne (by rw [e]))⟩⟩
    · have e1 : (olds ++ news).length = (n + m) * i.size := by simp [hol, hnl, e0]
      rw [ho, ← e1]; exact List.take_left
    · simp [hnl]; omega
    · simp [hnl]; omega
  · have hfit := growslice_fits (need := n + m) (old := cap) (bytes := i.bytes) (by omega) hby
    have hge := grownCap_ge w (n + m) cap T
    have hrun := run_append_grow (P := P) (w := w) t ty T i zv ht hi hz ad n cap olds hol (fun j v hj => by
      have hjn : j < n * i.size := by rw [← hol]; exact (List.getElem?_eq_some_iff.1 hj).1
      have hn0 : 0 < n := by
        rcases Nat.eq_zero_or_pos n with h | h
        · rw [h, Nat.zero_mul] at hjn; omega
        · exact h
      obtain ⟨rfl, _⟩ := had (by omega)
      rw [addr_add, Nat.zero_add]
      rw [← ho, List.getElem?_take, if_pos hjn] at hj
      simpa [World.cell?, hg] using hj) a2 m c2 news hnl hnews (by omega) hb hfit
    have e2 : grownCap w (n + m) cap T * i.size = (n + m) * i.size + (grownCap w (n + m) cap T - (n + m)) * i.size := by rw [← Nat.add_mul]; congr 1; omega
    refine ⟨_, w.heap.size, _, olds ++ news ++ (Builtin.zeroCells zv.cells (grownCap w (n + m) cap T - (n + m))).toList, _, hrun, .inr rfl, ?_, ?_, hge, fun _ => ⟨rfl, ?_⟩, ?_, ⟨rfl, rfl, rfl, by simp, fun k hk _ => heap_alloc_old w.drew _ k hk⟩⟩
    · have := heap_alloc_new w.drew (.cells (olds.toArray ++ news.toArray ++ Builtin.zeroCells zv.cells (grownCap w (n + m) cap T - (n + m))) T)
      have e : (olds ++ news ++ (Builtin.zeroCells zv.cells (grownCap w (n + m) cap T - (n + m))).toList).toArray = olds.toArray ++ news.toArray ++ Builtin.zeroCells zv.cells (grownCap w (n + m) cap T - (n + m)) := by
        apply Array.ext'; simp
      rw [e]
      exact this
    · have e1 : (olds ++ news).length = (n + m) * i.size := by simp [hol, hnl, e0]
      rw [← e1]; exact List.take_left
    · simp [size_zeroCells, hzs, hol, hnl]; omega
    · simp [hol, hnl]; omega
theorem run_appendN {t ty e : TypeId} {i : TypeInfo} {zv : Value} (ht : P.underlying t = some (.slice e)) (hi : P.info? e = some i) (hz : i.zero = some zv) {z : Nat} (hs : i.size = z) (hzs : zv.cells.size = z) {w : World}
    {m c2 : Nat} {a2 : Addr} {news : List Value} (hnl : news.length = m * z) (hm : 0 < m) (hnews : ∀ j v, news[j]? = some v → w.cell? (a2.add j) = some v)
    (hb : (m : Int) ≤ 9223372036854775807) (hby : m * i.bytes ≤ 140737488355328) :
    ∃ (cap' : Nat) (us' : List Value), (Builtin.append_ #[t, t] ty #[.slice none 0 0, .slice (some a2) m c2]).run P w = .ok (.slice (some ⟨w.heap.size, 0, none⟩) m cap') (w.drew.alloc (.cells us'.toArray e)) ∧
      us'.take (m * z) = news ∧ m ≤ cap' ∧ cap' * z ≤ us'.length := by
  subst hs
  have hge := grownCap_ge w m 0 e
  have hrun := run_append_nil (P := P) (w := w) t ty e i zv ht hi hz a2 m c2 news hnl hnews hm hb (by omega)
  have e2 : grownCap w m 0 e * i.size = m * i.size + (grownCap w m 0 e - m) * i.size := by rw [← Nat.add_mul]; congr 1; omega
  refine ⟨_, news ++ (Builtin.zeroCells zv.cells (grownCap w m 0 e - m)).toList, ?_, ?_, hge, ?_⟩
  · have e : (news ++ (Builtin.zeroCells zv.cells (grownCap w m 0 e - m)).toList).toArray = news.toArray ++ Builtin.zeroCells zv.cells (grownCap w m 0 e - m) := by
      apply Array.ext'; simp
    rw [e]
    exact hrun
  · rw [← hnl]; exact List.take_left
  · simp [size_zeroCells, hzs, hnl]; omega
theorem Inv.drew {c : Cx} {a : Act} {w : World} (hi : Inv F c s a w) : Inv F c s a w.drew :=
  ⟨hi.W.grow (w' := w.drew) fun i h => rfl, hi.nd, hi.sz, hi.tm, hi.kp.trans ⟨rfl, rfl, rfl, Nat.le_refl _, fun _ _ _ => rfl⟩, hi.rho, hi.new, hi.obp, hi.obB, hi.bbB⟩
variable {K : St → Prop} {N d : Nat} {t : Nat → PV} {bx : List (List PV)} {ob : List (Option Row)}
theorem zero_cells {e : TypeId} {i : TypeInfo} {zs : List PV} (hq : P.info? e = some i) (hz : zeroT P e = some zs) : ∃ v, i.zero = some v ∧ v.cells.size = zs.length := by
  cases hv : i.zero with
  | none => simp [zeroT, hq, hv] at hz
  | some v =>
    refine ⟨v, rfl, ?_⟩
    simp only [zeroT, hq, hv, Option.bind_some, Option.map_some, Option.some.injEq] at hz
    have := congrArg List.length hz
    simpa using this
theorem rep_one {c : Cx} {p : PV} {v : Value} (h : Rep c p v) (k : okOne p = true) : v.oneCell' = true := by
  cases h <;> first | rfl | (simp [okOne] at k; done) | skip
  all_goals (exact (okOne_ok k).2.2.2.2 _ rfl)
theorem repL_one {c : Cx} : ∀ {l : List PV} {us : List Value}, RepL c l us → l.all okOne = true → ∀ u ∈ us, u.oneCell' = true
  | _, _, .nil, _, u, h => by simp at h
  | _, _, .cons hr ht, k, u, h => by
    simp only [List.all_cons, Bool.and_eq_true] at k
    rcases List.mem_cons.1 h with rfl | h
    · exact rep_one hr k.1
    · exact repL_one ht k.2 u h
theorem Does.appN {ty e : TypeId} {x y : Operand} {z m nb : Nat} {l zs : List PV} (ho : o.op = .call { callee := .builtin .append, args := #[x, y], argTypes := #[ty, ty] }) (hx : pev ⟨N, t, bx, ob⟩ x = .nil) (hy : pev ⟨N, t, bx, ob⟩ y = .sl z l)
    (ht : elT P ty = some (e, z)) (hz : zeroT P e = some zs) (hzl : zs.length = z) (hb : byT P e = some nb) (hm : m * z = l.length) (h0 : 0 < m) (hfit : m * nb ≤ 140737488355328 ∧ m ≤ 9223372036854775807)
    (hd : o.dst = some d) (hdn : Nat.blt d N = true) (h : K ⟨N, upd t d (.arr ob.length 0 m), bx, ob ++ [some ⟨z, e, .g l⟩]⟩) : Does P F o false ⟨N, t, bx, ob⟩ K := by
  intro R c A w hi
  obtain ⟨hu, hs⟩ := elT_ok ht
  cases hq : P.info? e with
  | none => simp [szT, hq] at hs
  | some i =>
  have hs1 : i.size = z := by simpa [szT, hq] using hs
  have hb1 : i.bytes = nb := by simpa [byT, hq] using hb
  obtain ⟨v, hv, hvc⟩ := zero_cells hq hz
  have hrx := pev_rep hi x
  rw [hx] at hrx
  have hry := pev_rep hi y
  rw [hy] at hry
  generalize hX : A.eval x = vx at hrx
  generalize hY : A.eval y = vy at hry
  cases hrx
  cases hry with
  | @sl _ _ m2 c2 B _ us j0 j1 j2 j3 j4 =>
  have hlen := j3.len
  have hm2 : m2 = m := Nat.eq_of_mul_eq_mul_right j0 (j1.trans hm.symm)
  subst hm2
  have hpos : 0 < us.length := by rw [← hlen, ← hm]; exact Nat.mul_pos h0 j0
  obtain ⟨a2, rfl, _⟩ := j4 0 _ (List.getElem?_eq_getElem hpos)
  obtain ⟨cap', us', hrun, htk, hcap, hfl⟩ := run_appendN (P := P) (ty := o.type) (w := w) (c2 := c2) (a2 := a2) (m := m2) (news := us) hu hq hv hs1 (by omega) (by omega) h0 (fun j u hj => by
    obtain ⟨ad3, e3, hρ⟩ := j4 j u hj
    cases e3
    exact hi.W.mem _ _ hρ) (by omega) (by rw [hb1]; exact hfit.1)
  have hcz : m2 * z ≤ cap' * z := Nat.mul_le_mul_right _ hcap
  have hn' := hi.drew.newrow (r := ⟨z, e, .g l⟩) (us := us') (by show l.length ≤ _; omega) (by
    show RepL c.strip l (us'.take l.length)
    rw [← hm, htk]; exact j3)
  unfold Oper.wp
  have hrun' : (execOp A.eval o).run P w = .ok (.value (.slice (some ⟨w.heap.size, 0, none⟩) m2 cap')) (w.drew.alloc (.cells us'.toArray e)) := by
    simp [execOp, ho, resolve, invoke, builtin, hX, hY, hrun]
  rw [hrun']
  refine ⟨_, _, hn'.put (d := o.dst) (p := .arr ob.length 0 m2) (by simpa [St.fits, hd] using hdn) ?_, by simpa [St.put, hd] using h, fun h => by cases h⟩
  have hol : c.ob.length = ob.length := hi.W.ol
  exact .arr (x := ⟨w.heap.size, us'.length, z, e⟩) (by have := idx_new c.ob (⟨w.heap.size, us'.length, z, e⟩ : Ob); rw [hol] at this; simpa using this) j0 hcap (fun _ => by simp) (fun _ => by simpa using hfl)
theorem Does.appG {ty e : TypeId} {x y : Operand} {q n z m nb : Nat} {C l zs : List PV} (ho : o.op = .call { callee := .builtin .append, args := #[x, y], argTypes := #[ty, ty] }) (hx : pev ⟨N, t, bx, ob⟩ x = .arr q 0 n) (hr : ob[q]? = some (some ⟨z, e, .g C⟩)) (hy : pev ⟨N, t, bx, ob⟩ y = .sl z l)
    (ht : elT P ty = some (e, z)) (hz : zeroT P e = some zs) (hzl : zs.length = z) (hb : byT P e = some nb) (hn : n * z = C.length) (hm : m * z = l.length) (h0 : 0 < m) (hone : l.all okOne = true) (hfit : (n + m) * nb ≤ 140737488355328 ∧ n + m ≤ 9223372036854775807) (hown : F.c0.ob.length ≤ q)
    (hd : o.dst = some d) (hdn : Nat.blt d N = true) (h : K ⟨N, upd (fun x => forg q (t x)) d (.arr q 0 (n + m)), bx.map (forgL q), ob.set q (some ⟨z, e, .g (C ++ l)⟩)⟩) : Does P F o false ⟨N, t, bx, ob⟩ K := by
  intro R c A w hi
  obtain ⟨hu, hs⟩ := elT_ok ht
  cases hq : P.info? e with
  | none => simp [szT, hq] at hs
  | some i =>
  have hs1 : i.size = z := by simpa [szT, hq] using hs
  have hb1 : i.bytes = nb := by simpa [byT, hq] using hb
  obtain ⟨v, hv, hvc⟩ := zero_cells hq hz
  have hrx := pev_rep hi x
  rw [hx] at hrx
  have hry := pev_rep hi y
  rw [hy] at hry
  generalize hX : A.eval x = vx at hrx
  generalize hY : A.eval y = vy at hry
  cases hrx with
  | @arr _ _ _ _ cap X ad k1 k2 k3 k4 k5 =>
  obtain ⟨X', us, b1, b2, b3, b4, b5, b6, b7⟩ := hi.W.obj q _ hr
  rw [k1] at b1; cases b1
  have hXs : X.sz = z := b2
  have hXT : X.T = e := b3
  have b7' : RepL c.strip C (us.take C.length) := b7
  have b6' : C.length ≤ X.size := b6
  cases hry with
  | @sl _ _ m2 c2 B _ vs j0 j1 j2 j3 j4 =>
  have hlen := j3.len
  have hm2 : m2 = m := Nat.eq_of_mul_eq_mul_right j0 (j1.trans hm.symm)
  subst hm2
  have hpos : 0 < vs.length := by rw [← hlen, ← hm]; exact Nat.mul_pos h0 j0
  obtain ⟨a2, rfl, _⟩ := j4 0 _ (List.getElem?_eq_getElem hpos)
  rw [hXs, Nat.zero_mul] at k4
  rw [hXs, Nat.zero_add] at k5
  obtain ⟨w', g', cap', us', ad', hrun, hg', hw', htk, hcap, had', hl2, hgb⟩ := run_appendZ (P := P) (ty := o.type) (w := w) (c2 := c2) (a2 := a2) (ad := ad) (n := n) (cap := cap) (m := m2) (news := vs) (us := us) (olds := us.take (n * z)) hu hq hv hs1 (by omega) hXT b5 rfl (by simp; omega) k3
    (fun hc => ⟨k4 hc, by have := k5 hc; omega⟩) (by omega) h0 (fun j u hj => by
    obtain ⟨ad3, e3, hρ⟩ := j4 j u hj
    cases e3
    exact hi.W.mem _ _ hρ) (repL_one j3 hone) (by omega) (by rw [hb1]; exact hfit.1)
  have e1 : (C ++ l).length = (n + m2) * z := by rw [List.length_append, ← hn, ← hm, Nat.add_mul]
  have hI := hi.regrow (r' := ⟨z, e, .g (C ++ l)⟩) (us' := us') (g' := g') hr k1 hown hgb hg' hXs.symm hXT.symm hw' (by show (C ++ l).length ≤ _; rw [e1]; exact hl2) (by
    show RepL c.strip (C ++ l) (us'.take (C ++ l).length)
    rw [e1, htk, hn]
    exact b7'.append j3)
  unfold Oper.wp
  have hrun' : (execOp A.eval o).run P w = .ok (.value (.slice (some ad') (n + m2) cap')) w' := by
    simp [execOp, ho, resolve, invoke, builtin, hX, hY, hrun]
  rw [hrun']
  refine ⟨_, _, hI.put (d := o.dst) (p := .arr q 0 (n + m2)) (by simpa [St.fits, hd, reob] using hdn) ?_, by simpa [St.put, hd, reob] using h, fun h => by cases h⟩
  have hqc : q < c.ob.length := (List.getElem?_eq_some_iff.1 k1).1
  exact .arr (x := ⟨g', us'.length, X.sz, X.T⟩) (by simp [hqc]) (by rw [hXs]; exact j0) hcap (fun hc => by simpa using (had' hc).1) (fun hc => by simpa [hXs] using (had' hc).2)
end
theorem ilg {i : Int} {n : Nat} {K : Nat → Prop} (h : IdxL i n K) : IdxL i n K := h
mutual
def frz (q z : Nat) (C : List PV) : PV → PV
  | .arr o b n => match Nat.beq o q with
    | true => match Nat.ble ((b + n) * z) C.length with
      | true => .sl z ((C.drop (b * z)).take (n * z))
      | false => .any
    | false => .arr o b n
  | .ead o i => match Nat.beq o q with
    | true => .any
    | false => .ead o i
  | .agg l => .agg (frzL q z C l)
  | .tup l => .tup (frzL q z C l)
  | .val v => .val v
  | .nil => .nil
  | .ws k a => .ws k a
  | .sl y l => .sl y l
  | .fs y n f => .fs y n f
  | .cw k a i => .cw k a i
  | .cf f i m => .cf f i m
  | .emp => .emp
  | .ptr b o => .ptr b o
  | .cel l => .cel l
  | .any => .any
def frzL (q z : Nat) (C : List PV) : List PV → List PV
  | [] => []
  | p :: l => frz q z C p :: frzL q z C l
end
section
variable {P : Program} {F : Fr}
mutual
theorem Rep.frz {c c' : Cx} {q z : Nat} {C : List PV} (hk : c.le c') (hq : ∀ b n v, Rep c (.arr q b n) v → (b + n) * z ≤ C.length → Rep c' (.sl z ((C.drop (b * z)).take (n * z))) v) : ∀ {p : PV} {v : Value}, Rep c p v → Rep c' (frz q z C p) v
  | .arr o b n, v, h => by
    simp only [Sim.frz]
    split
    · rename_i ho
      obtain rfl := Nat.eq_of_beq_eq_true ho
      split
      · rename_i hb; exact hq b n v h (Nat.le_of_ble_eq_true hb)
      · exact .any _
    · exact h.up hk
  | .ead o i, v, h => by
    simp only [Sim.frz]
    split
    · exact .any _
    · exact h.up hk
  | .agg l, v, h => by cases h with | agg h => exact .agg (RepL.frz hk hq h)
  | .tup l, v, h => by cases h with | tup h => exact .tup (RepL.frz hk hq h)
  | .val _, v, h => h.up hk
  | .nil, v, h => h.up hk
  | .ws _ _, v, h => h.up hk
  | .sl _ _, v, h => h.up hk
  | .fs _ _ _, v, h => h.up hk
  | .cw _ _ _, v, h => h.up hk
  | .cf _ _ _, v, h => h.up hk
  | .emp, v, h => h.up hk
  | .ptr _ _, v, h => h.up hk
  | .cel _, v, h => h.up hk
  | .any, v, h => h.up hk
theorem RepL.frz {c c' : Cx} {q z : Nat} {C : List PV} (hk : c.le c') (hq : ∀ b n v, Rep c (.arr q b n) v → (b + n) * z ≤ C.length → Rep c' (.sl z ((C.drop (b * z)).take (n * z))) v) : ∀ {l : List PV} {us : List Value}, RepL c l us → RepL c' (frzL q z C l) us
  | [], _, h => by cases h; exact .nil
  | p :: l, _, h => by cases h with | cons h t => exact .cons (Rep.frz hk hq h) (RepL.frz hk hq t)
end
theorem Inv.frz {N : Nat} {t : Nat → PV} {bx : List (List PV)} {ob : List (Option Row)} {c : Cx} {a : Act} {w : World} (hi : Inv F c ⟨N, t, bx, ob⟩ a w) {q z : Nat} {T : TypeId} {C : List PV} (hr : ob[q]? = some (some ⟨z, T, .g C⟩)) (h0 : 0 < z) (hown : F.c0.ob.length ≤ q) :
    ∃ c' : Cx, c.le c' ∧ Inv F c' ⟨N, fun x => frz q z C (t x), bx.map (frzL q z C), ob.set q none⟩ a w ∧ ∀ p v, Rep c p v → Rep c' (Sim.frz q z C p) v := by
  obtain ⟨x, us, a1, a2, a3, a4, a5, a6, a7⟩ := hi.W.obj q _ hr
  have a7' : RepL c.strip C (us.take C.length) := a7
  have a6' : C.length ≤ x.size := a6
  obtain ⟨ρ', hρ⟩ : ∃ ρ' : Addr → Option Value, ∀ ad, ρ' ad = if ad.block = x.g ∧ ad.spot = none ∧ ad.off < (Row.cs ⟨z, T, .g C⟩).length then us[ad.off]? else c.ρ ad := ⟨_, fun _ => rfl⟩
  obtain ⟨kle, hW⟩ := hi.W.freeze hr a1 a5 a7 ρ' hρ
  have hsz : x.sz = z := a2
  have hq : ∀ b n v, Rep c (.arr q b n) v → (b + n) * z ≤ C.length → Rep { c with ρ := ρ' } (.sl z ((C.drop (b * z)).take (n * z))) v := by
    intro b n v hv hle
    have e0 : (b + n) * z = b * z + n * z := Nat.add_mul _ _ _
    cases hv with
    | @arr _ _ _ _ cap X ad k1 k2 k3 k4 k5 =>
      rw [a1] at k1; cases k1
      refine .sl (us := ((us.take C.length).drop (b * z)).take (n * z)) h0 (by simp; omega) k3 ?_ fun j u hu => ?_
      · exact ((a7'.up kle.strip).drop (b * z)).take (n * z)
      · rw [List.getElem?_take] at hu
        split at hu
        · rename_i hj
          rw [List.getElem?_drop, List.getElem?_take] at hu
          split at hu
          · rename_i hj2
            have hn0 : 0 < n := by
              rcases Nat.eq_zero_or_pos n with h | h
              · rw [h, Nat.zero_mul] at hj; omega
              · exact h
            refine ⟨ad, rfl, ?_⟩
            have had : ad.add j = ⟨x.g, b * z + j, none⟩ := by rw [k4 (by omega), hsz, addr_add]
            show ρ' (ad.add j) = some u
            rw [had, hρ, if_pos ⟨rfl, rfl, hj2⟩]
            exact hu
          · cases hu
        · cases hu
  refine ⟨{ c with ρ := ρ' }, kle, ⟨⟨hW.mem, by simp [hW.bl], hW.ol, fun i l hl => ?_, hW.obj, hW.nb, hW.no, hW.nbo, hW.sb, hW.so⟩, hi.nd, hi.sz, fun y => Rep.frz kle hq (hi.tm y), hi.kp, fun ad u hu => kle.ρ _ _ (hi.rho ad u hu), fun ad u hu => ?_, hi.obp, hi.obB, hi.bbB⟩, fun p v h => Rep.frz kle hq h⟩
  · simp only [List.getElem?_map, Option.map_eq_some_iff] at hl
    obtain ⟨l0, hl0, rfl⟩ := hl
    obtain ⟨g, us', T', h1, h2, h3⟩ := hi.W.box i l0 hl0
    exact ⟨g, us', T', h1, h2, RepL.frz kle hq h3⟩
  · have hu' : ρ' ad = some u := hu
    rw [hρ] at hu'
    split at hu'
    · rename_i hh
      exact .inr (by rw [hh.1]; exact hi.obB q x hown a1)
    · exact hi.new ad u hu'
theorem RepL.frzAll {c c' : Cx} {q z : Nat} {C : List PV} (h : ∀ p v, Rep c p v → Rep c' (Sim.frz q z C p) v) : ∀ {l : List PV} {us : List Value}, RepL c l us → RepL c' (frzL q z C l) us
  | _, _, .nil => .nil
  | _, _, .cons hr ht => .cons (h _ _ hr) (RepL.frzAll h ht)
theorem call_frz {N : Nat} {t : Nat → PV} {bx : List (List PV)} {ob : List (Option Row)} {f : FuncId} {e : Bool} {args : List PV} {K : St → PV → Prop} (q : Nat) {z : Nat} {T : TypeId} {C : List PV} (hr : ob[q]? = some (some ⟨z, T, .g C⟩)) (h0 : 0 < z) (hown : F.c0.ob.length ≤ q)
    (h : CallF P F e f (frzL q z C args) ⟨N, fun x => frz q z C (t x), bx.map (frzL q z C), ob.set q none⟩ K) : CallF P F e f args ⟨N, t, bx, ob⟩ K := by
  refine ⟨h.c, fun c a w vs hi hv => ?_⟩
  obtain ⟨c', kle, hi', hrep⟩ := hi.frz hr h0 hown
  refine h.h c' a w vs hi' ?_
  exact RepL.frzAll hrep hv
end
def KM {α : Type} (P : Program) (m : Go.Sem α) : Prop := ∀ w v w1, m.run P w = .ok v w1 → ∀ w', m.run P w' = .ok v w'
section
variable {P : Program}
theorem KM_pure {α : Type} (a : α) : KM P (Pure.pure a : Go.Sem α) := fun w v w1 h w' => by
  simp only [Go.Sem.run_pure, Result.ok.injEq] at h ⊢
  exact ⟨h.1, trivial⟩
theorem KM_stuck {α : Type} (s : String) : KM P (stuck s : Go.Sem α) := fun w v w1 h => by simp at h
theorem KM_halt {α : Type} (s : Halt) : KM P (.halt s : Go.Sem α) := fun w v w1 h => by simp at h
theorem KM_bind {α β : Type} {m : Go.Sem α} {f : α → Go.Sem β} (h1 : KM P m) (h2 : ∀ v, KM P (f v)) : KM P (m >>= f) := fun w v w1 h w' => by
  rw [Go.Sem.run_bind] at h ⊢
  cases hm : m.run P w with
  | ok u w2 =>
    rw [hm, Result.andThen_ok] at h
    rw [h1 w u w2 hm w', Result.andThen_ok]
    exact h2 u _ _ _ h w'
  | halt e w2 => rw [hm, Result.andThen_halt] at h; cases h
theorem KM_underlying (t : TypeId) : KM P (underlying t) := by
  unfold underlying
  refine KM_bind (fun w v w1 h w' => ?_) fun p => ?_
  · rw [run_program] at h ⊢
    cases h; rfl
  · split
    · exact KM_pure _
    · exact KM_stuck _
theorem KM_sizeOf (t : TypeId) : KM P (sizeOf t) := by
  unfold sizeOf typeInfo
  refine KM_bind (KM_bind (fun w v w1 h w' => ?_) fun p => ?_) fun i => KM_pure _
  · rw [run_program] at h ⊢
    cases h; rfl
  · split
    · exact KM_pure _
    · exact KM_stuck _
theorem KM_asInt (v : Value) : KM P (asIntOf v) := by
  unfold asIntOf
  split
  · exact KM_pure _
  · exact KM_halt _
  · exact KM_stuck _
theorem KM_sure (v : Value) : KM P (Instr.sureAddr v) := by
  unfold Instr.sureAddr
  split
  · exact KM_pure _
  · exact KM_stuck _
theorem no_bind {α β : Type} {m : Go.Sem α} {f : α → Go.Sem β} (h : ∀ u w v w1, (f u).run P w ≠ .ok v w1) (w : World) (v : β) (w1 : World) : (m >>= f).run P w ≠ .ok v w1 := fun hh => by
  rw [Go.Sem.run_bind] at hh
  cases hm : m.run P w with
  | ok u w2 => rw [hm, Result.andThen_ok] at hh; exact h _ _ _ _ hh
  | halt e w2 => rw [hm, Result.andThen_halt] at hh; cases hh
theorem not_bounds {α : Type} (k : IntKind) (x y : Int) (c : BoundsCode) : KM P (boundsPanic k x y c : Go.Sem α) := fun w v w1 h => by
  exfalso
  unfold boundsPanic at h
  dsimp only at h
  have hr : ∀ (a b : Int) (s : Bool) (e : BoundsCode) (w : World) (v : α) (w1 : World), (runtimePanic (.bounds a b s e) : Go.Sem α).run P w ≠ .ok v w1 := fun a b s e w v w1 hh => by
    simp [runtimePanic, goPanic] at hh
  split at h
  · exact no_bind (fun u => hr _ _ _ _) _ _ _ h
  · exact no_bind (fun u => hr _ _ _ _) _ _ _ h
theorem KM_indexAt (t : TypeId) (x i : Value) : KM P (Instr.indexAt t x i) := by
  unfold Instr.indexAt
  refine KM_bind (KM_asInt _) fun r => ?_
  obtain ⟨k, n⟩ := r
  dsimp only
  refine KM_bind (KM_underlying _) fun d => ?_
  repeat' first
    | exact KM_pure _
    | exact KM_stuck _
    | exact KM_halt _
    | exact KM_underlying _
    | exact KM_sizeOf _
    | exact KM_sure _
    | exact not_bounds _ _ _ _
    | (refine KM_bind ?_ fun _ => ?_)
    | split
    | dsimp only
def addrO (P : Program) (o : Oper) : Bool := match o.op with
  | .fieldAddr t _ i => (fldT P t i).isSome
  | .indexAddr _ _ _ => true
  | _ => false
theorem addr_any {o : Oper} {ev : Operand → Value} (h : addrO P o = true) {w : World} {v : Value} (hr : (execOp ev o).run P w = .ok (.value v) w) : ∀ w', (execOp ev o).run P w' = .ok (.value v) w' := by
  unfold addrO at h
  split at h
  · rename_i t x i ho
    obtain ⟨n, hn⟩ := Option.isSome_iff_exists.1 h
    have key : ∃ ad, ev x = .pointer (some ad) := by
      have hf := hn
      unfold fldT at hf
      split at hf
      · rename_i fs hu
        split at hf
        · rename_i f hfi
          simp only [execOp, ho, Instr.fieldAt, Go.Sem.run_bind, run_underlying hu, Result.andThen_ok, hfi] at hr
          generalize ev x = y at hr
          unfold Instr.sureAddr at hr
          split at hr
          · exact ⟨_, rfl⟩
          · simp at hr
        · cases hf
      · cases hf
    obtain ⟨ad, had⟩ := key
    have e : ∀ w, (execOp ev o).run P w = .ok (.value (.pointer (some (ad.add n)))) w := fun w => by simp [execOp, ho, had, run_fa hn]
    rw [e w] at hr
    intro w'
    rw [e w']
    cases hr; rfl
  · rename_i t x y ho
    have hk : KM P (execOp ev o) := by
      simp only [execOp, ho]
      exact KM_bind (KM_indexAt _ _ _) fun _ => KM_pure _
    exact fun w' => hk w _ _ hr w'
  · cases h
end
inductive Tm where
  | fin
  | take (i : Nat) (t : Tm)
  | alt (i : Nat) (t : Tm) (r : Tm)
  | non
def Tm.size : Tm → Nat
  | .fin => 0
  | .non => 0
  | .take _ t => t.size + 1
  | .alt _ t r => max (t.size + 1) r.size
def Tm.heads : Tm → List Nat
  | .alt i _ r => i :: r.heads
  | _ => []
section
variable {P : Program} {F : Fr} {TT : List TI} {X : List FuncId} {o : Oper} {s : St} {K : St → Prop}
def vM (P : Program) (F : Fr) (TT : List TI) (X : List FuncId) (all : List Oper) (t : Tm) (s : St) (K : St → Prop) : Prop := match t with
  | .fin => K s
  | .non => True
  | .take i t => vOp P F TT X .S (nthO all i) s fun s => vM P F TT X all t s K
  | .alt i t r => match r with
    | .non => vOp P F TT X (kind X (nthO all i)) (nthO all i) s fun s => vM P F TT X all t s K
    | r => BothG (vOp P F TT X (kind X (nthO all i)) (nthO all i) s fun s => vM P F TT X all t s K) (vM P F TT X all r s K)
def eqL : List Nat → List Nat → Bool
  | [], [] => true
  | x :: l, y :: m => Nat.beq x y && eqL l m
  | _, _ => false
theorem eqL_ok : ∀ {l m : List Nat}, eqL l m = true → l = m
  | [], [], _ => rfl
  | x :: l, y :: m, h => by
    simp only [eqL, Bool.and_eq_true] at h
    rw [Nat.eq_of_beq_eq_true h.1, eqL_ok h.2]
  | [], _ :: _, h => by cases h
  | _ :: _, [], h => by cases h
def chkM (P : Program) (ops : List Oper) (t : Tm) (l : Array Bool) (b : Bool) : Bool := match t with
  | .fin => !b && (Region.ready .any ops.toArray l).isEmpty
  | .non => b
  | .take i t => !b && okI ops i && chkP ops.toArray l i && (pureO (nthO ops i) || addrO P (nthO ops i)) && chkM P ops t (l.setIfInBounds i true) false
  | .alt i t r => (b || eqL (Region.ready .any ops.toArray l) (Tm.heads (.alt i t r))) && okI ops i && chkM P ops t (l.setIfInBounds i true) false && chkM P ops r l true
theorem vM_ok (hTT : TOk P TT) {all : List Oper} : ∀ (t : Tm) (l : Array Bool) (s : St) (b : Bool), chkM P all t l b = true → vM P F TT X all t s K →
    ∀ Q c a w, Inv F c s a w → (∀ c' s' a' w', Inv F c' s' a' w' → K s' → Q .normal a' w') → (∀ cc a w, ¬ Q (.panic cc) a w) →
      (b = false → ∀ f, t.size ≤ f → wpAny P .any all.toArray Q f l a w) ∧ (∀ g, t.size ≤ g + 1 → ∀ j ∈ t.heads, wpOp P all.toArray Q j (wpAny P .any all.toArray Q g (l.setIfInBounds j true)) a w)
  | .fin, l, s, b, hc, h => by
    intro Q c a w hi hq hp
    simp only [chkM, Bool.and_eq_true] at hc
    exact ⟨fun _ f _ => wpAny_done (by simpa [List.isEmpty_iff] using hc.2) (hq c s a w hi h) f, fun g _ j hj => by cases hj⟩
  | .non, l, s, b, hc, h => by
    intro Q c a w hi hq hp
    refine ⟨fun hb => ?_, fun g _ j hj => by cases hj⟩
    simp only [chkM] at hc
    rw [hb] at hc
    cases hc
  | .take i t, l, s, b, hc, h => by
    intro Q c a w hi hq hp
    refine ⟨fun hb f hf => ?_, fun g _ j hj => by cases hj⟩
    simp only [chkM, Bool.and_eq_true] at hc
    obtain ⟨⟨⟨⟨_, c1⟩, c2⟩, c3⟩, c4⟩ := hc
    obtain ⟨g1, g2⟩ := okI_ok c1
    simp only [chkP, Bool.and_eq_true] at c2
    obtain ⟨⟨d1, d2⟩, d3⟩ := c2
    obtain ⟨g, rfl⟩ : ∃ g, f = g + 1 := ⟨f - 1, by simp only [Tm.size] at hf; omega⟩
    obtain ⟨p, h1, h2, h3⟩ := vOp_sem hTT (m := .S) h fun s h => h
    obtain ⟨u, hr, hrun⟩ := h1 c a w hi
    have hall : ∀ w', (execOp a.eval (nthO all i)).run P w' = .ok (.value u) w' := by
      rw [Bool.or_eq_true] at c3
      rcases c3 with c3 | c3
      · exact fun w' => hrun w' (.inr c3)
      · exact addr_any c3 (hrun w (.inl (Ext.refl w)))
    exact wpAny_take g1 d1 d2 d3 (fun c a w h => absurd h (hp _ _ _)) (.inl ⟨pwant_ok hi (g2 s), hall⟩) ((vM_ok hTT t _ _ false c4 h3 Q c _ w (hi.put h2 hr) hq hp).1 rfl g (by simp only [Tm.size] at hf; omega))
  | .alt i t r, l, s, b, hc, h => by
    intro Q c a w hi hq hp
    simp only [chkM, Bool.and_eq_true] at hc
    obtain ⟨⟨⟨c0, c1⟩, c2⟩, c3⟩ := hc
    have both : (vOp P F TT X (kind X (nthO all i)) (nthO all i) s fun s => vM P F TT X all t s K) ∧ vM P F TT X all r s K := by
      cases r with
      | non => exact ⟨h, trivial⟩
      | fin => exact ⟨BothG.a h, BothG.b h⟩
      | take _ _ => exact ⟨BothG.a h, BothG.b h⟩
      | alt _ _ _ => exact ⟨BothG.a h, BothG.b h⟩
    have alts : ∀ g, (Tm.alt i t r).size ≤ g + 1 → ∀ j ∈ (Tm.alt i t r).heads, wpOp P all.toArray Q j (wpAny P .any all.toArray Q g (l.setIfInBounds j true)) a w := by
      intro g hg j hj
      simp only [Tm.heads, List.mem_cons] at hj
      simp only [Tm.size] at hg
      rcases hj with rfl | hj
      · exact vQ_op hTT c1 both.1 hi fun c' s' a' w' hi' hC => (vM_ok hTT t _ s' false c2 hC Q c' a' w' hi' hq hp).1 rfl g (by omega)
      · exact (vM_ok hTT r l s true c3 both.2 Q c a w hi hq hp).2 g (by omega) j hj
    refine ⟨fun hb f hf => ?_, alts⟩
    subst hb
    rw [Bool.false_or] at c0
    obtain ⟨g, rfl⟩ : ∃ g, f = g + 1 := ⟨f - 1, by simp only [Tm.size] at hf; omega⟩
    exact wpAny_all (eqL_ok c0) (by simp [Tm.heads]) fun j hj => alts g hf j hj
theorem draw_m {id : Nat} {ops : List Oper} (t : Tm) (hTT : TOk P TT) (hm : P.follows .mixedOrders = true) (hl : Nat.ble t.size ops.length = true) (hc : chkM P ops t (Array.replicate ops.length false) false = true) (h : vM P F TT X ops t s K) : DrawG P F TT X id ops s K := by
  refine ⟨?_⟩
  intro cx a w hi
  have hi' : Inv F cx s a { w with drawn := w.drawn + 1 } := ⟨hi.W.grow fun _ _ => rfl, hi.nd, hi.sz, hi.tm, hi.kp.drew, hi.rho, hi.new, hi.obp, hi.obB, hi.bbB⟩
  have h1 := (vM_ok hTT t (Array.replicate ops.length false) s false hc h (fun e a w => e = .normal ∧ ∃ cx' s', Inv F cx' s' a w ∧ K s') cx a _ hi' (fun c' s' a' w' hi' hk => ⟨rfl, c', s', hi', hk⟩) (fun cc a w hq => by cases hq.1)).1 rfl ops.toArray.size (by simpa using Nat.le_of_ble_eq_true hl)
  refine wp_mono (wp_region_any hm (by simpa using h1)) ?_
  rintro e a' w' ⟨rfl, cx', s', hi'', hq⟩
  exact ⟨cx', s', hi'', hq⟩
structure JoinG {A : Type} (N : Nat) (S : A → List (Nat × PV)) (B : A → List (List PV)) (O : A → List (Option Row)) (s : St) : Prop where
  h : ∃ y, Weak s N (S y) (B y) (O y)
theorem join {A : Type} {N : Nat} {S : A → List (Nat × PV)} {B : A → List (List PV)} {O : A → List (Option Row)} {t : Nat → PV} {bx : List (List PV)} {ob : List (Option Row)} (y : A) (h3 : hold (S y) t) (hb : ∃ e, bx = B y ++ e) (ho : ∃ e, ob = O y ++ e) : JoinG N S B O ⟨N, t, bx, ob⟩ :=
  ⟨y, ⟨rfl, h3, hb, ho⟩⟩
theorem DrawG.mono {id : Nat} {ops : List Oper} {K' : St → Prop} (h : DrawG P F TT X id ops s K') (k : ∀ c a w s', Inv F c s' a w → K' s' → ∃ c' s'', Inv F c' s'' a w ∧ K s'') : DrawG P F TT X id ops s K := by
  obtain ⟨h⟩ := h
  refine ⟨?_⟩
  intro cx a w hi
  refine wp_mono (h cx a w hi) ?_
  rintro e a' w' hq
  cases e with
  | normal =>
    obtain ⟨cx', s', h1, h2⟩ := hq
    exact k _ _ _ _ h1 h2
  | _ => exact hq
theorem draw_j {A : Type} {id N : Nat} {ops : List Oper} (S : A → List (Nat × PV)) (B : A → List (List PV)) (O : A → List (Option Row)) (t : Tm) (hTT : TOk P TT) (hm : P.follows .mixedOrders = true) (hl : Nat.ble t.size ops.length = true) (hc : chkM P ops t (Array.replicate ops.length false) false = true)
    (hin : ∀ x, inS (B x).length (O x).length (S x) ∧ inBB (B x).length (O x).length (B x) ∧ F.c0.ob.length ≤ (O x).length) (h : vM P F TT X ops t s (JoinG N S B O)) (k : ∀ x, K ⟨N, tab (S x), B x, O x⟩) : DrawG P F TT X id ops s K :=
  DrawG.mono (draw_m t hTT hm hl hc h) fun c a w s' hi hj => by
    obtain ⟨x, hw⟩ := hj.h
    exact ⟨_, _, hi.weak hw (hin x).1 (hin x).2.1 (hin x).2.2, k x⟩
theorem dg {id : Nat} {ops : List Oper} (h : DrawG P F TT X id ops s K) : DrawG P F TT X id ops s K := h
end
inductive Td where
  | fin
  | non
  | cut (y : Nat)
  | take (i : Nat) (t : Td)
  | alt (i : Nat) (t : Td) (r : Td)
def Td.heads : Td → List Nat
  | .alt i _ r => i :: r.heads
  | _ => []
structure Nd where
  m : Nat
  S : List (Nat × PV)
  B : List (List PV)
  t : Td
def pk : List (Nat × PV) → Nat → List (Nat × PV)
  | [], _ => []
  | e :: l, m => cond (Nat.beq (m % 2) 1) (e :: pk l (m / 2)) (pk l (m / 2))
def bitsL : Nat → Nat → List Bool
  | 0, _ => []
  | n + 1, m => Nat.beq (m % 2) 1 :: bitsL n (m / 2)
def remL : List Bool → Nat
  | [] => 0
  | x :: l => cond x (remL l) (remL l + 1)
def eqBs : List Bool → List Bool → Bool
  | [], [] => true
  | x :: l, y :: m => (cond x y (!y)) && eqBs l m
  | _, _ => false
theorem eqBs_ok : ∀ {l m : List Bool}, eqBs l m = true → l = m
  | [], [], _ => rfl
  | x :: l, y :: m, h => by
    simp only [eqBs, Bool.and_eq_true] at h
    have : x = y := by cases x <;> cases y <;> first | rfl | (exact absurd h.1 (by decide))
    rw [this, eqBs_ok h.2]
  | [], _ :: _, h => by cases h
  | _ :: _, [], h => by cases h
def ndAt : List Nd → Nat → Option Nd
  | [], _ => none
  | d :: l, y => match y with
    | 0 => some d
    | y + 1 => ndAt l y
theorem ndAt_mem : ∀ {l : List Nd} {y : Nat} {d : Nd}, ndAt l y = some d → d ∈ l
  | [], _, _, h => by cases h
  | e :: l, 0, d, h => by cases h; exact List.mem_cons_self
  | e :: l, y + 1, d, h => List.mem_cons_of_mem _ (ndAt_mem (l := l) (y := y) h)
theorem of_blt {a b : Nat} (h : Nat.blt a b = true) : a < b := Nat.le_of_ble_eq_true h
structure CutG (N : Nat) (S : List (Nat × PV)) (B : List (List PV)) (O : List (Option Row)) (s : St) : Prop where
  h : Weak s N S B O
theorem hold_of {S : List (Nat × PV)} {t : Nat → PV} (h : S.map (fun e => t e.1) = S.map Prod.snd) : hold S t := by
  induction S with
  | nil => exact trivial
  | cons e S ih =>
    simp only [List.map_cons, List.cons.injEq] at h
    exact ⟨h.1, ih h.2⟩
theorem cutj {N : Nat} {S : List (Nat × PV)} {B : List (List PV)} {O : List (Option Row)} {t : Nat → PV} {bx : List (List PV)} {ob : List (Option Row)} (h : S.map (fun e => t e.1) = S.map Prod.snd) (hb : ∃ e, bx = B ++ e) (ho : ∃ e, ob = O ++ e) : CutG N S B O ⟨N, t, bx, ob⟩ :=
  ⟨⟨rfl, hold_of h, hb, ho⟩⟩
mutual
def inBb (b o : Nat) : PV → Bool
  | .ptr i _ => Nat.blt i b
  | .arr q _ _ => Nat.blt q o
  | .ead q _ => Nat.blt q o
  | .agg l => inBLb b o l
  | .tup l => inBLb b o l
  | _ => true
def inBLb (b o : Nat) : List PV → Bool
  | [] => true
  | p :: l => inBb b o p && inBLb b o l
end
mutual
theorem inBb_ok {b o : Nat} : ∀ {p : PV}, inBb b o p = true → inB b o p
  | .ptr i _, h => by unfold inBb at h; unfold inB; exact of_blt h
  | .arr q _ _, h => by unfold inBb at h; unfold inB; exact of_blt h
  | .ead q _, h => by unfold inBb at h; unfold inB; exact of_blt h
  | .agg l, h => by unfold inBb at h; unfold inB; exact inBLb_ok h
  | .tup l, h => by unfold inBb at h; unfold inB; exact inBLb_ok h
  | .val _, _ => by unfold inB; trivial
  | .ws _ _, _ => by unfold inB; trivial
  | .nil, _ => by unfold inB; trivial
  | .any, _ => by unfold inB; trivial
  | .emp .., _ => by unfold inB; trivial
  | .sl .., _ => by unfold inB; trivial
  | .fs .., _ => by unfold inB; trivial
  | .cel .., _ => by unfold inB; trivial
  | .cw .., _ => by unfold inB; trivial
  | .cf .., _ => by unfold inB; trivial
theorem inBLb_ok {b o : Nat} : ∀ {l : List PV}, inBLb b o l = true → inBL b o l
  | [], _ => by unfold inBL; trivial
  | p :: l, h => by
    unfold inBLb at h
    unfold inBL
    rw [Bool.and_eq_true] at h
    exact ⟨inBb_ok h.1, inBLb_ok h.2⟩
end
def inSb (b o : Nat) : List (Nat × PV) → Bool
  | [] => true
  | (_, p) :: S => inBb b o p && inSb b o S
theorem inSb_ok {b o : Nat} : ∀ {S : List (Nat × PV)}, inSb b o S = true → inS b o S
  | [], _ => trivial
  | (_, p) :: S, h => by
    simp only [inSb, Bool.and_eq_true] at h
    exact ⟨inBb_ok h.1, inSb_ok h.2⟩
def inBBb (b o : Nat) : List (List PV) → Bool
  | [] => true
  | l :: B => inBLb b o l && inBBb b o B
theorem inBBb_ok {b o : Nat} : ∀ {B : List (List PV)}, inBBb b o B = true → inBB b o B
  | [], _ => trivial
  | l :: B, h => by
    simp only [inBBb, Bool.and_eq_true] at h
    exact ⟨inBLb_ok h.1, inBBb_ok h.2⟩
section
variable {P : Program} {F : Fr} {TT : List TI} {X : List FuncId} {o : Oper} {s : St} {K : St → Prop}
def vD (P : Program) (F : Fr) (TT : List TI) (X : List FuncId) (all : List Oper) (ns : List Nd) (N : Nat) (O : List (Option Row)) (t : Td) (s : St) (K : St → Prop) : Prop := match t with
  | .fin => K s
  | .non => True
  | .cut y => match ndAt ns y with
    | none => False
    | some d => CutG N d.S d.B O s
  | .take i t => vOp P F TT X .S (nthO all i) s fun s => vD P F TT X all ns N O t s K
  | .alt i t r => match r with
    | .non => vOp P F TT X (kind X (nthO all i)) (nthO all i) s fun s => vD P F TT X all ns N O t s K
    | r => BothG (vOp P F TT X (kind X (nthO all i)) (nthO all i) s fun s => vD P F TT X all ns N O t s K) (vD P F TT X all ns N O r s K)
def chkD (P : Program) (ops : List Oper) (ns : List Nd) (bnd : Nat) (t : Td) (l : Array Bool) (b : Bool) (m : Nat) : Bool := match t with
  | .fin => !b && (Region.ready .any ops.toArray l).isEmpty
  | .non => b
  | .cut y => match ndAt ns y with
    | none => false
    | some d => !b && Nat.ble (remL (bitsL ops.length d.m)) m && Nat.blt (remL (bitsL ops.length d.m)) bnd && eqBs (bitsL ops.length d.m) l.toList
  | .take i t => !b && Nat.blt 0 m && okI ops i && chkP ops.toArray l i && (pureO (nthO ops i) || addrO P (nthO ops i)) && chkD P ops ns bnd t (l.setIfInBounds i true) false (m - 1)
  | .alt i t r => (b || eqL (Region.ready .any ops.toArray l) (Td.heads (.alt i t r))) && Nat.blt 0 m && okI ops i && chkD P ops ns bnd t (l.setIfInBounds i true) false (m - 1) && chkD P ops ns bnd r l true m
theorem vD_ok (hTT : TOk P TT) {all : List Oper} {ns : List Nd} {N bnd : Nat} {O : List (Option Row)} {Q : Exit → Act → World → Prop} (hq : ∀ c' s' a' w', Inv F c' s' a' w' → K s' → Q .normal a' w') (hp : ∀ cc a w, ¬ Q (.panic cc) a w)
    (IH : ∀ y d, ndAt ns y = some d → remL (bitsL all.length d.m) < bnd → ∀ s c a w, Inv F c s a w → Weak s N d.S d.B O → ∀ f, remL (bitsL all.length d.m) ≤ f → wpAny P .any all.toArray Q f (bitsL all.length d.m).toArray a w) :
    ∀ (t : Td) (l : Array Bool) (s : St) (b : Bool) (m : Nat), chkD P all ns bnd t l b m = true → vD P F TT X all ns N O t s K → ∀ c a w, Inv F c s a w →
      (b = false → ∀ f, m ≤ f → wpAny P .any all.toArray Q f l a w) ∧ (∀ g, m ≤ g + 1 → ∀ j ∈ t.heads, wpOp P all.toArray Q j (wpAny P .any all.toArray Q g (l.setIfInBounds j true)) a w)
  | .fin, l, s, b, m, hc, h => by
    intro c a w hi
    simp only [chkD, Bool.and_eq_true] at hc
    exact ⟨fun _ f _ => wpAny_done (by simpa [List.isEmpty_iff] using hc.2) (hq c s a w hi h) f, fun g _ j hj => by cases hj⟩
  | .non, l, s, b, m, hc, h => by
    intro c a w hi
    refine ⟨fun hb => ?_, fun g _ j hj => by cases hj⟩
    simp only [chkD] at hc
    rw [hb] at hc
    cases hc
  | .cut y, l, s, b, m, hc, h => by
    intro c a w hi
    refine ⟨fun hb f hf => ?_, fun g _ j hj => by cases hj⟩
    unfold chkD at hc
    unfold vD at h
    cases hd : ndAt ns y with
    | none => rw [hd] at h; exact h.elim
    | some d =>
      rw [hd] at h hc
      simp only [Bool.and_eq_true] at hc
      obtain ⟨⟨⟨_, c1⟩, c2⟩, c3⟩ := hc
      have e : l = (bitsL all.length d.m).toArray := by
        rw [eqBs_ok c3]
      rw [e]
      exact IH y d hd (of_blt c2) s c a w hi h.h f (Nat.le_trans (Nat.le_of_ble_eq_true c1) hf)
  | .take i t, l, s, b, m, hc, h => by
    intro c a w hi
    refine ⟨fun hb f hf => ?_, fun g _ j hj => by cases hj⟩
    simp only [chkD, Bool.and_eq_true] at hc
    obtain ⟨⟨⟨⟨⟨_, c0⟩, c1⟩, c2⟩, c3⟩, c4⟩ := hc
    replace c0 : 0 < m := of_blt c0
    obtain ⟨g1, g2⟩ := okI_ok c1
    simp only [chkP, Bool.and_eq_true] at c2
    obtain ⟨⟨d1, d2⟩, d3⟩ := c2
    obtain ⟨g, rfl⟩ : ∃ g, f = g + 1 := ⟨f - 1, by omega⟩
    obtain ⟨p, h1, h2, h3⟩ := vOp_sem hTT (m := .S) h fun s h => h
    obtain ⟨u, hr, hrun⟩ := h1 c a w hi
    have hall : ∀ w', (execOp a.eval (nthO all i)).run P w' = .ok (.value u) w' := by
      rw [Bool.or_eq_true] at c3
      rcases c3 with c3 | c3
      · exact fun w' => hrun w' (.inr c3)
      · exact addr_any c3 (hrun w (.inl (Ext.refl w)))
    exact wpAny_take g1 d1 d2 d3 (fun c a w h => absurd h (hp _ _ _)) (.inl ⟨pwant_ok hi (g2 s), hall⟩) ((vD_ok hTT hq hp IH t _ _ false _ c4 h3 c _ w (hi.put h2 hr)).1 rfl g (by omega))
  | .alt i t r, l, s, b, m, hc, h => by
    intro c a w hi
    simp only [chkD, Bool.and_eq_true] at hc
    obtain ⟨⟨⟨⟨c0, c9⟩, c1⟩, c2⟩, c3⟩ := hc
    replace c9 : 0 < m := of_blt c9
    have both : (vOp P F TT X (kind X (nthO all i)) (nthO all i) s fun s => vD P F TT X all ns N O t s K) ∧ vD P F TT X all ns N O r s K := by
      cases r with
      | non => exact ⟨h, trivial⟩
      | fin => exact ⟨BothG.a h, BothG.b h⟩
      | cut _ => exact ⟨BothG.a h, BothG.b h⟩
      | take _ _ => exact ⟨BothG.a h, BothG.b h⟩
      | alt _ _ _ => exact ⟨BothG.a h, BothG.b h⟩
    have alts : ∀ g, m ≤ g + 1 → ∀ j ∈ (Td.alt i t r).heads, wpOp P all.toArray Q j (wpAny P .any all.toArray Q g (l.setIfInBounds j true)) a w := by
      intro g hg j hj
      simp only [Td.heads, List.mem_cons] at hj
      rcases hj with rfl | hj
      · exact vQ_op hTT c1 both.1 hi fun c' s' a' w' hi' hC => (vD_ok hTT hq hp IH t _ s' false _ c2 hC c' a' w' hi').1 rfl g (by omega)
      · exact (vD_ok hTT hq hp IH r l s true _ c3 both.2 c a w hi).2 g (by omega) j hj
    refine ⟨fun hb f hf => ?_, alts⟩
    subst hb
    rw [Bool.false_or] at c0
    obtain ⟨g, rfl⟩ : ∃ g, f = g + 1 := ⟨f - 1, by omega⟩
    exact wpAny_all (eqL_ok c0) (by simp [Td.heads]) fun j hj => alts g hf j hj
def vAll (P : Program) (F : Fr) (TT : List TI) (X : List FuncId) (all : List Oper) (ns : List Nd) (N : Nat) (O : List (Option Row)) (K : St → Prop) (l : List Nd) : Prop := match l with
  | [] => True
  | d :: l => match l with
    | [] => vD P F TT X all ns N O d.t ⟨N, tab d.S, d.B, O⟩ K
    | l => BothG (vD P F TT X all ns N O d.t ⟨N, tab d.S, d.B, O⟩ K) (vAll P F TT X all ns N O K l)
theorem vAll_ok {all : List Oper} {ns : List Nd} {N : Nat} {O : List (Option Row)} : ∀ {l : List Nd}, vAll P F TT X all ns N O K l → ∀ d ∈ l, vD P F TT X all ns N O d.t ⟨N, tab d.S, d.B, O⟩ K
  | [], _, d, hd => by cases hd
  | [e], h, d, hd => by
    rw [List.mem_singleton] at hd
    subst hd
    exact h
  | e :: e' :: l, h, d, hd => by
    rcases List.mem_cons.1 hd with rfl | hd
    · exact BothG.a h
    · exact vAll_ok (l := e' :: l) (BothG.b h) d hd
theorem nodes_ok (hTT : TOk P TT) {all : List Oper} {ns : List Nd} {N : Nat} {O : List (Option Row)} {Q : Exit → Act → World → Prop} (hq : ∀ c' s' a' w', Inv F c' s' a' w' → K s' → Q .normal a' w') (hp : ∀ cc a w, ¬ Q (.panic cc) a w)
    (hc : (ns.all fun d => chkD P all ns (remL (bitsL all.length d.m)) d.t (bitsL all.length d.m).toArray false (remL (bitsL all.length d.m))) = true)
    (hin : (ns.all fun d => inSb d.B.length O.length d.S && inBBb d.B.length O.length d.B) = true) (ho : F.c0.ob.length ≤ O.length)
    (hv : vAll P F TT X all ns N O K ns) : ∀ (n : Nat) (y : Nat) (d : Nd), ndAt ns y = some d → remL (bitsL all.length d.m) = n → ∀ s c a w, Inv F c s a w → Weak s N d.S d.B O → ∀ f, remL (bitsL all.length d.m) ≤ f → wpAny P .any all.toArray Q f (bitsL all.length d.m).toArray a w := by
  intro n
  induction n using Nat.strongRecOn with
  | _ n IH =>
    intro y d hd hn s c a w hi hw f hf
    have hm := ndAt_mem hd
    have h1 := List.all_eq_true.1 hc d hm
    have h2 := List.all_eq_true.1 hin d hm
    rw [Bool.and_eq_true] at h2
    refine (vD_ok (bnd := remL (bitsL all.length d.m)) hTT hq hp (fun y' d' hd' hlt s c a w hi hw f hf => IH _ (by omega) y' d' hd' rfl s c a w hi hw f hf) d.t _ _ false _ h1 (vAll_ok hv d hm) _ a w (hi.weak hw (inSb_ok h2.1) (inBBb_ok h2.2) ho)).1 rfl f hf
theorem ct {N : Nat} {S : List (Nat × PV)} {B : List (List PV)} {O : List (Option Row)} {s : St} (h : CutG N S B O s) : CutG N S B O s := h
end
abbrev Sel := List (Nat × List Nat)
def nuI : Sel → Nat → Nat
  | [], _ => 0
  | e :: l, i => match i with
    | 0 => e.1
    | i + 1 => nuI l i
def nu (σ : Sel) (p : PV) : PV := match p with
  | .ptr i k => .ptr (nuI σ i) k
  | p => p
def blankF : Nat → List Nat → List PV → List PV
  | _, _, [] => []
  | i, ks, p :: l => cond (ks.any (Nat.beq i)) .any p :: blankF (i + 1) ks l
theorem RepL.blank {c : Cx} : ∀ {l : List PV} {us : List Value} (i : Nat) (ks : List Nat), RepL c l us → RepL c (blankF i ks l) us
  | _, _, i, ks, .nil => .nil
  | _, _, i, ks, .cons h t => .cons (by cases ks.any (Nat.beq i) with | true => exact .any _ | false => exact h) (RepL.blank (i + 1) ks t)
mutual
theorem Rep.noBB {c : Cx} {o : Nat} {bb' : List Nat} : ∀ {p : PV} {v : Value}, Rep c p v → inB 0 o p → Rep ⟨c.ρ, bb', c.ob.take o⟩ p v
  | _, _, .val v, _ => .val v
  | _, _, .nil, _ => .nil
  | _, _, .ws h1 h2 h4, _ => .ws h1 h2 h4
  | _, _, .sl h0 h1 h2 h3 h4, _ => .sl h0 h1 h2 h3 h4
  | _, _, .fs h0 h1 h2 h3 h4, _ => .fs h0 h1 h2 h3 h4
  | _, _, .cw h0 h4, _ => .cw h0 h4
  | _, _, .cf h1 h3 h4, _ => .cf h1 h3 h4
  | _, _, .emp, _ => .emp
  | _, _, .cel h3 h4, _ => .cel h3 h4
  | _, _, .any v, _ => .any v
  | _, _, .agg h, k => .agg (RepL.noBB h (by simpa [inB] using k))
  | _, _, .tup h, k => .tup (RepL.noBB h (by simpa [inB] using k))
  | _, _, .ptr (b := i) h, k => by simp [inB] at k
  | _, _, .arr (o := i) h h0 h2 h3 h4, k => .arr (by simp only [inB] at k; rw [List.getElem?_take, if_pos k]; exact h) h0 h2 h3 h4
  | _, _, .ead (o := i) h, k => .ead (by simp only [inB] at k; rw [List.getElem?_take, if_pos k]; exact h)
theorem RepL.noBB {c : Cx} {o : Nat} {bb' : List Nat} : ∀ {l : List PV} {us : List Value}, RepL c l us → inBL 0 o l → RepL ⟨c.ρ, bb', c.ob.take o⟩ l us
  | _, _, .nil, _ => .nil
  | _, _, .cons h t, k => .cons (Rep.noBB h k.1) (RepL.noBB t k.2)
end
def selB (b o : Nat) : List (Nat × PV) → Bool
  | [] => true
  | (_, p) :: S => (match p with | .ptr i _ => Nat.blt i b | p => inBb 0 o p) && selB b o S
def nodupB : List Nat → Bool
  | [] => true
  | x :: l => !(l.any (Nat.beq x)) && nodupB l
theorem any_beq {x : Nat} {l : List Nat} (h : x ∈ l) : l.any (Nat.beq x) = true := List.any_eq_true.2 ⟨x, h, Nat.beq_refl x⟩
theorem nodupB_ok : ∀ {l : List Nat}, nodupB l = true → ∀ {i j x : Nat}, l[i]? = some x → l[j]? = some x → i = j
  | [], _, i, j, x, h, _ => by simp at h
  | y :: l, hn, i, j, x, h, k => by
    simp only [nodupB, Bool.and_eq_true, Bool.not_eq_true'] at hn
    cases i with
    | zero =>
      simp at h
      subst h
      cases j with
      | zero => rfl
      | succ j =>
        simp at k
        have := any_beq (List.mem_of_getElem? k)
        rw [hn.1] at this
        cases this
    | succ i =>
      simp at h
      cases j with
      | zero =>
        simp at k
        subst k
        have := any_beq (List.mem_of_getElem? h)
        rw [hn.1] at this
        cases this
      | succ j =>
        simp at k
        rw [nodupB_ok hn.2 h k]
theorem nuI_get : ∀ {σ : Sel} {i : Nat}, i < σ.length → ∃ e, σ[i]? = some e ∧ nuI σ i = e.1
  | [], i, h => by simp at h
  | e :: l, 0, _ => ⟨e, rfl, rfl⟩
  | e :: l, i + 1, h => by
    obtain ⟨e', h1, h2⟩ := nuI_get (σ := l) (i := i) (by simpa using h)
    exact ⟨e', by simpa using h1, h2⟩
section
variable {P : Program} {F : Fr} {TT : List TI} {X : List FuncId} {s : St} {K : St → Prop}
theorem sel_get {S : List (Nat × PV)} {σ : Sel} {t : Nat → PV} {b o : Nat} (h : S.map (fun e => t e.1) = S.map (fun e => nu σ e.2)) (hc : selB b o S = true) (x : Nat) : (∃ p, tab S x = p ∧ t x = nu σ p ∧ (match p with | .ptr i _ => Nat.blt i b | p => inBb 0 o p) = true) ∨ tab S x = .any := by
  induction S with
  | nil => exact .inr rfl
  | cons y S ih =>
    obtain ⟨d, p⟩ := y
    simp only [List.map_cons, List.cons.injEq] at h
    simp only [selB, Bool.and_eq_true] at hc
    simp only [tab]
    cases hb : Nat.beq x d with
    | true => have := Nat.eq_of_beq_eq_true hb; subst this; exact .inl ⟨p, rfl, h.1, hc.1⟩
    | false => exact ih h.2 hc.2
theorem Inv.sel {c : Cx} {a : Act} {w : World} {N : Nat} {S : List (Nat × PV)} {B : List (List PV)} {O : List (Option Row)} {σ : Sel} (hi : Inv F c s a w) (hn : s.n = N)
    (hS : S.map (fun e => s.t e.1) = S.map (fun e => nu σ e.2)) (hB : σ.map (fun j => (s.bx[j.1]?).map (blankF 0 j.2)) = B.map some) (hc : (nodupB (σ.map (·.1)) && (selB σ.length O.length S && B.all (inBLb 0 O.length))) = true) (ho : ∃ e, s.ob = O ++ e) (h0 : F.c0.ob.length ≤ O.length) :
    Inv F ⟨c.ρ, σ.map (fun j => c.bb.getD j.1 0), c.ob.take O.length⟩ ⟨N, tab S, B, O⟩ a w := by
  rw [Bool.and_eq_true, Bool.and_eq_true] at hc
  obtain ⟨hnd, hs, hb⟩ := hc
  obtain ⟨e2, ho⟩ := ho
  have go : ∀ {i : Nat} {x : Ob}, (c.ob.take O.length)[i]? = some x → i < O.length ∧ c.ob[i]? = some x := by
    intro i x h
    rw [List.getElem?_take] at h
    split at h
    · rename_i hlt; exact ⟨hlt, h⟩
    · cases h
  have so : ∀ {i : Nat} {r : Option Row}, O[i]? = some r → s.ob[i]? = some r := fun h => by rw [ho, getElem?_app (List.getElem?_eq_some_iff.1 h).1]; exact h
  have hlen : σ.length = B.length := by have := congrArg List.length hB; simpa using this
  have hbl := hi.W.bl
  -- what stands behind a new box
  have old : ∀ {i : Nat} {e : Nat × List Nat}, σ[i]? = some e → ∃ l0 g, s.bx[e.1]? = some l0 ∧ B[i]? = some (blankF 0 e.2 l0) ∧ c.bb[e.1]? = some g ∧ c.bb.getD e.1 0 = g := fun {i e} he => by
    have h1 : (σ.map (fun j => (s.bx[j.1]?).map (blankF 0 j.2)))[i]? = some ((s.bx[e.1]?).map (blankF 0 e.2)) := by rw [List.getElem?_map, he]; rfl
    rw [hB, List.getElem?_map] at h1
    cases hbi : B[i]? with
    | none => rw [hbi] at h1; cases h1
    | some l =>
      rw [hbi] at h1
      simp only [Option.map_some, Option.some.injEq] at h1
      cases hx : s.bx[e.1]? with
      | none => rw [hx] at h1; cases h1
      | some l0 =>
        rw [hx] at h1
        simp only [Option.map_some, Option.some.injEq] at h1
        obtain ⟨g, us, T, a1, _, _⟩ := hi.W.box e.1 l0 hx
        exact ⟨l0, g, rfl, by rw [h1], a1, by rw [List.getD_eq_getElem?_getD, a1]; rfl⟩
  have gb : ∀ {i g : Nat}, (σ.map (fun j => c.bb.getD j.1 0))[i]? = some g → ∃ e, σ[i]? = some e ∧ c.bb[e.1]? = some g := fun {i g} h => by
    rw [List.getElem?_map] at h
    cases he : σ[i]? with
    | none => rw [he] at h; cases h
    | some e =>
      rw [he] at h
      obtain ⟨l0, g', _, _, h3, h4⟩ := old he
      simp only [Option.map_some, Option.some.injEq] at h
      rw [h4] at h
      subst h
      exact ⟨e, rfl, h3⟩
  have mb : ∀ {g : Nat}, g ∈ σ.map (fun j => c.bb.getD j.1 0) → g ∈ c.bb := fun {g} h => by
    obtain ⟨i, hi⟩ := List.getElem?_of_mem h
    obtain ⟨e, _, h2⟩ := gb hi
    exact List.mem_of_getElem? h2
  have hol := hi.W.ol
  rw [ho] at hol
  simp only [List.length_append] at hol
  refine ⟨⟨hi.W.mem, by simp [hlen], by simp; omega, fun i l hl => ?_, fun i r hr => ?_, fun i j g a b => ?_, fun i j x y l m hl hm hx hy e => hi.W.no i j x y l m (so hl) (so hm) (go hx).2 (go hy).2 e, fun i x l hl hx hm => hi.W.nbo i x l (so hl) (go hx).2 (mb hm), fun ad u hu hm => hi.W.sb ad u hu (mb hm), fun ad u i x l hu hl hx => hi.W.so ad u i x l hu (so hl) (go hx).2⟩, hi.nd, by rw [← hn]; exact hi.sz, fun x => ?_, hi.kp, hi.rho, hi.new, fun i x hx => ?_, fun i x hl hx => hi.obB i x hl (go hx).2, fun g hg => hi.bbB g (mb hg)⟩
  · have hlt := (List.getElem?_eq_some_iff.1 hl).1
    have hlt2 : i < σ.length := by rw [hlen]; exact hlt
    obtain ⟨e, he⟩ : ∃ e, σ[i]? = some e := ⟨_, List.getElem?_eq_getElem hlt2⟩
    obtain ⟨l0, g, h1, h2, h3, h4⟩ := old he
    rw [hl] at h2
    obtain ⟨g', us, T, a1, a2, a3⟩ := hi.W.box e.1 l0 h1
    rw [h3] at a1
    cases a1
    refine ⟨g, us, T, by rw [List.getElem?_map, he]; simp only [Option.map_some, h4], a2, ?_⟩
    have a4 := a3.blank 0 e.2
    rw [← Option.some.inj h2] at a4
    exact a4.noBB (inBLb_ok (List.all_eq_true.1 hb l (List.mem_of_getElem? hl)))
  · obtain ⟨x, us, a1, a2⟩ := hi.W.obj i r (so hr)
    have hlt := (List.getElem?_eq_some_iff.1 hr).1
    exact ⟨x, us, by rw [List.getElem?_take, if_pos hlt]; exact a1, a2⟩
  · obtain ⟨e1, p1, q1⟩ := gb a
    obtain ⟨e2, p2, q2⟩ := gb b
    have he := hi.W.nb e1.1 e2.1 g q1 q2
    exact nodupB_ok hnd (x := e1.1) (by rw [List.getElem?_map, p1]; rfl) (by rw [List.getElem?_map, p2, he]; rfl)
  · show Rep _ (tab S x) _
    rcases sel_get hS hs x with ⟨p, h1, h2, h3⟩ | h
    · rw [h1]
      have h4 := hi.tm x
      rw [h2] at h4
      cases p with
      | ptr i k =>
        obtain ⟨e, p1, p2⟩ := nuI_get (σ := σ) (i := i) (of_blt h3)
        have h5 : Rep c (.ptr e.1 k) (a.tmps.getD x undef) := by rw [← p2]; exact h4
        generalize a.tmps.getD x undef = v at h5
        cases h5 with
        | ptr h6 =>
          obtain ⟨l0, g', _, _, h7, h8⟩ := old p1
          rw [h6] at h7
          cases h7
          exact .ptr (by rw [List.getElem?_map, p1]; simp only [Option.map_some, h8])
      | _ => exact Rep.noBB h4 (inBb_ok h3)
    · rw [h]; exact .any _
  · have := (List.getElem?_eq_some_iff.1 hx).1
    have h3 := hi.obp i x hx
    rw [List.getElem?_take, if_pos (by omega)]
    exact h3
structure JoinP {A : Type} (N : Nat) (S : A → List (Nat × PV)) (B : A → List (List PV)) (O : A → List (Option Row)) (s : St) : Prop where
  h : ∃ y σ, s.n = N ∧ (S y).map (fun e => s.t e.1) = (S y).map (fun e => nu σ e.2) ∧ σ.map (fun j => (s.bx[j.1]?).map (blankF 0 j.2)) = (B y).map some ∧ (nodupB (σ.map (·.1)) && (selB σ.length (O y).length (S y) && (B y).all (inBLb 0 (O y).length))) = true ∧ ∃ e, s.ob = O y ++ e
theorem joinp {A : Type} {N : Nat} {S : A → List (Nat × PV)} {B : A → List (List PV)} {O : A → List (Option Row)} {t : Nat → PV} {bx : List (List PV)} {ob : List (Option Row)} (y : A) (σ : Sel) (h1 : (S y).map (fun e => t e.1) = (S y).map (fun e => nu σ e.2)) (h2 : σ.map (fun j => (bx[j.1]?).map (blankF 0 j.2)) = (B y).map some)
    (h3 : (nodupB (σ.map (·.1)) && (selB σ.length (O y).length (S y) && (B y).all (inBLb 0 (O y).length))) = true) (ho : ∃ e, ob = O y ++ e) : JoinP N S B O ⟨N, t, bx, ob⟩ := ⟨y, σ, rfl, h1, h2, h3, ho⟩
theorem draw_p {A : Type} {id N : Nat} {ops : List Oper} (S : A → List (Nat × PV)) (B : A → List (List PV)) (O : A → List (Option Row)) (t : Tm) (hTT : TOk P TT) (hm : P.follows .mixedOrders = true) (hl : Nat.ble t.size ops.length = true) (hc : chkM P ops t (Array.replicate ops.length false) false = true)
    (ho : ∀ x, F.c0.ob.length ≤ (O x).length) (h : vM P F TT X ops t s (JoinP N S B O)) (k : ∀ x, K ⟨N, tab (S x), B x, O x⟩) : DrawG P F TT X id ops s K :=
  DrawG.mono (draw_m t hTT hm hl hc h) fun c a w s' hi hj => by
    obtain ⟨x, σ, h1, h2, h3, h4, h5⟩ := hj.h
    exact ⟨_, _, hi.sel h1 h2 h3 h4 h5 (ho x), k x⟩
theorem draw_dp {A : Type} {id N : Nat} {ops : List Oper} (ns : List Nd) (O : List (Option Row)) (S' : A → List (Nat × PV)) (B' : A → List (List PV)) (O' : A → List (Option Row)) (hTT : TOk P TT) (hm : P.follows .mixedOrders = true)
    (hc : (ns.all fun d => chkD P ops ns (remL (bitsL ops.length d.m)) d.t (bitsL ops.length d.m).toArray false (remL (bitsL ops.length d.m))) = true)
    (hin : (ns.all fun d => inSb d.B.length O.length d.S && inBBb d.B.length O.length d.B) = true) (ho : F.c0.ob.length ≤ O.length)
    (h0 : ∃ d, ndAt ns 0 = some d ∧ (eqBs (bitsL ops.length d.m) (List.replicate ops.length false) && Nat.ble (remL (bitsL ops.length d.m)) ops.length) = true ∧ CutG N d.S d.B O s)
    (ho' : ∀ x, F.c0.ob.length ≤ (O' x).length)
    (hv : vAll P F TT X ops ns N O (JoinP N S' B' O') ns) (k : ∀ x, K ⟨N, tab (S' x), B' x, O' x⟩) : DrawG P F TT X id ops s K := by
  have key : DrawG P F TT X id ops s (JoinP N S' B' O') := by
    refine ⟨?_⟩
    intro cx a w hi
    have hi' : Inv F cx s a { w with drawn := w.drawn + 1 } := ⟨hi.W.grow fun _ _ => rfl, hi.nd, hi.sz, hi.tm, hi.kp.drew, hi.rho, hi.new, hi.obp, hi.obB, hi.bbB⟩
    obtain ⟨d, hd, he, hw⟩ := h0
    rw [Bool.and_eq_true] at he
    have h1 := nodes_ok hTT (Q := fun e a w => e = .normal ∧ ∃ cx' s', Inv F cx' s' a w ∧ JoinP N S' B' O' s') (fun c' s' a' w' hi' hk => ⟨rfl, c', s', hi', hk⟩) (fun cc a w hq => by cases hq.1) hc hin ho hv _ 0 d hd rfl s cx a _ hi' hw.h ops.toArray.size (by simpa using Nat.le_of_ble_eq_true he.2)
    rw [eqBs_ok he.1] at h1
    refine wp_mono (wp_region_any hm (by simpa using h1)) ?_
    rintro e a' w' ⟨rfl, cx', s', hi'', hq⟩
    exact ⟨cx', s', hi'', hq⟩
  exact DrawG.mono key fun c a w s' hi hj => by
    obtain ⟨x, σ, h1, h2, h3, h4, h5⟩ := hj.h
    exact ⟨_, _, hi.sel h1 h2 h3 h4 h5 (ho' x), k x⟩
end
end Go.Proofs.YtpjbgmafnheomaaGreatDoor.Sim
