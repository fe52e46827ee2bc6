/-
  Lemmas of SpanPlaysCardSaid, part 19.
-/
import Derived.Test.YtpjbgmafnheomaaGreatDoorPkSpanPlaysCardSaidR
import Derived.SizedLaws
import Derived.DataElems
namespace Go.Proofs.YtpjbgmafnheomaaGreatDoor.Sim
open Go.RowKit Go.ChangeShapes Go.WideShapes
set_option linter.unusedVariables false
set_option linter.unusedSimpArgs false
def OKM (l : List Int) : Prop := okD 18446744073709551616 l ∧ l.length ≤ 17592186044415
theorem fSp : fieldT Tryz.prog 28 = some (6, [(26, 0, 3), (26, 3, 3)]) := by kernel_rfl
section
variable {H : Type} {enc : TypeId × Value → H} {P : Program} {w : World} {base : Nat} {sp : Nat → Bool} {held : Bool}
theorem trod_fieldsQ {t : TypeId} {c : Nat} {fs : List (TypeId × Nat × Nat)} {fuel : Nat} {cs : List Value} {x : DataW H × List MemPlace} (hu : fieldT P t = some (c, fs)) (h : DataW.trod enc P w base sp held fuel t cs = some x) (hw : ∀ q ∈ x.1.weights P t, q ≤ reachBytes) :
    cs.length = c ∧ ∃ n, ∀ (i : Nat) (ty off z : Nat), fs[i]? = some (ty, off, z) → ∃ y, DataW.trod enc P w base sp held n ty ((cs.drop off).take z) = some y ∧ ∀ q ∈ y.1.weights P ty, q ≤ reachBytes := by
  unfold fieldT at hu
  split at hu
  · rename_i gs hg
    simp only [Option.some.injEq, Prod.mk.injEq] at hu
    obtain ⟨rfl, rfl⟩ := hu
    obtain ⟨xs, n, _, rfl, hl, hlen, hf⟩ := DataW.trod_struct hg h
    refine ⟨hl, n, fun i ty off z hi => ?_⟩
    rw [List.getElem?_map] at hi
    cases hq : gs.toList[i]? with
    | none => rw [hq] at hi; cases hi
    | some f =>
      rw [hq] at hi
      simp only [Option.map_some, Option.some.injEq, Prod.mk.injEq] at hi
      obtain ⟨rfl, rfl, rfl⟩ := hi
      have h2 := hf i f (by simpa using hq)
      have h3 : i < xs.length := by
        rw [hlen]
        have := (List.getElem?_eq_some_iff.1 hq).1
        simpa using this
      rw [List.getElem?_eq_getElem h3] at h2
      refine ⟨_, h2, fun q hqm => hw q ?_⟩
      have hm := DataW.weights_mem_each (P := P) (ts := gs.toList.map (·.type)) (ds := xs.map (·.1)) (j := i) (t := f.type) (d := xs[i].1) (by rw [List.getElem?_map, hq]; rfl) (by rw [List.getElem?_map, List.getElem?_eq_getElem h3]; rfl) q hqm
      simpa [DataW.weights, hg] using hm
  · cases hu
theorem lits_lenQ (k : IntKind) (zs : List Int) : (ChangeShapes.lits (H := H) k zs).length = zs.length := by simp [ChangeShapes.lits]
theorem trod_wordsQ {t e : TypeId} {k : IntKind} {fuel : Nat} {v : Value} {x : DataW H × List MemPlace} (ht : P.underlying t = some (.slice e)) (he : P.underlying e = some (.int k)) (hc : P.cellsOf e = 1)
    (h : DataW.trod enc P w base sp held fuel t [v] = some x) (hw : ∀ q ∈ x.1.weights P t, q ≤ reachBytes) : ∃ l : List Int, Rep ⟨w.cell?, [], []⟩ (.ws k l) v ∧ (∀ z ∈ l, (Lit.int k z).wf = true) ∧ l.length * P.bytesOf e ≤ reachBytes := by
  rcases open_ints ht he hc h with ⟨h1, h2⟩ | ⟨a, len, cap, zs, h1, h2, h3, h4, h5, h6, h7, h8⟩
  · simp only [List.cons.injEq, and_true] at h1
    subst h1
    exact ⟨[], .ws rfl (Nat.le_refl _) (fun j x hj => by cases hj), (fun z hz => by cases hz), by rw [List.length_nil, Nat.zero_mul]; exact Nat.zero_le _⟩
  · simp only [List.cons.injEq, and_true] at h1
    subst h1
    have hlen : (zs.take len).length = len := by
      rw [List.length_take]
      split at h5 <;> omega
    refine ⟨zs.take len, .ws hlen.symm h3 (fun j x hj => ⟨a, rfl, ?_⟩), (fun z hz => h8 z (List.mem_of_mem_take hz)), ?_⟩
    · have hj1 := (List.getElem?_eq_some_iff.1 hj).1
      rw [hlen] at hj1
      rw [List.getElem?_take, if_pos hj1] at hj
      have hj2 := (List.getElem?_eq_some_iff.1 hj).1
      have := h7 j hj2
      rw [List.getD_eq_getElem?_getD, hj] at this
      exact this
    · have := hw (((ChangeShapes.lits (H := H) k (zs.take len)).length + (ChangeShapes.lits (H := H) k (zs.drop len)).length) * P.bytesOf e) (by rw [h6]; simp [DataW.weights, ht])
      refine Nat.le_trans (Nat.mul_le_mul_right _ ?_) this
      rw [lits_lenQ]
      exact Nat.le_add_right _ _
theorem mem_weightsQ {e : TypeId} : ∀ {ds : List (DataW H)} {i : Nat} {d : DataW H}, ds[i]? = some d → ∀ q ∈ d.weights P e, q ∈ DataW.weightsAll P e ds
 | d0 :: ds, 0, d, h, q, hq => by
    simp only [List.getElem?_cons_zero, Option.some.injEq] at h
    subst h
    simp only [DataW.weightsAll, List.mem_append]
    exact .inl hq
 | d0 :: ds, i + 1, d, h, q, hq => by
    simp only [List.getElem?_cons_succ] at h
    simp only [DataW.weightsAll, List.mem_append]
    exact .inr (mem_weightsQ h q hq)
 | [], _, _, h, _, _ => by simp at h
end
theorem byU6q : Tryz.prog.bytesOf 82 = 8 := by kernel_rfl
section
variable {H : Type} {enc : TypeId × Value → H} {w : World} {base : Nat} {sp : Nat → Bool} {held : Bool}
theorem open_int24Q {fuel : Nat} {cs : List Value} {x : DataW H × List MemPlace} (h : DataW.trod enc Tryz.prog w base sp held fuel 24 cs = some x) (hw : ∀ q ∈ x.1.weights Tryz.prog 24, q ≤ reachBytes) :
    ∃ b l v, cs = [.bool b, v] ∧ Rep ⟨w.cell?, [], []⟩ (.ws .u64 l) v ∧ OKM l := by
  obtain ⟨hl, n, hf⟩ := trod_fieldsQ fIn h hw
  match cs, hl with
 | [a, v], _ =>
    obtain ⟨y0, h0, _⟩ := hf 0 _ _ _ rfl
    obtain ⟨y1, h1, w1⟩ := hf 1 _ _ _ rfl
    obtain ⟨b, rfl⟩ := trod_bool uBo h0
    obtain ⟨l, hr, ho, hs⟩ := trod_wordsQ uWs uU6 cU6 h1 w1
    rw [byU6q] at hs
    exact ⟨b, l, v, rfl, hr, okD_wf ho, by unfold reachBytes at hs; omega⟩
theorem open_dyQ {fuel : Nat} {cs : List Value} {x : DataW H × List MemPlace} (h : DataW.trod enc Tryz.prog w base sp held fuel 26 cs = some x) (hw : ∀ q ∈ x.1.weights Tryz.prog 26, q ≤ reachBytes) :
    ∃ b l e v, cs = [.bool b, v, .int .i64 e] ∧ Rep ⟨w.cell?, [], []⟩ (.ws .u64 l) v ∧ OKM l ∧ inR .i64 e := by
  obtain ⟨hl, n, hf⟩ := trod_fieldsQ fDy h hw
  match cs, hl with
 | [a, v, e], _ =>
    obtain ⟨y0, h0, w0⟩ := hf 0 _ _ _ rfl
    obtain ⟨y1, h1, w1⟩ := hf 1 _ _ _ rfl
    obtain ⟨b, l, v', hc, hr, ho⟩ := open_int24Q h0 w0
    simp only [List.drop_zero, List.take_succ_cons, List.take_zero, List.cons.injEq, and_true] at hc
    obtain ⟨rfl, rfl⟩ := hc
    obtain ⟨z, rfl, hz⟩ := trod_int uIt h1
    exact ⟨b, l, z, v, rfl, hr, ho, wf_i64r hz⟩
theorem open_spQ {fuel : Nat} {cs : List Value} {x : DataW H × List MemPlace} (h : DataW.trod enc Tryz.prog w base sp held fuel 28 cs = some x) (hw : ∀ q ∈ x.1.weights Tryz.prog 28, q ≤ reachBytes) :
    ∃ b1 l1 e1 v1 b2 l2 e2 v2, cs = [.bool b1, v1, .int .i64 e1, .bool b2, v2, .int .i64 e2] ∧ Rep ⟨w.cell?, [], []⟩ (.ws .u64 l1) v1 ∧ Rep ⟨w.cell?, [], []⟩ (.ws .u64 l2) v2 ∧ OKM l1 ∧ OKM l2 ∧ inR .i64 e1 ∧ inR .i64 e2 := by
  obtain ⟨hl, n, hf⟩ := trod_fieldsQ fSp h hw
  match cs, hl with
 | [c0, c1, c2, c3, c4, c5], _ =>
    obtain ⟨y0, h0, w0⟩ := hf 0 _ _ _ rfl
    obtain ⟨y1, h1, w1⟩ := hf 1 _ _ _ rfl
    obtain ⟨b1, l1, e1, v1, q1, r1, o1, i1⟩ := open_dyQ h0 w0
    obtain ⟨b2, l2, e2, v2, q2, r2, o2, i2⟩ := open_dyQ h1 w1
    simp only [List.drop_succ_cons, List.drop_zero, List.take_succ_cons, List.take_zero, List.cons.injEq, and_true] at q1 q2
    obtain ⟨rfl, rfl, rfl⟩ := q1
    obtain ⟨rfl, rfl, rfl⟩ := q2
    exact ⟨b1, l1, e1, _, b2, l2, e2, _, rfl, r1, r2, o1, o2, i1, i2⟩
end
end Go.Proofs.YtpjbgmafnheomaaGreatDoor.Sim
namespace Go.Proofs.YtpjbgmafnheomaaGreatDoor.Sim
open Go.RowKit
set_option linter.unusedVariables false
set_option linter.unusedSimpArgs false
set_option maxRecDepth 10000
set_option maxHeartbeats 8000000
variable {G : Gs}
theorem s_number (b : Bool) (l : List Int) (e : Int) (o : OKM l) : FC Tryz.prog G 28 [Dy b l e] (· = Dy b l e) := by
  have f1 := r_twinl (G := G) l o.2
  refine ax_i Tryz.func28 Tryz.ntmps28 ?_; intro F hG hO
  rw [← hG] at f1
  repeat' ((try (conv => whnf)); first
 | refine ce f1 ?_
 | with_reducible first | refine ax_s ?_ | (refine ax_f ?_ ?_ <;> try intro hc) | fail)
  exact ⟨ret_e rfl⟩
theorem s_twin (b1 : Bool) (l1 : List Int) (e1 : Int) (b2 : Bool) (l2 : List Int) (e2 : Int) (o1 : OKM l1) (o2 : OKM l2) : FC Tryz.prog G 15 [Sp b1 l1 e1 b2 l2 e2] (· = Sp b1 l1 e1 b2 l2 e2) := by
  have f1 := s_number (G := G) b1 l1 e1 o1
  have f2 := s_number (G := G) b2 l2 e2 o2
  refine ax_i Tryz.func15 Tryz.ntmps15 ?_; intro F hG hO
  rw [← hG] at f1 f2
  repeat' ((try (conv => whnf)); first
 | refine ce f1 ?_ | refine ce f2 ?_
 | (refine dG (id := 1) [[0, 1, 3, 4, 2, 5, 6], [7]] ?_)
 | with_reducible first | refine ax_s ?_ | (refine ax_f ?_ ?_ <;> try intro hc) | fail)
  exact ⟨ret_e rfl⟩
theorem same_t (b : Bool) (l : List Int) (e : Int) : sameB b l e b l e = true := by unfold sameB; simp
theorem same_dec (a c : D2) : sameB (decide (a.1 < 0)) (d64 a.1.natAbs) a.2 (decide (c.1 < 0)) (d64 c.1.natAbs) c.2 = decide (a = c) := by
  by_cases h : a = c
  · rw [h, same_t, decide_eq_true rfl]
  · rw [decide_eq_false h]
    cases hx : sameB (decide (a.1 < 0)) (d64 a.1.natAbs) a.2 (decide (c.1 < 0)) (d64 c.1.natAbs) c.2 with
    | false => rfl
    | true =>
      unfold sameB at hx
      simp only [Bool.and_eq_true, beq_iff_eq, decide_eq_true_eq] at hx
      have : DY a.1 a.2 = DY c.1 c.2 := by unfold DY; rw [hx.1.1, hx.1.2, hx.2]
      obtain ⟨h1, h2⟩ := DY_inj this
      exact absurd (Prod.ext h1 h2) h
theorem q_sameX (b : Bool) (l : List Int) (e : Int) (b' : Bool) (l' : List Int) (e' : Int) (h : l.length ≤ 1099511627776) : FC Tryz.prog G 60 [Dy b l e, Dy b' l' e'] (· = .val (.bool (sameB b l e b' l' e'))) := by
  have f1 := r_same (G := G) l l' h
  refine ax_i Tryz.func60 Tryz.ntmps60 ?_; intro F hG hO
  rw [← hG] at f1
  repeat' ((try (conv => whnf)); first
 | refine ce f1 ?_
 | with_reducible first | refine ax_s ?_ | (refine ax_f ?_ ?_ <;> try intro hc) | fail)
  all_goals (refine ⟨ret_e (bv_eq ?_)⟩; unfold sameB)
  · rename_i a1; rw [a1, decide_eq_true hc]; simp
  · rw [decide_eq_false hc]; simp
  · rw [hc]; simp
theorem q_sameD {a : D2} (h : a.good) (c : D2) : FC Tryz.prog G 60 [DY a.1 a.2, DY c.1 c.2] (· = .val (.bool (decide (a = c)))) := by
  have := q_sameX (G := G) (decide (a.1 < 0)) (d64 a.1.natAbs) a.2 (decide (c.1 < 0)) (d64 c.1.natAbs) c.2 (Nat.le_trans h.1 (by decide))
  rw [same_dec] at this
  exact this
theorem q_same {a b : D2} (h : a.good) (k : b.good) (c d : D2) : FC Tryz.prog G 18 [SP a b, SP c d] (· = .val (.bool (decide (a = c) && decide (b = d)))) := by
  have f1 := q_sameD (G := G) h c
  have f2 := q_sameD (G := G) k d
  obtain ⟨x, hx⟩ : ∃ x, x = decide (a = c) := ⟨_, rfl⟩
  rw [← hx] at f1 ⊢
  clear hx
  cases x
  · clear f2
    refine ax_i Tryz.func18 Tryz.ntmps18 ?_; intro F hG hO
    rw [← hG] at f1
    repeat' ((try (conv => whnf)); first
 | refine ce f1 ?_
 | with_reducible first | refine ax_s ?_ | (refine ax_f ?_ ?_ <;> try intro hc) | fail)
    exact ⟨ret_e rfl⟩
  · skip
    refine ax_i Tryz.func18 Tryz.ntmps18 ?_; intro F hG hO
    rw [← hG] at f1 f2
    repeat' ((try (conv => whnf)); first
 | refine ce f1 ?_ | refine ce f2 ?_
 | with_reducible first | refine ax_s ?_ | (refine ax_f ?_ ?_ <;> try intro hc) | fail)
    exact ⟨ret_e rfl⟩
theorem q_same_t {a b : D2} (h : a.good) (k : b.good) : FC Tryz.prog G 18 [SP a b, SP a b] (· = .val (.bool true)) := by
  have := q_same (G := G) h k a b
  rw [decide_eq_true rfl, decide_eq_true rfl] at this
  exact this
theorem Good.tiny {m e : Int} (hm : m % 2 = 1) (hb : -1000 ≤ m ∧ m ≤ 1000) (he : -1048576 ≤ e ∧ e ≤ 1048576) : Good m e :=
  ⟨Nat.le_trans (L64_le (n := 1) (show m.natAbs < 2 ^ (64 * 1) by omega)) (by decide), he.1, he.2, fun h => by omega, fun _ => hm⟩
theorem L32_tiny {n : Nat} (h : n < 4294967296) : L32 n ≤ 1 := L32_le (show n < 2 ^ (32 * 1) by omega)
theorem s_whole (i : Int) (hi : i ≠ 0) (hb : -1000 ≤ i ∧ i ≤ 1000) : FC Tryz.prog G 52 [.val (.int .i64 i)] (· = DY i 0) := by
  have f1 := r_small (G := G) i (by dsimp only [inR]; omega)
  have f2 := r_small (G := G) (0 - i) (by dsimp only [inR]; omega)
  have f3 := r_to (G := G) i.toNat (Nat.le_trans (L32_tiny (by omega)) (by decide))
  have f4 := r_to (G := G) (0 - i).toNat (Nat.le_trans (L32_tiny (by omega)) (by decide))
  refine ax_i Tryz.func52 Tryz.ntmps52 ?_; intro F hG hO
  rw [← hG] at f1 f2 f3 f4
  repeat' ((try (conv => whnf)); first
 | refine ce f1 ?_ | refine ce f2 ?_ | refine ce f3 ?_ | refine ce f4 ?_
 | with_reducible first | refine ax_s ?_ | (refine ax_f ?_ ?_ <;> try intro hc) | fail)
  · exact ⟨ret_e (by unfold DY; rw [decide_eq_true (show i < 0 by omega), show i.natAbs = (0 - i).toNat by omega])⟩
  · exact ⟨ret_e (by unfold DY; rw [decide_eq_false (show ¬ i < 0 by omega), show i.natAbs = i.toNat by omega])⟩
theorem s_from (i j : Int) (hi : i ≠ 0) (hj : j ≠ 0) (hb : -1000 ≤ i ∧ i ≤ 1000) (hc : -1000 ≤ j ∧ j ≤ 1000) : FC Tryz.prog G 16 [.val (.int .i64 i), .val (.int .i64 j)] (· = SP (i, 0) (j, 0)) := by
  have f1 := s_whole (G := G) i hi hb
  have f2 := s_whole (G := G) j hj hc
  refine ax_i Tryz.func16 Tryz.ntmps16 ?_; intro F hG hO
  rw [← hG] at f1 f2
  repeat' ((try (conv => whnf)); first
 | refine ce f1 ?_ | refine ce f2 ?_
 | with_reducible first | refine ax_s ?_ | (refine ax_f ?_ ?_ <;> try intro hc) | fail)
  exact ⟨ret_e rfl⟩
theorem lt_same {n m k : Int} : VV n k < VV m k ↔ n < m := by
  have h := VV_le (a := m) (b := n) (k := k)
  omega
theorem lst2_same (n m k : Int) : lst2 (n, k) (m, k) = if m < n then (m, k) else (n, k) := by
  unfold lst2 D2.v
  by_cases h : m < n
  · rw [if_pos h, if_pos (lt_same.2 h)]
  · rw [if_neg h, if_neg (fun hh => h (lt_same.1 hh))]
theorem gst2_same (n m k : Int) : gst2 (n, k) (m, k) = if n < m then (m, k) else (n, k) := by
  unfold gst2 D2.v
  by_cases h : n < m
  · rw [if_pos h, if_pos (lt_same.2 h)]
  · rw [if_neg h, if_neg (fun hh => h (lt_same.1 hh))]
theorem mul_tiny {n m : Int} (hm : (n * m) % 2 = 1) (hb : -1000 ≤ n * m ∧ n * m ≤ 1000) : toAn (mulP (n, 0) (m, 0)) = ⟨n * m, 0, 0⟩ := by
  refine toAn_of ?_
  show mulS n 0 m 0 = dyR (n * m) 0
  have g := Good.tiny (e := 0) hm hb (by decide)
  unfold mulS
  rw [if_neg (by have := g.1; omega), Int.add_zero]
  exact told_good g
theorem cut_tiny {n e : Int} (up : Bool) (g : Good n e) (hb : (bl n.natAbs : Int) ≤ 10) : toAn (cutsS n e 10 up) = ⟨n, e, 0⟩ := toAn_of (cuts_same up g (by decide) hb)
theorem aw_add1 : toAn (addP (1, 0) (5, 0)) = ⟨3, 1, 0⟩ := by
  refine toAn_of ?_
  show addS 1 0 5 0 = dyR 3 1
  unfold addS
  rw [if_neg (by decide), if_neg (by decide), if_neg (by decide +kernel), if_neg (by decide +kernel)]
  exact told_eq (by decide) (Good.tiny (m := 3) (e := 1) (by decide) (by decide) (by decide)) (by rw [VV_low (n := 3) (e := 1) (k := 0) (by decide) (by decide)]; rfl)
theorem aw_add2 : toAn (addP (3, 0) (7, 0)) = ⟨5, 1, 0⟩ := by
  refine toAn_of ?_
  show addS 3 0 7 0 = dyR 5 1
  unfold addS
  rw [if_neg (by decide), if_neg (by decide), if_neg (by decide +kernel), if_neg (by decide +kernel)]
  exact told_eq (by decide) (Good.tiny (m := 5) (e := 1) (by decide) (by decide) (by decide)) (by rw [VV_low (n := 5) (e := 1) (k := 0) (by decide) (by decide)]; rfl)
theorem out_tiny {n e m f : Int} (g : Good n e) (h : Good m f) (hb : (bl n.natAbs : Int) ≤ 10) (hc : (bl m.natAbs : Int) ≤ 10) : outP (n, e) (m, f) 10 = spR (n, e) (m, f) := by
  unfold outP
  rw [show toAn (cutsS (n, e).1 (n, e).2 10 false) = ⟨n, e, 0⟩ from cut_tiny false g hb, show toAn (cutsS (m, f).1 (m, f).2 10 true) = ⟨m, f, 0⟩ from cut_tiny true h hc]
  exact bothA_ok rfl rfl
theorem aw_add : sumP (1, 0) (3, 0) (5, 0) (7, 0) 10 = spR (3, 1) (5, 1) := by
  unfold sumP
  rw [aw_add1, aw_add2, if_neg (by decide)]
  exact out_tiny (Good.tiny (by decide) (by decide) (by decide)) (Good.tiny (by decide) (by decide) (by decide)) (by decide +kernel) (by decide +kernel)
theorem aw_mul : spMul (-3, 0) (5, 0) (-7, 0) (1, 0) 10 = spR (-35, 0) (21, 0) := by
  unfold spMul least4 great4
  rw [mul_tiny (n := -3) (m := -7) (by decide) (by decide), mul_tiny (n := -3) (m := 1) (by decide) (by decide), mul_tiny (n := 5) (m := -7) (by decide) (by decide), mul_tiny (n := 5) (m := 1) (by decide) (by decide), if_neg (by decide)]
  have e1 : lst2 (lst2 (lst2 (An.d ⟨-3 * -7, 0, 0⟩) (An.d ⟨-3 * 1, 0, 0⟩)) (An.d ⟨5 * -7, 0, 0⟩)) (An.d ⟨5 * 1, 0, 0⟩) = (-35, 0) := by
    unfold An.d
    rw [lst2_same, if_pos (by decide), lst2_same, if_pos (by decide), lst2_same, if_neg (by decide)]; rfl
  have e2 : gst2 (gst2 (gst2 (An.d ⟨-3 * -7, 0, 0⟩) (An.d ⟨-3 * 1, 0, 0⟩)) (An.d ⟨5 * -7, 0, 0⟩)) (An.d ⟨5 * 1, 0, 0⟩) = (21, 0) := by
    unfold An.d
    rw [gst2_same, if_neg (by decide), gst2_same, if_neg (by decide), gst2_same, if_neg (by decide)]; rfl
  rw [e1, e2]
  exact out_tiny (Good.tiny (by decide) (by decide) (by decide)) (Good.tiny (by decide) (by decide) (by decide)) (by decide +kernel) (by decide +kernel)
theorem tiny_4096 {n : Int} (h : -1000 ≤ n ∧ n ≤ 1000) : L64 n.natAbs ≤ 4096 := Nat.le_trans (L64_le (n := 1) (show n.natAbs < 2 ^ (64 * 1) by omega)) (by decide)
theorem aw_q1 : toAn (quoP (1, 0) (1, 0) 10 false) = ⟨1, 0, 0⟩ := by
  refine toAn_of ?_
  show quoS 1 0 1 0 10 false = dyR 1 0
  rw [quoS_ok (by decide) (by decide) (tiny_4096 (by decide)) (tiny_4096 (by decide)), show quoK 1 1 10 1 = 11 by decide +kernel, show docQ 1 1 (11 : Int).toNat false = 2048 by decide +kernel]
  unfold cutS
  rw [if_neg (by decide +kernel), show wholeS 2048 ((bl (Int.natAbs 2048) : Int) - 10) false = 512 by decide +kernel, show (0 - 0 - 11 : Int) + ((bl (Int.natAbs 2048) : Int) - 10) = -9 by decide +kernel]
  exact told_eq (by decide) (Good.tiny (m := 1) (e := 0) (by decide) (by decide) (by decide)) (by rw [VV_low (n := 1) (e := 0) (k := -9) (by decide) (by decide)]; rfl)
theorem aw_q2 : toAn (quoP (3, 0) (1, 0) 10 true) = ⟨3, 0, 0⟩ := by
  refine toAn_of ?_
  show quoS 3 0 1 0 10 true = dyR 3 0
  rw [quoS_ok (by decide) (by decide) (tiny_4096 (by decide)) (tiny_4096 (by decide)), show quoK 3 1 10 1 = 10 by decide +kernel, show docQ 3 1 (10 : Int).toNat true = 3072 by decide +kernel]
  unfold cutS
  rw [if_neg (by decide +kernel), show wholeS 3072 ((bl (Int.natAbs 3072) : Int) - 10) true = 768 by decide +kernel, show (0 - 0 - 10 : Int) + ((bl (Int.natAbs 3072) : Int) - 10) = -8 by decide +kernel]
  exact told_eq (by decide) (Good.tiny (m := 3) (e := 0) (by decide) (by decide) (by decide)) (by rw [VV_low (n := 3) (e := 0) (k := -8) (by decide) (by decide)]; rfl)
theorem aw_quo : spQuo (1, 0) (3, 0) (1, 0) (1, 0) 10 = spR (1, 0) (3, 0) := by
  unfold spQuo spQuoPos
  rw [if_pos (by decide), if_neg (by decide), if_neg (by decide), aw_q1, aw_q2]
  exact bothA_ok rfl rfl
theorem tinyS {n m : Int} (hn : n % 2 = 1 ∧ -1000 ≤ n ∧ n ≤ 1000) (hm : m % 2 = 1 ∧ -1000 ≤ m ∧ m ≤ 1000) (h : n ≤ m) : GoodS (n, 0) (m, 0) :=
  ⟨Good.tiny (e := 0) hn.1 hn.2 (by decide), Good.tiny (e := 0) hm.1 hm.2 (by decide), VV_le.2 h⟩
theorem s_awake {g : Gs} (hD : (0, debT.map (Value.int .u8)) ∈ g) : FC Tryz.prog g 13 [] (· = .val (.bool true)) := by
  have n0 := s_from (G := g) (1) (3) (by decide) (by decide) (by decide) (by decide)
  have n1 := s_from (G := g) (5) (7) (by decide) (by decide) (by decide) (by decide)
  have n2 := s_from (G := g) (-3) (5) (by decide) (by decide) (by decide) (by decide)
  have n3 := s_from (G := g) (-7) (1) (by decide) (by decide) (by decide) (by decide)
  have n4 := s_from (G := g) (1) (1) (by decide) (by decide) (by decide) (by decide)
  have n5 := s_from (G := g) (-35) (21) (by decide) (by decide) (by decide) (by decide)
  have f1 := p_add hD (tinyS (n := 1) (m := 3) (by decide) (by decide) (by decide)) (tinyS (n := 5) (m := 7) (by decide) (by decide) (by decide)) (p := 10) (by decide)
  rw [aw_add] at f1
  have f2 := p_mul hD (tinyS (n := -3) (m := 5) (by decide) (by decide) (by decide)) (tinyS (n := -7) (m := 1) (by decide) (by decide) (by decide)) (p := 10) (by decide)
  rw [aw_mul] at f2
  have f3 := p_quo hD (tinyS (n := 1) (m := 3) (by decide) (by decide) (by decide)) (tinyS (n := 1) (m := 1) (by decide) (by decide) (by decide)) (p := 10) (by decide)
  rw [aw_quo] at f3
  have g1 := q_same_t (G := g) (a := (-35, 0)) (b := (21, 0)) (Good.tiny (by decide) (by decide) (by decide)) (Good.tiny (by decide) (by decide) (by decide))
  have g2 := q_same_t (G := g) (a := (1, 0)) (b := (3, 0)) (Good.tiny (by decide) (by decide) (by decide)) (Good.tiny (by decide) (by decide) (by decide))
  have g3 := q_same_t (G := g) (a := (3, 1)) (b := (5, 1)) (Good.tiny (by decide) (by decide) (by decide)) (Good.tiny (by decide) (by decide) (by decide))
  have w1 := s_whole (G := g) 3 (by decide) (by decide)
  have w2 := s_whole (G := g) 5 (by decide) (by decide)
  refine ax_i Tryz.func13 Tryz.ntmps13 ?_; intro F hG hO
  rw [← hG] at n0 n1 n2 n3 n4 n5 f1 f2 f3 g1 g2 g3 w1 w2
  repeat' ((try (conv => whnf)); first
 | refine ce n0 ?_ | refine ce n1 ?_ | refine ce n2 ?_ | refine ce n3 ?_ | refine ce n4 ?_ | refine ce n5 ?_ | refine ce f1 ?_ | refine ce f2 ?_ | refine ce f3 ?_ | refine ce g1 ?_ | refine ce g2 ?_ | refine ce g3 ?_ | refine ce w1 ?_ | refine ce w2 ?_
 | (refine dG (id := 4) [[0, 1, 2, 3, 4, 5, 6, 7, 8, 9, 10, 11, 12, 13, 14, 15, 16, 17, 18, 19, 20, 21]] ?_)
 | with_reducible first | refine ax_s ?_ | (refine ax_f ?_ ?_ <;> try intro hc) | fail)
  all_goals exact ⟨ret_e rfl⟩
theorem chkE_bad {p : Int} (b : Bool) (hp : ¬ (1 ≤ p ∧ p ≤ 70000)) : chkE p b = 1 := by unfold chkE; rw [if_pos (by omega)]
end Go.Proofs.YtpjbgmafnheomaaGreatDoor.Sim
