/-
  What the statement SpanGrowsCardSaid leans on, part 15: the logic of walks, digits, contracts of the functions, the plain law. Conditions stand in each theorem.
-/
import Derived.Test.YtpjbgmafnheomaaGreatDoorPkSpanGrowsCardSaidN
import Derived.SizedLaws
import Derived.DataElems
import Derived.ChangeSame
namespace Go.Proofs.YtpjbgmafnheomaaGreatDoor.Sim
open Go.RowKit Go.ChangeShapes Go.WideShapes
set_option linter.unusedVariables false
set_option linter.unusedSimpArgs false
/-- Words that are limbs, and not too many. -/
def OKM (l : List Int) : Prop := okD 18446744073709551616 l ∧ l.length ≤ 17592186044415
theorem fSp : fieldT Tryz.prog 28 = some (6, [(26, 0, 3), (26, 3, 3)]) := by kernel_rfl
section
variable {H : Type} {enc : TypeId × Value → H} {P : Program} {w : World} {base : Nat} {sp : Nat → Bool} {held : Bool}
theorem trod_fieldsQ {t : TypeId} {c : Nat} {fs : List (TypeId × Nat × Nat)} {fuel : Nat} {cs : List Value} {x : DataW H × List MemPlace} (hu : fieldT P t = some (c, fs)) (h : DataW.trod enc P w base sp held fuel t cs = some x) (hw : ∀ q ∈ x.1.weights P t, q ≤ reachBytes) :
    cs.length = c ∧ ∃ n, ∀ (i : Nat) (ty off z : Nat), fs[i]? = some (ty, off, z) → ∃ y, DataW.trod enc P w base sp held n ty ((cs.drop off).take z) = some y ∧ ∀ q ∈ y.1.weights P ty, q ≤ reachBytes := by
  unfold fieldT at hu
  split at hu
  · rename_i gs hg
    simp only [Option.some.injEq, Prod.mk.injEq] at hu
    obtain ⟨rfl, rfl⟩ := hu
    obtain ⟨xs, n, _, rfl, hl, hlen, hf⟩ := DataW.trod_struct hg h
    refine ⟨hl, n, fun i ty off z hi => ?_⟩
    rw [List.getElem?_map] at hi
    cases hq : gs.toList[i]? with
    | none => rw [hq] at hi; cases hi
    | some f =>
      rw [hq] at hi
      simp only [Option.map_some, Option.some.injEq, Prod.mk.injEq] at hi
      obtain ⟨rfl, rfl, rfl⟩ := hi
      have h2 := hf i f (by simpa using hq)
      have h3 : i < xs.length := by
        rw [hlen]
        have := (List.getElem?_eq_some_iff.1 hq).1
        simpa using this
      rw [List.getElem?_eq_getElem h3] at h2
      refine ⟨_, h2, fun q hqm => hw q ?_⟩
      have hm := DataW.weights_mem_each (P := P) (ts := gs.toList.map (·.type)) (ds := xs.map (·.1)) (j := i) (t := f.type) (d := xs[i].1) (by rw [List.getElem?_map, hq]; rfl) (by rw [List.getElem?_map, List.getElem?_eq_getElem h3]; rfl) q hqm
      simpa [DataW.weights, hg] using hm
  · cases hu
theorem lits_lenQ (k : IntKind) (zs : List Int) : (ChangeShapes.lits (H := H) k zs).length = zs.length := by simp [ChangeShapes.lits]
theorem trod_wordsQ {t e : TypeId} {k : IntKind} {fuel : Nat} {v : Value} {x : DataW H × List MemPlace} (ht : P.underlying t = some (.slice e)) (he : P.underlying e = some (.int k)) (hc : P.cellsOf e = 1)
    (h : DataW.trod enc P w base sp held fuel t [v] = some x) (hw : ∀ q ∈ x.1.weights P t, q ≤ reachBytes) : ∃ l : List Int, Rep ⟨w.cell?, [], []⟩ (.ws k l) v ∧ (∀ z ∈ l, (Lit.int k z).wf = true) ∧ l.length * P.bytesOf e ≤ reachBytes := by
  rcases open_ints ht he hc h with ⟨h1, h2⟩ | ⟨a, len, cap, zs, h1, h2, h3, h4, h5, h6, h7, h8⟩
  · simp only [List.cons.injEq, and_true] at h1
    subst h1
    exact ⟨[], .ws rfl (Nat.le_refl _) (fun j x hj => by cases hj), (fun z hz => by cases hz), by rw [List.length_nil, Nat.zero_mul]; exact Nat.zero_le _⟩
  · simp only [List.cons.injEq, and_true] at h1
    subst h1
    have hlen : (zs.take len).length = len := by
      rw [List.length_take]
      split at h5 <;> omega
    refine ⟨zs.take len, .ws hlen.symm h3 (fun j x hj => ⟨a, rfl, ?_⟩), (fun z hz => h8 z (List.mem_of_mem_take hz)), ?_⟩
    · have hj1 := (List.getElem?_eq_some_iff.1 hj).1
      rw [hlen] at hj1
      rw [List.getElem?_take, if_pos hj1] at hj
      have hj2 := (List.getElem?_eq_some_iff.1 hj).1
      have := h7 j hj2
      rw [List.getD_eq_getElem?_getD, hj] at this
      exact this
    · have := hw (((ChangeShapes.lits (H := H) k (zs.take len)).length + (ChangeShapes.lits (H := H) k (zs.drop len)).length) * P.bytesOf e) (by rw [h6]; simp [DataW.weights, ht])
      refine Nat.le_trans (Nat.mul_le_mul_right _ ?_) this
      rw [lits_lenQ]
      exact Nat.le_add_right _ _
end
theorem byU6q : Tryz.prog.bytesOf 82 = 8 := by kernel_rfl
section
variable {H : Type} {enc : TypeId × Value → H} {w : World} {base : Nat} {sp : Nat → Bool} {held : Bool}
theorem open_int24Q {fuel : Nat} {cs : List Value} {x : DataW H × List MemPlace} (h : DataW.trod enc Tryz.prog w base sp held fuel 24 cs = some x) (hw : ∀ q ∈ x.1.weights Tryz.prog 24, q ≤ reachBytes) :
    ∃ b l v, cs = [.bool b, v] ∧ Rep ⟨w.cell?, [], []⟩ (.ws .u64 l) v ∧ OKM l := by
  obtain ⟨hl, n, hf⟩ := trod_fieldsQ fIn h hw
  match cs, hl with
  | [a, v], _ =>
    obtain ⟨y0, h0, _⟩ := hf 0 _ _ _ rfl
    obtain ⟨y1, h1, w1⟩ := hf 1 _ _ _ rfl
    obtain ⟨b, rfl⟩ := trod_bool uBo h0
    obtain ⟨l, hr, ho, hs⟩ := trod_wordsQ uWs uU6 cU6 h1 w1
    rw [byU6q] at hs
    exact ⟨b, l, v, rfl, hr, okD_wf ho, by unfold reachBytes at hs; omega⟩
theorem open_dyQ {fuel : Nat} {cs : List Value} {x : DataW H × List MemPlace} (h : DataW.trod enc Tryz.prog w base sp held fuel 26 cs = some x) (hw : ∀ q ∈ x.1.weights Tryz.prog 26, q ≤ reachBytes) :
    ∃ b l e v, cs = [.bool b, v, .int .i64 e] ∧ Rep ⟨w.cell?, [], []⟩ (.ws .u64 l) v ∧ OKM l ∧ inR .i64 e := by
  obtain ⟨hl, n, hf⟩ := trod_fieldsQ fDy h hw
  match cs, hl with
  | [a, v, e], _ =>
    obtain ⟨y0, h0, w0⟩ := hf 0 _ _ _ rfl
    obtain ⟨y1, h1, w1⟩ := hf 1 _ _ _ rfl
    obtain ⟨b, l, v', hc, hr, ho⟩ := open_int24Q h0 w0
    simp only [List.drop_zero, List.take_succ_cons, List.take_zero, List.cons.injEq, and_true] at hc
    obtain ⟨rfl, rfl⟩ := hc
    obtain ⟨z, rfl, hz⟩ := trod_int uIt h1
    exact ⟨b, l, z, v, rfl, hr, ho, wf_i64r hz⟩
theorem open_spQ {fuel : Nat} {cs : List Value} {x : DataW H × List MemPlace} (h : DataW.trod enc Tryz.prog w base sp held fuel 28 cs = some x) (hw : ∀ q ∈ x.1.weights Tryz.prog 28, q ≤ reachBytes) :
    ∃ b1 l1 e1 v1 b2 l2 e2 v2, cs = [.bool b1, v1, .int .i64 e1, .bool b2, v2, .int .i64 e2] ∧ Rep ⟨w.cell?, [], []⟩ (.ws .u64 l1) v1 ∧ Rep ⟨w.cell?, [], []⟩ (.ws .u64 l2) v2 ∧ OKM l1 ∧ OKM l2 ∧ inR .i64 e1 ∧ inR .i64 e2 := by
  obtain ⟨hl, n, hf⟩ := trod_fieldsQ fSp h hw
  match cs, hl with
  | [c0, c1, c2, c3, c4, c5], _ =>
    obtain ⟨y0, h0, w0⟩ := hf 0 _ _ _ rfl
    obtain ⟨y1, h1, w1⟩ := hf 1 _ _ _ rfl
    obtain ⟨b1, l1, e1, v1, q1, r1, o1, i1⟩ := open_dyQ h0 w0
    obtain ⟨b2, l2, e2, v2, q2, r2, o2, i2⟩ := open_dyQ h1 w1
    simp only [List.drop_succ_cons, List.drop_zero, List.take_succ_cons, List.take_zero, List.cons.injEq, and_true] at q1 q2
    obtain ⟨rfl, rfl, rfl⟩ := q1
    obtain ⟨rfl, rfl, rfl⟩ := q2
    exact ⟨b1, l1, e1, _, b2, l2, e2, _, rfl, r1, r2, o1, o2, i1, i2⟩
set_option maxRecDepth 100000 in
theorem open_span {r : Reach} {b0 : Nat} {v : Value} {d : DataW H} {ps : List MemPlace} (hval : Value.okWide Tryz.prog w r b0 28 v) (h : DataW.Trod enc Tryz.prog w base sp held 28 v d ps) (hw : ∀ q ∈ d.weights Tryz.prog 28, q ≤ reachBytes) :
    ∃ b1 l1 e1 b2 l2 e2, Rep ⟨w.cell?, [], []⟩ (Sp b1 l1 e1 b2 l2 e2) v ∧ OKM l1 ∧ OKM l2 ∧ inR .i64 e1 ∧ inR .i64 e2 := by
  obtain ⟨cs, rfl⟩ := okWide_agg fSp hval
  obtain ⟨n, h⟩ := h
  obtain ⟨b1, l1, e1, v1, b2, l2, e2, v2, hc, r1, r2, o1, o2, i1, i2⟩ := open_spQ h hw
  have hcs : cs = [Value.bool b1, v1, .int .i64 e1, .bool b2, v2, .int .i64 e2].toArray := by
    have : cs.toList = [Value.bool b1, v1, .int .i64 e1, .bool b2, v2, .int .i64 e2] := hc
    rw [← this]
  subst hcs
  exact ⟨b1, l1, e1, b2, l2, e2, .agg (.cons (.val _) (.cons r1 (.cons (.val _) (.cons (.val _) (.cons r2 (.cons (.val _) .nil)))))), o1, o2, i1, i2⟩
end
end Go.Proofs.YtpjbgmafnheomaaGreatDoor.Sim
namespace Go.Proofs.YtpjbgmafnheomaaGreatDoor.Sim
open Go.RowKit
set_option linter.unusedVariables false
set_option linter.unusedSimpArgs false
set_option maxRecDepth 10000
set_option maxHeartbeats 8000000
variable {G : List (Nat × List Value)}
theorem OKM64 {n e : Int} (h : Good n e) : OKM (d64 n.natAbs) := ⟨okD64 _, good_len h⟩
theorem s_number (b : Bool) (l : List Int) (e : Int) (o : OKM l) : FC Tryz.prog G 28 [Dy b l e] (· = Dy b l e) := by
  have f1 := r_twinl (G := G) l o.2
  refine FC.intro (X := XX) tok Tryz.func28 rfl Tryz.ntmps28 (by rw [Tryz.results28]) (by kernel_rfl) rfl ?_; intro F hG hO
  rw [← hG] at f1
  repeat' ((try (conv => whnf)); first
  | ((with_reducible refine cg ?_); first | refine ceq f1 rfl ?_)
  
  | with_reducible first
    | refine Chk.mk' (by first | omega | exact trivial | (simp only [List.length_append, List.length_set, List.length_replicate, List.length_take, List.length_drop, List.length_cons, List.length_nil, List.length_map]; omega)) ?_
    | refine wrap_g (by dsimp only [inR]; omega) ?_
    | refine idx_g (by omega) ?_ | refine idx_l _ rfl (by decide) ?_ | refine BothG.mk ?_ ?_ | refine fork_tt ?_ | refine fork_ff ?_
    | (refine fork_e (c := true) (by decide) ?_; refine fork_tt ?_) | (refine fork_e (c := false) (by decide) ?_; refine fork_ff ?_)
    | refine fork_t (by omega) ?_ | refine fork_f (by omega) ?_ | (refine fork_d ?_ ?_ <;> intro hc) | refine fork_n ?_ | (refine fork_b ?_ ?_ <;> intro hc)
    | refine SlcG.mk (by omega) ?_ | refine MakG.mk (by dsimp only; omega) ?_
    | refine AppG.mk (by first | omega | (simp only [List.length_append, List.length_set, List.length_replicate, List.length_take, List.length_drop, List.length_cons, List.length_nil, List.length_map]; omega)) (by dsimp only [List.length_cons, List.length_nil]; omega) (by omega) ?_
    | refine div_g (by omega) (by omega) (by dsimp only [inR]; omega) ?_ | refine mod_g (by omega) (by omega) ?_
    | refine mask_g (m := 4294967296) 32 rfl rfl (by decide) (by omega) ?_ | refine shr_g (m := 4294967296) 32 rfl (by decide) (by omega) rfl ?_
    | refine fz_all (by omega) ?_ | (refine smk ?_ ?_; constructor))
  exact ⟨ret_e rfl⟩
theorem s_twin (b1 : Bool) (l1 : List Int) (e1 : Int) (b2 : Bool) (l2 : List Int) (e2 : Int) (o1 : OKM l1) (o2 : OKM l2) : FC Tryz.prog G 15 [Sp b1 l1 e1 b2 l2 e2] (· = Sp b1 l1 e1 b2 l2 e2) := by
  have f1 := s_number (G := G) b1 l1 e1 o1
  have f2 := s_number (G := G) b2 l2 e2 o2
  refine FC.intro (X := XX) tok Tryz.func15 rfl Tryz.ntmps15 (by rw [Tryz.results15]) (by kernel_rfl) rfl ?_; intro F hG hO
  rw [← hG] at f1 f2
  repeat' ((try (conv => whnf)); first
  | ((with_reducible refine cg ?_); first | refine ceq f1 rfl ?_ | refine ceq f2 rfl ?_)
  
  | (with_reducible refine draw_g (id := 1) [[0, 1, 3, 4, 2, 5, 6], [7]] tok mixed (by kernel_rfl) ?_)
  | with_reducible first
    | refine Chk.mk' (by first | omega | exact trivial | (simp only [List.length_append, List.length_set, List.length_replicate, List.length_take, List.length_drop, List.length_cons, List.length_nil, List.length_map]; omega)) ?_
    | refine wrap_g (by dsimp only [inR]; omega) ?_
    | refine idx_g (by omega) ?_ | refine idx_l _ rfl (by decide) ?_ | refine BothG.mk ?_ ?_ | refine fork_tt ?_ | refine fork_ff ?_
    | (refine fork_e (c := true) (by decide) ?_; refine fork_tt ?_) | (refine fork_e (c := false) (by decide) ?_; refine fork_ff ?_)
    | refine fork_t (by omega) ?_ | refine fork_f (by omega) ?_ | (refine fork_d ?_ ?_ <;> intro hc) | refine fork_n ?_ | (refine fork_b ?_ ?_ <;> intro hc)
    | refine SlcG.mk (by omega) ?_ | refine MakG.mk (by dsimp only; omega) ?_
    | refine AppG.mk (by first | omega | (simp only [List.length_append, List.length_set, List.length_replicate, List.length_take, List.length_drop, List.length_cons, List.length_nil, List.length_map]; omega)) (by dsimp only [List.length_cons, List.length_nil]; omega) (by omega) ?_
    | refine div_g (by omega) (by omega) (by dsimp only [inR]; omega) ?_ | refine mod_g (by omega) (by omega) ?_
    | refine mask_g (m := 4294967296) 32 rfl rfl (by decide) (by omega) ?_ | refine shr_g (m := 4294967296) 32 rfl (by decide) (by omega) rfl ?_
    | refine fz_all (by omega) ?_ | (refine smk ?_ ?_; constructor))
  exact ⟨ret_e rfl⟩
theorem s_twing {a b : D2} (h : GoodS a b) : FC Tryz.prog G 15 [SP a b] (· = SP a b) := s_twin _ _ _ _ _ _ (OKM64 h.1) (OKM64 h.2.1)
theorem same_t (b : Bool) (l : List Int) (e : Int) : sameB b l e b l e = true := by unfold sameB; simp
theorem same_dec (a c : D2) : sameB (decide (a.1 < 0)) (d64 a.1.natAbs) a.2 (decide (c.1 < 0)) (d64 c.1.natAbs) c.2 = decide (a = c) := by
  by_cases h : a = c
  · rw [h, same_t, decide_eq_true rfl]
  · rw [decide_eq_false h]
    cases hx : sameB (decide (a.1 < 0)) (d64 a.1.natAbs) a.2 (decide (c.1 < 0)) (d64 c.1.natAbs) c.2 with
    | false => rfl
    | true =>
      unfold sameB at hx
      simp only [Bool.and_eq_true, beq_iff_eq, decide_eq_true_eq] at hx
      have : DY a.1 a.2 = DY c.1 c.2 := by unfold DY; rw [hx.1.1, hx.1.2, hx.2]
      obtain ⟨h1, h2⟩ := DY_inj this
      exact absurd (Prod.ext h1 h2) h
theorem q_sameX (b : Bool) (l : List Int) (e : Int) (b' : Bool) (l' : List Int) (e' : Int) (h : l.length ≤ 1099511627776) : FC Tryz.prog G 60 [Dy b l e, Dy b' l' e'] (· = .val (.bool (sameB b l e b' l' e'))) := by
  have f1 := r_same (G := G) l l' h
  refine FC.intro (X := XX) tok Tryz.func60 rfl Tryz.ntmps60 (by rw [Tryz.results60]) (by kernel_rfl) rfl ?_; intro F hG hO
  rw [← hG] at f1
  repeat' ((try (conv => whnf)); first
  | ((with_reducible refine cg ?_); first | refine ceq f1 rfl ?_)
  
  | with_reducible first
    | refine Chk.mk' (by first | omega | exact trivial | (simp only [List.length_append, List.length_set, List.length_replicate, List.length_take, List.length_drop, List.length_cons, List.length_nil, List.length_map]; omega)) ?_
    | refine wrap_g (by dsimp only [inR]; omega) ?_
    | refine idx_g (by omega) ?_ | refine idx_l _ rfl (by decide) ?_ | refine BothG.mk ?_ ?_ | refine fork_tt ?_ | refine fork_ff ?_
    | (refine fork_e (c := true) (by decide) ?_; refine fork_tt ?_) | (refine fork_e (c := false) (by decide) ?_; refine fork_ff ?_)
    | refine fork_t (by omega) ?_ | refine fork_f (by omega) ?_ | (refine fork_d ?_ ?_ <;> intro hc) | refine fork_n ?_ | (refine fork_b ?_ ?_ <;> intro hc)
    | refine SlcG.mk (by omega) ?_ | refine MakG.mk (by dsimp only; omega) ?_
    | refine AppG.mk (by first | omega | (simp only [List.length_append, List.length_set, List.length_replicate, List.length_take, List.length_drop, List.length_cons, List.length_nil, List.length_map]; omega)) (by dsimp only [List.length_cons, List.length_nil]; omega) (by omega) ?_
    | refine div_g (by omega) (by omega) (by dsimp only [inR]; omega) ?_ | refine mod_g (by omega) (by omega) ?_
    | refine mask_g (m := 4294967296) 32 rfl rfl (by decide) (by omega) ?_ | refine shr_g (m := 4294967296) 32 rfl (by decide) (by omega) rfl ?_
    | refine fz_all (by omega) ?_ | (refine smk ?_ ?_; constructor))
  all_goals (refine ⟨ret_e (bv_eq ?_)⟩; unfold sameB)
  · rename_i a1; rw [a1, decide_eq_true hc]; simp
  · rw [decide_eq_false hc]; simp
  · rw [hc]; simp
theorem q_sameD {a : D2} (h : a.good) (c : D2) : FC Tryz.prog G 60 [DY a.1 a.2, DY c.1 c.2] (· = .val (.bool (decide (a = c)))) := by
  have := q_sameX (G := G) (decide (a.1 < 0)) (d64 a.1.natAbs) a.2 (decide (c.1 < 0)) (d64 c.1.natAbs) c.2 (Nat.le_trans h.1 (by decide))
  rw [same_dec] at this
  exact this
theorem q_same {a b : D2} (h : a.good) (k : b.good) (c d : D2) : FC Tryz.prog G 18 [SP a b, SP c d] (· = .val (.bool (decide (a = c) && decide (b = d)))) := by
  have f1 := q_sameD (G := G) h c
  have f2 := q_sameD (G := G) k d
  obtain ⟨x, hx⟩ : ∃ x, x = decide (a = c) := ⟨_, rfl⟩
  rw [← hx] at f1 ⊢
  clear hx
  cases x
  · clear f2
    refine FC.intro (X := XX) tok Tryz.func18 rfl Tryz.ntmps18 (by rw [Tryz.results18]) (by kernel_rfl) rfl ?_; intro F hG hO
    rw [← hG] at f1
    repeat' ((try (conv => whnf)); first
  | ((with_reducible refine cg ?_); first | refine ceq f1 rfl ?_)
  
  | with_reducible first
    | refine Chk.mk' (by first | omega | exact trivial | (simp only [List.length_append, List.length_set, List.length_replicate, List.length_take, List.length_drop, List.length_cons, List.length_nil, List.length_map]; omega)) ?_
    | refine wrap_g (by dsimp only [inR]; omega) ?_
    | refine idx_g (by omega) ?_ | refine idx_l _ rfl (by decide) ?_ | refine BothG.mk ?_ ?_ | refine fork_tt ?_ | refine fork_ff ?_
    | (refine fork_e (c := true) (by decide) ?_; refine fork_tt ?_) | (refine fork_e (c := false) (by decide) ?_; refine fork_ff ?_)
    | refine fork_t (by omega) ?_ | refine fork_f (by omega) ?_ | (refine fork_d ?_ ?_ <;> intro hc) | refine fork_n ?_ | (refine fork_b ?_ ?_ <;> intro hc)
    | refine SlcG.mk (by omega) ?_ | refine MakG.mk (by dsimp only; omega) ?_
    | refine AppG.mk (by first | omega | (simp only [List.length_append, List.length_set, List.length_replicate, List.length_take, List.length_drop, List.length_cons, List.length_nil, List.length_map]; omega)) (by dsimp only [List.length_cons, List.length_nil]; omega) (by omega) ?_
    | refine div_g (by omega) (by omega) (by dsimp only [inR]; omega) ?_ | refine mod_g (by omega) (by omega) ?_
    | refine mask_g (m := 4294967296) 32 rfl rfl (by decide) (by omega) ?_ | refine shr_g (m := 4294967296) 32 rfl (by decide) (by omega) rfl ?_
    | refine fz_all (by omega) ?_ | (refine smk ?_ ?_; constructor))
    exact ⟨ret_e rfl⟩
  · skip
    refine FC.intro (X := XX) tok Tryz.func18 rfl Tryz.ntmps18 (by rw [Tryz.results18]) (by kernel_rfl) rfl ?_; intro F hG hO
    rw [← hG] at f1 f2
    repeat' ((try (conv => whnf)); first
  | ((with_reducible refine cg ?_); first | refine ceq f1 rfl ?_ | refine ceq f2 rfl ?_)
  
  | with_reducible first
    | refine Chk.mk' (by first | omega | exact trivial | (simp only [List.length_append, List.length_set, List.length_replicate, List.length_take, List.length_drop, List.length_cons, List.length_nil, List.length_map]; omega)) ?_
    | refine wrap_g (by dsimp only [inR]; omega) ?_
    | refine idx_g (by omega) ?_ | refine idx_l _ rfl (by decide) ?_ | refine BothG.mk ?_ ?_ | refine fork_tt ?_ | refine fork_ff ?_
    | (refine fork_e (c := true) (by decide) ?_; refine fork_tt ?_) | (refine fork_e (c := false) (by decide) ?_; refine fork_ff ?_)
    | refine fork_t (by omega) ?_ | refine fork_f (by omega) ?_ | (refine fork_d ?_ ?_ <;> intro hc) | refine fork_n ?_ | (refine fork_b ?_ ?_ <;> intro hc)
    | refine SlcG.mk (by omega) ?_ | refine MakG.mk (by dsimp only; omega) ?_
    | refine AppG.mk (by first | omega | (simp only [List.length_append, List.length_set, List.length_replicate, List.length_take, List.length_drop, List.length_cons, List.length_nil, List.length_map]; omega)) (by dsimp only [List.length_cons, List.length_nil]; omega) (by omega) ?_
    | refine div_g (by omega) (by omega) (by dsimp only [inR]; omega) ?_ | refine mod_g (by omega) (by omega) ?_
    | refine mask_g (m := 4294967296) 32 rfl rfl (by decide) (by omega) ?_ | refine shr_g (m := 4294967296) 32 rfl (by decide) (by omega) rfl ?_
    | refine fz_all (by omega) ?_ | (refine smk ?_ ?_; constructor))
    exact ⟨ret_e rfl⟩
theorem q_same_t {a b : D2} (h : a.good) (k : b.good) : FC Tryz.prog G 18 [SP a b, SP a b] (· = .val (.bool true)) := by
  have := q_same (G := G) h k a b
  rw [decide_eq_true rfl, decide_eq_true rfl] at this
  exact this
/-! ### small numbers -/
theorem Good.tiny {m e : Int} (hm : m % 2 = 1) (hb : -1000 ≤ m ∧ m ≤ 1000) (he : -1048576 ≤ e ∧ e ≤ 1048576) : Good m e :=
  ⟨Nat.le_trans (L64_le (n := 1) (show m.natAbs < 2 ^ (64 * 1) by omega)) (by decide), he.1, he.2, fun h => by omega, fun _ => hm⟩
theorem L32_tiny {n : Nat} (h : n < 4294967296) : L32 n ≤ 1 := L32_le (show n < 2 ^ (32 * 1) by omega)
theorem s_whole (i : Int) (hi : i ≠ 0) (hb : -1000 ≤ i ∧ i ≤ 1000) : FC Tryz.prog G 52 [.val (.int .i64 i)] (· = DY i 0) := by
  have f1 := r_small (G := G) i (by dsimp only [inR]; omega)
  have f2 := r_small (G := G) (0 - i) (by dsimp only [inR]; omega)
  have f3 := r_to (G := G) i.toNat (Nat.le_trans (L32_tiny (by omega)) (by decide))
  have f4 := r_to (G := G) (0 - i).toNat (Nat.le_trans (L32_tiny (by omega)) (by decide))
  refine FC.intro (X := XX) tok Tryz.func52 rfl Tryz.ntmps52 (by rw [Tryz.results52]) (by kernel_rfl) rfl ?_; intro F hG hO
  rw [← hG] at f1 f2 f3 f4
  repeat' ((try (conv => whnf)); first
  | ((with_reducible refine cg ?_); first | refine ceq f1 rfl ?_ | refine ceq f2 rfl ?_ | refine ceq f3 rfl ?_ | refine ceq f4 rfl ?_)
  
  | with_reducible first
    | refine Chk.mk' (by first | omega | exact trivial | (simp only [List.length_append, List.length_set, List.length_replicate, List.length_take, List.length_drop, List.length_cons, List.length_nil, List.length_map]; omega)) ?_
    | refine wrap_g (by dsimp only [inR]; omega) ?_
    | refine idx_g (by omega) ?_ | refine idx_l _ rfl (by decide) ?_ | refine BothG.mk ?_ ?_ | refine fork_tt ?_ | refine fork_ff ?_
    | (refine fork_e (c := true) (by decide) ?_; refine fork_tt ?_) | (refine fork_e (c := false) (by decide) ?_; refine fork_ff ?_)
    | refine fork_t (by omega) ?_ | refine fork_f (by omega) ?_ | (refine fork_d ?_ ?_ <;> intro hc) | refine fork_n ?_ | (refine fork_b ?_ ?_ <;> intro hc)
    | refine SlcG.mk (by omega) ?_ | refine MakG.mk (by dsimp only; omega) ?_
    | refine AppG.mk (by first | omega | (simp only [List.length_append, List.length_set, List.length_replicate, List.length_take, List.length_drop, List.length_cons, List.length_nil, List.length_map]; omega)) (by dsimp only [List.length_cons, List.length_nil]; omega) (by omega) ?_
    | refine div_g (by omega) (by omega) (by dsimp only [inR]; omega) ?_ | refine mod_g (by omega) (by omega) ?_
    | refine mask_g (m := 4294967296) 32 rfl rfl (by decide) (by omega) ?_ | refine shr_g (m := 4294967296) 32 rfl (by decide) (by omega) rfl ?_
    | refine fz_all (by omega) ?_ | (refine smk ?_ ?_; constructor))
  · exact ⟨ret_e (by unfold DY; rw [decide_eq_true (show i < 0 by omega), show i.natAbs = (0 - i).toNat by omega])⟩
  · exact ⟨ret_e (by unfold DY; rw [decide_eq_false (show ¬ i < 0 by omega), show i.natAbs = i.toNat by omega])⟩
theorem s_from (i j : Int) (hi : i ≠ 0) (hj : j ≠ 0) (hb : -1000 ≤ i ∧ i ≤ 1000) (hc : -1000 ≤ j ∧ j ≤ 1000) : FC Tryz.prog G 16 [.val (.int .i64 i), .val (.int .i64 j)] (· = SP (i, 0) (j, 0)) := by
  have f1 := s_whole (G := G) i hi hb
  have f2 := s_whole (G := G) j hj hc
  refine FC.intro (X := XX) tok Tryz.func16 rfl Tryz.ntmps16 (by rw [Tryz.results16]) (by kernel_rfl) rfl ?_; intro F hG hO
  rw [← hG] at f1 f2
  repeat' ((try (conv => whnf)); first
  | ((with_reducible refine cg ?_); first | refine ceq f1 rfl ?_ | refine ceq f2 rfl ?_)
  
  | with_reducible first
    | refine Chk.mk' (by first | omega | exact trivial | (simp only [List.length_append, List.length_set, List.length_replicate, List.length_take, List.length_drop, List.length_cons, List.length_nil, List.length_map]; omega)) ?_
    | refine wrap_g (by dsimp only [inR]; omega) ?_
    | refine idx_g (by omega) ?_ | refine idx_l _ rfl (by decide) ?_ | refine BothG.mk ?_ ?_ | refine fork_tt ?_ | refine fork_ff ?_
    | (refine fork_e (c := true) (by decide) ?_; refine fork_tt ?_) | (refine fork_e (c := false) (by decide) ?_; refine fork_ff ?_)
    | refine fork_t (by omega) ?_ | refine fork_f (by omega) ?_ | (refine fork_d ?_ ?_ <;> intro hc) | refine fork_n ?_ | (refine fork_b ?_ ?_ <;> intro hc)
    | refine SlcG.mk (by omega) ?_ | refine MakG.mk (by dsimp only; omega) ?_
    | refine AppG.mk (by first | omega | (simp only [List.length_append, List.length_set, List.length_replicate, List.length_take, List.length_drop, List.length_cons, List.length_nil, List.length_map]; omega)) (by dsimp only [List.length_cons, List.length_nil]; omega) (by omega) ?_
    | refine div_g (by omega) (by omega) (by dsimp only [inR]; omega) ?_ | refine mod_g (by omega) (by omega) ?_
    | refine mask_g (m := 4294967296) 32 rfl rfl (by decide) (by omega) ?_ | refine shr_g (m := 4294967296) 32 rfl (by decide) (by omega) rfl ?_
    | refine fz_all (by omega) ?_ | (refine smk ?_ ?_; constructor))
  exact ⟨ret_e rfl⟩
theorem lt_same {n m k : Int} : VV n k < VV m k ↔ n < m := by
  have h := VV_le (a := m) (b := n) (k := k)
  omega
theorem lst2_same (n m k : Int) : lst2 (n, k) (m, k) = if m < n then (m, k) else (n, k) := by
  unfold lst2 D2.v
  by_cases h : m < n
  · rw [if_pos h, if_pos (lt_same.2 h)]
  · rw [if_neg h, if_neg (fun hh => h (lt_same.1 hh))]
theorem gst2_same (n m k : Int) : gst2 (n, k) (m, k) = if n < m then (m, k) else (n, k) := by
  unfold gst2 D2.v
  by_cases h : n < m
  · rw [if_pos h, if_pos (lt_same.2 h)]
  · rw [if_neg h, if_neg (fun hh => h (lt_same.1 hh))]
theorem mul_tiny {n m : Int} (hm : (n * m) % 2 = 1) (hb : -1000 ≤ n * m ∧ n * m ≤ 1000) : toAn (mulP (n, 0) (m, 0)) = ⟨n * m, 0, 0⟩ := by
  refine toAn_of ?_
  show mulS n 0 m 0 = dyR (n * m) 0
  have g := Good.tiny (e := 0) hm hb (by decide)
  unfold mulS
  rw [if_neg (by have := g.1; omega), Int.add_zero]
  exact told_good g
theorem cut_tiny {n e : Int} (up : Bool) (g : Good n e) (hb : (bl n.natAbs : Int) ≤ 10) : toAn (cutsS n e 10 up) = ⟨n, e, 0⟩ := toAn_of (cuts_same up g (by decide) hb)
theorem aw_add1 : toAn (addP (1, 0) (5, 0)) = ⟨3, 1, 0⟩ := by
  refine toAn_of ?_
  show addS 1 0 5 0 = dyR 3 1
  unfold addS
  rw [if_neg (by decide), if_neg (by decide), if_neg (by decide +kernel), if_neg (by decide +kernel)]
  exact told_eq (by decide) (Good.tiny (m := 3) (e := 1) (by decide) (by decide) (by decide)) (by rw [VV_low (n := 3) (e := 1) (k := 0) (by decide) (by decide)]; rfl)
theorem aw_add2 : toAn (addP (3, 0) (7, 0)) = ⟨5, 1, 0⟩ := by
  refine toAn_of ?_
  show addS 3 0 7 0 = dyR 5 1
  unfold addS
  rw [if_neg (by decide), if_neg (by decide), if_neg (by decide +kernel), if_neg (by decide +kernel)]
  exact told_eq (by decide) (Good.tiny (m := 5) (e := 1) (by decide) (by decide) (by decide)) (by rw [VV_low (n := 5) (e := 1) (k := 0) (by decide) (by decide)]; rfl)
theorem out_tiny {n e m f : Int} (g : Good n e) (h : Good m f) (hb : (bl n.natAbs : Int) ≤ 10) (hc : (bl m.natAbs : Int) ≤ 10) : outP (n, e) (m, f) 10 = spR (n, e) (m, f) := by
  unfold outP
  rw [show toAn (cutsS (n, e).1 (n, e).2 10 false) = ⟨n, e, 0⟩ from cut_tiny false g hb, show toAn (cutsS (m, f).1 (m, f).2 10 true) = ⟨m, f, 0⟩ from cut_tiny true h hc]
  exact bothA_ok rfl rfl
theorem aw_add : sumP (1, 0) (3, 0) (5, 0) (7, 0) 10 = spR (3, 1) (5, 1) := by
  unfold sumP
  rw [aw_add1, aw_add2, if_neg (by decide)]
  exact out_tiny (Good.tiny (by decide) (by decide) (by decide)) (Good.tiny (by decide) (by decide) (by decide)) (by decide +kernel) (by decide +kernel)
theorem aw_mul : spMul (-3, 0) (5, 0) (-7, 0) (1, 0) 10 = spR (-35, 0) (21, 0) := by
  unfold spMul least4 great4
  rw [mul_tiny (n := -3) (m := -7) (by decide) (by decide), mul_tiny (n := -3) (m := 1) (by decide) (by decide), mul_tiny (n := 5) (m := -7) (by decide) (by decide), mul_tiny (n := 5) (m := 1) (by decide) (by decide), if_neg (by decide)]
  have e1 : lst2 (lst2 (lst2 (An.d ⟨-3 * -7, 0, 0⟩) (An.d ⟨-3 * 1, 0, 0⟩)) (An.d ⟨5 * -7, 0, 0⟩)) (An.d ⟨5 * 1, 0, 0⟩) = (-35, 0) := by
    unfold An.d
    rw [lst2_same, if_pos (by decide), lst2_same, if_pos (by decide), lst2_same, if_neg (by decide)]; rfl
  have e2 : gst2 (gst2 (gst2 (An.d ⟨-3 * -7, 0, 0⟩) (An.d ⟨-3 * 1, 0, 0⟩)) (An.d ⟨5 * -7, 0, 0⟩)) (An.d ⟨5 * 1, 0, 0⟩) = (21, 0) := by
    unfold An.d
    rw [gst2_same, if_neg (by decide), gst2_same, if_neg (by decide), gst2_same, if_neg (by decide)]; rfl
  rw [e1, e2]
  exact out_tiny (Good.tiny (by decide) (by decide) (by decide)) (Good.tiny (by decide) (by decide) (by decide)) (by decide +kernel) (by decide +kernel)
theorem tiny_4096 {n : Int} (h : -1000 ≤ n ∧ n ≤ 1000) : L64 n.natAbs ≤ 4096 := Nat.le_trans (L64_le (n := 1) (show n.natAbs < 2 ^ (64 * 1) by omega)) (by decide)
theorem aw_q1 : toAn (quoP (1, 0) (1, 0) 10 false) = ⟨1, 0, 0⟩ := by
  refine toAn_of ?_
  show quoS 1 0 1 0 10 false = dyR 1 0
  rw [quoS_ok (by decide) (by decide) (tiny_4096 (by decide)) (tiny_4096 (by decide)), show quoK 1 1 10 1 = 11 by decide +kernel, show docQ 1 1 (11 : Int).toNat false = 2048 by decide +kernel]
  unfold cutS
  rw [if_neg (by decide +kernel), show wholeS 2048 ((bl (Int.natAbs 2048) : Int) - 10) false = 512 by decide +kernel, show (0 - 0 - 11 : Int) + ((bl (Int.natAbs 2048) : Int) - 10) = -9 by decide +kernel]
  exact told_eq (by decide) (Good.tiny (m := 1) (e := 0) (by decide) (by decide) (by decide)) (by rw [VV_low (n := 1) (e := 0) (k := -9) (by decide) (by decide)]; rfl)
theorem aw_q2 : toAn (quoP (3, 0) (1, 0) 10 true) = ⟨3, 0, 0⟩ := by
  refine toAn_of ?_
  show quoS 3 0 1 0 10 true = dyR 3 0
  rw [quoS_ok (by decide) (by decide) (tiny_4096 (by decide)) (tiny_4096 (by decide)), show quoK 3 1 10 1 = 10 by decide +kernel, show docQ 3 1 (10 : Int).toNat true = 3072 by decide +kernel]
  unfold cutS
  rw [if_neg (by decide +kernel), show wholeS 3072 ((bl (Int.natAbs 3072) : Int) - 10) true = 768 by decide +kernel, show (0 - 0 - 10 : Int) + ((bl (Int.natAbs 3072) : Int) - 10) = -8 by decide +kernel]
  exact told_eq (by decide) (Good.tiny (m := 3) (e := 0) (by decide) (by decide) (by decide)) (by rw [VV_low (n := 3) (e := 0) (k := -8) (by decide) (by decide)]; rfl)
theorem aw_quo : spQuo (1, 0) (3, 0) (1, 0) (1, 0) 10 = spR (1, 0) (3, 0) := by
  unfold spQuo spQuoPos
  rw [if_pos (by decide), if_neg (by decide), if_neg (by decide), aw_q1, aw_q2]
  exact bothA_ok rfl rfl
theorem tinyS {n m : Int} (hn : n % 2 = 1 ∧ -1000 ≤ n ∧ n ≤ 1000) (hm : m % 2 = 1 ∧ -1000 ≤ m ∧ m ≤ 1000) (h : n ≤ m) : GoodS (n, 0) (m, 0) :=
  ⟨Good.tiny (e := 0) hn.1 hn.2 (by decide), Good.tiny (e := 0) hm.1 hm.2 (by decide), VV_le.2 h⟩
theorem s_awake {g : List (Nat × List Value)} (hD : (0, debT.map (Value.int .u8)) ∈ g) : FC Tryz.prog g 13 [] (· = .val (.bool true)) := by
  have n0 := s_from (G := g) (1) (3) (by decide) (by decide) (by decide) (by decide)
  have n1 := s_from (G := g) (5) (7) (by decide) (by decide) (by decide) (by decide)
  have n2 := s_from (G := g) (-3) (5) (by decide) (by decide) (by decide) (by decide)
  have n3 := s_from (G := g) (-7) (1) (by decide) (by decide) (by decide) (by decide)
  have n4 := s_from (G := g) (1) (1) (by decide) (by decide) (by decide) (by decide)
  have n5 := s_from (G := g) (-35) (21) (by decide) (by decide) (by decide) (by decide)
  have f1 := p_add hD (tinyS (n := 1) (m := 3) (by decide) (by decide) (by decide)) (tinyS (n := 5) (m := 7) (by decide) (by decide) (by decide)) (p := 10) (by decide)
  rw [aw_add] at f1
  have f2 := p_mul hD (tinyS (n := -3) (m := 5) (by decide) (by decide) (by decide)) (tinyS (n := -7) (m := 1) (by decide) (by decide) (by decide)) (p := 10) (by decide)
  rw [aw_mul] at f2
  have f3 := p_quo hD (tinyS (n := 1) (m := 3) (by decide) (by decide) (by decide)) (tinyS (n := 1) (m := 1) (by decide) (by decide) (by decide)) (p := 10) (by decide)
  rw [aw_quo] at f3
  have g1 := q_same_t (G := g) (a := (-35, 0)) (b := (21, 0)) (Good.tiny (by decide) (by decide) (by decide)) (Good.tiny (by decide) (by decide) (by decide))
  have g2 := q_same_t (G := g) (a := (1, 0)) (b := (3, 0)) (Good.tiny (by decide) (by decide) (by decide)) (Good.tiny (by decide) (by decide) (by decide))
  have g3 := q_same_t (G := g) (a := (3, 1)) (b := (5, 1)) (Good.tiny (by decide) (by decide) (by decide)) (Good.tiny (by decide) (by decide) (by decide))
  have w1 := s_whole (G := g) 3 (by decide) (by decide)
  have w2 := s_whole (G := g) 5 (by decide) (by decide)
  refine FC.intro (X := XX) tok Tryz.func13 rfl Tryz.ntmps13 (by rw [Tryz.results13]) (by kernel_rfl) rfl ?_; intro F hG hO
  rw [← hG] at n0 n1 n2 n3 n4 n5 f1 f2 f3 g1 g2 g3 w1 w2
  repeat' ((try (conv => whnf)); first
  | ((with_reducible refine cg ?_); first | refine ceq n0 rfl ?_ | refine ceq n1 rfl ?_ | refine ceq n2 rfl ?_ | refine ceq n3 rfl ?_ | refine ceq n4 rfl ?_ | refine ceq n5 rfl ?_ | refine ceq f1 rfl ?_ | refine ceq f2 rfl ?_ | refine ceq f3 rfl ?_ | refine ceq g1 rfl ?_ | refine ceq g2 rfl ?_ | refine ceq g3 rfl ?_ | refine ceq w1 rfl ?_ | refine ceq w2 rfl ?_)
  
  | (with_reducible refine draw_g (id := 4) [[0, 1, 2, 3, 4, 5, 6, 7, 8, 9, 10, 11, 12, 13, 14, 15, 16, 17, 18, 19, 20, 21]] tok mixed (by kernel_rfl) ?_)
  | with_reducible first
    | refine Chk.mk' (by first | omega | exact trivial | (simp only [List.length_append, List.length_set, List.length_replicate, List.length_take, List.length_drop, List.length_cons, List.length_nil, List.length_map]; omega)) ?_
    | refine wrap_g (by dsimp only [inR]; omega) ?_
    | refine idx_g (by omega) ?_ | refine idx_l _ rfl (by decide) ?_ | refine BothG.mk ?_ ?_ | refine fork_tt ?_ | refine fork_ff ?_
    | (refine fork_e (c := true) (by decide) ?_; refine fork_tt ?_) | (refine fork_e (c := false) (by decide) ?_; refine fork_ff ?_)
    | refine fork_t (by omega) ?_ | refine fork_f (by omega) ?_ | (refine fork_d ?_ ?_ <;> intro hc) | refine fork_n ?_ | (refine fork_b ?_ ?_ <;> intro hc)
    | refine SlcG.mk (by omega) ?_ | refine MakG.mk (by dsimp only; omega) ?_
    | refine AppG.mk (by first | omega | (simp only [List.length_append, List.length_set, List.length_replicate, List.length_take, List.length_drop, List.length_cons, List.length_nil, List.length_map]; omega)) (by dsimp only [List.length_cons, List.length_nil]; omega) (by omega) ?_
    | refine div_g (by omega) (by omega) (by dsimp only [inR]; omega) ?_ | refine mod_g (by omega) (by omega) ?_
    | refine mask_g (m := 4294967296) 32 rfl rfl (by decide) (by omega) ?_ | refine shr_g (m := 4294967296) 32 rfl (by decide) (by omega) rfl ?_
    | refine fz_all (by omega) ?_ | (refine smk ?_ ?_; constructor))
  all_goals exact ⟨ret_e rfl⟩
end Go.Proofs.YtpjbgmafnheomaaGreatDoor.Sim
namespace Go.Proofs.YtpjbgmafnheomaaGreatDoor.Sim
open Go.RowKit
set_option linter.unusedVariables false
set_option linter.unusedSimpArgs false
theorem tup_inj {x y c x' y' c' : Int} (h : PV.tup [DY x y, .val (.int .i64 c)] = .tup [DY x' y', .val (.int .i64 c')]) : x = x' ∧ y = y' ∧ c = c' := by
  simp only [PV.tup.injEq, List.cons.injEq, PV.val.injEq, Value.int.injEq, true_and, and_true] at h
  obtain ⟨h1, h2⟩ := h
  obtain ⟨h3, h4⟩ := DY_inj h1
  exact ⟨h3, h4, h2⟩
theorem told_inv {s k x y : Int} (h : toldS s k = .tup [DY x y, .val (.int .i64 0)]) : (s = 0 ∧ x = 0 ∧ y = 0) ∨ (s ≠ 0 ∧ x = s / 2 ^ tz s.natAbs ∧ y = k + tz s.natAbs ∧ s = x * 2 ^ tz s.natAbs) := by
  have hE : dyE 5 ≠ .tup [DY x y, .val (.int .i64 0)] := fun hh => by
    have := (tup_inj hh).2.2
    exact absurd this (by decide)
  unfold toldS at h
  by_cases h0 : s = 0
  · rw [if_pos h0] at h
    have := tup_inj h
    exact .inl ⟨h0, this.1.symm, this.2.1.symm⟩
  · rw [if_neg h0] at h
    split at h
    · exact absurd h hE
    · split at h
      · exact absurd h hE
      · split at h
        · exact absurd h hE
        · split at h
          · exact absurd h hE
          · split at h
            · exact absurd h hE
            · have h1 := tup_inj h
              obtain ⟨h2, _⟩ := odd_div (n := s.natAbs) (by omega)
              obtain ⟨t, ht⟩ : ∃ t, t = tz s.natAbs := ⟨_, rfl⟩
              rw [← ht] at h1 h2 ⊢
              refine .inr ⟨h0, h1.1.symm, h1.2.1.symm, ?_⟩
              have hs : s = sg (decide (s < 0)) (s.natAbs / 2 ^ t) * 2 ^ t := by rw [← sg_pow, ← h2, sg_of]
              rw [← h1.1]
              have hd : s / 2 ^ t = sg (decide (s < 0)) (s.natAbs / 2 ^ t) := by
                conv => lhs; rw [hs]
                exact Int.mul_ediv_cancel _ (Int.ne_of_gt (p2_pos t))
              rw [hd]
              exact hs
theorem told_Vc {c s k x y : Int} (hk : -c ≤ k) (h : toldS s k = .tup [DY x y, .val (.int .i64 0)]) : Vc c x y = Vc c s k := by
  rcases told_inv h with ⟨h1, h2, h3⟩ | ⟨h1, h2, h3, h4⟩
  · rw [h1, h2]; unfold Vc; rw [Int.zero_mul, Int.zero_mul]
  · obtain ⟨t, ht⟩ : ∃ t, t = tz s.natAbs := ⟨_, rfl⟩
    rw [← ht] at h3 h4
    unfold Vc
    rw [h3, show (k + (t : Int) + c).toNat = t + (k + c).toNat by omega, Int.pow_add, ← Int.mul_assoc, ← h4]
def An.neg (a : An) : An := ⟨-a.x, a.y, a.c⟩
theorem An.neg_d (a : An) : a.neg.d = a.d.neg := rfl
theorem dyR_an (n e : Int) : toAn (dyR n e) = ⟨n, e, 0⟩ := toAn_tup n e 0
theorem dyE_an (c : Int) : toAn (dyE c) = ⟨0, 0, c⟩ := toAn_tup 0 0 c
theorem told_neg (s k : Int) : toAn (toldS (-s) k) = (toAn (toldS s k)).neg := by
  have hE : (⟨0, 0, 5⟩ : An) = An.neg ⟨0, 0, 5⟩ := rfl
  unfold toldS
  rw [Int.natAbs_neg]
  by_cases h0 : s = 0
  · rw [if_pos h0, if_pos (by omega), dyE_an]; rfl
  · rw [if_neg h0, if_neg (by omega)]
    repeat' split
    all_goals first
      | (rw [dyE_an]; exact hE)
      | (rw [dyR_an, dyR_an]
         obtain ⟨h2, _⟩ := odd_div (n := s.natAbs) (by omega)
         obtain ⟨t, ht⟩ : ∃ t, t = tz s.natAbs := ⟨_, rfl⟩
         rw [← ht] at h2 ⊢
         have hs : s = sg (decide (s < 0)) (s.natAbs / 2 ^ t) * 2 ^ t := by rw [← sg_pow, ← h2, sg_of]
         have hp : (2 : Int) ^ t ≠ 0 := Int.ne_of_gt (p2_pos t)
         have hd : (-s) / 2 ^ t = -(s / 2 ^ t) := by
           obtain ⟨z, hz⟩ : ∃ z, z = sg (decide (s < 0)) (s.natAbs / 2 ^ t) := ⟨_, rfl⟩
           rw [← hz] at hs
           rw [hs, ← Int.neg_mul, Int.mul_ediv_cancel _ hp, Int.mul_ediv_cancel _ hp]
         rw [hd]
         rfl)
theorem whole_neg (n k : Int) (up : Bool) : wholeS (-n) k up = -wholeS n k (!up) := by
  cases up
  · show (-n) / 2 ^ k.toNat = -(-((-n) / 2 ^ k.toNat)); rw [Int.neg_neg]
  · show -((- -n) / 2 ^ k.toNat) = -(n / 2 ^ k.toNat); rw [Int.neg_neg]
theorem cuts_neg (n e p : Int) (up : Bool) : toAn (cutsS (-n) e p up) = (toAn (cutsS n e p (!up))).neg := by
  unfold cutsS cutS
  rw [Int.natAbs_neg, whole_neg]
  repeat' split
  · rw [dyE_an]; rfl
  · rw [dyE_an]; rfl
  · exact told_neg _ _
  · exact told_neg _ _
theorem mul_neg (a c : D2) : toAn (mulP a.neg c) = (toAn (mulP a c)).neg := by
  unfold mulP mulS D2.neg
  rw [Int.neg_mul, Int.natAbs_neg]
  split
  · rw [dyE_an]; rfl
  · exact told_neg _ _
/-! ### cut down lies below, cut up above -/
theorem cut_low {a : D2} (h : a.good) {p : Int} (hp : 1 ≤ p ∧ p ≤ 70000) (hc : (toAn (cutsS a.1 a.2 p false)).c = 0) : (toAn (cutsS a.1 a.2 p false)).d.v ≤ a.v := by
  obtain ⟨h1, _, _⟩ := (cuts_ans a hp false).eq
  obtain ⟨u, hu⟩ : ∃ u, u = toAn (cutsS a.1 a.2 p false) := ⟨_, rfl⟩
  rw [← hu] at h1 hc ⊢
  unfold An.pv at h1
  rw [hc] at h1
  by_cases hb : (bl a.1.natAbs : Int) ≤ p
  · rw [cuts_same false h hp hb] at h1
    have := tup_inj h1
    show VV u.x u.y ≤ VV a.1 a.2
    rw [← this.1, ← this.2.1]
    exact Int.le_refl _
  · rw [cuts_down hp (by omega)] at h1
    have e1 := h.2.1
    have hv := told_Vc (c := 1048576) (by omega) h1
    obtain ⟨j, hj⟩ : ∃ j : Nat, (j : Int) = (bl a.1.natAbs : Int) - p := ⟨((bl a.1.natAbs : Int) - p).toNat, by omega⟩
    rw [← hj, Int.toNat_natCast] at hv
    show Vc 1048576 u.x u.y ≤ Vc 1048576 a.1 a.2
    rw [hv]
    unfold Vc
    rw [show (a.2 + (j : Int) + 1048576).toNat = j + (a.2 + 1048576).toNat by omega, Int.pow_add, ← Int.mul_assoc]
    exact mr (Int.ediv_mul_le _ (Int.ne_of_gt (p2_pos j))) (Int.le_of_lt (p2_pos _))
theorem least4_le (a b c d : D2) : (least4 a b c d).v ≤ (great4 a b c d).v := by rw [least4_v, great4_v]; omega
theorem An.d_good {p : PV} (h : Ans p) : (toAn p).d.good := h.eq.2.1
/-! ### sums -/
theorem add_V {a c : D2} (h : a.good) (k : c.good) (hc : (toAn (addP a c)).c = 0) : (toAn (addP a c)).d.v = a.v + c.v := by
  obtain ⟨h1, _, _⟩ := (add_ans h k).eq
  obtain ⟨u, hu⟩ : ∃ u, u = toAn (addP a c) := ⟨_, rfl⟩
  rw [← hu] at h1 hc ⊢
  unfold An.pv at h1
  rw [hc] at h1
  have e1 := h.2.1
  have e2 := k.2.1
  have hE : dyE 5 ≠ .tup [DY u.x u.y, .val (.int .i64 0)] := fun hh => absurd (tup_inj hh).2.2 (by decide)
  show VV u.x u.y = VV a.1 a.2 + VV c.1 c.2
  unfold addP addS at h1
  by_cases ha : a.1 = 0
  · rw [if_pos ha] at h1
    have := tup_inj h1
    rw [← this.1, ← this.2.1, ha, VV_zero, Int.zero_add]
  · rw [if_neg ha] at h1
    by_cases hb : c.1 = 0
    · rw [if_pos hb] at h1
      have := tup_inj h1
      rw [← this.1, ← this.2.1, hb, VV_zero, Int.add_zero]
    · rw [if_neg hb] at h1
      split at h1
      · exact absurd h1 hE
      · split at h1
        · exact absurd h1 hE
        · have hv := told_Vc (c := 1048576) (by omega) h1
          have hv2 : VV u.x u.y = VV (a.1 * 2 ^ (a.2 - min a.2 c.2).toNat + c.1 * 2 ^ (c.2 - min a.2 c.2).toNat) (min a.2 c.2) := hv
          rw [hv2, VV_add, ← VV_low (by omega) (by omega), ← VV_low (by omega) (by omega)]
end Go.Proofs.YtpjbgmafnheomaaGreatDoor.Sim
namespace Go.Proofs.YtpjbgmafnheomaaGreatDoor.Sim
open Go.RowKit
set_option linter.unusedVariables false
set_option linter.unusedSimpArgs false
set_option maxRecDepth 10000
set_option maxHeartbeats 8000000
variable {G : List (Nat × List Value)}
end Go.Proofs.YtpjbgmafnheomaaGreatDoor.Sim
namespace Go.Proofs.YtpjbgmafnheomaaGreatDoor.Sim
open Go.RowKit
set_option linter.unusedVariables false
set_option linter.unusedSimpArgs false
/-! ### products and quotients by their values -/
theorem Vc_two {n e : Int} (he : -1048576 ≤ e) : Vc 2097152 n e = VV n e * 2 ^ 1048576 := by
  unfold Vc VV
  rw [Int.mul_assoc, ← Int.pow_add]
  congr 2
  omega
theorem mul_V {a c : D2} (h : a.good) (k : c.good) (hc : (toAn (mulP a c)).c = 0) : (toAn (mulP a c)).d.v * 2 ^ 1048576 = a.v * c.v := by
  obtain ⟨h1, g, _⟩ := (mul_ans a c).eq
  obtain ⟨u, hu⟩ : ∃ u, u = toAn (mulP a c) := ⟨_, rfl⟩
  rw [← hu] at h1 hc g ⊢
  unfold An.pv at h1
  rw [hc] at h1
  have e1 := h.2.1
  have e2 := k.2.1
  have hE : dyE 5 ≠ .tup [DY u.x u.y, .val (.int .i64 0)] := fun hh => absurd (tup_inj hh).2.2 (by decide)
  unfold mulP mulS at h1
  split at h1
  · exact absurd h1 hE
  · have hv := told_Vc (c := 2097152) (by omega) h1
    show VV u.x u.y * 2 ^ 1048576 = VV a.1 a.2 * VV c.1 c.2
    rw [← Vc_two g.2.1, hv, Vc_mul e1 e2]
theorem cut_Vc {s E p c : Int} {x y : Int} (hE : -c ≤ E) (h : cutS s E p false = .tup [DY x y, .val (.int .i64 0)]) : Vc c x y ≤ Vc c s E := by
  unfold cutS at h
  split at h
  · exact Int.le_of_eq (told_Vc hE h)
  · rename_i hb
    obtain ⟨j, hj⟩ : ∃ j : Nat, (j : Int) = (bl s.natAbs : Int) - p := ⟨((bl s.natAbs : Int) - p).toNat, by omega⟩
    rw [← hj] at h
    have hv := told_Vc (c := c) (by omega) h
    rw [hv]
    have hw : wholeS s (j : Int) false = s / 2 ^ j := by show s / 2 ^ ((j : Int)).toNat = _; rw [Int.toNat_natCast]
    rw [hw]
    unfold Vc
    rw [show (E + (j : Int) + c).toNat = j + (E + c).toNat by omega, Int.pow_add, ← Int.mul_assoc]
    exact mr (Int.ediv_mul_le _ (Int.ne_of_gt (p2_pos j))) (Int.le_of_lt (p2_pos _))
theorem quo_low {a b : D2} (h : a.good) (g : b.good) (hb : 0 < b.1) {p : Int} (hp : 1 ≤ p ∧ p ≤ 70000) (hc : (toAn (quoP a b p false)).c = 0) : (toAn (quoP a b p false)).d.v * b.v ≤ a.v * 2 ^ 1048576 := by
  obtain ⟨h1, gu, _⟩ := (quo_ans (a := a) (b := b) hp (by omega) false).eq
  obtain ⟨u, hu⟩ : ∃ u, u = toAn (quoP a b p false) := ⟨_, rfl⟩
  rw [← hu] at h1 hc gu ⊢
  unfold An.pv at h1
  rw [hc] at h1
  have hE : dyE 5 ≠ .tup [DY u.x u.y, .val (.int .i64 0)] := fun hh => absurd (tup_inj hh).2.2 (by decide)
  have e1 := h.2.1
  have e2 := g.2.1
  have e3 := g.2.2.1
  have e4 := gu.2.1
  unfold quoP quoS at h1
  rw [if_neg (by omega), if_neg (by omega), if_neg (by omega)] at h1
  split at h1
  · exact absurd h1 hE
  · rename_i l1
    split at h1
    · exact absurd h1 hE
    · rename_i l2
      have hbl := bl_L64 b.1.natAbs
      have hk : quoK a.1 b.1 p 1 = max 0 (p + 1 + bl b.1.natAbs - bl a.1.natAbs) := rfl
      obtain ⟨k, hkk⟩ : ∃ k : Nat, (k : Int) = quoK a.1 b.1 p 1 := ⟨(quoK a.1 b.1 p 1).toNat, by omega⟩
      rw [← hkk, Int.toNat_natCast] at h1
      obtain ⟨c, hcc⟩ : ∃ c : Int, c = 4194304 := ⟨_, rfl⟩
      have hv := cut_Vc (c := c) (by omega) h1
      obtain ⟨s, hs⟩ : ∃ s, s = docQ a.1 b.1 k false := ⟨_, rfl⟩
      have hsm : s * b.1 ≤ a.1 * 2 ^ k := by
        rw [hs]
        show (a.1 * 2 ^ k).fdiv b.1 * b.1 ≤ a.1 * 2 ^ k
        rw [Int.fdiv_eq_ediv_of_nonneg _ (by omega)]
        exact Int.ediv_mul_le _ (by omega)
      rw [← hs] at hv
      -- everything in parts of 2^-c
      have k1 : u.x * 2 ^ (u.y + c).toNat * b.1 ≤ a.1 * 2 ^ (a.2 - b.2 + c).toNat := by
        unfold Vc at hv
        have m1 := mr hv (Int.le_of_lt hb)
        refine Int.le_trans m1 ?_
        rw [Int.mul_right_comm]
        have m2 := mr hsm (Int.le_of_lt (p2_pos (a.2 - b.2 - (k : Int) + c).toNat))
        refine Int.le_trans m2 ?_
        rw [Int.mul_assoc, ← Int.pow_add, show k + (a.2 - b.2 - (k : Int) + c).toNat = (a.2 - b.2 + c).toNat by omega]
        exact Int.le_refl _
      have k2 := mr k1 (Int.le_of_lt (p2_pos (b.2 + 2097152).toNat))
      have t1 : (VV u.x u.y * VV b.1 b.2) * 2 ^ c.toNat = u.x * 2 ^ (u.y + c).toNat * b.1 * 2 ^ (b.2 + 2097152).toNat := by
        have r : u.x * 2 ^ (u.y + c).toNat * b.1 * 2 ^ (b.2 + 2097152).toNat = u.x * b.1 * 2 ^ ((u.y + c).toNat + (b.2 + 2097152).toNat) := by
          rw [Int.mul_right_comm u.x, Int.mul_assoc, ← Int.pow_add]
        rw [r, Vc_mul e4 e2]
        unfold Vc
        rw [Int.mul_assoc, ← Int.pow_add, show (u.y + b.2 + 2097152).toNat + c.toNat = (u.y + c).toNat + (b.2 + 2097152).toNat by omega]
      have t2 : (VV a.1 a.2 * 2 ^ 1048576) * 2 ^ c.toNat = a.1 * 2 ^ (a.2 - b.2 + c).toNat * 2 ^ (b.2 + 2097152).toNat := by
        rw [← Vc_two e1]
        unfold Vc
        rw [Int.mul_assoc, ← Int.pow_add, Int.mul_assoc a.1, ← Int.pow_add, show (a.2 + 2097152).toNat + c.toNat = (a.2 - b.2 + c).toNat + (b.2 + 2097152).toNat by omega]
      show VV u.x u.y * VV b.1 b.2 ≤ VV a.1 a.2 * 2 ^ 1048576
      refine Int.le_of_mul_le_mul_right ?_ (p2_pos c.toNat)
      rw [t1, t2]
      exact k2
theorem docQ_neg (n m : Int) (s : Nat) (up : Bool) : docQ (-n) m s up = -docQ n m s (!up) := by
  cases up
  · show ((-n) * 2 ^ s).fdiv m = - -((-(n * 2 ^ s)).fdiv m)
    rw [Int.neg_neg, Int.neg_mul]
  · show -((-((-n) * 2 ^ s)).fdiv m) = -((n * 2 ^ s).fdiv m)
    rw [Int.neg_mul, Int.neg_neg]
theorem cutS_neg (n e p : Int) (up : Bool) : toAn (cutS (-n) e p up) = (toAn (cutS n e p (!up))).neg := by
  unfold cutS
  rw [Int.natAbs_neg, whole_neg]
  split
  · exact told_neg _ _
  · exact told_neg _ _
theorem quo_neg1 (a b : D2) (p : Int) (up : Bool) (hp : 1 ≤ p ∧ p ≤ 70000) (h0 : b.1 ≠ 0) : toAn (quoP a.neg b p up) = (toAn (quoP a b p (!up))).neg := by
  have e1 : quoK (-a.1) b.1 p 1 = quoK a.1 b.1 p 1 := by unfold quoK; rw [Int.natAbs_neg]
  have en : L64 (-a.1).natAbs = L64 a.1.natAbs := by rw [Int.natAbs_neg]
  show toAn (quoS (-a.1) a.2 b.1 b.2 p up) = (toAn (quoS a.1 a.2 b.1 b.2 p (!up))).neg
  by_cases hl : L64 a.1.natAbs ≤ 4096 ∧ L64 b.1.natAbs ≤ 4096
  · rw [quoS_ok hp h0 (by omega) hl.2, quoS_ok hp h0 hl.1 hl.2, e1, docQ_neg]
    exact cutS_neg _ _ _ _
  · rw [quoS_5 hp h0 (by omega), quoS_5 hp h0 (by omega), dyE_an]
    rfl
theorem quo_high {a b : D2} (h : a.good) (g : b.good) (hb : 0 < b.1) {p : Int} (hp : 1 ≤ p ∧ p ≤ 70000) (hc : (toAn (quoP a b p true)).c = 0) : a.v * 2 ^ 1048576 ≤ (toAn (quoP a b p true)).d.v * b.v := by
  have e := quo_neg1 a b p false hp (by omega)
  have h1 := quo_low (D2.neg_good h) g hb hp (by rw [e]; exact hc)
  rw [e, An.neg_d, D2.neg_v, D2.neg_v, Int.neg_mul, Int.neg_mul] at h1
  have : (!false) = true := rfl
  rw [this] at h1
  omega
end Go.Proofs.YtpjbgmafnheomaaGreatDoor.Sim
namespace Go.Proofs.YtpjbgmafnheomaaGreatDoor.Sim
open Go.RowKit
set_option linter.unusedVariables false
set_option linter.unusedSimpArgs false
theorem spR_inj {a b x y : D2} (h : spR a b = spR x y) (ha : a.good) (hx : x.good) (hb : b.good) (hy : y.good) : a = x ∧ b = y := by
  unfold spR SP at h
  simp only [PV.tup.injEq, PV.agg.injEq, List.cons.injEq, PV.val.injEq, Value.bool.injEq, PV.ws.injEq, Value.int.injEq, true_and, and_true] at h
  obtain ⟨h1, h2, h3, h4, h5, h6⟩ := h
  have k1 : DY a.1 a.2 = DY x.1 x.2 := by unfold DY; rw [h1, h2, h3]
  have k2 : DY b.1 b.2 = DY y.1 y.2 := by unfold DY; rw [h4, h5, h6]
  exact ⟨Prod.ext (DY_inj k1).1 (DY_inj k1).2, Prod.ext (DY_inj k2).1 (DY_inj k2).2⟩
theorem D2.sgn (a : D2) : (a.1 < 0 ↔ a.v < 0) ∧ (0 < a.1 ↔ 0 < a.v) := by
  have h := VV_sign (n := a.1) (e := a.2)
  unfold D2.v
  exact ⟨h.2.symm, h.1.symm⟩
/-- A quotient by a span above nought. -/
theorem quo_pos {a b c d : D2} (h : GoodS a b) (k : GoodS c d) (hc : 0 < c.1) {p : Int} (hp : 1 ≤ p ∧ p ≤ 70000) : spQuoPos a b c d p = spE 5 ∨ ∃ x y : D2, spQuoPos a b c d p = spR x y ∧ GoodS x y
    ∧ (x.v * c.v ≤ a.v * 2 ^ 1048576 ∨ x.v * d.v ≤ a.v * 2 ^ 1048576) ∧ (b.v * 2 ^ 1048576 ≤ y.v * c.v ∨ b.v * 2 ^ 1048576 ≤ y.v * d.v) := by
  have sc := D2.sgn c
  have sd := D2.sgn d
  have sa := D2.sgn a
  have sb := D2.sgn b
  have hcd := k.2.2
  have hab := h.2.2
  have hcv : 0 < c.v := sc.2.1 hc
  have hdv : 0 < d.v := by omega
  have hd1 : 0 < d.1 := sd.2.2 hdv
  unfold spQuoPos
  obtain ⟨un, hun⟩ : ∃ r, r = (if a.1 < 0 then c else d) := ⟨_, rfl⟩
  obtain ⟨ov, hov⟩ : ∃ r, r = (if b.1 < 0 then d else c) := ⟨_, rfl⟩
  rw [← hun, ← hov]
  have u1 : un.good ∧ 0 < un.1 := by rw [hun]; split <;> first | exact ⟨k.1, hc⟩ | exact ⟨k.2.1, hd1⟩
  have u2 : ov.good ∧ 0 < ov.1 := by rw [hov]; split <;> first | exact ⟨k.1, hc⟩ | exact ⟨k.2.1, hd1⟩
  have l1 := quo_low h.1 u1.1 u1.2 hp
  have l2 := quo_high h.2.1 u2.1 u2.2 hp
  have g1 := An.d_good (quo_ans (a := a) (b := un) hp (by omega) false)
  have g2 := An.d_good (quo_ans (a := b) (b := ov) hp (by omega) true)
  obtain ⟨u, hu⟩ : ∃ u, u = toAn (quoP a un p false) := ⟨_, rfl⟩
  obtain ⟨v, hv⟩ : ∃ v, v = toAn (quoP b ov p true) := ⟨_, rfl⟩
  rw [← hu] at l1 g1 ⊢
  rw [← hv] at l2 g2 ⊢
  by_cases hz : u.c = 0 ∧ v.c = 0
  · refine .inr ⟨u.d, v.d, bothA_ok hz.1 hz.2, ⟨g1, g2, ?_⟩, ?_, ?_⟩
    · have m1 := l1 hz.1
      have m2 := l2 hz.2
      obtain ⟨C, hC⟩ : ∃ C : Int, C = 2 ^ 1048576 := ⟨_, rfl⟩
      have hC0 : 0 < C := hC ▸ p2_pos 1048576
      rw [← hC] at m1 m2
      have ab := mr hab (Int.le_of_lt hC0)
      obtain ⟨X, hX⟩ : ∃ X, X = u.d.v := ⟨_, rfl⟩
      obtain ⟨Y, hY⟩ : ∃ Y, Y = v.d.v := ⟨_, rfl⟩
      rw [← hX] at m1 ⊢
      rw [← hY] at m2 ⊢
      rcases Int.lt_or_le Y X with hlt | hle
      · exfalso
        by_cases ha : a.1 < 0
        · rw [if_pos ha] at hun
          subst hun
          have hav := sa.1.1 ha
          have hx0 : X < 0 := by
            rcases Int.lt_or_le X 0 with q | q
            · exact q
            · exfalso
              have n1 := Int.mul_nonneg q (Int.le_of_lt hcv)
              have n2 := Int.mul_neg_of_neg_of_pos hav hC0
              omega
          by_cases hb : b.1 < 0
          · rw [if_pos hb] at hov
            subst hov
            have n1 := mln hcd (show Y ≤ 0 by omega)
            have n2 := Int.mul_lt_mul_of_pos_right hlt hcv
            omega
          · rw [if_neg hb] at hov
            subst hov
            have hbv : 0 ≤ b.v := by have := sb.1; omega
            have n1 := Int.mul_nonneg hbv (Int.le_of_lt hC0)
            have n2 := Int.mul_neg_of_neg_of_pos (show Y < 0 by omega) hcv
            omega
        · rw [if_neg ha] at hun
          subst hun
          have hav : 0 ≤ a.v := by have := sa.1; omega
          have hb : ¬ b.1 < 0 := fun hh => by have := sb.1.1 hh; omega
          rw [if_neg hb] at hov
          subst hov
          have n0 := Int.mul_nonneg hav (Int.le_of_lt hC0)
          have hy0 : 0 ≤ Y := by
            rcases Int.lt_or_le Y 0 with q | q
            · exfalso
              have n2 := Int.mul_neg_of_neg_of_pos q hcv
              omega
            · exact q
          have n1 := ml hcd (show 0 ≤ X by omega)
          have n2 := Int.mul_lt_mul_of_pos_right hlt hcv
          omega
      · exact hle
    · have m1 := l1 hz.1
      rw [hun] at m1
      split at m1
      · exact .inl m1
      · exact .inr m1
    · have m2 := l2 hz.2
      rw [hov] at m2
      split at m2
      · exact .inr m2
      · exact .inl m2
  · exact .inl (bothA_no (by omega))
theorem quo_res {a b c d : D2} (h : GoodS a b) (k : GoodS c d) {p : Int} (hp : 1 ≤ p ∧ p ≤ 70000) : (∃ e, spQuo a b c d p = spE e ∧ (e = 4 ∨ e = 5)) ∨ ∃ x y : D2, spQuo a b c d p = spR x y ∧ GoodS x y
    ∧ (x.v * c.v ≤ a.v * 2 ^ 1048576 ∨ x.v * d.v ≤ a.v * 2 ^ 1048576 ∨ y.v * c.v ≤ a.v * 2 ^ 1048576 ∨ y.v * d.v ≤ a.v * 2 ^ 1048576)
    ∧ (b.v * 2 ^ 1048576 ≤ y.v * c.v ∨ b.v * 2 ^ 1048576 ≤ y.v * d.v ∨ b.v * 2 ^ 1048576 ≤ x.v * c.v ∨ b.v * 2 ^ 1048576 ≤ x.v * d.v) := by
  unfold spQuo
  by_cases hc : 0 < c.1
  · rw [if_pos hc]
    rcases quo_pos h k hc hp with hE | ⟨x, y, h1, h2, h3, h4⟩
    · exact .inl ⟨5, hE, .inr rfl⟩
    · exact .inr ⟨x, y, h1, h2, by rcases h3 with h3 | h3 <;> simp only [h3, true_or, or_true], by rcases h4 with h4 | h4 <;> simp only [h4, true_or, or_true]⟩
  · rw [if_neg hc]
    by_cases hd : d.1 < 0
    · rw [if_pos hd]
      rcases quo_pos h.neg k.neg (show 0 < d.neg.1 by show 0 < -d.1; omega) hp with hE | ⟨x, y, h1, h2, h3, h4⟩
      · exact .inl ⟨5, hE, .inr rfl⟩
      · simp only [D2.neg_v, Int.mul_neg, Int.neg_mul] at h3 h4
        refine .inr ⟨x, y, h1, h2, ?_, ?_⟩
        · rcases h4 with h4 | h4
          · exact .inr (.inr (.inr (by omega)))
          · exact .inr (.inr (.inl (by omega)))
        · rcases h3 with h3 | h3
          · exact .inr (.inr (.inr (by omega)))
          · exact .inr (.inr (.inl (by omega)))
    · rw [if_neg hd]
      exact .inl ⟨4, rfl, .inl rfl⟩
theorem le_2C {a b : Int} (h : a * 2 ^ 1048576 ≤ b * 2 ^ 1048576) : a ≤ b := Int.le_of_mul_le_mul_right h (p2_pos 1048576)
end Go.Proofs.YtpjbgmafnheomaaGreatDoor.Sim
namespace Go.Proofs.YtpjbgmafnheomaaGreatDoor.Sim
open Go.RowKit
set_option linter.unusedVariables false
set_option linter.unusedSimpArgs false
set_option maxRecDepth 10000
set_option maxHeartbeats 8000000
variable {G : List (Nat × List Value)}
end Go.Proofs.YtpjbgmafnheomaaGreatDoor.Sim
namespace Go.Proofs.YtpjbgmafnheomaaGreatDoor.Sim
open Go.RowKit
set_option linter.unusedVariables false
set_option linter.unusedSimpArgs false
set_option maxRecDepth 10000
set_option maxHeartbeats 8000000
variable {G : List (Nat × List Value)}
theorem q_holds {a b d : D2} (h : GoodS a b) (k : d.good) : FC Tryz.prog G 37 [SP a b, DY d.1 d.2] (· = .val (.bool (hasV a b d))) := by
  have f1 := q_below (G := G) k h.1
  have f2 := q_below (G := G) h.2.1 k
  have e : hasV a b d = (!decide (d.v < a.v) && !decide (b.v < d.v)) := by
    unfold hasV
    have n1 := not_dec d.v a.v
    have n2 := not_dec b.v d.v
    rw [Bool.true_and, Bool.true_and] at n1 n2
    rw [n1, n2]
  rw [e]
  clear e
  by_cases q : d.v < a.v
  · rw [decide_eq_true q]
    refine FC.intro (X := XX) tok Tryz.func37 rfl Tryz.ntmps37 (by rw [Tryz.results37]) (by kernel_rfl) rfl ?_; intro F hG hO
    rw [← hG] at f1 f2
    repeat' ((try (conv => whnf)); first
  | ((with_reducible refine cg ?_); first | refine ceq f1 rfl ?_ | refine ceq f2 rfl ?_)
  
  | with_reducible first
    | refine Chk.mk' (by first | omega | exact trivial | (simp only [List.length_append, List.length_set, List.length_replicate, List.length_take, List.length_drop, List.length_cons, List.length_nil, List.length_map]; omega)) ?_
    | refine wrap_g (by dsimp only [inR]; omega) ?_
    | refine idx_g (by omega) ?_ | refine idx_l _ rfl (by decide) ?_ | refine BothG.mk ?_ ?_ | refine fork_tt ?_ | refine fork_ff ?_
    | (refine fork_e (c := true) (by decide) ?_; refine fork_tt ?_) | (refine fork_e (c := false) (by decide) ?_; refine fork_ff ?_)
    | refine fork_t (by omega) ?_ | refine fork_f (by omega) ?_ | (refine fork_d ?_ ?_ <;> intro hc) | refine fork_n ?_ | (refine fork_b ?_ ?_ <;> intro hc)
    | refine SlcG.mk (by omega) ?_ | refine MakG.mk (by dsimp only; omega) ?_
    | refine AppG.mk (by first | omega | (simp only [List.length_append, List.length_set, List.length_replicate, List.length_take, List.length_drop, List.length_cons, List.length_nil, List.length_map]; omega)) (by dsimp only [List.length_cons, List.length_nil]; omega) (by omega) ?_
    | refine div_g (by omega) (by omega) (by dsimp only [inR]; omega) ?_ | refine mod_g (by omega) (by omega) ?_
    | refine mask_g (m := 4294967296) 32 rfl rfl (by decide) (by omega) ?_ | refine shr_g (m := 4294967296) 32 rfl (by decide) (by omega) rfl ?_
    | refine fz_all (by omega) ?_ | (refine smk ?_ ?_; constructor))
    all_goals exact ⟨ret_e rfl⟩
  · rw [decide_eq_false q]
    refine FC.intro (X := XX) tok Tryz.func37 rfl Tryz.ntmps37 (by rw [Tryz.results37]) (by kernel_rfl) rfl ?_; intro F hG hO
    rw [← hG] at f1 f2
    repeat' ((try (conv => whnf)); first
  | ((with_reducible refine cg ?_); first | refine ceq f1 rfl ?_ | refine ceq f2 rfl ?_)
  
  | with_reducible first
    | refine Chk.mk' (by first | omega | exact trivial | (simp only [List.length_append, List.length_set, List.length_replicate, List.length_take, List.length_drop, List.length_cons, List.length_nil, List.length_map]; omega)) ?_
    | refine wrap_g (by dsimp only [inR]; omega) ?_
    | refine idx_g (by omega) ?_ | refine idx_l _ rfl (by decide) ?_ | refine BothG.mk ?_ ?_ | refine fork_tt ?_ | refine fork_ff ?_
    | (refine fork_e (c := true) (by decide) ?_; refine fork_tt ?_) | (refine fork_e (c := false) (by decide) ?_; refine fork_ff ?_)
    | refine fork_t (by omega) ?_ | refine fork_f (by omega) ?_ | (refine fork_d ?_ ?_ <;> intro hc) | refine fork_n ?_ | (refine fork_b ?_ ?_ <;> intro hc)
    | refine SlcG.mk (by omega) ?_ | refine MakG.mk (by dsimp only; omega) ?_
    | refine AppG.mk (by first | omega | (simp only [List.length_append, List.length_set, List.length_replicate, List.length_take, List.length_drop, List.length_cons, List.length_nil, List.length_map]; omega)) (by dsimp only [List.length_cons, List.length_nil]; omega) (by omega) ?_
    | refine div_g (by omega) (by omega) (by dsimp only [inR]; omega) ?_ | refine mod_g (by omega) (by omega) ?_
    | refine mask_g (m := 4294967296) 32 rfl rfl (by decide) (by omega) ?_ | refine shr_g (m := 4294967296) 32 rfl (by decide) (by omega) rfl ?_
    | refine fz_all (by omega) ?_ | (refine smk ?_ ?_; constructor))
    all_goals exact ⟨ret_e rfl⟩
end Go.Proofs.YtpjbgmafnheomaaGreatDoor.Sim
namespace Go.Proofs.YtpjbgmafnheomaaGreatDoor.Sim
open Go.RowKit
set_option linter.unusedVariables false
set_option linter.unusedSimpArgs false
set_option maxRecDepth 10000
set_option maxHeartbeats 8000000
variable {G : List (Nat × List Value)}
theorem s_within {a b m n : D2} (h : GoodS a b) (k : GoodS m n) (h1 : m.v ≤ a.v) (h2 : b.v ≤ n.v) : FC Tryz.prog G 21 [SP a b, SP m n] (· = .val (.bool true)) := by
  have hab := h.2.2
  have f1 := q_holds (G := G) k h.1
  have f2 := q_holds (G := G) k h.2.1
  have e1 : hasV m n a = true := by unfold hasV; rw [decide_eq_true (by omega), decide_eq_true (by omega)]; rfl
  have e2 : hasV m n b = true := by unfold hasV; rw [decide_eq_true (by omega), decide_eq_true (by omega)]; rfl
  rw [e1] at f1
  rw [e2] at f2
  refine FC.intro (X := XX) tok Tryz.func21 rfl Tryz.ntmps21 (by rw [Tryz.results21]) (by kernel_rfl) rfl ?_; intro F hG hO
  rw [← hG] at f1 f2
  repeat' ((try (conv => whnf)); first
  | ((with_reducible refine cg ?_); first | refine ceq f1 rfl ?_ | refine ceq f2 rfl ?_)
  
  | with_reducible first
    | refine Chk.mk' (by first | omega | exact trivial | (simp only [List.length_append, List.length_set, List.length_replicate, List.length_take, List.length_drop, List.length_cons, List.length_nil, List.length_map]; omega)) ?_
    | refine wrap_g (by dsimp only [inR]; omega) ?_
    | refine idx_g (by omega) ?_ | refine idx_l _ rfl (by decide) ?_ | refine BothG.mk ?_ ?_ | refine fork_tt ?_ | refine fork_ff ?_
    | (refine fork_e (c := true) (by decide) ?_; refine fork_tt ?_) | (refine fork_e (c := false) (by decide) ?_; refine fork_ff ?_)
    | refine fork_t (by omega) ?_ | refine fork_f (by omega) ?_ | (refine fork_d ?_ ?_ <;> intro hc) | refine fork_n ?_ | (refine fork_b ?_ ?_ <;> intro hc)
    | refine SlcG.mk (by omega) ?_ | refine MakG.mk (by dsimp only; omega) ?_
    | refine AppG.mk (by first | omega | (simp only [List.length_append, List.length_set, List.length_replicate, List.length_take, List.length_drop, List.length_cons, List.length_nil, List.length_map]; omega)) (by dsimp only [List.length_cons, List.length_nil]; omega) (by omega) ?_
    | refine div_g (by omega) (by omega) (by dsimp only [inR]; omega) ?_ | refine mod_g (by omega) (by omega) ?_
    | refine mask_g (m := 4294967296) 32 rfl rfl (by decide) (by omega) ?_ | refine shr_g (m := 4294967296) 32 rfl (by decide) (by omega) rfl ?_
    | refine fz_all (by omega) ?_ | (refine smk ?_ ?_; constructor))
  all_goals exact ⟨ret_e rfl⟩
end Go.Proofs.YtpjbgmafnheomaaGreatDoor.Sim
namespace Go.Proofs.YtpjbgmafnheomaaGreatDoor.Sim
open Go.RowKit
set_option linter.unusedVariables false
set_option linter.unusedSimpArgs false
theorem pow_half {P : Nat} (h : 1 ≤ P) : (2 : Int) ^ P = 2 ^ (P - 1) * 2 := by rw [← Int.pow_succ]; congr 1; omega
theorem abs_lt_pow {n : Int} {P : Nat} (h : bl n.natAbs ≤ P) : -(2 ^ P) < n ∧ n < 2 ^ P := by
  have h1 := lt_bl n.natAbs
  have h2 : 2 ^ bl n.natAbs ≤ 2 ^ P := Nat.pow_le_pow_right (by decide) h
  have h3 : ((2 ^ P : Nat) : Int) = 2 ^ P := by simp
  omega
theorem abs_ge_pow {s : Int} {m : Nat} (h : m < bl s.natAbs) : s ≤ -(2 ^ m) ∨ 2 ^ m ≤ s := by
  have h1 := le_of_bl (n := s.natAbs) (fun hh => by rw [hh, bl_zero] at h; omega)
  have h2 : 2 ^ m ≤ 2 ^ (bl s.natAbs - 1) := Nat.pow_le_pow_right (by decide) (by omega)
  have h3 : ((2 ^ m : Nat) : Int) = 2 ^ m := by simp
  omega
/-- No number of so many bits lies between what is cut and what it was cut from. -/
theorem cutS_max {s E p c x y n e : Int} (hE : -c ≤ E) (hp : 1 ≤ p) (h : cutS s E p false = .tup [DY x y, .val (.int .i64 0)]) (he : -c ≤ e) (hn : (bl n.natAbs : Int) ≤ p) (hz : Vc c n e ≤ Vc c s E) : Vc c n e ≤ Vc c x y := by
  unfold cutS at h
  split at h
  · rw [told_Vc hE h]; exact hz
  · rename_i hb
    obtain ⟨j, hj⟩ : ∃ j : Nat, (j : Int) = (bl s.natAbs : Int) - p := ⟨((bl s.natAbs : Int) - p).toNat, by omega⟩
    obtain ⟨P, hP⟩ : ∃ P : Nat, (P : Int) = p := ⟨p.toNat, by omega⟩
    rw [← hj] at h
    have hw : wholeS s (j : Int) false = s / 2 ^ j := by show s / 2 ^ ((j : Int)).toNat = _; rw [Int.toNat_natCast]
    rw [hw] at h
    rw [told_Vc (c := c) (by omega) h]
    obtain ⟨q, hq⟩ : ∃ q, q = s / 2 ^ j := ⟨_, rfl⟩
    rw [← hq]
    have hpj := p2_pos j
    have hqd := Int.mul_ediv_add_emod s (2 ^ j)
    have hm0 := Int.emod_nonneg s (Int.ne_of_gt hpj)
    have hm1 := Int.emod_lt_of_pos s hpj
    rw [← hq] at hqd
    unfold Vc at hz ⊢
    by_cases hej : E + (j : Int) ≤ e
    · have e1 : (e + c).toNat = (e - E - (j : Int)).toNat + (j + (E + c).toNat) := by omega
      have e2 : (E + (j : Int) + c).toNat = j + (E + c).toNat := by omega
      rw [e1, Int.pow_add, ← Int.mul_assoc, Int.pow_add, ← Int.mul_assoc] at hz
      have k1 := (mul_le_iff (p2_pos (E + c).toNat)).1 hz
      have k2 : n * 2 ^ (e - E - (j : Int)).toNat ≤ q := by rw [hq]; exact Int.le_ediv_of_mul_le hpj k1
      rw [e1, e2, Int.pow_add, ← Int.mul_assoc]
      exact mr k2 (Int.le_of_lt (p2_pos _))
    · have hP1 : 1 ≤ P := by omega
      have hl := abs_lt_pow (n := n) (P := P) (by omega)
      have hh := pow_half hP1
      -- 2^P 2^(e+c) is at most 2^(P-1) 2^(E+j+c)
      have k1 : (2 : Int) ^ P * 2 ^ (e + c).toNat ≤ 2 ^ (P - 1) * 2 ^ (E + (j : Int) + c).toNat := by
        rw [hh, Int.mul_assoc]
        refine ml ?_ (Int.le_of_lt (p2_pos _))
        have : (2 : Int) * 2 ^ (e + c).toNat = 2 ^ ((e + c).toNat + 1) := by rw [Int.pow_succ, Int.mul_comm]
        rw [this]
        have h1 : (2 : Nat) ^ ((e + c).toNat + 1) ≤ 2 ^ (E + (j : Int) + c).toNat := Nat.pow_le_pow_right (by decide) (by omega)
        have h2 : ∀ k : Nat, ((2 ^ k : Nat) : Int) = 2 ^ k := fun k => by simp
        rw [← h2, ← h2]
        omega
      have k2 := Int.mul_lt_mul_of_pos_right hl.2 (p2_pos (e + c).toNat)
      have k3 := Int.mul_lt_mul_of_pos_right hl.1 (p2_pos (e + c).toNat)
      rw [Int.neg_mul] at k3
      have e2 : (E + (j : Int) + c).toNat = j + (E + c).toNat := by omega
      rcases abs_ge_pow (s := s) (m := P - 1 + j) (by omega) with hs | hs
      · exfalso
        have m1 := mr hs (Int.le_of_lt (p2_pos (E + c).toNat))
        rw [Int.neg_mul, Int.pow_add, Int.mul_assoc, ← Int.pow_add, ← e2] at m1
        omega
      · have m1 : (2 : Int) ^ (P - 1) ≤ q := by
          rw [hq]
          refine Int.le_ediv_of_mul_le hpj ?_
          rw [← Int.pow_add]
          exact hs
        have m2 := mr m1 (Int.le_of_lt (p2_pos (E + (j : Int) + c).toNat))
        omega
theorem cutS_bits {s E p x y : Int} (hp : 1 ≤ p) (g : Good x y) (h : cutS s E p false = .tup [DY x y, .val (.int .i64 0)]) : (bl x.natAbs : Int) ≤ p := by
  by_cases hx : x = 0
  · rw [hx, show Int.natAbs 0 = 0 from rfl, bl_zero]; omega
  have hodd := g.2.2.2.2 hx
  have key : ∀ {t k : Int}, toldS t k = .tup [DY x y, .val (.int .i64 0)] → x.natAbs ≤ t.natAbs := fun {t k} ht => by
    rcases told_inv ht with ⟨h1, h2, _⟩ | ⟨h1, _, _, h4⟩
    · exact absurd h2 hx
    · rw [h4, abs_shl]
      exact Nat.le_mul_of_pos_right _ (Nat.pow_pos (by decide))
  unfold cutS at h
  split at h
  · have := bl_mono (key h)
    omega
  · rename_i hb
    have h1 := key h
    obtain ⟨j, hj⟩ : ∃ j : Nat, (j : Int) = (bl s.natAbs : Int) - p := ⟨((bl s.natAbs : Int) - p).toNat, by omega⟩
    obtain ⟨P, hP⟩ : ∃ P : Nat, (P : Int) = p := ⟨p.toNat, by omega⟩
    rw [← hj] at h1
    have hw : wholeS s (j : Int) false = s / 2 ^ j := by show s / 2 ^ ((j : Int)).toNat = _; rw [Int.toNat_natCast]
    rw [hw] at h1
    have hpj := p2_pos j
    have hl := abs_lt_pow (n := s) (P := P + j) (by omega)
    have h3 : ((2 ^ P : Nat) : Int) = 2 ^ P := by simp
    have u1 : s / 2 ^ j < 2 ^ P := Int.ediv_lt_of_lt_mul hpj (by rw [← Int.pow_add]; exact hl.2)
    have u2 : -(2 ^ P) ≤ s / 2 ^ j := Int.le_ediv_of_mul_le hpj (by rw [Int.neg_mul, ← Int.pow_add]; omega)
    have h5 : x.natAbs ≤ 2 ^ P := by omega
    have := odd_bl hodd (m := P) (by omega) h5
    omega
/-- The greatest of at most p bits of which B holds; the least. -/
def QLo (p : Int) (B : D2 → Prop) (x : D2) : Prop := x.good ∧ (bl x.1.natAbs : Int) ≤ p ∧ B x ∧ ∀ z : D2, z.good → (bl z.1.natAbs : Int) ≤ p → B z → z.v ≤ x.v
def QHi (p : Int) (B : D2 → Prop) (x : D2) : Prop := x.good ∧ (bl x.1.natAbs : Int) ≤ p ∧ B x ∧ ∀ z : D2, z.good → (bl z.1.natAbs : Int) ≤ p → B z → x.v ≤ z.v
theorem QLo.mono {p : Int} {B B' : D2 → Prop} {x x' : D2} (h : QLo p B x) (k : QLo p B' x') (hB : B' x' → B x') : x'.v ≤ x.v := h.2.2.2 x' k.1 k.2.1 (hB k.2.2.1)
theorem QHi.mono {p : Int} {B B' : D2 → Prop} {x x' : D2} (h : QHi p B x) (k : QHi p B' x') (hB : B' x' → B x') : x.v ≤ x'.v := h.2.2.2 x' k.1 k.2.1 (hB k.2.2.1)
theorem bl_neg (a : D2) : bl a.neg.1.natAbs = bl a.1.natAbs := by unfold D2.neg; simp only [Int.natAbs_neg]
theorem QLo.neg {p : Int} {B B' : D2 → Prop} {x : D2} (h : QLo p B x) (hB : ∀ z, B' z ↔ B z.neg) : QHi p B' x.neg := by
  refine ⟨D2.neg_good h.1, by rw [bl_neg]; exact h.2.1, (hB _).2 (by rw [D2.neg_neg]; exact h.2.2.1), fun z g hb k => ?_⟩
  have := h.2.2.2 z.neg (D2.neg_good g) (by rw [bl_neg]; exact hb) ((hB z).1 k)
  rw [D2.neg_v] at this ⊢
  omega
theorem cuts_lo {a : D2} (h : a.good) {p : Int} (hp : 1 ≤ p ∧ p ≤ 70000) (hc : (toAn (cutsS a.1 a.2 p false)).c = 0) : QLo p (fun z => z.v ≤ a.v) (toAn (cutsS a.1 a.2 p false)).d := by
  have hl := cut_low h hp hc
  obtain ⟨h1, g, _⟩ := (cuts_ans a hp false).eq
  obtain ⟨u, hu⟩ : ∃ u, u = toAn (cutsS a.1 a.2 p false) := ⟨_, rfl⟩
  rw [← hu] at h1 hc g hl ⊢
  unfold An.pv at h1
  rw [hc] at h1
  unfold cutsS at h1
  rw [if_neg (by omega), if_neg (by omega)] at h1
  exact ⟨g, cutS_bits hp.1 g h1, hl, fun z gz bz hz => cutS_max (c := 1048576) h.2.1 hp.1 h1 gz.2.1 bz hz⟩
theorem cuts_hi {a : D2} (h : a.good) {p : Int} (hp : 1 ≤ p ∧ p ≤ 70000) (hc : (toAn (cutsS a.1 a.2 p true)).c = 0) : QHi p (fun z => a.v ≤ z.v) (toAn (cutsS a.1 a.2 p true)).d := by
  have e : toAn (cutsS a.neg.1 a.neg.2 p false) = (toAn (cutsS a.1 a.2 p true)).neg := cuts_neg a.1 a.2 p false
  have h1 := cuts_lo (D2.neg_good h) hp (by rw [e]; exact hc)
  rw [e, An.neg_d] at h1
  have h2 := h1.neg (B' := fun z => a.v ≤ z.v) (fun z => by
    show a.v ≤ z.v ↔ z.neg.v ≤ a.neg.v
    rw [D2.neg_v, D2.neg_v]; omega)
  rw [D2.neg_neg] at h2
  exact h2
/-- What outward answers. -/
theorem out_q {a b : D2} (h : a.good) (k : b.good) (hv : a.v ≤ b.v) {p : Int} (hp : 1 ≤ p ∧ p ≤ 70000) : outP a b p = spE 5 ∨ ∃ x y : D2, outP a b p = spR x y ∧ GoodS x y ∧ QLo p (fun z => z.v ≤ a.v) x ∧ QHi p (fun z => b.v ≤ z.v) y := by
  have l1 := cuts_lo h hp
  have l2 := cuts_hi k hp
  unfold outP
  obtain ⟨u, hu⟩ : ∃ u, u = toAn (cutsS a.1 a.2 p false) := ⟨_, rfl⟩
  obtain ⟨v, hv2⟩ : ∃ v, v = toAn (cutsS b.1 b.2 p true) := ⟨_, rfl⟩
  rw [← hu] at l1 ⊢
  rw [← hv2] at l2 ⊢
  by_cases hc : u.c = 0 ∧ v.c = 0
  · have q1 := l1 hc.1
    have q2 := l2 hc.2
    have w1 : u.d.v ≤ a.v := q1.2.2.1
    have w2 : b.v ≤ v.d.v := q2.2.2.1
    exact .inr ⟨u.d, v.d, bothA_ok hc.1 hc.2, ⟨q1.1, q2.1, by omega⟩, q1, q2⟩
  · exact .inl (bothA_no (by omega))
/-- Two answers, the one in the other where both answer. -/
def Grow (r r' : PV) : Prop := ∃ x y x' y' : D2, ∃ e f : Int, r = .tup [SP x y, .val (.int .i64 e)] ∧ r' = .tup [SP x' y', .val (.int .i64 f)] ∧ (e = 0 ∨ e = 4 ∨ e = 5) ∧ (f = 0 ∨ f = 4 ∨ f = 5) ∧ (e = 0 → f = 0 → GoodS x y ∧ GoodS x' y' ∧ x'.v ≤ x.v ∧ y.v ≤ y'.v)
theorem Grow.of {r r' : PV} (h : (∃ e, r = spE e ∧ (e = 4 ∨ e = 5)) ∨ ∃ x y : D2, r = spR x y ∧ GoodS x y) (k : (∃ e, r' = spE e ∧ (e = 4 ∨ e = 5)) ∨ ∃ x y : D2, r' = spR x y ∧ GoodS x y) (hw : ∀ x y x' y' : D2, r = spR x y → r' = spR x' y' → GoodS x y → GoodS x' y' → x'.v ≤ x.v ∧ y.v ≤ y'.v) : Grow r r' := by
  rcases h with ⟨e, h1, h2⟩ | ⟨x, y, h1, g1⟩ <;> rcases k with ⟨f, k1, k2⟩ | ⟨x', y', k1, g2⟩
  · exact ⟨_, _, _, _, e, f, h1, k1, by omega, by omega, fun a _ => by omega⟩
  · exact ⟨_, _, _, _, e, 0, h1, k1, by omega, by omega, fun a _ => by omega⟩
  · exact ⟨_, _, _, _, 0, f, h1, k1, by omega, by omega, fun _ a => by omega⟩
  · exact ⟨_, _, _, _, 0, 0, h1, k1, by omega, by omega, fun _ _ => ⟨g1, g2, hw x y x' y' h1 k1 g1 g2⟩⟩
end Go.Proofs.YtpjbgmafnheomaaGreatDoor.Sim
namespace Go.Proofs.YtpjbgmafnheomaaGreatDoor.Sim
open Go.RowKit
set_option linter.unusedVariables false
set_option linter.unusedSimpArgs false
set_option maxHeartbeats 2000000
/-- One span within another. -/
def Wider (a b a' b' : D2) : Prop := a'.v ≤ a.v ∧ b.v ≤ b'.v
theorem grow_out {a b a' b' : D2} {r r' : PV} {p : Int} (h : r = spE 5 ∨ ∃ x y : D2, r = spR x y ∧ GoodS x y ∧ QLo p (fun z => z.v ≤ a.v) x ∧ QHi p (fun z => b.v ≤ z.v) y) (h' : r' = spE 5 ∨ ∃ x y : D2, r' = spR x y ∧ GoodS x y ∧ QLo p (fun z => z.v ≤ a'.v) x ∧ QHi p (fun z => b'.v ≤ z.v) y) (hw : Wider a b a' b') : Grow r r' := by
  rcases h with h | ⟨x, y, h, g, q1, q2⟩ <;> rcases h' with h' | ⟨x', y', h', g', q1', q2'⟩
  · exact ⟨_, _, _, _, 5, 5, h, h', by omega, by omega, fun a _ => by omega⟩
  · exact ⟨_, _, _, _, 5, 0, h, h', by omega, by omega, fun a _ => by omega⟩
  · exact ⟨_, _, _, _, 0, 5, h, h', by omega, by omega, fun _ a => by omega⟩
  · refine ⟨_, _, _, _, 0, 0, h, h', by omega, by omega, fun _ _ => ⟨g, g', q1.mono q1' fun k => ?_, q2.mono q2' fun k => ?_⟩⟩
    · have k' : x'.v ≤ a'.v := k
      have := hw.1
      show x'.v ≤ a.v
      omega
    · have k' : b'.v ≤ y'.v := k
      have := hw.2
      show b.v ≤ y'.v
      omega
theorem sum_q {a b c d : D2} (h : GoodS a b) (k : GoodS c d) {p : Int} (hp : 1 ≤ p ∧ p ≤ 70000) : sumP a b c d p = spE 5 ∨ ((toAn (addP a c)).d.v = a.v + c.v ∧ (toAn (addP b d)).d.v = b.v + d.v ∧
    ∃ x y : D2, sumP a b c d p = spR x y ∧ GoodS x y ∧ QLo p (fun z => z.v ≤ (toAn (addP a c)).d.v) x ∧ QHi p (fun z => (toAn (addP b d)).d.v ≤ z.v) y) := by
  have v1 := add_V h.1 k.1
  have v2 := add_V h.2.1 k.2.1
  have g1 := An.d_good (add_ans h.1 k.1)
  have g2 := An.d_good (add_ans h.2.1 k.2.1)
  unfold sumP
  obtain ⟨u, hu⟩ : ∃ u, u = toAn (addP a c) := ⟨_, rfl⟩
  obtain ⟨v, hv⟩ : ∃ v, v = toAn (addP b d) := ⟨_, rfl⟩
  rw [← hu] at v1 g1 ⊢
  rw [← hv] at v2 g2 ⊢
  by_cases hz : u.c = 0 ∧ v.c = 0
  · rw [if_neg (by omega)]
    have w1 := v1 hz.1
    have w2 := v2 hz.2
    have h3 := h.2.2
    have k3 := k.2.2
    rcases out_q g1 g2 (by omega) hp with q | ⟨x, y, q⟩
    · exact .inl q
    · exact .inr ⟨w1, w2, x, y, q⟩
  · exact .inl (if_pos (by omega))
theorem grow_sum {a b c d a' b' c' d' : D2} (h : GoodS a b) (k : GoodS c d) (h' : GoodS a' b') (k' : GoodS c' d') (w1 : Wider a b a' b') (w2 : Wider c d c' d') {p : Int} (hp : 1 ≤ p ∧ p ≤ 70000) : Grow (sumP a b c d p) (sumP a' b' c' d' p) := by
  rcases sum_q h k hp with q | ⟨e1, e2, q⟩
  · rcases sum_q h' k' hp with q' | ⟨_, _, x, y, q', g', _⟩
    · exact ⟨_, _, _, _, 5, 5, q, q', by omega, by omega, fun a _ => by omega⟩
    · exact ⟨_, _, _, _, 5, 0, q, q', by omega, by omega, fun a _ => by omega⟩
  · rcases sum_q h' k' hp with q' | ⟨e1', e2', q'⟩
    · obtain ⟨x, y, q, g, _⟩ := q
      exact ⟨_, _, _, _, 0, 5, q, q', by omega, by omega, fun _ a => by omega⟩
    · refine grow_out (.inr q) (.inr q') ⟨?_, ?_⟩
      · have := w1.1; have := w2.1; omega
      · have := w1.2; have := w2.2; omega
/-! ### products -/
theorem bil (a b u v : Int) (h1 : a ≤ u) (h2 : u ≤ b) : min (a * v) (b * v) ≤ u * v ∧ u * v ≤ max (a * v) (b * v) := by
  rcases Int.le_total 0 v with hv | hv
  · have k1 := mr h1 hv
    have k2 := mr h2 hv
    omega
  · have k1 := mrn h1 hv
    have k2 := mrn h2 hv
    omega
theorem corners {a b c d u v : Int} (h1 : a ≤ u) (h2 : u ≤ b) (k1 : c ≤ v) (k2 : v ≤ d) : min (min (min (a * c) (a * d)) (b * c)) (b * d) ≤ u * v ∧ u * v ≤ max (max (max (a * c) (a * d)) (b * c)) (b * d) := by
  have m1 := bil a b u v h1 h2
  have m2 := bil c d v a k1 k2
  have m3 := bil c d v b k1 k2
  rw [Int.mul_comm c a, Int.mul_comm d a, Int.mul_comm v a] at m2
  rw [Int.mul_comm c b, Int.mul_comm d b, Int.mul_comm v b] at m3
  omega
theorem mul_q {a b c d : D2} (h : GoodS a b) (k : GoodS c d) {p : Int} (hp : 1 ≤ p ∧ p ≤ 70000) : spMul a b c d p = spE 5 ∨ ∃ l m : D2, l.v * 2 ^ 1048576 = min (min (min (a.v * c.v) (a.v * d.v)) (b.v * c.v)) (b.v * d.v) ∧ m.v * 2 ^ 1048576 = max (max (max (a.v * c.v) (a.v * d.v)) (b.v * c.v)) (b.v * d.v) ∧
    ∃ x y : D2, spMul a b c d p = spR x y ∧ GoodS x y ∧ QLo p (fun z => z.v ≤ l.v) x ∧ QHi p (fun z => m.v ≤ z.v) y := by
  have g1 := An.d_good (mul_ans a c)
  have g2 := An.d_good (mul_ans a d)
  have g3 := An.d_good (mul_ans b c)
  have g4 := An.d_good (mul_ans b d)
  have v1 := mul_V h.1 k.1
  have v2 := mul_V h.1 k.2.1
  have v3 := mul_V h.2.1 k.1
  have v4 := mul_V h.2.1 k.2.1
  unfold spMul
  obtain ⟨u1, e1⟩ : ∃ u, u = toAn (mulP a c) := ⟨_, rfl⟩
  obtain ⟨u2, e2⟩ : ∃ u, u = toAn (mulP a d) := ⟨_, rfl⟩
  obtain ⟨u3, e3⟩ : ∃ u, u = toAn (mulP b c) := ⟨_, rfl⟩
  obtain ⟨u4, e4⟩ : ∃ u, u = toAn (mulP b d) := ⟨_, rfl⟩
  rw [← e1] at g1 v1 ⊢
  rw [← e2] at g2 v2 ⊢
  rw [← e3] at g3 v3 ⊢
  rw [← e4] at g4 v4 ⊢
  clear e1 e2 e3 e4
  by_cases hz : u1.c = 0 ∧ u2.c = 0 ∧ u3.c = 0 ∧ u4.c = 0
  · obtain ⟨z1, z2, z3, z4⟩ := hz
    rw [if_neg (by omega)]
    have gl := least4_good g1 g2 g3 g4
    have gg := great4_good g1 g2 g3 g4
    have vl := least4_v u1.d u2.d u3.d u4.d
    have vg := great4_v u1.d u2.d u3.d u4.d
    have w1 := v1 z1
    have w2 := v2 z2
    have w3 := v3 z3
    have w4 := v4 z4
    rcases out_q gl gg (least4_le _ _ _ _) hp with q | q
    · exact .inl q
    · obtain ⟨C, hC⟩ : ∃ C : Int, C = 2 ^ 1048576 := ⟨_, rfl⟩
      have hC0 : 0 < C := hC ▸ p2_pos 1048576
      have mm : ∀ x y : Int, min x y * C = min (x * C) (y * C) := fun x y => by
        rcases Int.le_total x y with hh | hh
        · have := mr hh (Int.le_of_lt hC0); rw [Int.min_eq_left hh, Int.min_eq_left this]
        · have := mr hh (Int.le_of_lt hC0); rw [Int.min_eq_right hh, Int.min_eq_right this]
      have mx : ∀ x y : Int, max x y * C = max (x * C) (y * C) := fun x y => by
        rcases Int.le_total x y with hh | hh
        · have := mr hh (Int.le_of_lt hC0); rw [Int.max_eq_right hh, Int.max_eq_right this]
        · have := mr hh (Int.le_of_lt hC0); rw [Int.max_eq_left hh, Int.max_eq_left this]
      refine .inr ⟨_, _, ?_, ?_, q⟩
      · rw [vl, ← w1, ← w2, ← w3, ← w4, ← hC, mm, mm, mm]
      · rw [vg, ← w1, ← w2, ← w3, ← w4, ← hC, mx, mx, mx]
  · exact .inl (if_pos (by omega))
theorem grow_mul {a b c d a' b' c' d' : D2} (h : GoodS a b) (k : GoodS c d) (h' : GoodS a' b') (k' : GoodS c' d') (w1 : Wider a b a' b') (w2 : Wider c d c' d') {p : Int} (hp : 1 ≤ p ∧ p ≤ 70000) : Grow (spMul a b c d p) (spMul a' b' c' d' p) := by
  have ab := h.2.2
  have cd := k.2.2
  obtain ⟨p1, p2⟩ := w1
  obtain ⟨p3, p4⟩ := w2
  have c1 := corners (a := a'.v) (b := b'.v) (c := c'.v) (d := d'.v) (u := a.v) (v := c.v) (by omega) (by omega) (by omega) (by omega)
  have c2 := corners (a := a'.v) (b := b'.v) (c := c'.v) (d := d'.v) (u := a.v) (v := d.v) (by omega) (by omega) (by omega) (by omega)
  have c3 := corners (a := a'.v) (b := b'.v) (c := c'.v) (d := d'.v) (u := b.v) (v := c.v) (by omega) (by omega) (by omega) (by omega)
  have c4 := corners (a := a'.v) (b := b'.v) (c := c'.v) (d := d'.v) (u := b.v) (v := d.v) (by omega) (by omega) (by omega) (by omega)
  rcases mul_q h k hp with q | ⟨l, m, e1, e2, q⟩
  · rcases mul_q h' k' hp with q' | ⟨_, _, _, _, x, y, q', g', _⟩
    · exact ⟨_, _, _, _, 5, 5, q, q', by omega, by omega, fun a _ => by omega⟩
    · exact ⟨_, _, _, _, 5, 0, q, q', by omega, by omega, fun a _ => by omega⟩
  · rcases mul_q h' k' hp with q' | ⟨l', m', e1', e2', q'⟩
    · obtain ⟨x, y, q, g, _⟩ := q
      exact ⟨_, _, _, _, 0, 5, q, q', by omega, by omega, fun _ a => by omega⟩
    · refine grow_out (.inr q) (.inr q') ⟨le_2C ?_, le_2C ?_⟩
      · rw [e1, e1']; omega
      · rw [e2, e2']; omega
/-! ### squares -/
theorem sqr_nn (x : Int) : 0 ≤ x * x := by
  rcases Int.le_total 0 x with h | h
  · exact Int.mul_nonneg h h
  · exact Int.mul_nonneg_of_nonpos_of_nonpos h h
theorem sqr_q {a b : D2} (h : GoodS a b) {p : Int} (hp : 1 ≤ p ∧ p ≤ 70000) : spSqr a b p = spE 5 ∨ ∃ l m : D2, (l.v * 2 ^ 1048576 = if a.1 ≤ 0 ∧ 0 ≤ b.1 then 0 else min (a.v * a.v) (b.v * b.v)) ∧ m.v * 2 ^ 1048576 = max (a.v * a.v) (b.v * b.v) ∧
    ∃ x y : D2, spSqr a b p = spR x y ∧ GoodS x y ∧ QLo p (fun z => z.v ≤ l.v) x ∧ QHi p (fun z => m.v ≤ z.v) y := by
  have g1 := An.d_good (mul_ans a a)
  have g2 := An.d_good (mul_ans b b)
  have v1 := mul_V h.1 h.1
  have v2 := mul_V h.2.1 h.2.1
  unfold spSqr
  obtain ⟨u1, e1⟩ : ∃ u, u = toAn (mulP a a) := ⟨_, rfl⟩
  obtain ⟨u2, e2⟩ : ∃ u, u = toAn (mulP b b) := ⟨_, rfl⟩
  rw [← e1] at g1 v1 ⊢
  rw [← e2] at g2 v2 ⊢
  clear e1 e2
  by_cases hz : u1.c = 0 ∧ u2.c = 0
  · obtain ⟨z1, z2⟩ := hz
    rw [if_neg (by omega)]
    have w1 := v1 z1
    have w2 := v2 z2
    have gg := gst2_good g1 g2
    have vl := lst2_v u1.d u2.d
    have vg := gst2_v u1.d u2.d
    have n1 := sqr_nn a.v
    have n2 := sqr_nn b.v
    obtain ⟨C, hC⟩ : ∃ C : Int, C = 2 ^ 1048576 := ⟨_, rfl⟩
    have hC0 : 0 < C := hC ▸ p2_pos 1048576
    rw [← hC] at w1 w2
    have p1 : 0 ≤ u1.d.v := by
      rcases Int.lt_or_le u1.d.v 0 with q | q
      · have := Int.mul_neg_of_neg_of_pos q hC0; omega
      · exact q
    have mm : min u1.d.v u2.d.v * C = min (u1.d.v * C) (u2.d.v * C) := by
      rcases Int.le_total u1.d.v u2.d.v with hh | hh
      · have := mr hh (Int.le_of_lt hC0); rw [Int.min_eq_left hh, Int.min_eq_left this]
      · have := mr hh (Int.le_of_lt hC0); rw [Int.min_eq_right hh, Int.min_eq_right this]
    have mx : max u1.d.v u2.d.v * C = max (u1.d.v * C) (u2.d.v * C) := by
      rcases Int.le_total u1.d.v u2.d.v with hh | hh
      · have := mr hh (Int.le_of_lt hC0); rw [Int.max_eq_right hh, Int.max_eq_right this]
      · have := mr hh (Int.le_of_lt hC0); rw [Int.max_eq_left hh, Int.max_eq_left this]
    have hm : (gst2 u1.d u2.d).v * 2 ^ 1048576 = max (a.v * a.v) (b.v * b.v) := by rw [vg, ← hC, mx, w1, w2]
    by_cases h0 : a.1 ≤ 0 ∧ 0 ≤ b.1
    · rw [if_pos h0, if_pos h0]
      have z0 : D2.v (0, 0) = 0 := VV_zero 0
      rcases out_q (a := (0, 0)) Good.zero gg (by rw [z0, vg]; omega) hp with q | q
      · exact .inl q
      · exact .inr ⟨(0, 0), _, by rw [z0, Int.zero_mul], hm, q⟩
    · rw [if_neg h0, if_neg h0]
      rcases out_q (lst2_good g1 g2) gg (by rw [vl, vg]; omega) hp with q | q
      · exact .inl q
      · exact .inr ⟨_, _, by rw [vl, ← hC, mm, w1, w2], hm, q⟩
  · exact .inl (if_pos (by omega))
theorem grow_sqr {a b a' b' : D2} (h : GoodS a b) (h' : GoodS a' b') (w1 : Wider a b a' b') {p : Int} (hp : 1 ≤ p ∧ p ≤ 70000) : Grow (spSqr a b p) (spSqr a' b' p) := by
  have ab := h.2.2
  obtain ⟨p1, p2⟩ := w1
  have sa := D2.sgn a
  have sb := D2.sgn b
  have sa' := D2.sgn a'
  have sb' := D2.sgn b'
  have na := sqr_nn a.v
  have nb := sqr_nn b.v
  have up : ∀ u : Int, a'.v ≤ u → u ≤ b'.v → u * u ≤ max (a'.v * a'.v) (b'.v * b'.v) := fun u k1 k2 => by
    rcases Int.le_total 0 u with hu | hu
    · have m1 := mr k2 hu
      have m2 := ml k2 (show 0 ≤ b'.v by omega)
      omega
    · have m1 := mrn k1 hu
      have m2 := mln k1 (show a'.v ≤ 0 by omega)
      omega
  rcases sqr_q h hp with q | ⟨l, m, e1, e2, q⟩
  · rcases sqr_q h' hp with q' | ⟨_, _, _, _, x, y, q', g', _⟩
    · exact ⟨_, _, _, _, 5, 5, q, q', by omega, by omega, fun a _ => by omega⟩
    · exact ⟨_, _, _, _, 5, 0, q, q', by omega, by omega, fun a _ => by omega⟩
  · rcases sqr_q h' hp with q' | ⟨l', m', e1', e2', q'⟩
    · obtain ⟨x, y, q, g, _⟩ := q
      exact ⟨_, _, _, _, 0, 5, q, q', by omega, by omega, fun _ a => by omega⟩
    · refine grow_out (.inr q) (.inr q') ⟨le_2C ?_, le_2C ?_⟩
      · rw [e1, e1']
        by_cases h0 : a'.1 ≤ 0 ∧ 0 ≤ b'.1
        · rw [if_pos h0]
          split <;> omega
        · have h1 : ¬ (a.1 ≤ 0 ∧ 0 ≤ b.1) := fun hh => h0 ⟨by omega, by omega⟩
          rw [if_neg h0, if_neg h1]
          rcases Int.lt_or_le 0 a'.1 with k | k
          · have k1 := sa'.2.1 k
            have m1 := mr p1 (show 0 ≤ a'.v by omega)
            have m2 := ml p1 (show 0 ≤ a.v by omega)
            have m3 := mr (show a'.v ≤ b.v by omega) (show 0 ≤ a'.v by omega)
            have m4 := ml (show a'.v ≤ b.v by omega) (show 0 ≤ b.v by omega)
            omega
          · have k1 := sb'.1.1 (show b'.1 < 0 by omega)
            have m1 := mrn p2 (show b'.v ≤ 0 by omega)
            have m2 := mln p2 (show b.v ≤ 0 by omega)
            have m3 := mrn (show a.v ≤ b'.v by omega) (show b'.v ≤ 0 by omega)
            have m4 := mln (show a.v ≤ b'.v by omega) (show a.v ≤ 0 by omega)
            omega
      · rw [e2, e2']
        have u1 := up a.v p1 (by omega)
        have u2 := up b.v (by omega) p2
        omega
end Go.Proofs.YtpjbgmafnheomaaGreatDoor.Sim
namespace Go.Proofs.YtpjbgmafnheomaaGreatDoor.Sim
open Go.RowKit
set_option linter.unusedVariables false
set_option linter.unusedSimpArgs false
set_option maxHeartbeats 4000000
theorem Vc_up {c n e : Int} (h : -1048576 ≤ e) (hc : 1048576 ≤ c) : Vc c n e = VV n e * 2 ^ (c - 1048576).toNat := by
  unfold Vc VV
  rw [Int.mul_assoc, ← Int.pow_add]
  congr 2
  omega
theorem quo_lo {a b : D2} (h : a.good) (g : b.good) (hb : 0 < b.1) {p : Int} (hp : 1 ≤ p ∧ p ≤ 70000) (hc : (toAn (quoP a b p false)).c = 0) : QLo p (fun z => z.v * b.v ≤ a.v * 2 ^ 1048576) (toAn (quoP a b p false)).d := by
  have hlow := quo_low h g hb hp hc
  obtain ⟨h1, gu, _⟩ := (quo_ans (a := a) (b := b) hp (by omega) false).eq
  obtain ⟨u, hu⟩ : ∃ u, u = toAn (quoP a b p false) := ⟨_, rfl⟩
  rw [← hu] at h1 hc gu hlow ⊢
  unfold An.pv at h1
  rw [hc] at h1
  have hE : dyE 5 ≠ .tup [DY u.x u.y, .val (.int .i64 0)] := fun hh => absurd (tup_inj hh).2.2 (by decide)
  have e1 := h.2.1
  have e1b := h.2.2.1
  have e2 := g.2.1
  have e3 := g.2.2.1
  have e4 := gu.2.1
  unfold quoP quoS at h1
  rw [if_neg (by omega), if_neg (by omega), if_neg (by omega)] at h1
  split at h1
  · exact absurd h1 hE
  · rename_i l1
    split at h1
    · exact absurd h1 hE
    · rename_i l2
      have hbl := bl_L64 b.1.natAbs
      have hk : quoK a.1 b.1 p 1 = max 0 (p + 1 + bl b.1.natAbs - bl a.1.natAbs) := rfl
      obtain ⟨k, hkk⟩ : ∃ k : Nat, (k : Int) = quoK a.1 b.1 p 1 := ⟨(quoK a.1 b.1 p 1).toNat, by omega⟩
      rw [← hkk, Int.toNat_natCast] at h1
      obtain ⟨c, hcc⟩ : ∃ c : Int, c = 4194304 := ⟨_, rfl⟩
      obtain ⟨P, hP⟩ : ∃ P : Nat, (P : Int) = p := ⟨p.toNat, by omega⟩
      obtain ⟨E, hEE⟩ : ∃ E : Int, E = a.2 - b.2 - (k : Int) := ⟨_, rfl⟩
      rw [← hEE] at h1
      obtain ⟨s, hs⟩ : ∃ s, s = docQ a.1 b.1 k false := ⟨_, rfl⟩
      have hsd : s = a.1 * 2 ^ k / b.1 := by
        rw [hs]
        show (a.1 * 2 ^ k).fdiv b.1 = _
        exact Int.fdiv_eq_ediv_of_nonneg _ (by omega)
      rw [← hs] at h1
      refine ⟨gu, cutS_bits hp.1 gu h1, hlow, fun z gz bz hz => ?_⟩
      have z1 := gz.2.1
      have key : Vc c z.1 z.2 ≤ Vc c s E := by
        -- z * b against a, in parts of 2^-c
        have k1 : z.1 * b.1 * 2 ^ (z.2 + c).toNat ≤ a.1 * 2 ^ k * 2 ^ (E + c).toNat := by
          have t1 : (VV z.1 z.2 * VV b.1 b.2) * 2 ^ (c.toNat) = z.1 * b.1 * 2 ^ (z.2 + c).toNat * 2 ^ (b.2 + 2097152).toNat := by
            rw [Vc_mul z1 e2]
            unfold Vc
            rw [Int.mul_assoc, ← Int.pow_add, Int.mul_assoc (z.1 * b.1) (2 ^ (z.2 + c).toNat), ← Int.pow_add, show (z.2 + b.2 + 2097152).toNat + c.toNat = (z.2 + c).toNat + (b.2 + 2097152).toNat by omega]
          have t2 : (VV a.1 a.2 * 2 ^ 1048576) * 2 ^ c.toNat = a.1 * 2 ^ k * 2 ^ (E + c).toNat * 2 ^ (b.2 + 2097152).toNat := by
            rw [← Vc_two e1]
            unfold Vc
            rw [Int.mul_assoc, ← Int.pow_add, Int.mul_assoc a.1 (2 ^ k), ← Int.pow_add, Int.mul_assoc a.1, ← Int.pow_add, show (a.2 + 2097152).toNat + c.toNat = k + (E + c).toNat + (b.2 + 2097152).toNat by omega]
          have m1 := mr (show VV z.1 z.2 * VV b.1 b.2 ≤ VV a.1 a.2 * 2 ^ 1048576 from hz) (Int.le_of_lt (p2_pos c.toNat))
          rw [t1, t2] at m1
          exact Int.le_of_mul_le_mul_right m1 (p2_pos _)
        unfold Vc
        by_cases hze : E ≤ z.2
        · have q1 : (z.2 + c).toNat = (z.2 - E).toNat + (E + c).toNat := by omega
          rw [q1, Int.pow_add, ← Int.mul_assoc] at k1
          have q2 := (mul_le_iff (p2_pos (E + c).toNat)).1 k1
          have q3 : z.1 * 2 ^ (z.2 - E).toNat ≤ s := by
            rw [hsd]
            refine Int.le_ediv_of_mul_le hb ?_
            rw [Int.mul_right_comm]
            exact q2
          rw [q1, Int.pow_add, ← Int.mul_assoc]
          exact mr q3 (Int.le_of_lt (p2_pos _))
        · have hl := abs_lt_pow (n := z.1) (P := P) (by omega)
          have w1 : (2 : Int) ^ P * 2 ^ (z.2 + c).toNat ≤ 2 ^ P * 2 ^ (E + c).toNat := by
            refine ml ?_ (Int.le_of_lt (p2_pos _))
            have h1 : (2 : Nat) ^ (z.2 + c).toNat ≤ 2 ^ (E + c).toNat := Nat.pow_le_pow_right (by decide) (by omega)
            have h2 : ∀ k : Nat, ((2 ^ k : Nat) : Int) = 2 ^ k := fun k => by simp
            rw [← h2, ← h2]
            omega
          have w2 := Int.mul_lt_mul_of_pos_right hl.2 (p2_pos (z.2 + c).toNat)
          have w3 := Int.mul_lt_mul_of_pos_right hl.1 (p2_pos (z.2 + c).toNat)
          rw [Int.neg_mul] at w3
          by_cases ha0 : a.1 = 0
          · rw [ha0, Int.zero_mul, Int.zero_mul] at k1
            have s0 : s = 0 := by rw [hsd, ha0, Int.zero_mul, Int.zero_ediv]
            rw [s0, Int.zero_mul]
            rcases Int.lt_or_le 0 z.1 with q | q
            · exfalso
              have := Int.mul_pos (Int.mul_pos q hb) (p2_pos (z.2 + c).toNat)
              omega
            · exact Int.mul_nonpos_of_nonpos_of_nonneg q (Int.le_of_lt (p2_pos _))
          · have hbig : 2 ^ P * b.1.natAbs ≤ a.1.natAbs * 2 ^ k := by
              have a1 := le_of_bl (n := a.1.natAbs) (by omega)
              have a2 := lt_bl b.1.natAbs
              have a3 : 2 ^ P * b.1.natAbs ≤ 2 ^ P * 2 ^ bl b.1.natAbs := Nat.mul_le_mul_left _ (Nat.le_of_lt a2)
              have a4 : 2 ^ (bl a.1.natAbs - 1) * 2 ^ k ≤ a.1.natAbs * 2 ^ k := Nat.mul_le_mul_right _ a1
              rw [← Nat.pow_add] at a3 a4
              have a5 : 2 ^ (P + bl b.1.natAbs) ≤ 2 ^ (bl a.1.natAbs - 1 + k) := Nat.pow_le_pow_right (by decide) (by have := bl_pos (n := a.1.natAbs) (by omega); omega)
              omega
            have hbi : (2 : Int) ^ P * b.1 ≤ (a.1.natAbs : Int) * 2 ^ k := by
              have e := Int.ofNat_le.2 hbig
              have e5 : ((b.1.natAbs : Nat) : Int) = b.1 := by omega
              simp only [Int.natCast_mul, Int.natCast_pow, e5] at e
              exact_mod_cast e
            rcases Int.lt_or_le a.1 0 with q | q
            · exfalso
              have e6 : ((a.1.natAbs : Nat) : Int) = -a.1 := by omega
              rw [e6, Int.neg_mul] at hbi
              -- z b 2^(z+c) <= -(2^P b) 2^(E+c)
              have m2 := mr (show a.1 * 2 ^ k ≤ -(2 ^ P * b.1) by omega) (Int.le_of_lt (p2_pos (E + c).toNat))
              have m3 : z.1 * 2 ^ (z.2 + c).toNat * b.1 ≤ -(2 ^ P * 2 ^ (E + c).toNat) * b.1 := by
                rw [Int.mul_right_comm z.1, Int.neg_mul, Int.mul_right_comm (2 ^ P)]
                rw [Int.neg_mul] at m2
                omega
              have m4 := Int.le_of_mul_le_mul_right m3 hb
              omega
            · have e6 : ((a.1.natAbs : Nat) : Int) = a.1 := by omega
              rw [e6] at hbi
              have m2 : (2 : Int) ^ P ≤ s := by rw [hsd]; exact Int.le_ediv_of_mul_le hb hbi
              have m3 := mr m2 (Int.le_of_lt (p2_pos (E + c).toNat))
              omega
      have fin := cutS_max (c := c) (by omega) hp.1 h1 (by omega) bz key
      rw [Vc_up z1 (by omega), Vc_up e4 (by omega)] at fin
      exact Int.le_of_mul_le_mul_right fin (p2_pos _)
theorem quo_hi {a b : D2} (h : a.good) (g : b.good) (hb : 0 < b.1) {p : Int} (hp : 1 ≤ p ∧ p ≤ 70000) (hc : (toAn (quoP a b p true)).c = 0) : QHi p (fun z => a.v * 2 ^ 1048576 ≤ z.v * b.v) (toAn (quoP a b p true)).d := by
  have e := quo_neg1 a b p false hp (by omega)
  have h1 := quo_lo (D2.neg_good h) g hb hp (by rw [e]; exact hc)
  rw [e, An.neg_d] at h1
  have h2 := h1.neg (B' := fun z => a.v * 2 ^ 1048576 ≤ z.v * b.v) (fun z => by
    show a.v * 2 ^ 1048576 ≤ z.v * b.v ↔ z.neg.v * b.v ≤ a.neg.v * 2 ^ 1048576
    rw [D2.neg_v, D2.neg_v, Int.neg_mul, Int.neg_mul]; omega)
  rw [D2.neg_neg] at h2
  exact h2
/-- A quotient by a span above nought, and which ends divide. -/
theorem quo_posq {a b c d : D2} (h : GoodS a b) (k : GoodS c d) (hc : 0 < c.1) {p : Int} (hp : 1 ≤ p ∧ p ≤ 70000) {x y : D2} (gx : x.good) (gy : y.good) (hq : spQuoPos a b c d p = spR x y) :
    QLo p (fun z => z.v * (if a.1 < 0 then c else d).v ≤ a.v * 2 ^ 1048576) x ∧ QHi p (fun z => b.v * 2 ^ 1048576 ≤ z.v * (if b.1 < 0 then d else c).v) y := by
  have sc := D2.sgn c
  have sd := D2.sgn d
  have hcd := k.2.2
  have hdv : 0 < d.v := by have := sc.2.1 hc; omega
  have hd1 : 0 < d.1 := sd.2.2 hdv
  unfold spQuoPos at hq
  obtain ⟨un, hun⟩ : ∃ r, r = (if a.1 < 0 then c else d) := ⟨_, rfl⟩
  obtain ⟨ov, hov⟩ : ∃ r, r = (if b.1 < 0 then d else c) := ⟨_, rfl⟩
  rw [← hun, ← hov] at hq ⊢
  have u1 : un.good ∧ 0 < un.1 := by rw [hun]; split <;> first | exact ⟨k.1, hc⟩ | exact ⟨k.2.1, hd1⟩
  have u2 : ov.good ∧ 0 < ov.1 := by rw [hov]; split <;> first | exact ⟨k.1, hc⟩ | exact ⟨k.2.1, hd1⟩
  have l1 := quo_lo h.1 u1.1 u1.2 hp
  have l2 := quo_hi h.2.1 u2.1 u2.2 hp
  have g1 := An.d_good (quo_ans (a := a) (b := un) hp (by omega) false)
  have g2 := An.d_good (quo_ans (a := b) (b := ov) hp (by omega) true)
  obtain ⟨u, hu⟩ : ∃ u, u = toAn (quoP a un p false) := ⟨_, rfl⟩
  obtain ⟨v, hv⟩ : ∃ v, v = toAn (quoP b ov p true) := ⟨_, rfl⟩
  rw [← hu] at l1 g1 hq
  rw [← hv] at l2 g2 hq
  by_cases hz : u.c = 0 ∧ v.c = 0
  · rw [bothA_ok hz.1 hz.2] at hq
    obtain ⟨q1, q2⟩ := spR_inj hq g1 gx g2 gy
    rw [← q1, ← q2]
    exact ⟨l1 hz.1, l2 hz.2⟩
  · exfalso
    rw [bothA_no (by omega)] at hq
    unfold spE spR at hq
    simp only [PV.tup.injEq, List.cons.injEq, PV.val.injEq, Value.int.injEq, and_true, true_and] at hq
    exact absurd hq.2 (by decide)
theorem pos_mono {a b c d a' b' c' d' x y x' y' : D2} (h : GoodS a b) (k : GoodS c d) (h' : GoodS a' b') (k' : GoodS c' d') (w1 : Wider a b a' b') (w2 : Wider c d c' d') (hc : 0 < c'.1) {p : Int} (hp : 1 ≤ p ∧ p ≤ 70000) (g : GoodS x y) (g' : GoodS x' y') (hq : spQuoPos a b c d p = spR x y) (hq' : spQuoPos a' b' c' d' p = spR x' y') : x'.v ≤ x.v ∧ y.v ≤ y'.v := by
  obtain ⟨p1, p2⟩ := w1
  obtain ⟨p3, p4⟩ := w2
  have ab := h.2.2
  have cd := k.2.2
  have sc' := D2.sgn c'
  have sc := D2.sgn c
  have sa := D2.sgn a
  have sb := D2.sgn b
  have sa' := D2.sgn a'
  have sb' := D2.sgn b'
  have c0 : 0 < c'.v := sc'.2.1 hc
  have hc1 : 0 < c.1 := sc.2.2 (by omega)
  obtain ⟨q1, q2⟩ := quo_posq h k hc1 hp g.1 g.2.1 hq
  obtain ⟨q1', q2'⟩ := quo_posq h' k' hc hp g'.1 g'.2.1 hq'
  obtain ⟨C, hC⟩ : ∃ C : Int, C = 2 ^ 1048576 := ⟨_, rfl⟩
  have hC0 : 0 < C := hC ▸ p2_pos 1048576
  have A1 := mr p1 (Int.le_of_lt hC0)
  have A2 := mr p2 (Int.le_of_lt hC0)
  constructor
  · refine q1.mono q1' fun hB => ?_
    have hB' : x'.v * (if a'.1 < 0 then c' else d').v ≤ a'.v * C := by rw [hC]; exact hB
    show x'.v * (if a.1 < 0 then c else d).v ≤ a.v * 2 ^ 1048576
    rw [← hC]
    obtain ⟨X, hX⟩ : ∃ X, X = x'.v := ⟨_, rfl⟩
    rw [← hX] at hB' ⊢
    by_cases ha' : a'.1 < 0
    · rw [if_pos ha'] at hB'
      have n1 := Int.mul_neg_of_neg_of_pos (sa'.1.1 ha') hC0
      have X0 : X < 0 := by
        rcases Int.lt_or_le X 0 with q | q
        · exact q
        · have := Int.mul_nonneg q (Int.le_of_lt c0); omega
      by_cases ha : a.1 < 0
      · rw [if_pos ha]
        have := mln p3 (Int.le_of_lt X0)
        omega
      · rw [if_neg ha]
        have a0 : 0 ≤ a.v := by have := sa.1; omega
        have := Int.mul_neg_of_neg_of_pos X0 (show 0 < d.v by omega)
        have := Int.mul_nonneg a0 (Int.le_of_lt hC0)
        omega
    · rw [if_neg ha'] at hB'
      have a0' : 0 ≤ a'.v := by have := sa'.1; omega
      have ha : ¬ a.1 < 0 := fun hh => by have := sa.1.1 hh; omega
      rw [if_neg ha]
      rcases Int.lt_or_le X 0 with q | q
      · have := Int.mul_neg_of_neg_of_pos q (show 0 < d.v by omega)
        have := Int.mul_nonneg (show 0 ≤ a.v by omega) (Int.le_of_lt hC0)
        omega
      · have := ml p4 q
        omega
  · refine q2.mono q2' fun hB => ?_
    have hB' : b'.v * C ≤ y'.v * (if b'.1 < 0 then d' else c').v := by rw [hC]; exact hB
    show b.v * 2 ^ 1048576 ≤ y'.v * (if b.1 < 0 then d else c).v
    rw [← hC]
    obtain ⟨Y, hY⟩ : ∃ Y, Y = y'.v := ⟨_, rfl⟩
    rw [← hY] at hB' ⊢
    by_cases hb' : b'.1 < 0
    · rw [if_pos hb'] at hB'
      have b0' := sb'.1.1 hb'
      have hb : b.1 < 0 := sb.1.2 (by omega)
      rw [if_pos hb]
      rcases Int.lt_or_le Y 0 with q | q
      · have := mln p4 (Int.le_of_lt q)
        omega
      · have := Int.mul_nonneg q (show 0 ≤ d.v by omega)
        have := Int.mul_neg_of_neg_of_pos (show b.v < 0 by omega) hC0
        omega
    · rw [if_neg hb'] at hB'
      have b0' : 0 ≤ b'.v := by have := sb'.1; omega
      have n1 := Int.mul_nonneg b0' (Int.le_of_lt hC0)
      have Y0 : 0 ≤ Y := by
        rcases Int.lt_or_le Y 0 with q | q
        · have := Int.mul_neg_of_neg_of_pos q c0; omega
        · exact q
      by_cases hb : b.1 < 0
      · rw [if_pos hb]
        have := Int.mul_nonneg Y0 (show 0 ≤ d.v by omega)
        have := Int.mul_neg_of_neg_of_pos (sb.1.1 hb) hC0
        omega
      · rw [if_neg hb]
        have := ml p3 Y0
        omega
theorem quo_shape {a b c d : D2} (h : GoodS a b) (k : GoodS c d) {p : Int} (hp : 1 ≤ p ∧ p ≤ 70000) : (∃ e, spQuo a b c d p = spE e ∧ (e = 4 ∨ e = 5)) ∨ ∃ x y : D2, spQuo a b c d p = spR x y ∧ GoodS x y := by
  rcases quo_res h k hp with q | ⟨x, y, q, g, _⟩
  · exact .inl q
  · exact .inr ⟨x, y, q, g⟩
theorem grow_quo {a b c d a' b' c' d' : D2} (h : GoodS a b) (k : GoodS c d) (h' : GoodS a' b') (k' : GoodS c' d') (w1 : Wider a b a' b') (w2 : Wider c d c' d') {p : Int} (hp : 1 ≤ p ∧ p ≤ 70000) : Grow (spQuo a b c d p) (spQuo a' b' c' d' p) := by
  refine Grow.of (quo_shape h k hp) (quo_shape h' k' hp) fun x y x' y' hq hq' g g' => ?_
  have sc := D2.sgn c
  have sd := D2.sgn d
  have sc' := D2.sgn c'
  have sd' := D2.sgn d'
  have cd := k.2.2
  have cd' := k'.2.2
  obtain ⟨p3, p4⟩ := w2
  have no : spE 4 ≠ spR x' y' := fun hh => by
    unfold spE spR at hh
    simp only [PV.tup.injEq, List.cons.injEq, PV.val.injEq, Value.int.injEq, and_true, true_and] at hh
    exact absurd hh.2 (by decide)
  unfold spQuo at hq hq'
  by_cases hc' : 0 < c'.1
  · have : 0 < c.1 := sc.2.2 (by have := sc'.2.1 hc'; omega)
    rw [if_pos this] at hq
    rw [if_pos hc'] at hq'
    exact pos_mono h k h' k' w1 ⟨p3, p4⟩ hc' hp g g' hq hq'
  · rw [if_neg hc'] at hq'
    by_cases hd' : d'.1 < 0
    · have hdv' := sd'.1.1 hd'
      have hd : d.1 < 0 := sd.1.2 (by omega)
      have hc : ¬ 0 < c.1 := fun hh => by have := sc.2.1 hh; omega
      rw [if_neg hc, if_pos hd] at hq
      rw [if_pos hd'] at hq'
      refine pos_mono h.neg k.neg h'.neg k'.neg ⟨?_, ?_⟩ ⟨?_, ?_⟩ (show 0 < d'.neg.1 by show 0 < -d'.1; omega) hp g g' hq hq'
      · rw [D2.neg_v, D2.neg_v]; have := w1.2; omega
      · rw [D2.neg_v, D2.neg_v]; have := w1.1; omega
      · rw [D2.neg_v, D2.neg_v]; omega
      · rw [D2.neg_v, D2.neg_v]; omega
    · rw [if_neg hd'] at hq'
      exact absurd hq' no
end Go.Proofs.YtpjbgmafnheomaaGreatDoor.Sim
namespace Go.Proofs.YtpjbgmafnheomaaGreatDoor.Sim
open Go.RowKit
set_option linter.unusedVariables false
set_option linter.unusedSimpArgs false
set_option maxRecDepth 10000
set_option maxHeartbeats 8000000
variable {G : List (Nat × List Value)}
theorem s_both1 {a b c d a' b' c' d' : D2} {p : Int} {r r' : PV} (h : GoodS a b) (k : GoodS c d) (h' : GoodS a' b') (k' : GoodS c' d') (f1 : FC Tryz.prog G 24 [SP a b, SP c d, .val (.int .i64 p)] (· = r)) (f2 : FC Tryz.prog G 24 [SP a' b', SP c' d', .val (.int .i64 p)] (· = r')) (hg : Grow r r') :
    FC Tryz.prog G 40 [.val (.int .i64 1), SP a b, SP c d, SP a' b', SP c' d', .val (.int .i64 p)] (· = .val (.bool true)) := by
  have t1 := s_twing (G := G) h
  have t2 := s_twing (G := G) k
  have t3 := s_twing (G := G) h'
  have t4 := s_twing (G := G) k'
  obtain ⟨x, y, x', y', e, f, h1, h2, he, hf, hw⟩ := hg
  rw [h1] at f1
  rw [h2] at f2
  clear h1 h2
  by_cases z1 : e = 0
  · by_cases z2 : f = 0
    · obtain ⟨g1, g2, w1, w2⟩ := hw z1 z2
      rw [z1] at f1
      rw [z2] at f2
      have v1 := q_form (G := G) g1
      have v2 := q_form (G := G) g2
      have v3 := s_within (G := G) g1 g2 w1 w2
      clear he hf hw z1 z2
      refine FC.intro (X := XX) tok Tryz.func40 rfl Tryz.ntmps40 (by rw [Tryz.results40]) (by kernel_rfl) rfl ?_; intro F hG hO
      rw [← hG] at f1 f2 t1 t2 t3 t4 v1 v2 v3
      repeat' ((try (conv => whnf)); first
  | ((with_reducible refine cg ?_); first | refine ceq f1 rfl ?_ | refine ceq f2 rfl ?_ | refine ceq t1 rfl ?_ | refine ceq t2 rfl ?_ | refine ceq t3 rfl ?_ | refine ceq t4 rfl ?_ | refine ceq v1 rfl ?_ | refine ceq v2 rfl ?_ | refine ceq v3 rfl ?_)
  
  | (with_reducible refine draw_g (id := 5) [[], [4, 0, 2, 1, 3, 5], [6], [7], [8], [9, 10]] tok mixed (by kernel_rfl) ?_)
  | (with_reducible refine draw_g (id := 6) [[], [4, 0, 2, 1, 3, 5], [6], [7], [8], [9, 10]] tok mixed (by kernel_rfl) ?_)
  | (with_reducible refine draw_g (id := 8) [[], [4, 0, 2, 1, 3, 5], [6], [7], [8], [9, 10]] tok mixed (by kernel_rfl) ?_)
  | (with_reducible refine draw_g (id := 9) [[], [4, 0, 2, 1, 3, 5], [6], [7], [8], [9, 10]] tok mixed (by kernel_rfl) ?_)
  | (with_reducible refine draw_g (id := 11) [[], [4, 0, 2, 1, 3, 5], [6], [7], [8], [9, 10]] tok mixed (by kernel_rfl) ?_)
  | (with_reducible refine draw_g (id := 12) [[], [4, 0, 2, 1, 3, 5], [6], [7], [8], [9, 10]] tok mixed (by kernel_rfl) ?_)
  | (with_reducible refine draw_g (id := 17) [[], [4, 0, 2, 1, 3, 5], [6], [7], [8], [9, 10]] tok mixed (by kernel_rfl) ?_)
  | (with_reducible refine draw_g (id := 18) [[], [4, 0, 2, 1, 3, 5], [6], [7], [8], [9, 10]] tok mixed (by kernel_rfl) ?_)
  | with_reducible first
    | refine Chk.mk' (by first | omega | exact trivial | (simp only [List.length_append, List.length_set, List.length_replicate, List.length_take, List.length_drop, List.length_cons, List.length_nil, List.length_map]; omega)) ?_
    | refine wrap_g (by dsimp only [inR]; omega) ?_
    | refine idx_g (by omega) ?_ | refine idx_l _ rfl (by decide) ?_ | refine BothG.mk ?_ ?_ | refine fork_tt ?_ | refine fork_ff ?_
    | (refine fork_e (c := true) (by decide) ?_; refine fork_tt ?_) | (refine fork_e (c := false) (by decide) ?_; refine fork_ff ?_)
    | refine fork_t (by omega) ?_ | refine fork_f (by omega) ?_ | (refine fork_d ?_ ?_ <;> intro hc) | refine fork_n ?_ | (refine fork_b ?_ ?_ <;> intro hc)
    | refine SlcG.mk (by omega) ?_ | refine MakG.mk (by dsimp only; omega) ?_
    | refine AppG.mk (by first | omega | (simp only [List.length_append, List.length_set, List.length_replicate, List.length_take, List.length_drop, List.length_cons, List.length_nil, List.length_map]; omega)) (by dsimp only [List.length_cons, List.length_nil]; omega) (by omega) ?_
    | refine div_g (by omega) (by omega) (by dsimp only [inR]; omega) ?_ | refine mod_g (by omega) (by omega) ?_
    | refine mask_g (m := 4294967296) 32 rfl rfl (by decide) (by omega) ?_ | refine shr_g (m := 4294967296) 32 rfl (by decide) (by omega) rfl ?_
    | refine fz_all (by omega) ?_ | (refine smk ?_ ?_; constructor))
      all_goals exact ⟨ret_e rfl⟩
    · rw [z1] at f1
      have hf' : f = 4 ∨ f = 5 := by omega
      clear he hw hf z1
      rcases hf' with hf' | hf' <;> (
        rw [hf'] at f2
        clear hf' z2
        refine FC.intro (X := XX) tok Tryz.func40 rfl Tryz.ntmps40 (by rw [Tryz.results40]) (by kernel_rfl) rfl ?_; intro F hG hO
        rw [← hG] at f1 f2 t1 t2 t3 t4
        repeat' ((try (conv => whnf)); first
  | ((with_reducible refine cg ?_); first | refine ceq f1 rfl ?_ | refine ceq f2 rfl ?_ | refine ceq t1 rfl ?_ | refine ceq t2 rfl ?_ | refine ceq t3 rfl ?_ | refine ceq t4 rfl ?_)
  
  | (with_reducible refine draw_g (id := 5) [[], [4, 0, 2, 1, 3, 5], [6], [7], [8], [9, 10]] tok mixed (by kernel_rfl) ?_)
  | (with_reducible refine draw_g (id := 6) [[], [4, 0, 2, 1, 3, 5], [6], [7], [8], [9, 10]] tok mixed (by kernel_rfl) ?_)
  | (with_reducible refine draw_g (id := 8) [[], [4, 0, 2, 1, 3, 5], [6], [7], [8], [9, 10]] tok mixed (by kernel_rfl) ?_)
  | (with_reducible refine draw_g (id := 9) [[], [4, 0, 2, 1, 3, 5], [6], [7], [8], [9, 10]] tok mixed (by kernel_rfl) ?_)
  | (with_reducible refine draw_g (id := 11) [[], [4, 0, 2, 1, 3, 5], [6], [7], [8], [9, 10]] tok mixed (by kernel_rfl) ?_)
  | (with_reducible refine draw_g (id := 12) [[], [4, 0, 2, 1, 3, 5], [6], [7], [8], [9, 10]] tok mixed (by kernel_rfl) ?_)
  | (with_reducible refine draw_g (id := 17) [[], [4, 0, 2, 1, 3, 5], [6], [7], [8], [9, 10]] tok mixed (by kernel_rfl) ?_)
  | (with_reducible refine draw_g (id := 18) [[], [4, 0, 2, 1, 3, 5], [6], [7], [8], [9, 10]] tok mixed (by kernel_rfl) ?_)
  | with_reducible first
    | refine Chk.mk' (by first | omega | exact trivial | (simp only [List.length_append, List.length_set, List.length_replicate, List.length_take, List.length_drop, List.length_cons, List.length_nil, List.length_map]; omega)) ?_
    | refine wrap_g (by dsimp only [inR]; omega) ?_
    | refine idx_g (by omega) ?_ | refine idx_l _ rfl (by decide) ?_ | refine BothG.mk ?_ ?_ | refine fork_tt ?_ | refine fork_ff ?_
    | (refine fork_e (c := true) (by decide) ?_; refine fork_tt ?_) | (refine fork_e (c := false) (by decide) ?_; refine fork_ff ?_)
    | refine fork_t (by omega) ?_ | refine fork_f (by omega) ?_ | (refine fork_d ?_ ?_ <;> intro hc) | refine fork_n ?_ | (refine fork_b ?_ ?_ <;> intro hc)
    | refine SlcG.mk (by omega) ?_ | refine MakG.mk (by dsimp only; omega) ?_
    | refine AppG.mk (by first | omega | (simp only [List.length_append, List.length_set, List.length_replicate, List.length_take, List.length_drop, List.length_cons, List.length_nil, List.length_map]; omega)) (by dsimp only [List.length_cons, List.length_nil]; omega) (by omega) ?_
    | refine div_g (by omega) (by omega) (by dsimp only [inR]; omega) ?_ | refine mod_g (by omega) (by omega) ?_
    | refine mask_g (m := 4294967296) 32 rfl rfl (by decide) (by omega) ?_ | refine shr_g (m := 4294967296) 32 rfl (by decide) (by omega) rfl ?_
    | refine fz_all (by omega) ?_ | (refine smk ?_ ?_; constructor))
        all_goals exact ⟨ret_e rfl⟩)
  · have he' : e = 4 ∨ e = 5 := by omega
    clear he hw z1
    rcases he' with he' | he' <;> rcases hf with hf | hf | hf <;> (
      rw [he'] at f1
      rw [hf] at f2
      clear he' hf
      refine FC.intro (X := XX) tok Tryz.func40 rfl Tryz.ntmps40 (by rw [Tryz.results40]) (by kernel_rfl) rfl ?_; intro F hG hO
      rw [← hG] at f1 f2 t1 t2 t3 t4
      repeat' ((try (conv => whnf)); first
  | ((with_reducible refine cg ?_); first | refine ceq f1 rfl ?_ | refine ceq f2 rfl ?_ | refine ceq t1 rfl ?_ | refine ceq t2 rfl ?_ | refine ceq t3 rfl ?_ | refine ceq t4 rfl ?_)
  
  | (with_reducible refine draw_g (id := 5) [[], [4, 0, 2, 1, 3, 5], [6], [7], [8], [9, 10]] tok mixed (by kernel_rfl) ?_)
  | (with_reducible refine draw_g (id := 6) [[], [4, 0, 2, 1, 3, 5], [6], [7], [8], [9, 10]] tok mixed (by kernel_rfl) ?_)
  | (with_reducible refine draw_g (id := 8) [[], [4, 0, 2, 1, 3, 5], [6], [7], [8], [9, 10]] tok mixed (by kernel_rfl) ?_)
  | (with_reducible refine draw_g (id := 9) [[], [4, 0, 2, 1, 3, 5], [6], [7], [8], [9, 10]] tok mixed (by kernel_rfl) ?_)
  | (with_reducible refine draw_g (id := 11) [[], [4, 0, 2, 1, 3, 5], [6], [7], [8], [9, 10]] tok mixed (by kernel_rfl) ?_)
  | (with_reducible refine draw_g (id := 12) [[], [4, 0, 2, 1, 3, 5], [6], [7], [8], [9, 10]] tok mixed (by kernel_rfl) ?_)
  | (with_reducible refine draw_g (id := 17) [[], [4, 0, 2, 1, 3, 5], [6], [7], [8], [9, 10]] tok mixed (by kernel_rfl) ?_)
  | (with_reducible refine draw_g (id := 18) [[], [4, 0, 2, 1, 3, 5], [6], [7], [8], [9, 10]] tok mixed (by kernel_rfl) ?_)
  | with_reducible first
    | refine Chk.mk' (by first | omega | exact trivial | (simp only [List.length_append, List.length_set, List.length_replicate, List.length_take, List.length_drop, List.length_cons, List.length_nil, List.length_map]; omega)) ?_
    | refine wrap_g (by dsimp only [inR]; omega) ?_
    | refine idx_g (by omega) ?_ | refine idx_l _ rfl (by decide) ?_ | refine BothG.mk ?_ ?_ | refine fork_tt ?_ | refine fork_ff ?_
    | (refine fork_e (c := true) (by decide) ?_; refine fork_tt ?_) | (refine fork_e (c := false) (by decide) ?_; refine fork_ff ?_)
    | refine fork_t (by omega) ?_ | refine fork_f (by omega) ?_ | (refine fork_d ?_ ?_ <;> intro hc) | refine fork_n ?_ | (refine fork_b ?_ ?_ <;> intro hc)
    | refine SlcG.mk (by omega) ?_ | refine MakG.mk (by dsimp only; omega) ?_
    | refine AppG.mk (by first | omega | (simp only [List.length_append, List.length_set, List.length_replicate, List.length_take, List.length_drop, List.length_cons, List.length_nil, List.length_map]; omega)) (by dsimp only [List.length_cons, List.length_nil]; omega) (by omega) ?_
    | refine div_g (by omega) (by omega) (by dsimp only [inR]; omega) ?_ | refine mod_g (by omega) (by omega) ?_
    | refine mask_g (m := 4294967296) 32 rfl rfl (by decide) (by omega) ?_ | refine shr_g (m := 4294967296) 32 rfl (by decide) (by omega) rfl ?_
    | refine fz_all (by omega) ?_ | (refine smk ?_ ?_; constructor))
      all_goals exact ⟨ret_e rfl⟩)
theorem s_both2 {a b c d a' b' c' d' : D2} {p : Int} {r r' : PV} (h : GoodS a b) (k : GoodS c d) (h' : GoodS a' b') (k' : GoodS c' d') (f1 : FC Tryz.prog G 23 [SP a b, SP c d, .val (.int .i64 p)] (· = r)) (f2 : FC Tryz.prog G 23 [SP a' b', SP c' d', .val (.int .i64 p)] (· = r')) (hg : Grow r r') :
    FC Tryz.prog G 40 [.val (.int .i64 2), SP a b, SP c d, SP a' b', SP c' d', .val (.int .i64 p)] (· = .val (.bool true)) := by
  have t1 := s_twing (G := G) h
  have t2 := s_twing (G := G) k
  have t3 := s_twing (G := G) h'
  have t4 := s_twing (G := G) k'
  obtain ⟨x, y, x', y', e, f, h1, h2, he, hf, hw⟩ := hg
  rw [h1] at f1
  rw [h2] at f2
  clear h1 h2
  by_cases z1 : e = 0
  · by_cases z2 : f = 0
    · obtain ⟨g1, g2, w1, w2⟩ := hw z1 z2
      rw [z1] at f1
      rw [z2] at f2
      have v1 := q_form (G := G) g1
      have v2 := q_form (G := G) g2
      have v3 := s_within (G := G) g1 g2 w1 w2
      clear he hf hw z1 z2
      refine FC.intro (X := XX) tok Tryz.func40 rfl Tryz.ntmps40 (by rw [Tryz.results40]) (by kernel_rfl) rfl ?_; intro F hG hO
      rw [← hG] at f1 f2 t1 t2 t3 t4 v1 v2 v3
      repeat' ((try (conv => whnf)); first
  | ((with_reducible refine cg ?_); first | refine ceq f1 rfl ?_ | refine ceq f2 rfl ?_ | refine ceq t1 rfl ?_ | refine ceq t2 rfl ?_ | refine ceq t3 rfl ?_ | refine ceq t4 rfl ?_ | refine ceq v1 rfl ?_ | refine ceq v2 rfl ?_ | refine ceq v3 rfl ?_)
  
  | (with_reducible refine draw_g (id := 5) [[], [4, 0, 2, 1, 3, 5], [6], [7], [8], [9, 10]] tok mixed (by kernel_rfl) ?_)
  | (with_reducible refine draw_g (id := 6) [[], [4, 0, 2, 1, 3, 5], [6], [7], [8], [9, 10]] tok mixed (by kernel_rfl) ?_)
  | (with_reducible refine draw_g (id := 8) [[], [4, 0, 2, 1, 3, 5], [6], [7], [8], [9, 10]] tok mixed (by kernel_rfl) ?_)
  | (with_reducible refine draw_g (id := 9) [[], [4, 0, 2, 1, 3, 5], [6], [7], [8], [9, 10]] tok mixed (by kernel_rfl) ?_)
  | (with_reducible refine draw_g (id := 11) [[], [4, 0, 2, 1, 3, 5], [6], [7], [8], [9, 10]] tok mixed (by kernel_rfl) ?_)
  | (with_reducible refine draw_g (id := 12) [[], [4, 0, 2, 1, 3, 5], [6], [7], [8], [9, 10]] tok mixed (by kernel_rfl) ?_)
  | (with_reducible refine draw_g (id := 17) [[], [4, 0, 2, 1, 3, 5], [6], [7], [8], [9, 10]] tok mixed (by kernel_rfl) ?_)
  | (with_reducible refine draw_g (id := 18) [[], [4, 0, 2, 1, 3, 5], [6], [7], [8], [9, 10]] tok mixed (by kernel_rfl) ?_)
  | with_reducible first
    | refine Chk.mk' (by first | omega | exact trivial | (simp only [List.length_append, List.length_set, List.length_replicate, List.length_take, List.length_drop, List.length_cons, List.length_nil, List.length_map]; omega)) ?_
    | refine wrap_g (by dsimp only [inR]; omega) ?_
    | refine idx_g (by omega) ?_ | refine idx_l _ rfl (by decide) ?_ | refine BothG.mk ?_ ?_ | refine fork_tt ?_ | refine fork_ff ?_
    | (refine fork_e (c := true) (by decide) ?_; refine fork_tt ?_) | (refine fork_e (c := false) (by decide) ?_; refine fork_ff ?_)
    | refine fork_t (by omega) ?_ | refine fork_f (by omega) ?_ | (refine fork_d ?_ ?_ <;> intro hc) | refine fork_n ?_ | (refine fork_b ?_ ?_ <;> intro hc)
    | refine SlcG.mk (by omega) ?_ | refine MakG.mk (by dsimp only; omega) ?_
    | refine AppG.mk (by first | omega | (simp only [List.length_append, List.length_set, List.length_replicate, List.length_take, List.length_drop, List.length_cons, List.length_nil, List.length_map]; omega)) (by dsimp only [List.length_cons, List.length_nil]; omega) (by omega) ?_
    | refine div_g (by omega) (by omega) (by dsimp only [inR]; omega) ?_ | refine mod_g (by omega) (by omega) ?_
    | refine mask_g (m := 4294967296) 32 rfl rfl (by decide) (by omega) ?_ | refine shr_g (m := 4294967296) 32 rfl (by decide) (by omega) rfl ?_
    | refine fz_all (by omega) ?_ | (refine smk ?_ ?_; constructor))
      all_goals exact ⟨ret_e rfl⟩
    · rw [z1] at f1
      have hf' : f = 4 ∨ f = 5 := by omega
      clear he hw hf z1
      rcases hf' with hf' | hf' <;> (
        rw [hf'] at f2
        clear hf' z2
        refine FC.intro (X := XX) tok Tryz.func40 rfl Tryz.ntmps40 (by rw [Tryz.results40]) (by kernel_rfl) rfl ?_; intro F hG hO
        rw [← hG] at f1 f2 t1 t2 t3 t4
        repeat' ((try (conv => whnf)); first
  | ((with_reducible refine cg ?_); first | refine ceq f1 rfl ?_ | refine ceq f2 rfl ?_ | refine ceq t1 rfl ?_ | refine ceq t2 rfl ?_ | refine ceq t3 rfl ?_ | refine ceq t4 rfl ?_)
  
  | (with_reducible refine draw_g (id := 5) [[], [4, 0, 2, 1, 3, 5], [6], [7], [8], [9, 10]] tok mixed (by kernel_rfl) ?_)
  | (with_reducible refine draw_g (id := 6) [[], [4, 0, 2, 1, 3, 5], [6], [7], [8], [9, 10]] tok mixed (by kernel_rfl) ?_)
  | (with_reducible refine draw_g (id := 8) [[], [4, 0, 2, 1, 3, 5], [6], [7], [8], [9, 10]] tok mixed (by kernel_rfl) ?_)
  | (with_reducible refine draw_g (id := 9) [[], [4, 0, 2, 1, 3, 5], [6], [7], [8], [9, 10]] tok mixed (by kernel_rfl) ?_)
  | (with_reducible refine draw_g (id := 11) [[], [4, 0, 2, 1, 3, 5], [6], [7], [8], [9, 10]] tok mixed (by kernel_rfl) ?_)
  | (with_reducible refine draw_g (id := 12) [[], [4, 0, 2, 1, 3, 5], [6], [7], [8], [9, 10]] tok mixed (by kernel_rfl) ?_)
  | (with_reducible refine draw_g (id := 17) [[], [4, 0, 2, 1, 3, 5], [6], [7], [8], [9, 10]] tok mixed (by kernel_rfl) ?_)
  | (with_reducible refine draw_g (id := 18) [[], [4, 0, 2, 1, 3, 5], [6], [7], [8], [9, 10]] tok mixed (by kernel_rfl) ?_)
  | with_reducible first
    | refine Chk.mk' (by first | omega | exact trivial | (simp only [List.length_append, List.length_set, List.length_replicate, List.length_take, List.length_drop, List.length_cons, List.length_nil, List.length_map]; omega)) ?_
    | refine wrap_g (by dsimp only [inR]; omega) ?_
    | refine idx_g (by omega) ?_ | refine idx_l _ rfl (by decide) ?_ | refine BothG.mk ?_ ?_ | refine fork_tt ?_ | refine fork_ff ?_
    | (refine fork_e (c := true) (by decide) ?_; refine fork_tt ?_) | (refine fork_e (c := false) (by decide) ?_; refine fork_ff ?_)
    | refine fork_t (by omega) ?_ | refine fork_f (by omega) ?_ | (refine fork_d ?_ ?_ <;> intro hc) | refine fork_n ?_ | (refine fork_b ?_ ?_ <;> intro hc)
    | refine SlcG.mk (by omega) ?_ | refine MakG.mk (by dsimp only; omega) ?_
    | refine AppG.mk (by first | omega | (simp only [List.length_append, List.length_set, List.length_replicate, List.length_take, List.length_drop, List.length_cons, List.length_nil, List.length_map]; omega)) (by dsimp only [List.length_cons, List.length_nil]; omega) (by omega) ?_
    | refine div_g (by omega) (by omega) (by dsimp only [inR]; omega) ?_ | refine mod_g (by omega) (by omega) ?_
    | refine mask_g (m := 4294967296) 32 rfl rfl (by decide) (by omega) ?_ | refine shr_g (m := 4294967296) 32 rfl (by decide) (by omega) rfl ?_
    | refine fz_all (by omega) ?_ | (refine smk ?_ ?_; constructor))
        all_goals exact ⟨ret_e rfl⟩)
  · have he' : e = 4 ∨ e = 5 := by omega
    clear he hw z1
    rcases he' with he' | he' <;> rcases hf with hf | hf | hf <;> (
      rw [he'] at f1
      rw [hf] at f2
      clear he' hf
      refine FC.intro (X := XX) tok Tryz.func40 rfl Tryz.ntmps40 (by rw [Tryz.results40]) (by kernel_rfl) rfl ?_; intro F hG hO
      rw [← hG] at f1 f2 t1 t2 t3 t4
      repeat' ((try (conv => whnf)); first
  | ((with_reducible refine cg ?_); first | refine ceq f1 rfl ?_ | refine ceq f2 rfl ?_ | refine ceq t1 rfl ?_ | refine ceq t2 rfl ?_ | refine ceq t3 rfl ?_ | refine ceq t4 rfl ?_)
  
  | (with_reducible refine draw_g (id := 5) [[], [4, 0, 2, 1, 3, 5], [6], [7], [8], [9, 10]] tok mixed (by kernel_rfl) ?_)
  | (with_reducible refine draw_g (id := 6) [[], [4, 0, 2, 1, 3, 5], [6], [7], [8], [9, 10]] tok mixed (by kernel_rfl) ?_)
  | (with_reducible refine draw_g (id := 8) [[], [4, 0, 2, 1, 3, 5], [6], [7], [8], [9, 10]] tok mixed (by kernel_rfl) ?_)
  | (with_reducible refine draw_g (id := 9) [[], [4, 0, 2, 1, 3, 5], [6], [7], [8], [9, 10]] tok mixed (by kernel_rfl) ?_)
  | (with_reducible refine draw_g (id := 11) [[], [4, 0, 2, 1, 3, 5], [6], [7], [8], [9, 10]] tok mixed (by kernel_rfl) ?_)
  | (with_reducible refine draw_g (id := 12) [[], [4, 0, 2, 1, 3, 5], [6], [7], [8], [9, 10]] tok mixed (by kernel_rfl) ?_)
  | (with_reducible refine draw_g (id := 17) [[], [4, 0, 2, 1, 3, 5], [6], [7], [8], [9, 10]] tok mixed (by kernel_rfl) ?_)
  | (with_reducible refine draw_g (id := 18) [[], [4, 0, 2, 1, 3, 5], [6], [7], [8], [9, 10]] tok mixed (by kernel_rfl) ?_)
  | with_reducible first
    | refine Chk.mk' (by first | omega | exact trivial | (simp only [List.length_append, List.length_set, List.length_replicate, List.length_take, List.length_drop, List.length_cons, List.length_nil, List.length_map]; omega)) ?_
    | refine wrap_g (by dsimp only [inR]; omega) ?_
    | refine idx_g (by omega) ?_ | refine idx_l _ rfl (by decide) ?_ | refine BothG.mk ?_ ?_ | refine fork_tt ?_ | refine fork_ff ?_
    | (refine fork_e (c := true) (by decide) ?_; refine fork_tt ?_) | (refine fork_e (c := false) (by decide) ?_; refine fork_ff ?_)
    | refine fork_t (by omega) ?_ | refine fork_f (by omega) ?_ | (refine fork_d ?_ ?_ <;> intro hc) | refine fork_n ?_ | (refine fork_b ?_ ?_ <;> intro hc)
    | refine SlcG.mk (by omega) ?_ | refine MakG.mk (by dsimp only; omega) ?_
    | refine AppG.mk (by first | omega | (simp only [List.length_append, List.length_set, List.length_replicate, List.length_take, List.length_drop, List.length_cons, List.length_nil, List.length_map]; omega)) (by dsimp only [List.length_cons, List.length_nil]; omega) (by omega) ?_
    | refine div_g (by omega) (by omega) (by dsimp only [inR]; omega) ?_ | refine mod_g (by omega) (by omega) ?_
    | refine mask_g (m := 4294967296) 32 rfl rfl (by decide) (by omega) ?_ | refine shr_g (m := 4294967296) 32 rfl (by decide) (by omega) rfl ?_
    | refine fz_all (by omega) ?_ | (refine smk ?_ ?_; constructor))
      all_goals exact ⟨ret_e rfl⟩)
theorem s_both3 {a b c d a' b' c' d' : D2} {p : Int} {r r' : PV} (h : GoodS a b) (k : GoodS c d) (h' : GoodS a' b') (k' : GoodS c' d') (f1 : FC Tryz.prog G 19 [SP a b, SP c d, .val (.int .i64 p)] (· = r)) (f2 : FC Tryz.prog G 19 [SP a' b', SP c' d', .val (.int .i64 p)] (· = r')) (hg : Grow r r') :
    FC Tryz.prog G 40 [.val (.int .i64 3), SP a b, SP c d, SP a' b', SP c' d', .val (.int .i64 p)] (· = .val (.bool true)) := by
  have t1 := s_twing (G := G) h
  have t2 := s_twing (G := G) k
  have t3 := s_twing (G := G) h'
  have t4 := s_twing (G := G) k'
  obtain ⟨x, y, x', y', e, f, h1, h2, he, hf, hw⟩ := hg
  rw [h1] at f1
  rw [h2] at f2
  clear h1 h2
  by_cases z1 : e = 0
  · by_cases z2 : f = 0
    · obtain ⟨g1, g2, w1, w2⟩ := hw z1 z2
      rw [z1] at f1
      rw [z2] at f2
      have v1 := q_form (G := G) g1
      have v2 := q_form (G := G) g2
      have v3 := s_within (G := G) g1 g2 w1 w2
      clear he hf hw z1 z2
      refine FC.intro (X := XX) tok Tryz.func40 rfl Tryz.ntmps40 (by rw [Tryz.results40]) (by kernel_rfl) rfl ?_; intro F hG hO
      rw [← hG] at f1 f2 t1 t2 t3 t4 v1 v2 v3
      repeat' ((try (conv => whnf)); first
  | ((with_reducible refine cg ?_); first | refine ceq f1 rfl ?_ | refine ceq f2 rfl ?_ | refine ceq t1 rfl ?_ | refine ceq t2 rfl ?_ | refine ceq t3 rfl ?_ | refine ceq t4 rfl ?_ | refine ceq v1 rfl ?_ | refine ceq v2 rfl ?_ | refine ceq v3 rfl ?_)
  
  | (with_reducible refine draw_g (id := 5) [[], [4, 0, 2, 1, 3, 5], [6], [7], [8], [9, 10]] tok mixed (by kernel_rfl) ?_)
  | (with_reducible refine draw_g (id := 6) [[], [4, 0, 2, 1, 3, 5], [6], [7], [8], [9, 10]] tok mixed (by kernel_rfl) ?_)
  | (with_reducible refine draw_g (id := 8) [[], [4, 0, 2, 1, 3, 5], [6], [7], [8], [9, 10]] tok mixed (by kernel_rfl) ?_)
  | (with_reducible refine draw_g (id := 9) [[], [4, 0, 2, 1, 3, 5], [6], [7], [8], [9, 10]] tok mixed (by kernel_rfl) ?_)
  | (with_reducible refine draw_g (id := 11) [[], [4, 0, 2, 1, 3, 5], [6], [7], [8], [9, 10]] tok mixed (by kernel_rfl) ?_)
  | (with_reducible refine draw_g (id := 12) [[], [4, 0, 2, 1, 3, 5], [6], [7], [8], [9, 10]] tok mixed (by kernel_rfl) ?_)
  | (with_reducible refine draw_g (id := 17) [[], [4, 0, 2, 1, 3, 5], [6], [7], [8], [9, 10]] tok mixed (by kernel_rfl) ?_)
  | (with_reducible refine draw_g (id := 18) [[], [4, 0, 2, 1, 3, 5], [6], [7], [8], [9, 10]] tok mixed (by kernel_rfl) ?_)
  | with_reducible first
    | refine Chk.mk' (by first | omega | exact trivial | (simp only [List.length_append, List.length_set, List.length_replicate, List.length_take, List.length_drop, List.length_cons, List.length_nil, List.length_map]; omega)) ?_
    | refine wrap_g (by dsimp only [inR]; omega) ?_
    | refine idx_g (by omega) ?_ | refine idx_l _ rfl (by decide) ?_ | refine BothG.mk ?_ ?_ | refine fork_tt ?_ | refine fork_ff ?_
    | (refine fork_e (c := true) (by decide) ?_; refine fork_tt ?_) | (refine fork_e (c := false) (by decide) ?_; refine fork_ff ?_)
    | refine fork_t (by omega) ?_ | refine fork_f (by omega) ?_ | (refine fork_d ?_ ?_ <;> intro hc) | refine fork_n ?_ | (refine fork_b ?_ ?_ <;> intro hc)
    | refine SlcG.mk (by omega) ?_ | refine MakG.mk (by dsimp only; omega) ?_
    | refine AppG.mk (by first | omega | (simp only [List.length_append, List.length_set, List.length_replicate, List.length_take, List.length_drop, List.length_cons, List.length_nil, List.length_map]; omega)) (by dsimp only [List.length_cons, List.length_nil]; omega) (by omega) ?_
    | refine div_g (by omega) (by omega) (by dsimp only [inR]; omega) ?_ | refine mod_g (by omega) (by omega) ?_
    | refine mask_g (m := 4294967296) 32 rfl rfl (by decide) (by omega) ?_ | refine shr_g (m := 4294967296) 32 rfl (by decide) (by omega) rfl ?_
    | refine fz_all (by omega) ?_ | (refine smk ?_ ?_; constructor))
      all_goals exact ⟨ret_e rfl⟩
    · rw [z1] at f1
      have hf' : f = 4 ∨ f = 5 := by omega
      clear he hw hf z1
      rcases hf' with hf' | hf' <;> (
        rw [hf'] at f2
        clear hf' z2
        refine FC.intro (X := XX) tok Tryz.func40 rfl Tryz.ntmps40 (by rw [Tryz.results40]) (by kernel_rfl) rfl ?_; intro F hG hO
        rw [← hG] at f1 f2 t1 t2 t3 t4
        repeat' ((try (conv => whnf)); first
  | ((with_reducible refine cg ?_); first | refine ceq f1 rfl ?_ | refine ceq f2 rfl ?_ | refine ceq t1 rfl ?_ | refine ceq t2 rfl ?_ | refine ceq t3 rfl ?_ | refine ceq t4 rfl ?_)
  
  | (with_reducible refine draw_g (id := 5) [[], [4, 0, 2, 1, 3, 5], [6], [7], [8], [9, 10]] tok mixed (by kernel_rfl) ?_)
  | (with_reducible refine draw_g (id := 6) [[], [4, 0, 2, 1, 3, 5], [6], [7], [8], [9, 10]] tok mixed (by kernel_rfl) ?_)
  | (with_reducible refine draw_g (id := 8) [[], [4, 0, 2, 1, 3, 5], [6], [7], [8], [9, 10]] tok mixed (by kernel_rfl) ?_)
  | (with_reducible refine draw_g (id := 9) [[], [4, 0, 2, 1, 3, 5], [6], [7], [8], [9, 10]] tok mixed (by kernel_rfl) ?_)
  | (with_reducible refine draw_g (id := 11) [[], [4, 0, 2, 1, 3, 5], [6], [7], [8], [9, 10]] tok mixed (by kernel_rfl) ?_)
  | (with_reducible refine draw_g (id := 12) [[], [4, 0, 2, 1, 3, 5], [6], [7], [8], [9, 10]] tok mixed (by kernel_rfl) ?_)
  | (with_reducible refine draw_g (id := 17) [[], [4, 0, 2, 1, 3, 5], [6], [7], [8], [9, 10]] tok mixed (by kernel_rfl) ?_)
  | (with_reducible refine draw_g (id := 18) [[], [4, 0, 2, 1, 3, 5], [6], [7], [8], [9, 10]] tok mixed (by kernel_rfl) ?_)
  | with_reducible first
    | refine Chk.mk' (by first | omega | exact trivial | (simp only [List.length_append, List.length_set, List.length_replicate, List.length_take, List.length_drop, List.length_cons, List.length_nil, List.length_map]; omega)) ?_
    | refine wrap_g (by dsimp only [inR]; omega) ?_
    | refine idx_g (by omega) ?_ | refine idx_l _ rfl (by decide) ?_ | refine BothG.mk ?_ ?_ | refine fork_tt ?_ | refine fork_ff ?_
    | (refine fork_e (c := true) (by decide) ?_; refine fork_tt ?_) | (refine fork_e (c := false) (by decide) ?_; refine fork_ff ?_)
    | refine fork_t (by omega) ?_ | refine fork_f (by omega) ?_ | (refine fork_d ?_ ?_ <;> intro hc) | refine fork_n ?_ | (refine fork_b ?_ ?_ <;> intro hc)
    | refine SlcG.mk (by omega) ?_ | refine MakG.mk (by dsimp only; omega) ?_
    | refine AppG.mk (by first | omega | (simp only [List.length_append, List.length_set, List.length_replicate, List.length_take, List.length_drop, List.length_cons, List.length_nil, List.length_map]; omega)) (by dsimp only [List.length_cons, List.length_nil]; omega) (by omega) ?_
    | refine div_g (by omega) (by omega) (by dsimp only [inR]; omega) ?_ | refine mod_g (by omega) (by omega) ?_
    | refine mask_g (m := 4294967296) 32 rfl rfl (by decide) (by omega) ?_ | refine shr_g (m := 4294967296) 32 rfl (by decide) (by omega) rfl ?_
    | refine fz_all (by omega) ?_ | (refine smk ?_ ?_; constructor))
        all_goals exact ⟨ret_e rfl⟩)
  · have he' : e = 4 ∨ e = 5 := by omega
    clear he hw z1
    rcases he' with he' | he' <;> rcases hf with hf | hf | hf <;> (
      rw [he'] at f1
      rw [hf] at f2
      clear he' hf
      refine FC.intro (X := XX) tok Tryz.func40 rfl Tryz.ntmps40 (by rw [Tryz.results40]) (by kernel_rfl) rfl ?_; intro F hG hO
      rw [← hG] at f1 f2 t1 t2 t3 t4
      repeat' ((try (conv => whnf)); first
  | ((with_reducible refine cg ?_); first | refine ceq f1 rfl ?_ | refine ceq f2 rfl ?_ | refine ceq t1 rfl ?_ | refine ceq t2 rfl ?_ | refine ceq t3 rfl ?_ | refine ceq t4 rfl ?_)
  
  | (with_reducible refine draw_g (id := 5) [[], [4, 0, 2, 1, 3, 5], [6], [7], [8], [9, 10]] tok mixed (by kernel_rfl) ?_)
  | (with_reducible refine draw_g (id := 6) [[], [4, 0, 2, 1, 3, 5], [6], [7], [8], [9, 10]] tok mixed (by kernel_rfl) ?_)
  | (with_reducible refine draw_g (id := 8) [[], [4, 0, 2, 1, 3, 5], [6], [7], [8], [9, 10]] tok mixed (by kernel_rfl) ?_)
  | (with_reducible refine draw_g (id := 9) [[], [4, 0, 2, 1, 3, 5], [6], [7], [8], [9, 10]] tok mixed (by kernel_rfl) ?_)
  | (with_reducible refine draw_g (id := 11) [[], [4, 0, 2, 1, 3, 5], [6], [7], [8], [9, 10]] tok mixed (by kernel_rfl) ?_)
  | (with_reducible refine draw_g (id := 12) [[], [4, 0, 2, 1, 3, 5], [6], [7], [8], [9, 10]] tok mixed (by kernel_rfl) ?_)
  | (with_reducible refine draw_g (id := 17) [[], [4, 0, 2, 1, 3, 5], [6], [7], [8], [9, 10]] tok mixed (by kernel_rfl) ?_)
  | (with_reducible refine draw_g (id := 18) [[], [4, 0, 2, 1, 3, 5], [6], [7], [8], [9, 10]] tok mixed (by kernel_rfl) ?_)
  | with_reducible first
    | refine Chk.mk' (by first | omega | exact trivial | (simp only [List.length_append, List.length_set, List.length_replicate, List.length_take, List.length_drop, List.length_cons, List.length_nil, List.length_map]; omega)) ?_
    | refine wrap_g (by dsimp only [inR]; omega) ?_
    | refine idx_g (by omega) ?_ | refine idx_l _ rfl (by decide) ?_ | refine BothG.mk ?_ ?_ | refine fork_tt ?_ | refine fork_ff ?_
    | (refine fork_e (c := true) (by decide) ?_; refine fork_tt ?_) | (refine fork_e (c := false) (by decide) ?_; refine fork_ff ?_)
    | refine fork_t (by omega) ?_ | refine fork_f (by omega) ?_ | (refine fork_d ?_ ?_ <;> intro hc) | refine fork_n ?_ | (refine fork_b ?_ ?_ <;> intro hc)
    | refine SlcG.mk (by omega) ?_ | refine MakG.mk (by dsimp only; omega) ?_
    | refine AppG.mk (by first | omega | (simp only [List.length_append, List.length_set, List.length_replicate, List.length_take, List.length_drop, List.length_cons, List.length_nil, List.length_map]; omega)) (by dsimp only [List.length_cons, List.length_nil]; omega) (by omega) ?_
    | refine div_g (by omega) (by omega) (by dsimp only [inR]; omega) ?_ | refine mod_g (by omega) (by omega) ?_
    | refine mask_g (m := 4294967296) 32 rfl rfl (by decide) (by omega) ?_ | refine shr_g (m := 4294967296) 32 rfl (by decide) (by omega) rfl ?_
    | refine fz_all (by omega) ?_ | (refine smk ?_ ?_; constructor))
      all_goals exact ⟨ret_e rfl⟩)
theorem s_both4 {a b c d a' b' c' d' : D2} {p : Int} {r r' : PV} (h : GoodS a b) (k : GoodS c d) (h' : GoodS a' b') (k' : GoodS c' d') (f1 : FC Tryz.prog G 36 [SP a b, .val (.int .i64 p)] (· = r)) (f2 : FC Tryz.prog G 36 [SP a' b', .val (.int .i64 p)] (· = r')) (hg : Grow r r') :
    FC Tryz.prog G 40 [.val (.int .i64 4), SP a b, SP c d, SP a' b', SP c' d', .val (.int .i64 p)] (· = .val (.bool true)) := by
  have t1 := s_twing (G := G) h
  have t2 := s_twing (G := G) k
  have t3 := s_twing (G := G) h'
  have t4 := s_twing (G := G) k'
  obtain ⟨x, y, x', y', e, f, h1, h2, he, hf, hw⟩ := hg
  rw [h1] at f1
  rw [h2] at f2
  clear h1 h2
  by_cases z1 : e = 0
  · by_cases z2 : f = 0
    · obtain ⟨g1, g2, w1, w2⟩ := hw z1 z2
      rw [z1] at f1
      rw [z2] at f2
      have v1 := q_form (G := G) g1
      have v2 := q_form (G := G) g2
      have v3 := s_within (G := G) g1 g2 w1 w2
      clear he hf hw z1 z2
      refine FC.intro (X := XX) tok Tryz.func40 rfl Tryz.ntmps40 (by rw [Tryz.results40]) (by kernel_rfl) rfl ?_; intro F hG hO
      rw [← hG] at f1 f2 t1 t3 v1 v2 v3
      repeat' ((try (conv => whnf)); first
  | ((with_reducible refine cg ?_); first | refine ceq f1 rfl ?_ | refine ceq f2 rfl ?_ | refine ceq t1 rfl ?_ | refine ceq t3 rfl ?_ | refine ceq v1 rfl ?_ | refine ceq v2 rfl ?_ | refine ceq v3 rfl ?_)
  
  | (with_reducible refine draw_g (id := 5) [[], [4, 0, 2, 1, 3, 5], [6], [7], [8], [9, 10]] tok mixed (by kernel_rfl) ?_)
  | (with_reducible refine draw_g (id := 6) [[], [4, 0, 2, 1, 3, 5], [6], [7], [8], [9, 10]] tok mixed (by kernel_rfl) ?_)
  | (with_reducible refine draw_g (id := 8) [[], [4, 0, 2, 1, 3, 5], [6], [7], [8], [9, 10]] tok mixed (by kernel_rfl) ?_)
  | (with_reducible refine draw_g (id := 9) [[], [4, 0, 2, 1, 3, 5], [6], [7], [8], [9, 10]] tok mixed (by kernel_rfl) ?_)
  | (with_reducible refine draw_g (id := 11) [[], [4, 0, 2, 1, 3, 5], [6], [7], [8], [9, 10]] tok mixed (by kernel_rfl) ?_)
  | (with_reducible refine draw_g (id := 12) [[], [4, 0, 2, 1, 3, 5], [6], [7], [8], [9, 10]] tok mixed (by kernel_rfl) ?_)
  | (with_reducible refine draw_g (id := 17) [[], [4, 0, 2, 1, 3, 5], [6], [7], [8], [9, 10]] tok mixed (by kernel_rfl) ?_)
  | (with_reducible refine draw_g (id := 18) [[], [4, 0, 2, 1, 3, 5], [6], [7], [8], [9, 10]] tok mixed (by kernel_rfl) ?_)
  | with_reducible first
    | refine Chk.mk' (by first | omega | exact trivial | (simp only [List.length_append, List.length_set, List.length_replicate, List.length_take, List.length_drop, List.length_cons, List.length_nil, List.length_map]; omega)) ?_
    | refine wrap_g (by dsimp only [inR]; omega) ?_
    | refine idx_g (by omega) ?_ | refine idx_l _ rfl (by decide) ?_ | refine BothG.mk ?_ ?_ | refine fork_tt ?_ | refine fork_ff ?_
    | (refine fork_e (c := true) (by decide) ?_; refine fork_tt ?_) | (refine fork_e (c := false) (by decide) ?_; refine fork_ff ?_)
    | refine fork_t (by omega) ?_ | refine fork_f (by omega) ?_ | (refine fork_d ?_ ?_ <;> intro hc) | refine fork_n ?_ | (refine fork_b ?_ ?_ <;> intro hc)
    | refine SlcG.mk (by omega) ?_ | refine MakG.mk (by dsimp only; omega) ?_
    | refine AppG.mk (by first | omega | (simp only [List.length_append, List.length_set, List.length_replicate, List.length_take, List.length_drop, List.length_cons, List.length_nil, List.length_map]; omega)) (by dsimp only [List.length_cons, List.length_nil]; omega) (by omega) ?_
    | refine div_g (by omega) (by omega) (by dsimp only [inR]; omega) ?_ | refine mod_g (by omega) (by omega) ?_
    | refine mask_g (m := 4294967296) 32 rfl rfl (by decide) (by omega) ?_ | refine shr_g (m := 4294967296) 32 rfl (by decide) (by omega) rfl ?_
    | refine fz_all (by omega) ?_ | (refine smk ?_ ?_; constructor))
      all_goals exact ⟨ret_e rfl⟩
    · rw [z1] at f1
      have hf' : f = 4 ∨ f = 5 := by omega
      clear he hw hf z1
      rcases hf' with hf' | hf' <;> (
        rw [hf'] at f2
        clear hf' z2
        refine FC.intro (X := XX) tok Tryz.func40 rfl Tryz.ntmps40 (by rw [Tryz.results40]) (by kernel_rfl) rfl ?_; intro F hG hO
        rw [← hG] at f1 f2 t1 t3
        repeat' ((try (conv => whnf)); first
  | ((with_reducible refine cg ?_); first | refine ceq f1 rfl ?_ | refine ceq f2 rfl ?_ | refine ceq t1 rfl ?_ | refine ceq t3 rfl ?_)
  
  | (with_reducible refine draw_g (id := 5) [[], [4, 0, 2, 1, 3, 5], [6], [7], [8], [9, 10]] tok mixed (by kernel_rfl) ?_)
  | (with_reducible refine draw_g (id := 6) [[], [4, 0, 2, 1, 3, 5], [6], [7], [8], [9, 10]] tok mixed (by kernel_rfl) ?_)
  | (with_reducible refine draw_g (id := 8) [[], [4, 0, 2, 1, 3, 5], [6], [7], [8], [9, 10]] tok mixed (by kernel_rfl) ?_)
  | (with_reducible refine draw_g (id := 9) [[], [4, 0, 2, 1, 3, 5], [6], [7], [8], [9, 10]] tok mixed (by kernel_rfl) ?_)
  | (with_reducible refine draw_g (id := 11) [[], [4, 0, 2, 1, 3, 5], [6], [7], [8], [9, 10]] tok mixed (by kernel_rfl) ?_)
  | (with_reducible refine draw_g (id := 12) [[], [4, 0, 2, 1, 3, 5], [6], [7], [8], [9, 10]] tok mixed (by kernel_rfl) ?_)
  | (with_reducible refine draw_g (id := 17) [[], [4, 0, 2, 1, 3, 5], [6], [7], [8], [9, 10]] tok mixed (by kernel_rfl) ?_)
  | (with_reducible refine draw_g (id := 18) [[], [4, 0, 2, 1, 3, 5], [6], [7], [8], [9, 10]] tok mixed (by kernel_rfl) ?_)
  | with_reducible first
    | refine Chk.mk' (by first | omega | exact trivial | (simp only [List.length_append, List.length_set, List.length_replicate, List.length_take, List.length_drop, List.length_cons, List.length_nil, List.length_map]; omega)) ?_
    | refine wrap_g (by dsimp only [inR]; omega) ?_
    | refine idx_g (by omega) ?_ | refine idx_l _ rfl (by decide) ?_ | refine BothG.mk ?_ ?_ | refine fork_tt ?_ | refine fork_ff ?_
    | (refine fork_e (c := true) (by decide) ?_; refine fork_tt ?_) | (refine fork_e (c := false) (by decide) ?_; refine fork_ff ?_)
    | refine fork_t (by omega) ?_ | refine fork_f (by omega) ?_ | (refine fork_d ?_ ?_ <;> intro hc) | refine fork_n ?_ | (refine fork_b ?_ ?_ <;> intro hc)
    | refine SlcG.mk (by omega) ?_ | refine MakG.mk (by dsimp only; omega) ?_
    | refine AppG.mk (by first | omega | (simp only [List.length_append, List.length_set, List.length_replicate, List.length_take, List.length_drop, List.length_cons, List.length_nil, List.length_map]; omega)) (by dsimp only [List.length_cons, List.length_nil]; omega) (by omega) ?_
    | refine div_g (by omega) (by omega) (by dsimp only [inR]; omega) ?_ | refine mod_g (by omega) (by omega) ?_
    | refine mask_g (m := 4294967296) 32 rfl rfl (by decide) (by omega) ?_ | refine shr_g (m := 4294967296) 32 rfl (by decide) (by omega) rfl ?_
    | refine fz_all (by omega) ?_ | (refine smk ?_ ?_; constructor))
        all_goals exact ⟨ret_e rfl⟩)
  · have he' : e = 4 ∨ e = 5 := by omega
    clear he hw z1
    rcases he' with he' | he' <;> rcases hf with hf | hf | hf <;> (
      rw [he'] at f1
      rw [hf] at f2
      clear he' hf
      refine FC.intro (X := XX) tok Tryz.func40 rfl Tryz.ntmps40 (by rw [Tryz.results40]) (by kernel_rfl) rfl ?_; intro F hG hO
      rw [← hG] at f1 f2 t1 t3
      repeat' ((try (conv => whnf)); first
  | ((with_reducible refine cg ?_); first | refine ceq f1 rfl ?_ | refine ceq f2 rfl ?_ | refine ceq t1 rfl ?_ | refine ceq t3 rfl ?_)
  
  | (with_reducible refine draw_g (id := 5) [[], [4, 0, 2, 1, 3, 5], [6], [7], [8], [9, 10]] tok mixed (by kernel_rfl) ?_)
  | (with_reducible refine draw_g (id := 6) [[], [4, 0, 2, 1, 3, 5], [6], [7], [8], [9, 10]] tok mixed (by kernel_rfl) ?_)
  | (with_reducible refine draw_g (id := 8) [[], [4, 0, 2, 1, 3, 5], [6], [7], [8], [9, 10]] tok mixed (by kernel_rfl) ?_)
  | (with_reducible refine draw_g (id := 9) [[], [4, 0, 2, 1, 3, 5], [6], [7], [8], [9, 10]] tok mixed (by kernel_rfl) ?_)
  | (with_reducible refine draw_g (id := 11) [[], [4, 0, 2, 1, 3, 5], [6], [7], [8], [9, 10]] tok mixed (by kernel_rfl) ?_)
  | (with_reducible refine draw_g (id := 12) [[], [4, 0, 2, 1, 3, 5], [6], [7], [8], [9, 10]] tok mixed (by kernel_rfl) ?_)
  | (with_reducible refine draw_g (id := 17) [[], [4, 0, 2, 1, 3, 5], [6], [7], [8], [9, 10]] tok mixed (by kernel_rfl) ?_)
  | (with_reducible refine draw_g (id := 18) [[], [4, 0, 2, 1, 3, 5], [6], [7], [8], [9, 10]] tok mixed (by kernel_rfl) ?_)
  | with_reducible first
    | refine Chk.mk' (by first | omega | exact trivial | (simp only [List.length_append, List.length_set, List.length_replicate, List.length_take, List.length_drop, List.length_cons, List.length_nil, List.length_map]; omega)) ?_
    | refine wrap_g (by dsimp only [inR]; omega) ?_
    | refine idx_g (by omega) ?_ | refine idx_l _ rfl (by decide) ?_ | refine BothG.mk ?_ ?_ | refine fork_tt ?_ | refine fork_ff ?_
    | (refine fork_e (c := true) (by decide) ?_; refine fork_tt ?_) | (refine fork_e (c := false) (by decide) ?_; refine fork_ff ?_)
    | refine fork_t (by omega) ?_ | refine fork_f (by omega) ?_ | (refine fork_d ?_ ?_ <;> intro hc) | refine fork_n ?_ | (refine fork_b ?_ ?_ <;> intro hc)
    | refine SlcG.mk (by omega) ?_ | refine MakG.mk (by dsimp only; omega) ?_
    | refine AppG.mk (by first | omega | (simp only [List.length_append, List.length_set, List.length_replicate, List.length_take, List.length_drop, List.length_cons, List.length_nil, List.length_map]; omega)) (by dsimp only [List.length_cons, List.length_nil]; omega) (by omega) ?_
    | refine div_g (by omega) (by omega) (by dsimp only [inR]; omega) ?_ | refine mod_g (by omega) (by omega) ?_
    | refine mask_g (m := 4294967296) 32 rfl rfl (by decide) (by omega) ?_ | refine shr_g (m := 4294967296) 32 rfl (by decide) (by omega) rfl ?_
    | refine fz_all (by omega) ?_ | (refine smk ?_ ?_; constructor))
      all_goals exact ⟨ret_e rfl⟩)
theorem s_both5 {a b c d a' b' c' d' : D2} {p : Int} {r r' : PV} (h : GoodS a b) (k : GoodS c d) (h' : GoodS a' b') (k' : GoodS c' d') (f1 : FC Tryz.prog G 14 [SP a b, SP c d, .val (.int .i64 p)] (· = r)) (f2 : FC Tryz.prog G 14 [SP a' b', SP c' d', .val (.int .i64 p)] (· = r')) (hg : Grow r r') :
    FC Tryz.prog G 40 [.val (.int .i64 5), SP a b, SP c d, SP a' b', SP c' d', .val (.int .i64 p)] (· = .val (.bool true)) := by
  have t1 := s_twing (G := G) h
  have t2 := s_twing (G := G) k
  have t3 := s_twing (G := G) h'
  have t4 := s_twing (G := G) k'
  obtain ⟨x, y, x', y', e, f, h1, h2, he, hf, hw⟩ := hg
  rw [h1] at f1
  rw [h2] at f2
  clear h1 h2
  by_cases z1 : e = 0
  · by_cases z2 : f = 0
    · obtain ⟨g1, g2, w1, w2⟩ := hw z1 z2
      rw [z1] at f1
      rw [z2] at f2
      have v1 := q_form (G := G) g1
      have v2 := q_form (G := G) g2
      have v3 := s_within (G := G) g1 g2 w1 w2
      clear he hf hw z1 z2
      refine FC.intro (X := XX) tok Tryz.func40 rfl Tryz.ntmps40 (by rw [Tryz.results40]) (by kernel_rfl) rfl ?_; intro F hG hO
      rw [← hG] at f1 f2 t1 t2 t3 t4 v1 v2 v3
      repeat' ((try (conv => whnf)); first
  | ((with_reducible refine cg ?_); first | refine ceq f1 rfl ?_ | refine ceq f2 rfl ?_ | refine ceq t1 rfl ?_ | refine ceq t2 rfl ?_ | refine ceq t3 rfl ?_ | refine ceq t4 rfl ?_ | refine ceq v1 rfl ?_ | refine ceq v2 rfl ?_ | refine ceq v3 rfl ?_)
  
  | (with_reducible refine draw_g (id := 5) [[], [4, 0, 2, 1, 3, 5], [6], [7], [8], [9, 10]] tok mixed (by kernel_rfl) ?_)
  | (with_reducible refine draw_g (id := 6) [[], [4, 0, 2, 1, 3, 5], [6], [7], [8], [9, 10]] tok mixed (by kernel_rfl) ?_)
  | (with_reducible refine draw_g (id := 8) [[], [4, 0, 2, 1, 3, 5], [6], [7], [8], [9, 10]] tok mixed (by kernel_rfl) ?_)
  | (with_reducible refine draw_g (id := 9) [[], [4, 0, 2, 1, 3, 5], [6], [7], [8], [9, 10]] tok mixed (by kernel_rfl) ?_)
  | (with_reducible refine draw_g (id := 11) [[], [4, 0, 2, 1, 3, 5], [6], [7], [8], [9, 10]] tok mixed (by kernel_rfl) ?_)
  | (with_reducible refine draw_g (id := 12) [[], [4, 0, 2, 1, 3, 5], [6], [7], [8], [9, 10]] tok mixed (by kernel_rfl) ?_)
  | (with_reducible refine draw_g (id := 17) [[], [4, 0, 2, 1, 3, 5], [6], [7], [8], [9, 10]] tok mixed (by kernel_rfl) ?_)
  | (with_reducible refine draw_g (id := 18) [[], [4, 0, 2, 1, 3, 5], [6], [7], [8], [9, 10]] tok mixed (by kernel_rfl) ?_)
  | with_reducible first
    | refine Chk.mk' (by first | omega | exact trivial | (simp only [List.length_append, List.length_set, List.length_replicate, List.length_take, List.length_drop, List.length_cons, List.length_nil, List.length_map]; omega)) ?_
    | refine wrap_g (by dsimp only [inR]; omega) ?_
    | refine idx_g (by omega) ?_ | refine idx_l _ rfl (by decide) ?_ | refine BothG.mk ?_ ?_ | refine fork_tt ?_ | refine fork_ff ?_
    | (refine fork_e (c := true) (by decide) ?_; refine fork_tt ?_) | (refine fork_e (c := false) (by decide) ?_; refine fork_ff ?_)
    | refine fork_t (by omega) ?_ | refine fork_f (by omega) ?_ | (refine fork_d ?_ ?_ <;> intro hc) | refine fork_n ?_ | (refine fork_b ?_ ?_ <;> intro hc)
    | refine SlcG.mk (by omega) ?_ | refine MakG.mk (by dsimp only; omega) ?_
    | refine AppG.mk (by first | omega | (simp only [List.length_append, List.length_set, List.length_replicate, List.length_take, List.length_drop, List.length_cons, List.length_nil, List.length_map]; omega)) (by dsimp only [List.length_cons, List.length_nil]; omega) (by omega) ?_
    | refine div_g (by omega) (by omega) (by dsimp only [inR]; omega) ?_ | refine mod_g (by omega) (by omega) ?_
    | refine mask_g (m := 4294967296) 32 rfl rfl (by decide) (by omega) ?_ | refine shr_g (m := 4294967296) 32 rfl (by decide) (by omega) rfl ?_
    | refine fz_all (by omega) ?_ | (refine smk ?_ ?_; constructor))
      all_goals exact ⟨ret_e rfl⟩
    · rw [z1] at f1
      have hf' : f = 4 ∨ f = 5 := by omega
      clear he hw hf z1
      rcases hf' with hf' | hf' <;> (
        rw [hf'] at f2
        clear hf' z2
        refine FC.intro (X := XX) tok Tryz.func40 rfl Tryz.ntmps40 (by rw [Tryz.results40]) (by kernel_rfl) rfl ?_; intro F hG hO
        rw [← hG] at f1 f2 t1 t2 t3 t4
        repeat' ((try (conv => whnf)); first
  | ((with_reducible refine cg ?_); first | refine ceq f1 rfl ?_ | refine ceq f2 rfl ?_ | refine ceq t1 rfl ?_ | refine ceq t2 rfl ?_ | refine ceq t3 rfl ?_ | refine ceq t4 rfl ?_)
  
  | (with_reducible refine draw_g (id := 5) [[], [4, 0, 2, 1, 3, 5], [6], [7], [8], [9, 10]] tok mixed (by kernel_rfl) ?_)
  | (with_reducible refine draw_g (id := 6) [[], [4, 0, 2, 1, 3, 5], [6], [7], [8], [9, 10]] tok mixed (by kernel_rfl) ?_)
  | (with_reducible refine draw_g (id := 8) [[], [4, 0, 2, 1, 3, 5], [6], [7], [8], [9, 10]] tok mixed (by kernel_rfl) ?_)
  | (with_reducible refine draw_g (id := 9) [[], [4, 0, 2, 1, 3, 5], [6], [7], [8], [9, 10]] tok mixed (by kernel_rfl) ?_)
  | (with_reducible refine draw_g (id := 11) [[], [4, 0, 2, 1, 3, 5], [6], [7], [8], [9, 10]] tok mixed (by kernel_rfl) ?_)
  | (with_reducible refine draw_g (id := 12) [[], [4, 0, 2, 1, 3, 5], [6], [7], [8], [9, 10]] tok mixed (by kernel_rfl) ?_)
  | (with_reducible refine draw_g (id := 17) [[], [4, 0, 2, 1, 3, 5], [6], [7], [8], [9, 10]] tok mixed (by kernel_rfl) ?_)
  | (with_reducible refine draw_g (id := 18) [[], [4, 0, 2, 1, 3, 5], [6], [7], [8], [9, 10]] tok mixed (by kernel_rfl) ?_)
  | with_reducible first
    | refine Chk.mk' (by first | omega | exact trivial | (simp only [List.length_append, List.length_set, List.length_replicate, List.length_take, List.length_drop, List.length_cons, List.length_nil, List.length_map]; omega)) ?_
    | refine wrap_g (by dsimp only [inR]; omega) ?_
    | refine idx_g (by omega) ?_ | refine idx_l _ rfl (by decide) ?_ | refine BothG.mk ?_ ?_ | refine fork_tt ?_ | refine fork_ff ?_
    | (refine fork_e (c := true) (by decide) ?_; refine fork_tt ?_) | (refine fork_e (c := false) (by decide) ?_; refine fork_ff ?_)
    | refine fork_t (by omega) ?_ | refine fork_f (by omega) ?_ | (refine fork_d ?_ ?_ <;> intro hc) | refine fork_n ?_ | (refine fork_b ?_ ?_ <;> intro hc)
    | refine SlcG.mk (by omega) ?_ | refine MakG.mk (by dsimp only; omega) ?_
    | refine AppG.mk (by first | omega | (simp only [List.length_append, List.length_set, List.length_replicate, List.length_take, List.length_drop, List.length_cons, List.length_nil, List.length_map]; omega)) (by dsimp only [List.length_cons, List.length_nil]; omega) (by omega) ?_
    | refine div_g (by omega) (by omega) (by dsimp only [inR]; omega) ?_ | refine mod_g (by omega) (by omega) ?_
    | refine mask_g (m := 4294967296) 32 rfl rfl (by decide) (by omega) ?_ | refine shr_g (m := 4294967296) 32 rfl (by decide) (by omega) rfl ?_
    | refine fz_all (by omega) ?_ | (refine smk ?_ ?_; constructor))
        all_goals exact ⟨ret_e rfl⟩)
  · have he' : e = 4 ∨ e = 5 := by omega
    clear he hw z1
    rcases he' with he' | he' <;> rcases hf with hf | hf | hf <;> (
      rw [he'] at f1
      rw [hf] at f2
      clear he' hf
      refine FC.intro (X := XX) tok Tryz.func40 rfl Tryz.ntmps40 (by rw [Tryz.results40]) (by kernel_rfl) rfl ?_; intro F hG hO
      rw [← hG] at f1 f2 t1 t2 t3 t4
      repeat' ((try (conv => whnf)); first
  | ((with_reducible refine cg ?_); first | refine ceq f1 rfl ?_ | refine ceq f2 rfl ?_ | refine ceq t1 rfl ?_ | refine ceq t2 rfl ?_ | refine ceq t3 rfl ?_ | refine ceq t4 rfl ?_)
  
  | (with_reducible refine draw_g (id := 5) [[], [4, 0, 2, 1, 3, 5], [6], [7], [8], [9, 10]] tok mixed (by kernel_rfl) ?_)
  | (with_reducible refine draw_g (id := 6) [[], [4, 0, 2, 1, 3, 5], [6], [7], [8], [9, 10]] tok mixed (by kernel_rfl) ?_)
  | (with_reducible refine draw_g (id := 8) [[], [4, 0, 2, 1, 3, 5], [6], [7], [8], [9, 10]] tok mixed (by kernel_rfl) ?_)
  | (with_reducible refine draw_g (id := 9) [[], [4, 0, 2, 1, 3, 5], [6], [7], [8], [9, 10]] tok mixed (by kernel_rfl) ?_)
  | (with_reducible refine draw_g (id := 11) [[], [4, 0, 2, 1, 3, 5], [6], [7], [8], [9, 10]] tok mixed (by kernel_rfl) ?_)
  | (with_reducible refine draw_g (id := 12) [[], [4, 0, 2, 1, 3, 5], [6], [7], [8], [9, 10]] tok mixed (by kernel_rfl) ?_)
  | (with_reducible refine draw_g (id := 17) [[], [4, 0, 2, 1, 3, 5], [6], [7], [8], [9, 10]] tok mixed (by kernel_rfl) ?_)
  | (with_reducible refine draw_g (id := 18) [[], [4, 0, 2, 1, 3, 5], [6], [7], [8], [9, 10]] tok mixed (by kernel_rfl) ?_)
  | with_reducible first
    | refine Chk.mk' (by first | omega | exact trivial | (simp only [List.length_append, List.length_set, List.length_replicate, List.length_take, List.length_drop, List.length_cons, List.length_nil, List.length_map]; omega)) ?_
    | refine wrap_g (by dsimp only [inR]; omega) ?_
    | refine idx_g (by omega) ?_ | refine idx_l _ rfl (by decide) ?_ | refine BothG.mk ?_ ?_ | refine fork_tt ?_ | refine fork_ff ?_
    | (refine fork_e (c := true) (by decide) ?_; refine fork_tt ?_) | (refine fork_e (c := false) (by decide) ?_; refine fork_ff ?_)
    | refine fork_t (by omega) ?_ | refine fork_f (by omega) ?_ | (refine fork_d ?_ ?_ <;> intro hc) | refine fork_n ?_ | (refine fork_b ?_ ?_ <;> intro hc)
    | refine SlcG.mk (by omega) ?_ | refine MakG.mk (by dsimp only; omega) ?_
    | refine AppG.mk (by first | omega | (simp only [List.length_append, List.length_set, List.length_replicate, List.length_take, List.length_drop, List.length_cons, List.length_nil, List.length_map]; omega)) (by dsimp only [List.length_cons, List.length_nil]; omega) (by omega) ?_
    | refine div_g (by omega) (by omega) (by dsimp only [inR]; omega) ?_ | refine mod_g (by omega) (by omega) ?_
    | refine mask_g (m := 4294967296) 32 rfl rfl (by decide) (by omega) ?_ | refine shr_g (m := 4294967296) 32 rfl (by decide) (by omega) rfl ?_
    | refine fz_all (by omega) ?_ | (refine smk ?_ ?_; constructor))
      all_goals exact ⟨ret_e rfl⟩)
theorem l_spanGrows {g : List (Nat × List Value)} (hD : (0, debT.map (Value.int .u8)) ∈ g) (b1 : Bool) (l1 : List Int) (e1 : Int) (b2 : Bool) (l2 : List Int) (e2 : Int) (b3 : Bool) (l3 : List Int) (e3 : Int) (b4 : Bool) (l4 : List Int) (e4 : Int) (b5 : Bool) (l5 : List Int) (e5 : Int) (b6 : Bool) (l6 : List Int) (e6 : Int) (b7 : Bool) (l7 : List Int) (e7 : Int) (b8 : Bool) (l8 : List Int) (e8 : Int) (p : Int) (o1 : OKM l1) (o2 : OKM l2) (o3 : OKM l3) (o4 : OKM l4) (o5 : OKM l5) (o6 : OKM l6) (o7 : OKM l7) (o8 : OKM l8) (hp0 : inR .i64 p) : FC Tryz.prog g 8 [Sp b1 l1 e1 b2 l2 e2, Sp b3 l3 e3 b4 l4 e4, Sp b5 l5 e5 b6 l6 e6, Sp b7 l7 e7 b8 l8 e8, .val (.int .i64 p)] (· = .val (.bool true)) := by
  have aw := s_awake hD
  have q0 := q_formX (G := g) b1 l1 e1 b2 l2 e2 o1.1 o2.1
  cases h0 : spF b1 l1 e1 b2 l2 e2 with
  | false =>
    rw [h0] at q0
    refine FC.intro (X := XX) tok Tryz.func8 rfl Tryz.ntmps8 (by rw [Tryz.results8]) (by kernel_rfl) rfl ?_; intro F hG hO
    rw [← hG] at aw q0
    repeat' ((try (conv => whnf)); first
  | ((with_reducible refine cg ?_); first | refine ceq aw rfl ?_ | refine ceq q0 rfl ?_)
  
  | with_reducible first
    | refine Chk.mk' (by first | omega | exact trivial | (simp only [List.length_append, List.length_set, List.length_replicate, List.length_take, List.length_drop, List.length_cons, List.length_nil, List.length_map]; omega)) ?_
    | refine wrap_g (by dsimp only [inR]; omega) ?_
    | refine idx_g (by omega) ?_ | refine idx_l _ rfl (by decide) ?_ | refine BothG.mk ?_ ?_ | refine fork_tt ?_ | refine fork_ff ?_
    | (refine fork_e (c := true) (by decide) ?_; refine fork_tt ?_) | (refine fork_e (c := false) (by decide) ?_; refine fork_ff ?_)
    | refine fork_t (by omega) ?_ | refine fork_f (by omega) ?_ | (refine fork_d ?_ ?_ <;> intro hc) | refine fork_n ?_ | (refine fork_b ?_ ?_ <;> intro hc)
    | refine SlcG.mk (by omega) ?_ | refine MakG.mk (by dsimp only; omega) ?_
    | refine AppG.mk (by first | omega | (simp only [List.length_append, List.length_set, List.length_replicate, List.length_take, List.length_drop, List.length_cons, List.length_nil, List.length_map]; omega)) (by dsimp only [List.length_cons, List.length_nil]; omega) (by omega) ?_
    | refine div_g (by omega) (by omega) (by dsimp only [inR]; omega) ?_ | refine mod_g (by omega) (by omega) ?_
    | refine mask_g (m := 4294967296) 32 rfl rfl (by decide) (by omega) ?_ | refine shr_g (m := 4294967296) 32 rfl (by decide) (by omega) rfl ?_
    | refine fz_all (by omega) ?_ | (refine smk ?_ ?_; constructor))
    all_goals exact ⟨ret_e rfl⟩
  | true =>
  rw [h0] at q0
  obtain ⟨a, b, E0, g0⟩ := spF_ex o1.1 o2.1 h0
  rw [E0] at q0 ⊢
  clear h0 E0 o1 o2
  have q1 := q_formX (G := g) b3 l3 e3 b4 l4 e4 o3.1 o4.1
  cases h1 : spF b3 l3 e3 b4 l4 e4 with
  | false =>
    rw [h1] at q1
    refine FC.intro (X := XX) tok Tryz.func8 rfl Tryz.ntmps8 (by rw [Tryz.results8]) (by kernel_rfl) rfl ?_; intro F hG hO
    rw [← hG] at aw q0 q1
    repeat' ((try (conv => whnf)); first
  | ((with_reducible refine cg ?_); first | refine ceq aw rfl ?_ | refine ceq q0 rfl ?_ | refine ceq q1 rfl ?_)
  
  | with_reducible first
    | refine Chk.mk' (by first | omega | exact trivial | (simp only [List.length_append, List.length_set, List.length_replicate, List.length_take, List.length_drop, List.length_cons, List.length_nil, List.length_map]; omega)) ?_
    | refine wrap_g (by dsimp only [inR]; omega) ?_
    | refine idx_g (by omega) ?_ | refine idx_l _ rfl (by decide) ?_ | refine BothG.mk ?_ ?_ | refine fork_tt ?_ | refine fork_ff ?_
    | (refine fork_e (c := true) (by decide) ?_; refine fork_tt ?_) | (refine fork_e (c := false) (by decide) ?_; refine fork_ff ?_)
    | refine fork_t (by omega) ?_ | refine fork_f (by omega) ?_ | (refine fork_d ?_ ?_ <;> intro hc) | refine fork_n ?_ | (refine fork_b ?_ ?_ <;> intro hc)
    | refine SlcG.mk (by omega) ?_ | refine MakG.mk (by dsimp only; omega) ?_
    | refine AppG.mk (by first | omega | (simp only [List.length_append, List.length_set, List.length_replicate, List.length_take, List.length_drop, List.length_cons, List.length_nil, List.length_map]; omega)) (by dsimp only [List.length_cons, List.length_nil]; omega) (by omega) ?_
    | refine div_g (by omega) (by omega) (by dsimp only [inR]; omega) ?_ | refine mod_g (by omega) (by omega) ?_
    | refine mask_g (m := 4294967296) 32 rfl rfl (by decide) (by omega) ?_ | refine shr_g (m := 4294967296) 32 rfl (by decide) (by omega) rfl ?_
    | refine fz_all (by omega) ?_ | (refine smk ?_ ?_; constructor))
    all_goals exact ⟨ret_e rfl⟩
  | true =>
  rw [h1] at q1
  obtain ⟨c, d, E1, g1⟩ := spF_ex o3.1 o4.1 h1
  rw [E1] at q1 ⊢
  clear h1 E1 o3 o4
  have q2 := q_formX (G := g) b5 l5 e5 b6 l6 e6 o5.1 o6.1
  cases h2 : spF b5 l5 e5 b6 l6 e6 with
  | false =>
    rw [h2] at q2
    refine FC.intro (X := XX) tok Tryz.func8 rfl Tryz.ntmps8 (by rw [Tryz.results8]) (by kernel_rfl) rfl ?_; intro F hG hO
    rw [← hG] at aw q0 q1 q2
    repeat' ((try (conv => whnf)); first
  | ((with_reducible refine cg ?_); first | refine ceq aw rfl ?_ | refine ceq q0 rfl ?_ | refine ceq q1 rfl ?_ | refine ceq q2 rfl ?_)
  
  | with_reducible first
    | refine Chk.mk' (by first | omega | exact trivial | (simp only [List.length_append, List.length_set, List.length_replicate, List.length_take, List.length_drop, List.length_cons, List.length_nil, List.length_map]; omega)) ?_
    | refine wrap_g (by dsimp only [inR]; omega) ?_
    | refine idx_g (by omega) ?_ | refine idx_l _ rfl (by decide) ?_ | refine BothG.mk ?_ ?_ | refine fork_tt ?_ | refine fork_ff ?_
    | (refine fork_e (c := true) (by decide) ?_; refine fork_tt ?_) | (refine fork_e (c := false) (by decide) ?_; refine fork_ff ?_)
    | refine fork_t (by omega) ?_ | refine fork_f (by omega) ?_ | (refine fork_d ?_ ?_ <;> intro hc) | refine fork_n ?_ | (refine fork_b ?_ ?_ <;> intro hc)
    | refine SlcG.mk (by omega) ?_ | refine MakG.mk (by dsimp only; omega) ?_
    | refine AppG.mk (by first | omega | (simp only [List.length_append, List.length_set, List.length_replicate, List.length_take, List.length_drop, List.length_cons, List.length_nil, List.length_map]; omega)) (by dsimp only [List.length_cons, List.length_nil]; omega) (by omega) ?_
    | refine div_g (by omega) (by omega) (by dsimp only [inR]; omega) ?_ | refine mod_g (by omega) (by omega) ?_
    | refine mask_g (m := 4294967296) 32 rfl rfl (by decide) (by omega) ?_ | refine shr_g (m := 4294967296) 32 rfl (by decide) (by omega) rfl ?_
    | refine fz_all (by omega) ?_ | (refine smk ?_ ?_; constructor))
    all_goals exact ⟨ret_e rfl⟩
  | true =>
  rw [h2] at q2
  obtain ⟨e, f, E2, g2⟩ := spF_ex o5.1 o6.1 h2
  rw [E2] at q2 ⊢
  clear h2 E2 o5 o6
  have q3 := q_formX (G := g) b7 l7 e7 b8 l8 e8 o7.1 o8.1
  cases h3 : spF b7 l7 e7 b8 l8 e8 with
  | false =>
    rw [h3] at q3
    refine FC.intro (X := XX) tok Tryz.func8 rfl Tryz.ntmps8 (by rw [Tryz.results8]) (by kernel_rfl) rfl ?_; intro F hG hO
    rw [← hG] at aw q0 q1 q2 q3
    repeat' ((try (conv => whnf)); first
  | ((with_reducible refine cg ?_); first | refine ceq aw rfl ?_ | refine ceq q0 rfl ?_ | refine ceq q1 rfl ?_ | refine ceq q2 rfl ?_ | refine ceq q3 rfl ?_)
  
  | with_reducible first
    | refine Chk.mk' (by first | omega | exact trivial | (simp only [List.length_append, List.length_set, List.length_replicate, List.length_take, List.length_drop, List.length_cons, List.length_nil, List.length_map]; omega)) ?_
    | refine wrap_g (by dsimp only [inR]; omega) ?_
    | refine idx_g (by omega) ?_ | refine idx_l _ rfl (by decide) ?_ | refine BothG.mk ?_ ?_ | refine fork_tt ?_ | refine fork_ff ?_
    | (refine fork_e (c := true) (by decide) ?_; refine fork_tt ?_) | (refine fork_e (c := false) (by decide) ?_; refine fork_ff ?_)
    | refine fork_t (by omega) ?_ | refine fork_f (by omega) ?_ | (refine fork_d ?_ ?_ <;> intro hc) | refine fork_n ?_ | (refine fork_b ?_ ?_ <;> intro hc)
    | refine SlcG.mk (by omega) ?_ | refine MakG.mk (by dsimp only; omega) ?_
    | refine AppG.mk (by first | omega | (simp only [List.length_append, List.length_set, List.length_replicate, List.length_take, List.length_drop, List.length_cons, List.length_nil, List.length_map]; omega)) (by dsimp only [List.length_cons, List.length_nil]; omega) (by omega) ?_
    | refine div_g (by omega) (by omega) (by dsimp only [inR]; omega) ?_ | refine mod_g (by omega) (by omega) ?_
    | refine mask_g (m := 4294967296) 32 rfl rfl (by decide) (by omega) ?_ | refine shr_g (m := 4294967296) 32 rfl (by decide) (by omega) rfl ?_
    | refine fz_all (by omega) ?_ | (refine smk ?_ ?_; constructor))
    all_goals exact ⟨ret_e rfl⟩
  | true =>
  rw [h3] at q3
  obtain ⟨u, v, E3, g3⟩ := spF_ex o7.1 o8.1 h3
  rw [E3] at q3 ⊢
  clear h3 E3 o7 o8
  by_cases hp : 1 ≤ p ∧ p ≤ 70000
  · have gg := g0.hull g2
    have gh := g1.hull g3
    have r1 := p_hull (G := g) g0 g2
    have r2 := p_hull (G := g) g1 g3
    have w1 : Wider a b (lst2 a e) (gst2 b f) := ⟨by rw [lst2_v]; omega, by rw [gst2_v]; omega⟩
    have w2 : Wider c d (lst2 c u) (gst2 d v) := ⟨by rw [lst2_v]; omega, by rw [gst2_v]; omega⟩
    have w3 : Wider e f (lst2 a e) (gst2 b f) := ⟨by rw [lst2_v]; omega, by rw [gst2_v]; omega⟩
    have w4 : Wider u v (lst2 c u) (gst2 d v) := ⟨by rw [lst2_v]; omega, by rw [gst2_v]; omega⟩
    obtain ⟨gl, hgl⟩ : ∃ r, r = lst2 a e := ⟨_, rfl⟩
    obtain ⟨gu, hgu⟩ : ∃ r, r = gst2 b f := ⟨_, rfl⟩
    obtain ⟨hl, hhl⟩ : ∃ r, r = lst2 c u := ⟨_, rfl⟩
    obtain ⟨hu, hhu⟩ : ∃ r, r = gst2 d v := ⟨_, rfl⟩
    rw [← hgl, ← hgu] at gg r1 w1 w3
    rw [← hhl, ← hhu] at gh r2 w2 w4
    clear hgl hgu hhl hhu
    have v1 := s_within (G := g) g0 gg w1.1 w1.2
    have v2 := s_within (G := g) g2 gg w3.1 w3.2
    have v3 := s_within (G := g) g1 gh w2.1 w2.2
    have v4 := s_within (G := g) g3 gh w4.1 w4.2
    have k1 := q_form (G := g) gg
    have k2 := q_form (G := g) gh
    have t0 := s_twing (G := g) g0
    have t1 := s_twing (G := g) g1
    have t2 := s_twing (G := g) g2
    have t3 := s_twing (G := g) g3
    have n1 := s_both1 g0 g1 gg gh (p_add hD g0 g1 hp) (p_add hD gg gh hp) (grow_sum g0 g1 gg gh w1 w2 hp)
    have n2 := s_both2 g0 g1 gg gh (p_sub hD g0 g1 hp) (p_sub hD gg gh hp) (grow_sum g0 g1.neg gg gh.neg w1 ⟨by rw [D2.neg_v, D2.neg_v]; have := w2.2; omega, by rw [D2.neg_v, D2.neg_v]; have := w2.1; omega⟩ hp)
    have n3 := s_both3 g0 g1 gg gh (p_mul hD g0 g1 hp) (p_mul hD gg gh hp) (grow_mul g0 g1 gg gh w1 w2 hp)
    have n4 := s_both4 g0 g1 gg gh (p_sqr hD g0 hp) (p_sqr hD gg hp) (grow_sqr g0 gg w1 hp)
    have n5 := s_both5 g0 g1 gg gh (p_quo hD g0 g1 hp) (p_quo hD gg gh hp) (grow_quo g0 g1 gg gh w1 w2 hp)
    clear w1 w2 w3 w4 hp0
    refine FC.intro (X := XX) tok Tryz.func8 rfl Tryz.ntmps8 (by rw [Tryz.results8]) (by kernel_rfl) rfl ?_; intro F hG hO
    rw [← hG] at aw q0 q1 q2 q3 r1 r2 v1 v2 v3 v4 k1 k2 t0 t1 t2 t3 n1 n2 n3 n4 n5
    repeat' ((try (conv => whnf)); first
  | ((with_reducible refine cg ?_); first | refine ceq aw rfl ?_ | refine ceq q0 rfl ?_ | refine ceq q1 rfl ?_ | refine ceq q2 rfl ?_ | refine ceq q3 rfl ?_ | refine ceq r1 rfl ?_ | refine ceq r2 rfl ?_ | refine ceq v1 rfl ?_ | refine ceq v2 rfl ?_ | refine ceq v3 rfl ?_ | refine ceq v4 rfl ?_ | refine ceq k1 rfl ?_ | refine ceq k2 rfl ?_ | refine ceq t0 rfl ?_ | refine ceq t1 rfl ?_ | refine ceq t2 rfl ?_ | refine ceq t3 rfl ?_ | refine ceq n1 rfl ?_ | refine ceq n2 rfl ?_ | refine ceq n3 rfl ?_ | refine ceq n4 rfl ?_ | refine ceq n5 rfl ?_)
  | ((with_reducible refine dg ?_); refine draw_j (A := Unit) (id := 5) (N := 112) (fun _ => [(4, .val (.int .i64 p)), (5, .ptr 0 0), (6, .ptr 1 0), (7, .ptr 2 0), (8, .ptr 3 0), (11, .ptr 4 0), (12, .val (.int .i64 0))]) (fun _ => [[.val (.bool (decide (a.1 < 0))), .ws .u64 (d64 a.1.natAbs), .val (.int .i64 a.2), .val (.bool (decide (b.1 < 0))), .ws .u64 (d64 b.1.natAbs), .val (.int .i64 b.2)], [.val (.bool (decide (c.1 < 0))), .ws .u64 (d64 c.1.natAbs), .val (.int .i64 c.2), .val (.bool (decide (d.1 < 0))), .ws .u64 (d64 d.1.natAbs), .val (.int .i64 d.2)], [.val (.bool (decide (e.1 < 0))), .ws .u64 (d64 e.1.natAbs), .val (.int .i64 e.2), .val (.bool (decide (f.1 < 0))), .ws .u64 (d64 f.1.natAbs), .val (.int .i64 f.2)], [.val (.bool (decide (u.1 < 0))), .ws .u64 (d64 u.1.natAbs), .val (.int .i64 u.2), .val (.bool (decide (v.1 < 0))), .ws .u64 (d64 v.1.natAbs), .val (.int .i64 v.2)], [.val (.bool (decide (gl.1 < 0))), .ws .u64 (d64 gl.1.natAbs), .val (.int .i64 gl.2), .val (.bool (decide (gu.1 < 0))), .ws .u64 (d64 gu.1.natAbs), .val (.int .i64 gu.2)]]) (fun _ => []) (.alt 0 (.alt 1 (.alt 2 (.alt 3 (.alt 4 (.take 5 (.take 6 (.take 7 (.alt 8 (.alt 9 (.alt 10 (.fin) (.non)) (.non)) (.non))))) (.alt 8 (.alt 4 (.take 5 (.take 6 (.take 7 (.alt 9 (.alt 10 (.fin) (.non)) (.non))))) (.non)) (.non))) (.alt 8 (.alt 3 (.alt 4 (.take 5 (.take 6 (.take 7 (.alt 9 (.alt 10 (.fin) (.non)) (.non))))) (.non)) (.non)) (.non))) (.alt 8 (.alt 2 (.alt 3 (.alt 4 (.take 5 (.take 6 (.take 7 (.alt 9 (.alt 10 (.fin) (.non)) (.non))))) (.non)) (.non)) (.non)) (.non))) (.alt 2 (.alt 1 (.alt 3 (.alt 4 (.take 5 (.take 6 (.take 7 (.alt 8 (.alt 9 (.alt 10 (.fin) (.non)) (.non)) (.non))))) (.alt 8 (.alt 4 (.take 5 (.take 6 (.take 7 (.alt 9 (.alt 10 (.fin) (.non)) (.non))))) (.non)) (.non))) (.alt 8 (.alt 3 (.alt 4 (.take 5 (.take 6 (.take 7 (.alt 9 (.alt 10 (.fin) (.non)) (.non))))) (.non)) (.non)) (.non))) (.alt 8 (.alt 1 (.alt 3 (.alt 4 (.take 5 (.take 6 (.take 7 (.alt 9 (.alt 10 (.fin) (.non)) (.non))))) (.non)) (.non)) (.non)) (.non))) (.alt 8 (.alt 1 (.alt 2 (.alt 3 (.alt 4 (.take 5 (.take 6 (.take 7 (.alt 9 (.alt 10 (.fin) (.non)) (.non))))) (.non)) (.non)) (.non)) (.alt 2 (.alt 1 (.alt 3 (.alt 4 (.take 5 (.take 6 (.take 7 (.alt 9 (.alt 10 (.fin) (.non)) (.non))))) (.non)) (.non)) (.non)) (.non))) (.non)))) (.alt 2 (.alt 0 (.alt 1 (.alt 3 (.alt 4 (.take 5 (.take 6 (.take 7 (.alt 8 (.alt 9 (.alt 10 (.fin) (.non)) (.non)) (.non))))) (.alt 8 (.alt 4 (.take 5 (.take 6 (.take 7 (.alt 9 (.alt 10 (.fin) (.non)) (.non))))) (.non)) (.non))) (.alt 8 (.alt 3 (.alt 4 (.take 5 (.take 6 (.take 7 (.alt 9 (.alt 10 (.fin) (.non)) (.non))))) (.non)) (.non)) (.non))) (.alt 8 (.alt 1 (.alt 3 (.alt 4 (.take 5 (.take 6 (.take 7 (.alt 9 (.alt 10 (.fin) (.non)) (.non))))) (.non)) (.non)) (.non)) (.non))) (.alt 8 (.alt 0 (.alt 1 (.alt 3 (.alt 4 (.take 5 (.take 6 (.take 7 (.alt 9 (.alt 10 (.fin) (.non)) (.non))))) (.non)) (.non)) (.non)) (.non)) (.non))) (.alt 8 (.alt 0 (.alt 1 (.alt 2 (.alt 3 (.alt 4 (.take 5 (.take 6 (.take 7 (.alt 9 (.alt 10 (.fin) (.non)) (.non))))) (.non)) (.non)) (.non)) (.alt 2 (.alt 1 (.alt 3 (.alt 4 (.take 5 (.take 6 (.take 7 (.alt 9 (.alt 10 (.fin) (.non)) (.non))))) (.non)) (.non)) (.non)) (.non))) (.alt 2 (.alt 0 (.alt 1 (.alt 3 (.alt 4 (.take 5 (.take 6 (.take 7 (.alt 9 (.alt 10 (.fin) (.non)) (.non))))) (.non)) (.non)) (.non)) (.non)) (.non))) (.non)))) tok mixed (by kernel_rfl) (by kernel_rfl) (by intro ju; (refine ⟨?_, ?_, ?_⟩ <;> simp [inS, inBB, inBL, inB, hO])) ?_ ?_; rotate_left; intro ju)
  | exact join () ⟨rfl, rfl, rfl, rfl, rfl, rfl, rfl, trivial⟩ ⟨[], rfl⟩ ⟨[], rfl⟩
  | ((with_reducible refine dg ?_); refine draw_j (A := Unit) (id := 6) (N := 112) (fun _ => [(4, .val (.int .i64 p)), (5, .ptr 0 0), (6, .ptr 1 0), (7, .ptr 2 0), (8, .ptr 3 0), (11, .ptr 4 0), (12, .val (.int .i64 0)), (13, .ptr 5 0), (14, .val (.int .i64 0))]) (fun _ => [[.val (.bool (decide (a.1 < 0))), .ws .u64 (d64 a.1.natAbs), .val (.int .i64 a.2), .val (.bool (decide (b.1 < 0))), .ws .u64 (d64 b.1.natAbs), .val (.int .i64 b.2)], [.val (.bool (decide (c.1 < 0))), .ws .u64 (d64 c.1.natAbs), .val (.int .i64 c.2), .val (.bool (decide (d.1 < 0))), .ws .u64 (d64 d.1.natAbs), .val (.int .i64 d.2)], [.val (.bool (decide (e.1 < 0))), .ws .u64 (d64 e.1.natAbs), .val (.int .i64 e.2), .val (.bool (decide (f.1 < 0))), .ws .u64 (d64 f.1.natAbs), .val (.int .i64 f.2)], [.val (.bool (decide (u.1 < 0))), .ws .u64 (d64 u.1.natAbs), .val (.int .i64 u.2), .val (.bool (decide (v.1 < 0))), .ws .u64 (d64 v.1.natAbs), .val (.int .i64 v.2)], [.val (.bool (decide (gl.1 < 0))), .ws .u64 (d64 gl.1.natAbs), .val (.int .i64 gl.2), .val (.bool (decide (gu.1 < 0))), .ws .u64 (d64 gu.1.natAbs), .val (.int .i64 gu.2)], [.val (.bool (decide (hl.1 < 0))), .ws .u64 (d64 hl.1.natAbs), .val (.int .i64 hl.2), .val (.bool (decide (hu.1 < 0))), .ws .u64 (d64 hu.1.natAbs), .val (.int .i64 hu.2)]]) (fun _ => []) (.alt 0 (.alt 1 (.alt 2 (.alt 3 (.alt 4 (.take 5 (.take 6 (.take 7 (.alt 8 (.alt 9 (.alt 10 (.fin) (.non)) (.non)) (.non))))) (.alt 8 (.alt 4 (.take 5 (.take 6 (.take 7 (.alt 9 (.alt 10 (.fin) (.non)) (.non))))) (.non)) (.non))) (.alt 8 (.alt 3 (.alt 4 (.take 5 (.take 6 (.take 7 (.alt 9 (.alt 10 (.fin) (.non)) (.non))))) (.non)) (.non)) (.non))) (.alt 8 (.alt 2 (.alt 3 (.alt 4 (.take 5 (.take 6 (.take 7 (.alt 9 (.alt 10 (.fin) (.non)) (.non))))) (.non)) (.non)) (.non)) (.non))) (.alt 2 (.alt 1 (.alt 3 (.alt 4 (.take 5 (.take 6 (.take 7 (.alt 8 (.alt 9 (.alt 10 (.fin) (.non)) (.non)) (.non))))) (.alt 8 (.alt 4 (.take 5 (.take 6 (.take 7 (.alt 9 (.alt 10 (.fin) (.non)) (.non))))) (.non)) (.non))) (.alt 8 (.alt 3 (.alt 4 (.take 5 (.take 6 (.take 7 (.alt 9 (.alt 10 (.fin) (.non)) (.non))))) (.non)) (.non)) (.non))) (.alt 8 (.alt 1 (.alt 3 (.alt 4 (.take 5 (.take 6 (.take 7 (.alt 9 (.alt 10 (.fin) (.non)) (.non))))) (.non)) (.non)) (.non)) (.non))) (.alt 8 (.alt 1 (.alt 2 (.alt 3 (.alt 4 (.take 5 (.take 6 (.take 7 (.alt 9 (.alt 10 (.fin) (.non)) (.non))))) (.non)) (.non)) (.non)) (.alt 2 (.alt 1 (.alt 3 (.alt 4 (.take 5 (.take 6 (.take 7 (.alt 9 (.alt 10 (.fin) (.non)) (.non))))) (.non)) (.non)) (.non)) (.non))) (.non)))) (.alt 2 (.alt 0 (.alt 1 (.alt 3 (.alt 4 (.take 5 (.take 6 (.take 7 (.alt 8 (.alt 9 (.alt 10 (.fin) (.non)) (.non)) (.non))))) (.alt 8 (.alt 4 (.take 5 (.take 6 (.take 7 (.alt 9 (.alt 10 (.fin) (.non)) (.non))))) (.non)) (.non))) (.alt 8 (.alt 3 (.alt 4 (.take 5 (.take 6 (.take 7 (.alt 9 (.alt 10 (.fin) (.non)) (.non))))) (.non)) (.non)) (.non))) (.alt 8 (.alt 1 (.alt 3 (.alt 4 (.take 5 (.take 6 (.take 7 (.alt 9 (.alt 10 (.fin) (.non)) (.non))))) (.non)) (.non)) (.non)) (.non))) (.alt 8 (.alt 0 (.alt 1 (.alt 3 (.alt 4 (.take 5 (.take 6 (.take 7 (.alt 9 (.alt 10 (.fin) (.non)) (.non))))) (.non)) (.non)) (.non)) (.non)) (.non))) (.alt 8 (.alt 0 (.alt 1 (.alt 2 (.alt 3 (.alt 4 (.take 5 (.take 6 (.take 7 (.alt 9 (.alt 10 (.fin) (.non)) (.non))))) (.non)) (.non)) (.non)) (.alt 2 (.alt 1 (.alt 3 (.alt 4 (.take 5 (.take 6 (.take 7 (.alt 9 (.alt 10 (.fin) (.non)) (.non))))) (.non)) (.non)) (.non)) (.non))) (.alt 2 (.alt 0 (.alt 1 (.alt 3 (.alt 4 (.take 5 (.take 6 (.take 7 (.alt 9 (.alt 10 (.fin) (.non)) (.non))))) (.non)) (.non)) (.non)) (.non)) (.non))) (.non)))) tok mixed (by kernel_rfl) (by kernel_rfl) (by intro ju; (refine ⟨?_, ?_, ?_⟩ <;> simp [inS, inBB, inBL, inB, hO])) ?_ ?_; rotate_left; intro ju)
  | exact join () ⟨rfl, rfl, rfl, rfl, rfl, rfl, rfl, rfl, rfl, trivial⟩ ⟨[], rfl⟩ ⟨[], rfl⟩
  | ((with_reducible refine lg ?_); refine rounds_g 6 tok ?_)
  
  | with_reducible first
    | refine Chk.mk' (by first | omega | exact trivial | (simp only [List.length_append, List.length_set, List.length_replicate, List.length_take, List.length_drop, List.length_cons, List.length_nil, List.length_map]; omega)) ?_
    | refine wrap_g (by dsimp only [inR]; omega) ?_
    | refine idx_g (by omega) ?_ | refine idx_l _ rfl (by decide) ?_ | refine BothG.mk ?_ ?_ | refine fork_tt ?_ | refine fork_ff ?_
    | (refine fork_e (c := true) (by decide) ?_; refine fork_tt ?_) | (refine fork_e (c := false) (by decide) ?_; refine fork_ff ?_)
    | refine fork_t (by omega) ?_ | refine fork_f (by omega) ?_ | (refine fork_d ?_ ?_ <;> intro hc) | refine fork_n ?_ | (refine fork_b ?_ ?_ <;> intro hc)
    | refine SlcG.mk (by omega) ?_ | refine MakG.mk (by dsimp only; omega) ?_
    | refine AppG.mk (by first | omega | (simp only [List.length_append, List.length_set, List.length_replicate, List.length_take, List.length_drop, List.length_cons, List.length_nil, List.length_map]; omega)) (by dsimp only [List.length_cons, List.length_nil]; omega) (by omega) ?_
    | refine div_g (by omega) (by omega) (by dsimp only [inR]; omega) ?_ | refine mod_g (by omega) (by omega) ?_
    | refine mask_g (m := 4294967296) 32 rfl rfl (by decide) (by omega) ?_ | refine shr_g (m := 4294967296) 32 rfl (by decide) (by omega) rfl ?_
    | refine fz_all (by omega) ?_ | (refine smk ?_ ?_; constructor))
    all_goals exact ⟨ret_e rfl⟩
  · skip
    refine FC.intro (X := XX) tok Tryz.func8 rfl Tryz.ntmps8 (by rw [Tryz.results8]) (by kernel_rfl) rfl ?_; intro F hG hO
    rw [← hG] at aw q0 q1 q2 q3
    repeat' ((try (conv => whnf)); first
  | ((with_reducible refine cg ?_); first | refine ceq aw rfl ?_ | refine ceq q0 rfl ?_ | refine ceq q1 rfl ?_ | refine ceq q2 rfl ?_ | refine ceq q3 rfl ?_)
  
  | with_reducible first
    | refine Chk.mk' (by first | omega | exact trivial | (simp only [List.length_append, List.length_set, List.length_replicate, List.length_take, List.length_drop, List.length_cons, List.length_nil, List.length_map]; omega)) ?_
    | refine wrap_g (by dsimp only [inR]; omega) ?_
    | refine idx_g (by omega) ?_ | refine idx_l _ rfl (by decide) ?_ | refine BothG.mk ?_ ?_ | refine fork_tt ?_ | refine fork_ff ?_
    | (refine fork_e (c := true) (by decide) ?_; refine fork_tt ?_) | (refine fork_e (c := false) (by decide) ?_; refine fork_ff ?_)
    | refine fork_t (by omega) ?_ | refine fork_f (by omega) ?_ | (refine fork_d ?_ ?_ <;> intro hc) | refine fork_n ?_ | (refine fork_b ?_ ?_ <;> intro hc)
    | refine SlcG.mk (by omega) ?_ | refine MakG.mk (by dsimp only; omega) ?_
    | refine AppG.mk (by first | omega | (simp only [List.length_append, List.length_set, List.length_replicate, List.length_take, List.length_drop, List.length_cons, List.length_nil, List.length_map]; omega)) (by dsimp only [List.length_cons, List.length_nil]; omega) (by omega) ?_
    | refine div_g (by omega) (by omega) (by dsimp only [inR]; omega) ?_ | refine mod_g (by omega) (by omega) ?_
    | refine mask_g (m := 4294967296) 32 rfl rfl (by decide) (by omega) ?_ | refine shr_g (m := 4294967296) 32 rfl (by decide) (by omega) rfl ?_
    | refine fz_all (by omega) ?_ | (refine smk ?_ ?_; constructor))
    all_goals exact ⟨ret_e rfl⟩
end Go.Proofs.YtpjbgmafnheomaaGreatDoor.Sim
namespace Go.Proofs.YtpjbgmafnheomaaGreatDoor.Sim
open Go.RowKit Go.ChangeShapes Go.WideShapes
section
variable {H : Type} {enc : TypeId × Value → H} {P : Program}
/-- 'post' where nothing has turned below. -/
theorem post_below2 {f : Func} {s : ChangeSpec} {apart fresh handsOn again : Bool} {W W' : World} {args : Array Value} {v : Value} {ds gs : List (DataW H)} {before pa pv : List MemPlace}
    (hW : DataW.Whole enc P f.params.toList s.vars apart W args.toList ds gs before)
    (hres : ∀ (b : Nat) (sp : Nat → Bool) (hd : Bool), DataW.TrodAll enc P W' b sp hd f.resultTypes.toList (v.resultList f.resultTypes.size) (s.fn H (ds ++ gs)).results [])
    (hargs : ∀ sp : Nat → Bool, (∀ p ∈ before, sp p.block = true) → DataW.TrodAll enc P W' 0 sp true f.params.toList args.toList (s.fn H (ds ++ gs)).args pa)
    (hvars : ∀ sp : Nat → Bool, (∀ p ∈ before, sp p.block = true) → DataW.TrodVars enc P W' sp s.vars (s.fn H (ds ++ gs)).vars pv)
    (hps : before = pa ++ pv) (hb : Below W.heap.size W W')
    (hok : ∀ (j : Nat) (t : TypeId) (r : Value), f.resultTypes[j]? = some t → (v.resultList f.resultTypes.size)[j]? = some r → Value.okWide P W' .any 0 t r) :
    s.post enc P f apart fresh handsOn again W args v W' := by
  have hold : ∀ p ∈ before, (fun b => decide (b < W.heap.size)) p.block = true := fun p hp => by simpa using hW.lt p hp
  have hlt := hW.lt
  refine ⟨ds, gs, before, [], pa, pv, hW, hres _ _ _, hargs _ hold, hvars _ hold, hb.frame _, fun _ => ?_⟩
  obtain ⟨_, _, _, _, _, hz, hn⟩ := hW
  refine ⟨hok, _, _, ([] ++ pa) ++ pv, ⟨[] ++ pa, pv, trodAll_append (hargs _ (fun _ _ => rfl)) (hres _ _ _), hvars _ (fun _ _ => rfl), rfl, ?_, ?_⟩, ?_⟩
  · intro b off hp
    have hm : MemPlace.cell b off ∈ before := by rw [hps]; simpa using hp
    rw [hb.frozen (p := ⟨b, off, none⟩) (hlt _ hm)]
    exact hz b off hm
  · intro ha
    have := hn ha
    rw [hps] at this
    simpa using this
  · intro p hp _
    rw [hps]
    simpa using hp
end
end Go.Proofs.YtpjbgmafnheomaaGreatDoor.Sim
