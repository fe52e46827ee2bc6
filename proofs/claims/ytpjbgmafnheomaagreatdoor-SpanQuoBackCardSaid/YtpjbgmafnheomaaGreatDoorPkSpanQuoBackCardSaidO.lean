/-
  What the statement SpanQuoBackCardSaid leans on, part 15: the logic of walks, digits, contracts of the functions, the plain law. Conditions stand in each theorem.
-/
import Derived.Test.YtpjbgmafnheomaaGreatDoorPkSpanQuoBackCardSaidN
import Derived.SizedLaws
import Derived.DataElems
import Derived.ChangeSame
namespace Go.Proofs.YtpjbgmafnheomaaGreatDoor.Sim
open Go.RowKit Go.ChangeShapes Go.WideShapes
set_option linter.unusedVariables false
set_option linter.unusedSimpArgs false
/-- Words that are limbs, and not too many. -/
def OKM (l : List Int) : Prop := okD 18446744073709551616 l ∧ l.length ≤ 17592186044415
theorem fSp : fieldT Tryz.prog 28 = some (6, [(26, 0, 3), (26, 3, 3)]) := by kernel_rfl
section
variable {H : Type} {enc : TypeId × Value → H} {P : Program} {w : World} {base : Nat} {sp : Nat → Bool} {held : Bool}
theorem trod_fieldsQ {t : TypeId} {c : Nat} {fs : List (TypeId × Nat × Nat)} {fuel : Nat} {cs : List Value} {x : DataW H × List MemPlace} (hu : fieldT P t = some (c, fs)) (h : DataW.trod enc P w base sp held fuel t cs = some x) (hw : ∀ q ∈ x.1.weights P t, q ≤ reachBytes) :
    cs.length = c ∧ ∃ n, ∀ (i : Nat) (ty off z : Nat), fs[i]? = some (ty, off, z) → ∃ y, DataW.trod enc P w base sp held n ty ((cs.drop off).take z) = some y ∧ ∀ q ∈ y.1.weights P ty, q ≤ reachBytes := by
  unfold fieldT at hu
  split at hu
  · rename_i gs hg
    simp only [Option.some.injEq, Prod.mk.injEq] at hu
    obtain ⟨rfl, rfl⟩ := hu
    obtain ⟨xs, n, _, rfl, hl, hlen, hf⟩ := DataW.trod_struct hg h
    refine ⟨hl, n, fun i ty off z hi => ?_⟩
    rw [List.getElem?_map] at hi
    cases hq : gs.toList[i]? with
    | none => rw [hq] at hi; cases hi
    | some f =>
      rw [hq] at hi
      simp only [Option.map_some, Option.some.injEq, Prod.mk.injEq] at hi
      obtain ⟨rfl, rfl, rfl⟩ := hi
      have h2 := hf i f (by simpa using hq)
      have h3 : i < xs.length := by
        rw [hlen]
        have := (List.getElem?_eq_some_iff.1 hq).1
        simpa using this
      rw [List.getElem?_eq_getElem h3] at h2
      refine ⟨_, h2, fun q hqm => hw q ?_⟩
      have hm := DataW.weights_mem_each (P := P) (ts := gs.toList.map (·.type)) (ds := xs.map (·.1)) (j := i) (t := f.type) (d := xs[i].1) (by rw [List.getElem?_map, hq]; rfl) (by rw [List.getElem?_map, List.getElem?_eq_getElem h3]; rfl) q hqm
      simpa [DataW.weights, hg] using hm
  · cases hu
theorem lits_lenQ (k : IntKind) (zs : List Int) : (ChangeShapes.lits (H := H) k zs).length = zs.length := by simp [ChangeShapes.lits]
theorem trod_wordsQ {t e : TypeId} {k : IntKind} {fuel : Nat} {v : Value} {x : DataW H × List MemPlace} (ht : P.underlying t = some (.slice e)) (he : P.underlying e = some (.int k)) (hc : P.cellsOf e = 1)
    (h : DataW.trod enc P w base sp held fuel t [v] = some x) (hw : ∀ q ∈ x.1.weights P t, q ≤ reachBytes) : ∃ l : List Int, Rep ⟨w.cell?, [], []⟩ (.ws k l) v ∧ (∀ z ∈ l, (Lit.int k z).wf = true) ∧ l.length * P.bytesOf e ≤ reachBytes := by
  rcases open_ints ht he hc h with ⟨h1, h2⟩ | ⟨a, len, cap, zs, h1, h2, h3, h4, h5, h6, h7, h8⟩
  · simp only [List.cons.injEq, and_true] at h1
    subst h1
    exact ⟨[], .ws rfl (Nat.le_refl _) (fun j x hj => by cases hj), (fun z hz => by cases hz), by rw [List.length_nil, Nat.zero_mul]; exact Nat.zero_le _⟩
  · simp only [List.cons.injEq, and_true] at h1
    subst h1
    have hlen : (zs.take len).length = len := by
      rw [List.length_take]
      split at h5 <;> omega
    refine ⟨zs.take len, .ws hlen.symm h3 (fun j x hj => ⟨a, rfl, ?_⟩), (fun z hz => h8 z (List.mem_of_mem_take hz)), ?_⟩
    · have hj1 := (List.getElem?_eq_some_iff.1 hj).1
      rw [hlen] at hj1
      rw [List.getElem?_take, if_pos hj1] at hj
      have hj2 := (List.getElem?_eq_some_iff.1 hj).1
      have := h7 j hj2
      rw [List.getD_eq_getElem?_getD, hj] at this
      exact this
    · have := hw (((ChangeShapes.lits (H := H) k (zs.take len)).length + (ChangeShapes.lits (H := H) k (zs.drop len)).length) * P.bytesOf e) (by rw [h6]; simp [DataW.weights, ht])
      refine Nat.le_trans (Nat.mul_le_mul_right _ ?_) this
      rw [lits_lenQ]
      exact Nat.le_add_right _ _
end
theorem byU6q : Tryz.prog.bytesOf 82 = 8 := by kernel_rfl
section
variable {H : Type} {enc : TypeId × Value → H} {w : World} {base : Nat} {sp : Nat → Bool} {held : Bool}
theorem open_int24Q {fuel : Nat} {cs : List Value} {x : DataW H × List MemPlace} (h : DataW.trod enc Tryz.prog w base sp held fuel 24 cs = some x) (hw : ∀ q ∈ x.1.weights Tryz.prog 24, q ≤ reachBytes) :
    ∃ b l v, cs = [.bool b, v] ∧ Rep ⟨w.cell?, [], []⟩ (.ws .u64 l) v ∧ OKM l := by
  obtain ⟨hl, n, hf⟩ := trod_fieldsQ fIn h hw
  match cs, hl with
  | [a, v], _ =>
    obtain ⟨y0, h0, _⟩ := hf 0 _ _ _ rfl
    obtain ⟨y1, h1, w1⟩ := hf 1 _ _ _ rfl
    obtain ⟨b, rfl⟩ := trod_bool uBo h0
    obtain ⟨l, hr, ho, hs⟩ := trod_wordsQ uWs uU6 cU6 h1 w1
    rw [byU6q] at hs
    exact ⟨b, l, v, rfl, hr, okD_wf ho, by unfold reachBytes at hs; omega⟩
theorem open_dyQ {fuel : Nat} {cs : List Value} {x : DataW H × List MemPlace} (h : DataW.trod enc Tryz.prog w base sp held fuel 26 cs = some x) (hw : ∀ q ∈ x.1.weights Tryz.prog 26, q ≤ reachBytes) :
    ∃ b l e v, cs = [.bool b, v, .int .i64 e] ∧ Rep ⟨w.cell?, [], []⟩ (.ws .u64 l) v ∧ OKM l ∧ inR .i64 e := by
  obtain ⟨hl, n, hf⟩ := trod_fieldsQ fDy h hw
  match cs, hl with
  | [a, v, e], _ =>
    obtain ⟨y0, h0, w0⟩ := hf 0 _ _ _ rfl
    obtain ⟨y1, h1, w1⟩ := hf 1 _ _ _ rfl
    obtain ⟨b, l, v', hc, hr, ho⟩ := open_int24Q h0 w0
    simp only [List.drop_zero, List.take_succ_cons, List.take_zero, List.cons.injEq, and_true] at hc
    obtain ⟨rfl, rfl⟩ := hc
    obtain ⟨z, rfl, hz⟩ := trod_int uIt h1
    exact ⟨b, l, z, v, rfl, hr, ho, wf_i64r hz⟩
theorem open_spQ {fuel : Nat} {cs : List Value} {x : DataW H × List MemPlace} (h : DataW.trod enc Tryz.prog w base sp held fuel 28 cs = some x) (hw : ∀ q ∈ x.1.weights Tryz.prog 28, q ≤ reachBytes) :
    ∃ b1 l1 e1 v1 b2 l2 e2 v2, cs = [.bool b1, v1, .int .i64 e1, .bool b2, v2, .int .i64 e2] ∧ Rep ⟨w.cell?, [], []⟩ (.ws .u64 l1) v1 ∧ Rep ⟨w.cell?, [], []⟩ (.ws .u64 l2) v2 ∧ OKM l1 ∧ OKM l2 ∧ inR .i64 e1 ∧ inR .i64 e2 := by
  obtain ⟨hl, n, hf⟩ := trod_fieldsQ fSp h hw
  match cs, hl with
  | [c0, c1, c2, c3, c4, c5], _ =>
    obtain ⟨y0, h0, w0⟩ := hf 0 _ _ _ rfl
    obtain ⟨y1, h1, w1⟩ := hf 1 _ _ _ rfl
    obtain ⟨b1, l1, e1, v1, q1, r1, o1, i1⟩ := open_dyQ h0 w0
    obtain ⟨b2, l2, e2, v2, q2, r2, o2, i2⟩ := open_dyQ h1 w1
    simp only [List.drop_succ_cons, List.drop_zero, List.take_succ_cons, List.take_zero, List.cons.injEq, and_true] at q1 q2
    obtain ⟨rfl, rfl, rfl⟩ := q1
    obtain ⟨rfl, rfl, rfl⟩ := q2
    exact ⟨b1, l1, e1, _, b2, l2, e2, _, rfl, r1, r2, o1, o2, i1, i2⟩
set_option maxRecDepth 100000 in
theorem open_span {r : Reach} {b0 : Nat} {v : Value} {d : DataW H} {ps : List MemPlace} (hval : Value.okWide Tryz.prog w r b0 28 v) (h : DataW.Trod enc Tryz.prog w base sp held 28 v d ps) (hw : ∀ q ∈ d.weights Tryz.prog 28, q ≤ reachBytes) :
    ∃ b1 l1 e1 b2 l2 e2, Rep ⟨w.cell?, [], []⟩ (Sp b1 l1 e1 b2 l2 e2) v ∧ OKM l1 ∧ OKM l2 ∧ inR .i64 e1 ∧ inR .i64 e2 := by
  obtain ⟨cs, rfl⟩ := okWide_agg fSp hval
  obtain ⟨n, h⟩ := h
  obtain ⟨b1, l1, e1, v1, b2, l2, e2, v2, hc, r1, r2, o1, o2, i1, i2⟩ := open_spQ h hw
  have hcs : cs = [Value.bool b1, v1, .int .i64 e1, .bool b2, v2, .int .i64 e2].toArray := by
    have : cs.toList = [Value.bool b1, v1, .int .i64 e1, .bool b2, v2, .int .i64 e2] := hc
    rw [← this]
  subst hcs
  exact ⟨b1, l1, e1, b2, l2, e2, .agg (.cons (.val _) (.cons r1 (.cons (.val _) (.cons (.val _) (.cons r2 (.cons (.val _) .nil)))))), o1, o2, i1, i2⟩
end
end Go.Proofs.YtpjbgmafnheomaaGreatDoor.Sim
namespace Go.Proofs.YtpjbgmafnheomaaGreatDoor.Sim
open Go.RowKit
set_option linter.unusedVariables false
set_option linter.unusedSimpArgs false
set_option maxRecDepth 10000
set_option maxHeartbeats 8000000
variable {G : List (Nat × List Value)}
theorem s_number (b : Bool) (l : List Int) (e : Int) (o : OKM l) : FC Tryz.prog G 28 [Dy b l e] (· = Dy b l e) := by
  have f1 := r_twinl (G := G) l o.2
  refine FC.intro (X := XX) tok Tryz.func28 rfl Tryz.ntmps28 (by rw [Tryz.results28]) (by kernel_rfl) rfl ?_; intro F hG hO
  rw [← hG] at f1
  repeat' ((try (conv => whnf)); first
  | ((with_reducible refine cg ?_); first | refine ceq f1 rfl ?_)
  
  | with_reducible first
    | refine Chk.mk' (by first | omega | exact trivial | (simp only [List.length_append, List.length_set, List.length_replicate, List.length_take, List.length_drop, List.length_cons, List.length_nil, List.length_map]; omega)) ?_
    | refine wrap_g (by dsimp only [inR]; omega) ?_
    | refine idx_g (by omega) ?_ | refine idx_l _ rfl (by decide) ?_ | refine BothG.mk ?_ ?_ | refine fork_tt ?_ | refine fork_ff ?_
    | (refine fork_e (c := true) (by decide) ?_; refine fork_tt ?_) | (refine fork_e (c := false) (by decide) ?_; refine fork_ff ?_)
    | refine fork_t (by omega) ?_ | refine fork_f (by omega) ?_ | (refine fork_d ?_ ?_ <;> intro hc) | refine fork_n ?_ | (refine fork_b ?_ ?_ <;> intro hc)
    | refine SlcG.mk (by omega) ?_ | refine MakG.mk (by dsimp only; omega) ?_
    | refine AppG.mk (by first | omega | (simp only [List.length_append, List.length_set, List.length_replicate, List.length_take, List.length_drop, List.length_cons, List.length_nil, List.length_map]; omega)) (by dsimp only [List.length_cons, List.length_nil]; omega) (by omega) ?_
    | refine div_g (by omega) (by omega) (by dsimp only [inR]; omega) ?_ | refine mod_g (by omega) (by omega) ?_
    | refine mask_g (m := 4294967296) 32 rfl rfl (by decide) (by omega) ?_ | refine shr_g (m := 4294967296) 32 rfl (by decide) (by omega) rfl ?_
    | refine fz_all (by omega) ?_ | (refine smk ?_ ?_; constructor))
  exact ⟨ret_e rfl⟩
theorem s_twin (b1 : Bool) (l1 : List Int) (e1 : Int) (b2 : Bool) (l2 : List Int) (e2 : Int) (o1 : OKM l1) (o2 : OKM l2) : FC Tryz.prog G 15 [Sp b1 l1 e1 b2 l2 e2] (· = Sp b1 l1 e1 b2 l2 e2) := by
  have f1 := s_number (G := G) b1 l1 e1 o1
  have f2 := s_number (G := G) b2 l2 e2 o2
  refine FC.intro (X := XX) tok Tryz.func15 rfl Tryz.ntmps15 (by rw [Tryz.results15]) (by kernel_rfl) rfl ?_; intro F hG hO
  rw [← hG] at f1 f2
  repeat' ((try (conv => whnf)); first
  | ((with_reducible refine cg ?_); first | refine ceq f1 rfl ?_ | refine ceq f2 rfl ?_)
  
  | (with_reducible refine draw_g (id := 1) [[0, 1, 3, 4, 2, 5, 6], [7]] tok mixed (by kernel_rfl) ?_)
  | with_reducible first
    | refine Chk.mk' (by first | omega | exact trivial | (simp only [List.length_append, List.length_set, List.length_replicate, List.length_take, List.length_drop, List.length_cons, List.length_nil, List.length_map]; omega)) ?_
    | refine wrap_g (by dsimp only [inR]; omega) ?_
    | refine idx_g (by omega) ?_ | refine idx_l _ rfl (by decide) ?_ | refine BothG.mk ?_ ?_ | refine fork_tt ?_ | refine fork_ff ?_
    | (refine fork_e (c := true) (by decide) ?_; refine fork_tt ?_) | (refine fork_e (c := false) (by decide) ?_; refine fork_ff ?_)
    | refine fork_t (by omega) ?_ | refine fork_f (by omega) ?_ | (refine fork_d ?_ ?_ <;> intro hc) | refine fork_n ?_ | (refine fork_b ?_ ?_ <;> intro hc)
    | refine SlcG.mk (by omega) ?_ | refine MakG.mk (by dsimp only; omega) ?_
    | refine AppG.mk (by first | omega | (simp only [List.length_append, List.length_set, List.length_replicate, List.length_take, List.length_drop, List.length_cons, List.length_nil, List.length_map]; omega)) (by dsimp only [List.length_cons, List.length_nil]; omega) (by omega) ?_
    | refine div_g (by omega) (by omega) (by dsimp only [inR]; omega) ?_ | refine mod_g (by omega) (by omega) ?_
    | refine mask_g (m := 4294967296) 32 rfl rfl (by decide) (by omega) ?_ | refine shr_g (m := 4294967296) 32 rfl (by decide) (by omega) rfl ?_
    | refine fz_all (by omega) ?_ | (refine smk ?_ ?_; constructor))
  exact ⟨ret_e rfl⟩
theorem same_t (b : Bool) (l : List Int) (e : Int) : sameB b l e b l e = true := by unfold sameB; simp
theorem same_dec (a c : D2) : sameB (decide (a.1 < 0)) (d64 a.1.natAbs) a.2 (decide (c.1 < 0)) (d64 c.1.natAbs) c.2 = decide (a = c) := by
  by_cases h : a = c
  · rw [h, same_t, decide_eq_true rfl]
  · rw [decide_eq_false h]
    cases hx : sameB (decide (a.1 < 0)) (d64 a.1.natAbs) a.2 (decide (c.1 < 0)) (d64 c.1.natAbs) c.2 with
    | false => rfl
    | true =>
      unfold sameB at hx
      simp only [Bool.and_eq_true, beq_iff_eq, decide_eq_true_eq] at hx
      have : DY a.1 a.2 = DY c.1 c.2 := by unfold DY; rw [hx.1.1, hx.1.2, hx.2]
      obtain ⟨h1, h2⟩ := DY_inj this
      exact absurd (Prod.ext h1 h2) h
theorem q_sameX (b : Bool) (l : List Int) (e : Int) (b' : Bool) (l' : List Int) (e' : Int) (h : l.length ≤ 1099511627776) : FC Tryz.prog G 60 [Dy b l e, Dy b' l' e'] (· = .val (.bool (sameB b l e b' l' e'))) := by
  have f1 := r_same (G := G) l l' h
  refine FC.intro (X := XX) tok Tryz.func60 rfl Tryz.ntmps60 (by rw [Tryz.results60]) (by kernel_rfl) rfl ?_; intro F hG hO
  rw [← hG] at f1
  repeat' ((try (conv => whnf)); first
  | ((with_reducible refine cg ?_); first | refine ceq f1 rfl ?_)
  
  | with_reducible first
    | refine Chk.mk' (by first | omega | exact trivial | (simp only [List.length_append, List.length_set, List.length_replicate, List.length_take, List.length_drop, List.length_cons, List.length_nil, List.length_map]; omega)) ?_
    | refine wrap_g (by dsimp only [inR]; omega) ?_
    | refine idx_g (by omega) ?_ | refine idx_l _ rfl (by decide) ?_ | refine BothG.mk ?_ ?_ | refine fork_tt ?_ | refine fork_ff ?_
    | (refine fork_e (c := true) (by decide) ?_; refine fork_tt ?_) | (refine fork_e (c := false) (by decide) ?_; refine fork_ff ?_)
    | refine fork_t (by omega) ?_ | refine fork_f (by omega) ?_ | (refine fork_d ?_ ?_ <;> intro hc) | refine fork_n ?_ | (refine fork_b ?_ ?_ <;> intro hc)
    | refine SlcG.mk (by omega) ?_ | refine MakG.mk (by dsimp only; omega) ?_
    | refine AppG.mk (by first | omega | (simp only [List.length_append, List.length_set, List.length_replicate, List.length_take, List.length_drop, List.length_cons, List.length_nil, List.length_map]; omega)) (by dsimp only [List.length_cons, List.length_nil]; omega) (by omega) ?_
    | refine div_g (by omega) (by omega) (by dsimp only [inR]; omega) ?_ | refine mod_g (by omega) (by omega) ?_
    | refine mask_g (m := 4294967296) 32 rfl rfl (by decide) (by omega) ?_ | refine shr_g (m := 4294967296) 32 rfl (by decide) (by omega) rfl ?_
    | refine fz_all (by omega) ?_ | (refine smk ?_ ?_; constructor))
  all_goals (refine ⟨ret_e (bv_eq ?_)⟩; unfold sameB)
  · rename_i a1; rw [a1, decide_eq_true hc]; simp
  · rw [decide_eq_false hc]; simp
  · rw [hc]; simp
theorem q_sameD {a : D2} (h : a.good) (c : D2) : FC Tryz.prog G 60 [DY a.1 a.2, DY c.1 c.2] (· = .val (.bool (decide (a = c)))) := by
  have := q_sameX (G := G) (decide (a.1 < 0)) (d64 a.1.natAbs) a.2 (decide (c.1 < 0)) (d64 c.1.natAbs) c.2 (Nat.le_trans h.1 (by decide))
  rw [same_dec] at this
  exact this
theorem q_same {a b : D2} (h : a.good) (k : b.good) (c d : D2) : FC Tryz.prog G 18 [SP a b, SP c d] (· = .val (.bool (decide (a = c) && decide (b = d)))) := by
  have f1 := q_sameD (G := G) h c
  have f2 := q_sameD (G := G) k d
  obtain ⟨x, hx⟩ : ∃ x, x = decide (a = c) := ⟨_, rfl⟩
  rw [← hx] at f1 ⊢
  clear hx
  cases x
  · clear f2
    refine FC.intro (X := XX) tok Tryz.func18 rfl Tryz.ntmps18 (by rw [Tryz.results18]) (by kernel_rfl) rfl ?_; intro F hG hO
    rw [← hG] at f1
    repeat' ((try (conv => whnf)); first
  | ((with_reducible refine cg ?_); first | refine ceq f1 rfl ?_)
  
  | with_reducible first
    | refine Chk.mk' (by first | omega | exact trivial | (simp only [List.length_append, List.length_set, List.length_replicate, List.length_take, List.length_drop, List.length_cons, List.length_nil, List.length_map]; omega)) ?_
    | refine wrap_g (by dsimp only [inR]; omega) ?_
    | refine idx_g (by omega) ?_ | refine idx_l _ rfl (by decide) ?_ | refine BothG.mk ?_ ?_ | refine fork_tt ?_ | refine fork_ff ?_
    | (refine fork_e (c := true) (by decide) ?_; refine fork_tt ?_) | (refine fork_e (c := false) (by decide) ?_; refine fork_ff ?_)
    | refine fork_t (by omega) ?_ | refine fork_f (by omega) ?_ | (refine fork_d ?_ ?_ <;> intro hc) | refine fork_n ?_ | (refine fork_b ?_ ?_ <;> intro hc)
    | refine SlcG.mk (by omega) ?_ | refine MakG.mk (by dsimp only; omega) ?_
    | refine AppG.mk (by first | omega | (simp only [List.length_append, List.length_set, List.length_replicate, List.length_take, List.length_drop, List.length_cons, List.length_nil, List.length_map]; omega)) (by dsimp only [List.length_cons, List.length_nil]; omega) (by omega) ?_
    | refine div_g (by omega) (by omega) (by dsimp only [inR]; omega) ?_ | refine mod_g (by omega) (by omega) ?_
    | refine mask_g (m := 4294967296) 32 rfl rfl (by decide) (by omega) ?_ | refine shr_g (m := 4294967296) 32 rfl (by decide) (by omega) rfl ?_
    | refine fz_all (by omega) ?_ | (refine smk ?_ ?_; constructor))
    exact ⟨ret_e rfl⟩
  · skip
    refine FC.intro (X := XX) tok Tryz.func18 rfl Tryz.ntmps18 (by rw [Tryz.results18]) (by kernel_rfl) rfl ?_; intro F hG hO
    rw [← hG] at f1 f2
    repeat' ((try (conv => whnf)); first
  | ((with_reducible refine cg ?_); first | refine ceq f1 rfl ?_ | refine ceq f2 rfl ?_)
  
  | with_reducible first
    | refine Chk.mk' (by first | omega | exact trivial | (simp only [List.length_append, List.length_set, List.length_replicate, List.length_take, List.length_drop, List.length_cons, List.length_nil, List.length_map]; omega)) ?_
    | refine wrap_g (by dsimp only [inR]; omega) ?_
    | refine idx_g (by omega) ?_ | refine idx_l _ rfl (by decide) ?_ | refine BothG.mk ?_ ?_ | refine fork_tt ?_ | refine fork_ff ?_
    | (refine fork_e (c := true) (by decide) ?_; refine fork_tt ?_) | (refine fork_e (c := false) (by decide) ?_; refine fork_ff ?_)
    | refine fork_t (by omega) ?_ | refine fork_f (by omega) ?_ | (refine fork_d ?_ ?_ <;> intro hc) | refine fork_n ?_ | (refine fork_b ?_ ?_ <;> intro hc)
    | refine SlcG.mk (by omega) ?_ | refine MakG.mk (by dsimp only; omega) ?_
    | refine AppG.mk (by first | omega | (simp only [List.length_append, List.length_set, List.length_replicate, List.length_take, List.length_drop, List.length_cons, List.length_nil, List.length_map]; omega)) (by dsimp only [List.length_cons, List.length_nil]; omega) (by omega) ?_
    | refine div_g (by omega) (by omega) (by dsimp only [inR]; omega) ?_ | refine mod_g (by omega) (by omega) ?_
    | refine mask_g (m := 4294967296) 32 rfl rfl (by decide) (by omega) ?_ | refine shr_g (m := 4294967296) 32 rfl (by decide) (by omega) rfl ?_
    | refine fz_all (by omega) ?_ | (refine smk ?_ ?_; constructor))
    exact ⟨ret_e rfl⟩
theorem q_same_t {a b : D2} (h : a.good) (k : b.good) : FC Tryz.prog G 18 [SP a b, SP a b] (· = .val (.bool true)) := by
  have := q_same (G := G) h k a b
  rw [decide_eq_true rfl, decide_eq_true rfl] at this
  exact this
theorem q_same_0 : FC Tryz.prog G 18 [SP (0, 0) (0, 0), SP (0, 0) (0, 0)] (· = .val (.bool true)) := q_same_t Good.zero Good.zero
/-! ### small numbers -/
theorem Good.tiny {m e : Int} (hm : m % 2 = 1) (hb : -1000 ≤ m ∧ m ≤ 1000) (he : -1048576 ≤ e ∧ e ≤ 1048576) : Good m e :=
  ⟨Nat.le_trans (L64_le (n := 1) (show m.natAbs < 2 ^ (64 * 1) by omega)) (by decide), he.1, he.2, fun h => by omega, fun _ => hm⟩
theorem L32_tiny {n : Nat} (h : n < 4294967296) : L32 n ≤ 1 := L32_le (show n < 2 ^ (32 * 1) by omega)
theorem s_whole (i : Int) (hi : i ≠ 0) (hb : -1000 ≤ i ∧ i ≤ 1000) : FC Tryz.prog G 52 [.val (.int .i64 i)] (· = DY i 0) := by
  have f1 := r_small (G := G) i (by dsimp only [inR]; omega)
  have f2 := r_small (G := G) (0 - i) (by dsimp only [inR]; omega)
  have f3 := r_to (G := G) i.toNat (Nat.le_trans (L32_tiny (by omega)) (by decide))
  have f4 := r_to (G := G) (0 - i).toNat (Nat.le_trans (L32_tiny (by omega)) (by decide))
  refine FC.intro (X := XX) tok Tryz.func52 rfl Tryz.ntmps52 (by rw [Tryz.results52]) (by kernel_rfl) rfl ?_; intro F hG hO
  rw [← hG] at f1 f2 f3 f4
  repeat' ((try (conv => whnf)); first
  | ((with_reducible refine cg ?_); first | refine ceq f1 rfl ?_ | refine ceq f2 rfl ?_ | refine ceq f3 rfl ?_ | refine ceq f4 rfl ?_)
  
  | with_reducible first
    | refine Chk.mk' (by first | omega | exact trivial | (simp only [List.length_append, List.length_set, List.length_replicate, List.length_take, List.length_drop, List.length_cons, List.length_nil, List.length_map]; omega)) ?_
    | refine wrap_g (by dsimp only [inR]; omega) ?_
    | refine idx_g (by omega) ?_ | refine idx_l _ rfl (by decide) ?_ | refine BothG.mk ?_ ?_ | refine fork_tt ?_ | refine fork_ff ?_
    | (refine fork_e (c := true) (by decide) ?_; refine fork_tt ?_) | (refine fork_e (c := false) (by decide) ?_; refine fork_ff ?_)
    | refine fork_t (by omega) ?_ | refine fork_f (by omega) ?_ | (refine fork_d ?_ ?_ <;> intro hc) | refine fork_n ?_ | (refine fork_b ?_ ?_ <;> intro hc)
    | refine SlcG.mk (by omega) ?_ | refine MakG.mk (by dsimp only; omega) ?_
    | refine AppG.mk (by first | omega | (simp only [List.length_append, List.length_set, List.length_replicate, List.length_take, List.length_drop, List.length_cons, List.length_nil, List.length_map]; omega)) (by dsimp only [List.length_cons, List.length_nil]; omega) (by omega) ?_
    | refine div_g (by omega) (by omega) (by dsimp only [inR]; omega) ?_ | refine mod_g (by omega) (by omega) ?_
    | refine mask_g (m := 4294967296) 32 rfl rfl (by decide) (by omega) ?_ | refine shr_g (m := 4294967296) 32 rfl (by decide) (by omega) rfl ?_
    | refine fz_all (by omega) ?_ | (refine smk ?_ ?_; constructor))
  · exact ⟨ret_e (by unfold DY; rw [decide_eq_true (show i < 0 by omega), show i.natAbs = (0 - i).toNat by omega])⟩
  · exact ⟨ret_e (by unfold DY; rw [decide_eq_false (show ¬ i < 0 by omega), show i.natAbs = i.toNat by omega])⟩
theorem s_from (i j : Int) (hi : i ≠ 0) (hj : j ≠ 0) (hb : -1000 ≤ i ∧ i ≤ 1000) (hc : -1000 ≤ j ∧ j ≤ 1000) : FC Tryz.prog G 16 [.val (.int .i64 i), .val (.int .i64 j)] (· = SP (i, 0) (j, 0)) := by
  have f1 := s_whole (G := G) i hi hb
  have f2 := s_whole (G := G) j hj hc
  refine FC.intro (X := XX) tok Tryz.func16 rfl Tryz.ntmps16 (by rw [Tryz.results16]) (by kernel_rfl) rfl ?_; intro F hG hO
  rw [← hG] at f1 f2
  repeat' ((try (conv => whnf)); first
  | ((with_reducible refine cg ?_); first | refine ceq f1 rfl ?_ | refine ceq f2 rfl ?_)
  
  | with_reducible first
    | refine Chk.mk' (by first | omega | exact trivial | (simp only [List.length_append, List.length_set, List.length_replicate, List.length_take, List.length_drop, List.length_cons, List.length_nil, List.length_map]; omega)) ?_
    | refine wrap_g (by dsimp only [inR]; omega) ?_
    | refine idx_g (by omega) ?_ | refine idx_l _ rfl (by decide) ?_ | refine BothG.mk ?_ ?_ | refine fork_tt ?_ | refine fork_ff ?_
    | (refine fork_e (c := true) (by decide) ?_; refine fork_tt ?_) | (refine fork_e (c := false) (by decide) ?_; refine fork_ff ?_)
    | refine fork_t (by omega) ?_ | refine fork_f (by omega) ?_ | (refine fork_d ?_ ?_ <;> intro hc) | refine fork_n ?_ | (refine fork_b ?_ ?_ <;> intro hc)
    | refine SlcG.mk (by omega) ?_ | refine MakG.mk (by dsimp only; omega) ?_
    | refine AppG.mk (by first | omega | (simp only [List.length_append, List.length_set, List.length_replicate, List.length_take, List.length_drop, List.length_cons, List.length_nil, List.length_map]; omega)) (by dsimp only [List.length_cons, List.length_nil]; omega) (by omega) ?_
    | refine div_g (by omega) (by omega) (by dsimp only [inR]; omega) ?_ | refine mod_g (by omega) (by omega) ?_
    | refine mask_g (m := 4294967296) 32 rfl rfl (by decide) (by omega) ?_ | refine shr_g (m := 4294967296) 32 rfl (by decide) (by omega) rfl ?_
    | refine fz_all (by omega) ?_ | (refine smk ?_ ?_; constructor))
  exact ⟨ret_e rfl⟩
theorem lt_same {n m k : Int} : VV n k < VV m k ↔ n < m := by
  have h := VV_le (a := m) (b := n) (k := k)
  omega
theorem lst2_same (n m k : Int) : lst2 (n, k) (m, k) = if m < n then (m, k) else (n, k) := by
  unfold lst2 D2.v
  by_cases h : m < n
  · rw [if_pos h, if_pos (lt_same.2 h)]
  · rw [if_neg h, if_neg (fun hh => h (lt_same.1 hh))]
theorem gst2_same (n m k : Int) : gst2 (n, k) (m, k) = if n < m then (m, k) else (n, k) := by
  unfold gst2 D2.v
  by_cases h : n < m
  · rw [if_pos h, if_pos (lt_same.2 h)]
  · rw [if_neg h, if_neg (fun hh => h (lt_same.1 hh))]
theorem mul_tiny {n m : Int} (hm : (n * m) % 2 = 1) (hb : -1000 ≤ n * m ∧ n * m ≤ 1000) : toAn (mulP (n, 0) (m, 0)) = ⟨n * m, 0, 0⟩ := by
  refine toAn_of ?_
  show mulS n 0 m 0 = dyR (n * m) 0
  have g := Good.tiny (e := 0) hm hb (by decide)
  unfold mulS
  rw [if_neg (by have := g.1; omega), Int.add_zero]
  exact told_good g
theorem cut_tiny {n e : Int} (up : Bool) (g : Good n e) (hb : (bl n.natAbs : Int) ≤ 10) : toAn (cutsS n e 10 up) = ⟨n, e, 0⟩ := toAn_of (cuts_same up g (by decide) hb)
theorem aw_add1 : toAn (addP (1, 0) (5, 0)) = ⟨3, 1, 0⟩ := by
  refine toAn_of ?_
  show addS 1 0 5 0 = dyR 3 1
  unfold addS
  rw [if_neg (by decide), if_neg (by decide), if_neg (by decide +kernel), if_neg (by decide +kernel)]
  exact told_eq (by decide) (Good.tiny (m := 3) (e := 1) (by decide) (by decide) (by decide)) (by rw [VV_low (n := 3) (e := 1) (k := 0) (by decide) (by decide)]; rfl)
theorem aw_add2 : toAn (addP (3, 0) (7, 0)) = ⟨5, 1, 0⟩ := by
  refine toAn_of ?_
  show addS 3 0 7 0 = dyR 5 1
  unfold addS
  rw [if_neg (by decide), if_neg (by decide), if_neg (by decide +kernel), if_neg (by decide +kernel)]
  exact told_eq (by decide) (Good.tiny (m := 5) (e := 1) (by decide) (by decide) (by decide)) (by rw [VV_low (n := 5) (e := 1) (k := 0) (by decide) (by decide)]; rfl)
theorem out_tiny {n e m f : Int} (g : Good n e) (h : Good m f) (hb : (bl n.natAbs : Int) ≤ 10) (hc : (bl m.natAbs : Int) ≤ 10) : outP (n, e) (m, f) 10 = spR (n, e) (m, f) := by
  unfold outP
  rw [show toAn (cutsS (n, e).1 (n, e).2 10 false) = ⟨n, e, 0⟩ from cut_tiny false g hb, show toAn (cutsS (m, f).1 (m, f).2 10 true) = ⟨m, f, 0⟩ from cut_tiny true h hc]
  exact bothA_ok rfl rfl
theorem aw_add : sumP (1, 0) (3, 0) (5, 0) (7, 0) 10 = spR (3, 1) (5, 1) := by
  unfold sumP
  rw [aw_add1, aw_add2, if_neg (by decide)]
  exact out_tiny (Good.tiny (by decide) (by decide) (by decide)) (Good.tiny (by decide) (by decide) (by decide)) (by decide +kernel) (by decide +kernel)
theorem aw_mul : spMul (-3, 0) (5, 0) (-7, 0) (1, 0) 10 = spR (-35, 0) (21, 0) := by
  unfold spMul least4 great4
  rw [mul_tiny (n := -3) (m := -7) (by decide) (by decide), mul_tiny (n := -3) (m := 1) (by decide) (by decide), mul_tiny (n := 5) (m := -7) (by decide) (by decide), mul_tiny (n := 5) (m := 1) (by decide) (by decide), if_neg (by decide)]
  have e1 : lst2 (lst2 (lst2 (An.d ⟨-3 * -7, 0, 0⟩) (An.d ⟨-3 * 1, 0, 0⟩)) (An.d ⟨5 * -7, 0, 0⟩)) (An.d ⟨5 * 1, 0, 0⟩) = (-35, 0) := by
    unfold An.d
    rw [lst2_same, if_pos (by decide), lst2_same, if_pos (by decide), lst2_same, if_neg (by decide)]; rfl
  have e2 : gst2 (gst2 (gst2 (An.d ⟨-3 * -7, 0, 0⟩) (An.d ⟨-3 * 1, 0, 0⟩)) (An.d ⟨5 * -7, 0, 0⟩)) (An.d ⟨5 * 1, 0, 0⟩) = (21, 0) := by
    unfold An.d
    rw [gst2_same, if_neg (by decide), gst2_same, if_neg (by decide), gst2_same, if_neg (by decide)]; rfl
  rw [e1, e2]
  exact out_tiny (Good.tiny (by decide) (by decide) (by decide)) (Good.tiny (by decide) (by decide) (by decide)) (by decide +kernel) (by decide +kernel)
theorem tiny_4096 {n : Int} (h : -1000 ≤ n ∧ n ≤ 1000) : L64 n.natAbs ≤ 4096 := Nat.le_trans (L64_le (n := 1) (show n.natAbs < 2 ^ (64 * 1) by omega)) (by decide)
theorem aw_q1 : toAn (quoP (1, 0) (1, 0) 10 false) = ⟨1, 0, 0⟩ := by
  refine toAn_of ?_
  show quoS 1 0 1 0 10 false = dyR 1 0
  rw [quoS_ok (by decide) (by decide) (tiny_4096 (by decide)) (tiny_4096 (by decide)), show quoK 1 1 10 1 = 11 by decide +kernel, show docQ 1 1 (11 : Int).toNat false = 2048 by decide +kernel]
  unfold cutS
  rw [if_neg (by decide +kernel), show wholeS 2048 ((bl (Int.natAbs 2048) : Int) - 10) false = 512 by decide +kernel, show (0 - 0 - 11 : Int) + ((bl (Int.natAbs 2048) : Int) - 10) = -9 by decide +kernel]
  exact told_eq (by decide) (Good.tiny (m := 1) (e := 0) (by decide) (by decide) (by decide)) (by rw [VV_low (n := 1) (e := 0) (k := -9) (by decide) (by decide)]; rfl)
theorem aw_q2 : toAn (quoP (3, 0) (1, 0) 10 true) = ⟨3, 0, 0⟩ := by
  refine toAn_of ?_
  show quoS 3 0 1 0 10 true = dyR 3 0
  rw [quoS_ok (by decide) (by decide) (tiny_4096 (by decide)) (tiny_4096 (by decide)), show quoK 3 1 10 1 = 10 by decide +kernel, show docQ 3 1 (10 : Int).toNat true = 3072 by decide +kernel]
  unfold cutS
  rw [if_neg (by decide +kernel), show wholeS 3072 ((bl (Int.natAbs 3072) : Int) - 10) true = 768 by decide +kernel, show (0 - 0 - 10 : Int) + ((bl (Int.natAbs 3072) : Int) - 10) = -8 by decide +kernel]
  exact told_eq (by decide) (Good.tiny (m := 3) (e := 0) (by decide) (by decide) (by decide)) (by rw [VV_low (n := 3) (e := 0) (k := -8) (by decide) (by decide)]; rfl)
theorem aw_quo : spQuo (1, 0) (3, 0) (1, 0) (1, 0) 10 = spR (1, 0) (3, 0) := by
  unfold spQuo spQuoPos
  rw [if_pos (by decide), if_neg (by decide), if_neg (by decide), aw_q1, aw_q2]
  exact bothA_ok rfl rfl
theorem tinyS {n m : Int} (hn : n % 2 = 1 ∧ -1000 ≤ n ∧ n ≤ 1000) (hm : m % 2 = 1 ∧ -1000 ≤ m ∧ m ≤ 1000) (h : n ≤ m) : GoodS (n, 0) (m, 0) :=
  ⟨Good.tiny (e := 0) hn.1 hn.2 (by decide), Good.tiny (e := 0) hm.1 hm.2 (by decide), VV_le.2 h⟩
theorem s_awake {g : List (Nat × List Value)} (hD : (0, debT.map (Value.int .u8)) ∈ g) : FC Tryz.prog g 13 [] (· = .val (.bool true)) := by
  have n0 := s_from (G := g) (1) (3) (by decide) (by decide) (by decide) (by decide)
  have n1 := s_from (G := g) (5) (7) (by decide) (by decide) (by decide) (by decide)
  have n2 := s_from (G := g) (-3) (5) (by decide) (by decide) (by decide) (by decide)
  have n3 := s_from (G := g) (-7) (1) (by decide) (by decide) (by decide) (by decide)
  have n4 := s_from (G := g) (1) (1) (by decide) (by decide) (by decide) (by decide)
  have n5 := s_from (G := g) (-35) (21) (by decide) (by decide) (by decide) (by decide)
  have f1 := p_add hD (tinyS (n := 1) (m := 3) (by decide) (by decide) (by decide)) (tinyS (n := 5) (m := 7) (by decide) (by decide) (by decide)) (p := 10) (by decide)
  rw [aw_add] at f1
  have f2 := p_mul hD (tinyS (n := -3) (m := 5) (by decide) (by decide) (by decide)) (tinyS (n := -7) (m := 1) (by decide) (by decide) (by decide)) (p := 10) (by decide)
  rw [aw_mul] at f2
  have f3 := p_quo hD (tinyS (n := 1) (m := 3) (by decide) (by decide) (by decide)) (tinyS (n := 1) (m := 1) (by decide) (by decide) (by decide)) (p := 10) (by decide)
  rw [aw_quo] at f3
  have g1 := q_same_t (G := g) (a := (-35, 0)) (b := (21, 0)) (Good.tiny (by decide) (by decide) (by decide)) (Good.tiny (by decide) (by decide) (by decide))
  have g2 := q_same_t (G := g) (a := (1, 0)) (b := (3, 0)) (Good.tiny (by decide) (by decide) (by decide)) (Good.tiny (by decide) (by decide) (by decide))
  have g3 := q_same_t (G := g) (a := (3, 1)) (b := (5, 1)) (Good.tiny (by decide) (by decide) (by decide)) (Good.tiny (by decide) (by decide) (by decide))
  have w1 := s_whole (G := g) 3 (by decide) (by decide)
  have w2 := s_whole (G := g) 5 (by decide) (by decide)
  refine FC.intro (X := XX) tok Tryz.func13 rfl Tryz.ntmps13 (by rw [Tryz.results13]) (by kernel_rfl) rfl ?_; intro F hG hO
  rw [← hG] at n0 n1 n2 n3 n4 n5 f1 f2 f3 g1 g2 g3 w1 w2
  repeat' ((try (conv => whnf)); first
  | ((with_reducible refine cg ?_); first | refine ceq n0 rfl ?_ | refine ceq n1 rfl ?_ | refine ceq n2 rfl ?_ | refine ceq n3 rfl ?_ | refine ceq n4 rfl ?_ | refine ceq n5 rfl ?_ | refine ceq f1 rfl ?_ | refine ceq f2 rfl ?_ | refine ceq f3 rfl ?_ | refine ceq g1 rfl ?_ | refine ceq g2 rfl ?_ | refine ceq g3 rfl ?_ | refine ceq w1 rfl ?_ | refine ceq w2 rfl ?_)
  
  | (with_reducible refine draw_g (id := 4) [[0, 1, 2, 3, 4, 5, 6, 7, 8, 9, 10, 11, 12, 13, 14, 15, 16, 17, 18, 19, 20, 21]] tok mixed (by kernel_rfl) ?_)
  | with_reducible first
    | refine Chk.mk' (by first | omega | exact trivial | (simp only [List.length_append, List.length_set, List.length_replicate, List.length_take, List.length_drop, List.length_cons, List.length_nil, List.length_map]; omega)) ?_
    | refine wrap_g (by dsimp only [inR]; omega) ?_
    | refine idx_g (by omega) ?_ | refine idx_l _ rfl (by decide) ?_ | refine BothG.mk ?_ ?_ | refine fork_tt ?_ | refine fork_ff ?_
    | (refine fork_e (c := true) (by decide) ?_; refine fork_tt ?_) | (refine fork_e (c := false) (by decide) ?_; refine fork_ff ?_)
    | refine fork_t (by omega) ?_ | refine fork_f (by omega) ?_ | (refine fork_d ?_ ?_ <;> intro hc) | refine fork_n ?_ | (refine fork_b ?_ ?_ <;> intro hc)
    | refine SlcG.mk (by omega) ?_ | refine MakG.mk (by dsimp only; omega) ?_
    | refine AppG.mk (by first | omega | (simp only [List.length_append, List.length_set, List.length_replicate, List.length_take, List.length_drop, List.length_cons, List.length_nil, List.length_map]; omega)) (by dsimp only [List.length_cons, List.length_nil]; omega) (by omega) ?_
    | refine div_g (by omega) (by omega) (by dsimp only [inR]; omega) ?_ | refine mod_g (by omega) (by omega) ?_
    | refine mask_g (m := 4294967296) 32 rfl rfl (by decide) (by omega) ?_ | refine shr_g (m := 4294967296) 32 rfl (by decide) (by omega) rfl ?_
    | refine fz_all (by omega) ?_ | (refine smk ?_ ?_; constructor))
  all_goals exact ⟨ret_e rfl⟩
end Go.Proofs.YtpjbgmafnheomaaGreatDoor.Sim
namespace Go.Proofs.YtpjbgmafnheomaaGreatDoor.Sim
open Go.RowKit
set_option linter.unusedVariables false
set_option linter.unusedSimpArgs false
theorem tup_inj {x y c x' y' c' : Int} (h : PV.tup [DY x y, .val (.int .i64 c)] = .tup [DY x' y', .val (.int .i64 c')]) : x = x' ∧ y = y' ∧ c = c' := by
  simp only [PV.tup.injEq, List.cons.injEq, PV.val.injEq, Value.int.injEq, true_and, and_true] at h
  obtain ⟨h1, h2⟩ := h
  obtain ⟨h3, h4⟩ := DY_inj h1
  exact ⟨h3, h4, h2⟩
theorem told_inv {s k x y : Int} (h : toldS s k = .tup [DY x y, .val (.int .i64 0)]) : (s = 0 ∧ x = 0 ∧ y = 0) ∨ (s ≠ 0 ∧ x = s / 2 ^ tz s.natAbs ∧ y = k + tz s.natAbs ∧ s = x * 2 ^ tz s.natAbs) := by
  have hE : dyE 5 ≠ .tup [DY x y, .val (.int .i64 0)] := fun hh => by
    have := (tup_inj hh).2.2
    exact absurd this (by decide)
  unfold toldS at h
  by_cases h0 : s = 0
  · rw [if_pos h0] at h
    have := tup_inj h
    exact .inl ⟨h0, this.1.symm, this.2.1.symm⟩
  · rw [if_neg h0] at h
    split at h
    · exact absurd h hE
    · split at h
      · exact absurd h hE
      · split at h
        · exact absurd h hE
        · split at h
          · exact absurd h hE
          · split at h
            · exact absurd h hE
            · have h1 := tup_inj h
              obtain ⟨h2, _⟩ := odd_div (n := s.natAbs) (by omega)
              obtain ⟨t, ht⟩ : ∃ t, t = tz s.natAbs := ⟨_, rfl⟩
              rw [← ht] at h1 h2 ⊢
              refine .inr ⟨h0, h1.1.symm, h1.2.1.symm, ?_⟩
              have hs : s = sg (decide (s < 0)) (s.natAbs / 2 ^ t) * 2 ^ t := by rw [← sg_pow, ← h2, sg_of]
              rw [← h1.1]
              have hd : s / 2 ^ t = sg (decide (s < 0)) (s.natAbs / 2 ^ t) := by
                conv => lhs; rw [hs]
                exact Int.mul_ediv_cancel _ (Int.ne_of_gt (p2_pos t))
              rw [hd]
              exact hs
theorem told_Vc {c s k x y : Int} (hk : -c ≤ k) (h : toldS s k = .tup [DY x y, .val (.int .i64 0)]) : Vc c x y = Vc c s k := by
  rcases told_inv h with ⟨h1, h2, h3⟩ | ⟨h1, h2, h3, h4⟩
  · rw [h1, h2]; unfold Vc; rw [Int.zero_mul, Int.zero_mul]
  · obtain ⟨t, ht⟩ : ∃ t, t = tz s.natAbs := ⟨_, rfl⟩
    rw [← ht] at h3 h4
    unfold Vc
    rw [h3, show (k + (t : Int) + c).toNat = t + (k + c).toNat by omega, Int.pow_add, ← Int.mul_assoc, ← h4]
def An.neg (a : An) : An := ⟨-a.x, a.y, a.c⟩
theorem An.neg_d (a : An) : a.neg.d = a.d.neg := rfl
theorem dyR_an (n e : Int) : toAn (dyR n e) = ⟨n, e, 0⟩ := toAn_tup n e 0
theorem dyE_an (c : Int) : toAn (dyE c) = ⟨0, 0, c⟩ := toAn_tup 0 0 c
theorem told_neg (s k : Int) : toAn (toldS (-s) k) = (toAn (toldS s k)).neg := by
  have hE : (⟨0, 0, 5⟩ : An) = An.neg ⟨0, 0, 5⟩ := rfl
  unfold toldS
  rw [Int.natAbs_neg]
  by_cases h0 : s = 0
  · rw [if_pos h0, if_pos (by omega), dyE_an]; rfl
  · rw [if_neg h0, if_neg (by omega)]
    repeat' split
    all_goals first
      | (rw [dyE_an]; exact hE)
      | (rw [dyR_an, dyR_an]
         obtain ⟨h2, _⟩ := odd_div (n := s.natAbs) (by omega)
         obtain ⟨t, ht⟩ : ∃ t, t = tz s.natAbs := ⟨_, rfl⟩
         rw [← ht] at h2 ⊢
         have hs : s = sg (decide (s < 0)) (s.natAbs / 2 ^ t) * 2 ^ t := by rw [← sg_pow, ← h2, sg_of]
         have hp : (2 : Int) ^ t ≠ 0 := Int.ne_of_gt (p2_pos t)
         have hd : (-s) / 2 ^ t = -(s / 2 ^ t) := by
           obtain ⟨z, hz⟩ : ∃ z, z = sg (decide (s < 0)) (s.natAbs / 2 ^ t) := ⟨_, rfl⟩
           rw [← hz] at hs
           rw [hs, ← Int.neg_mul, Int.mul_ediv_cancel _ hp, Int.mul_ediv_cancel _ hp]
         rw [hd]
         rfl)
theorem whole_neg (n k : Int) (up : Bool) : wholeS (-n) k up = -wholeS n k (!up) := by
  cases up
  · show (-n) / 2 ^ k.toNat = -(-((-n) / 2 ^ k.toNat)); rw [Int.neg_neg]
  · show -((- -n) / 2 ^ k.toNat) = -(n / 2 ^ k.toNat); rw [Int.neg_neg]
theorem cuts_neg (n e p : Int) (up : Bool) : toAn (cutsS (-n) e p up) = (toAn (cutsS n e p (!up))).neg := by
  unfold cutsS cutS
  rw [Int.natAbs_neg, whole_neg]
  repeat' split
  · rw [dyE_an]; rfl
  · rw [dyE_an]; rfl
  · exact told_neg _ _
  · exact told_neg _ _
theorem mul_neg (a c : D2) : toAn (mulP a.neg c) = (toAn (mulP a c)).neg := by
  unfold mulP mulS D2.neg
  rw [Int.neg_mul, Int.natAbs_neg]
  split
  · rw [dyE_an]; rfl
  · exact told_neg _ _
/-! ### cut down lies below, cut up above -/
theorem cut_low {a : D2} (h : a.good) {p : Int} (hp : 1 ≤ p ∧ p ≤ 70000) (hc : (toAn (cutsS a.1 a.2 p false)).c = 0) : (toAn (cutsS a.1 a.2 p false)).d.v ≤ a.v := by
  obtain ⟨h1, _, _⟩ := (cuts_ans a hp false).eq
  obtain ⟨u, hu⟩ : ∃ u, u = toAn (cutsS a.1 a.2 p false) := ⟨_, rfl⟩
  rw [← hu] at h1 hc ⊢
  unfold An.pv at h1
  rw [hc] at h1
  by_cases hb : (bl a.1.natAbs : Int) ≤ p
  · rw [cuts_same false h hp hb] at h1
    have := tup_inj h1
    show VV u.x u.y ≤ VV a.1 a.2
    rw [← this.1, ← this.2.1]
    exact Int.le_refl _
  · rw [cuts_down hp (by omega)] at h1
    have e1 := h.2.1
    have hv := told_Vc (c := 1048576) (by omega) h1
    obtain ⟨j, hj⟩ : ∃ j : Nat, (j : Int) = (bl a.1.natAbs : Int) - p := ⟨((bl a.1.natAbs : Int) - p).toNat, by omega⟩
    rw [← hj, Int.toNat_natCast] at hv
    show Vc 1048576 u.x u.y ≤ Vc 1048576 a.1 a.2
    rw [hv]
    unfold Vc
    rw [show (a.2 + (j : Int) + 1048576).toNat = j + (a.2 + 1048576).toNat by omega, Int.pow_add, ← Int.mul_assoc]
    exact mr (Int.ediv_mul_le _ (Int.ne_of_gt (p2_pos j))) (Int.le_of_lt (p2_pos _))
theorem cut_high {a : D2} (h : a.good) {p : Int} (hp : 1 ≤ p ∧ p ≤ 70000) (hc : (toAn (cutsS a.1 a.2 p true)).c = 0) : a.v ≤ (toAn (cutsS a.1 a.2 p true)).d.v := by
  have e : toAn (cutsS a.neg.1 a.neg.2 p false) = (toAn (cutsS a.1 a.2 p true)).neg := cuts_neg a.1 a.2 p false
  have h1 := cut_low (D2.neg_good h) hp (by rw [e]; exact hc)
  rw [e, An.neg_d, D2.neg_v, D2.neg_v] at h1
  omega
/-- What outward answers: an error, or a span in form around. -/
theorem out_res {a b : D2} (h : a.good) (k : b.good) (hv : a.v ≤ b.v) {p : Int} (hp : 1 ≤ p ∧ p ≤ 70000) : (outP a b p = spE 5 ∧ outP b.neg a.neg p = spE 5) ∨ ∃ x y : D2, outP a b p = spR x y ∧ outP b.neg a.neg p = spR y.neg x.neg ∧ GoodS x y ∧ x.v ≤ a.v ∧ b.v ≤ y.v := by
  have n1 : toAn (cutsS b.neg.1 b.neg.2 p false) = (toAn (cutsS b.1 b.2 p true)).neg := cuts_neg b.1 b.2 p false
  have n2 : toAn (cutsS a.neg.1 a.neg.2 p true) = (toAn (cutsS a.1 a.2 p false)).neg := cuts_neg a.1 a.2 p true
  have l1 := cut_low h hp
  have l2 := cut_high k hp
  obtain ⟨_, g1, _⟩ := (cuts_ans a hp false).eq
  obtain ⟨_, g2, _⟩ := (cuts_ans b hp true).eq
  unfold outP
  rw [n1, n2]
  obtain ⟨u, hu⟩ : ∃ u, u = toAn (cutsS a.1 a.2 p false) := ⟨_, rfl⟩
  obtain ⟨v, hv2⟩ : ∃ v, v = toAn (cutsS b.1 b.2 p true) := ⟨_, rfl⟩
  rw [← hu] at l1 g1 ⊢
  rw [← hv2] at l2 g2 ⊢
  by_cases hc : u.c = 0 ∧ v.c = 0
  · refine .inr ⟨u.d, v.d, bothA_ok hc.1 hc.2, bothA_ok hc.2 hc.1, ⟨g1, g2, ?_⟩, l1 hc.1, l2 hc.2⟩
    have := l1 hc.1
    have := l2 hc.2
    omega
  · refine .inl ⟨bothA_no (by omega), bothA_no ?_⟩
    show v.c ≠ 0 ∨ u.c ≠ 0
    omega
theorem least4_le (a b c d : D2) : (least4 a b c d).v ≤ (great4 a b c d).v := by rw [least4_v, great4_v]; omega
theorem An.d_good {p : PV} (h : Ans p) : (toAn p).d.good := h.eq.2.1
theorem neg_eq {a b : D2} (h : a.good) (k : b.good) (hv : a.v = -b.v) : a = b.neg := D2.eq h (D2.neg_good k) (by rw [hv, D2.neg_v])
/-- A product and the product of the opposite. -/
theorem mul_res {a b c d : D2} {p : Int} (hp : 1 ≤ p ∧ p ≤ 70000) : (spMul a b c d p = spE 5 ∧ spMul b.neg a.neg c d p = spE 5) ∨
    ((toAn (mulP a c)).c = 0 ∧ (toAn (mulP a d)).c = 0 ∧ (toAn (mulP b c)).c = 0 ∧ (toAn (mulP b d)).c = 0 ∧ ∃ x y : D2, spMul a b c d p = spR x y ∧ spMul b.neg a.neg c d p = spR y.neg x.neg ∧ GoodS x y
      ∧ x.v ≤ min (min (min (toAn (mulP a c)).d.v (toAn (mulP a d)).d.v) (toAn (mulP b c)).d.v) (toAn (mulP b d)).d.v ∧ max (max (max (toAn (mulP a c)).d.v (toAn (mulP a d)).d.v) (toAn (mulP b c)).d.v) (toAn (mulP b d)).d.v ≤ y.v) := by
  have g1 := An.d_good (mul_ans a c)
  have g2 := An.d_good (mul_ans a d)
  have g3 := An.d_good (mul_ans b c)
  have g4 := An.d_good (mul_ans b d)
  unfold spMul
  rw [mul_neg a c, mul_neg a d, mul_neg b c, mul_neg b d]
  obtain ⟨u1, e1⟩ : ∃ u, u = toAn (mulP a c) := ⟨_, rfl⟩
  obtain ⟨u2, e2⟩ : ∃ u, u = toAn (mulP a d) := ⟨_, rfl⟩
  obtain ⟨u3, e3⟩ : ∃ u, u = toAn (mulP b c) := ⟨_, rfl⟩
  obtain ⟨u4, e4⟩ : ∃ u, u = toAn (mulP b d) := ⟨_, rfl⟩
  rw [← e1] at g1 ⊢
  rw [← e2] at g2 ⊢
  rw [← e3] at g3 ⊢
  rw [← e4] at g4 ⊢
  clear e1 e2 e3 e4
  by_cases hz : u1.c = 0 ∧ u2.c = 0 ∧ u3.c = 0 ∧ u4.c = 0
  · obtain ⟨z1, z2, z3, z4⟩ := hz
    rw [if_neg (by omega), if_neg (by show ¬ (u3.c ≠ 0 ∨ u4.c ≠ 0 ∨ u1.c ≠ 0 ∨ u2.c ≠ 0); omega)]
    simp only [An.neg_d]
    have gl := least4_good g1 g2 g3 g4
    have gg := great4_good g1 g2 g3 g4
    have vl := least4_v u1.d u2.d u3.d u4.d
    have vg := great4_v u1.d u2.d u3.d u4.d
    have nl : least4 u3.d.neg u4.d.neg u1.d.neg u2.d.neg = (great4 u1.d u2.d u3.d u4.d).neg := by
      refine neg_eq (least4_good (D2.neg_good g3) (D2.neg_good g4) (D2.neg_good g1) (D2.neg_good g2)) gg ?_
      rw [least4_v, vg]; simp only [D2.neg_v]; omega
    have ng : great4 u3.d.neg u4.d.neg u1.d.neg u2.d.neg = (least4 u1.d u2.d u3.d u4.d).neg := by
      refine neg_eq (great4_good (D2.neg_good g3) (D2.neg_good g4) (D2.neg_good g1) (D2.neg_good g2)) gl ?_
      rw [great4_v, vl]; simp only [D2.neg_v]; omega
    rw [nl, ng]
    rcases out_res gl gg (least4_le _ _ _ _) hp with h | ⟨x, y, h1, h2, h3, h4, h5⟩
    · exact .inl h
    · exact .inr ⟨z1, z2, z3, z4, x, y, h1, h2, h3, by rw [← vl]; exact h4, by rw [← vg]; exact h5⟩
  · refine .inl ⟨if_pos (by omega), if_pos ?_⟩
    show u3.c ≠ 0 ∨ u4.c ≠ 0 ∨ u1.c ≠ 0 ∨ u2.c ≠ 0
    omega
end Go.Proofs.YtpjbgmafnheomaaGreatDoor.Sim
namespace Go.Proofs.YtpjbgmafnheomaaGreatDoor.Sim
open Go.RowKit
set_option linter.unusedVariables false
set_option linter.unusedSimpArgs false
set_option maxRecDepth 10000
set_option maxHeartbeats 8000000
variable {G : List (Nat × List Value)}
end Go.Proofs.YtpjbgmafnheomaaGreatDoor.Sim
namespace Go.Proofs.YtpjbgmafnheomaaGreatDoor.Sim
open Go.RowKit
set_option linter.unusedVariables false
set_option linter.unusedSimpArgs false
/-! ### a quotient by one -/
theorem told_shift {n e : Int} {k : Nat} (h : Good n e) (hk : k ≤ 1000000) : toldS (n * 2 ^ k) (e - k) = toldS n e := by
  rw [told_good h]
  by_cases h0 : n = 0
  · have he := h.2.2.2.1 h0
    rw [h0, Int.zero_mul, he]
    unfold toldS
    rw [if_pos rfl]
    rfl
  · have e1 := h.2.1
    have e2 := h.2.2.1
    have ha : (n * 2 ^ k).natAbs = n.natAbs * 2 ^ k := abs_shl n k
    have ht : tz (n * 2 ^ k).natAbs = k := by
      rw [ha]
      exact tz_eq (m := n.natAbs) rfl (by have := h.2.2.2.2 h0; omega)
    have hp := p2_pos k
    have hq : n * 2 ^ k / 2 ^ k = n := Int.mul_ediv_cancel _ (Int.ne_of_gt hp)
    have hq2 : (n * 2 ^ k).natAbs / 2 ^ k = n.natAbs := by rw [ha]; exact Nat.mul_div_cancel _ (Nat.pow_pos (by decide))
    have hl := L32_L64 n.natAbs
    have g1 := h.1
    have hne : n * 2 ^ k ≠ 0 := fun hh => by
      rcases Int.mul_eq_zero.1 hh with h1 | h1
      · exact h0 h1
      · omega
    unfold toldS
    rw [if_neg hne, ht, hq, hq2, if_neg (by omega), if_neg (by omega), if_neg (by omega), if_neg (by omega), if_neg (by omega), show e - (k : Int) + (k : Int) = e by omega]
theorem whole_shift (n : Int) (k : Nat) (j : Int) (hj : 0 ≤ j) (up : Bool) : wholeS (n * 2 ^ k) (j + k) up = wholeS n j up := by
  have hp := p2_pos k
  have e1 : (2 : Int) ^ (j + (k : Int)).toNat = 2 ^ j.toNat * 2 ^ k := by rw [← Int.pow_add]; congr 1; omega
  cases up
  · show n * 2 ^ k / 2 ^ (j + (k : Int)).toNat = n / 2 ^ j.toNat
    rw [e1, Int.mul_ediv_mul_of_pos_left _ _ hp]
  · show -((-(n * 2 ^ k)) / 2 ^ (j + (k : Int)).toNat) = -((-n) / 2 ^ j.toNat)
    rw [e1, ← Int.neg_mul, Int.mul_ediv_mul_of_pos_left _ _ hp]
theorem whole_exact (n : Int) (k : Nat) (j : Int) (hj : 0 ≤ j ∧ j ≤ k) (up : Bool) : wholeS (n * 2 ^ k) j up = n * 2 ^ (k - j.toNat) := by
  have hp := p2_pos j.toNat
  have e1 : (2 : Int) ^ k = 2 ^ (k - j.toNat) * 2 ^ j.toNat := by rw [← Int.pow_add]; congr 1; omega
  cases up
  · show n * 2 ^ k / 2 ^ j.toNat = _
    rw [e1, ← Int.mul_assoc, Int.mul_ediv_cancel _ (Int.ne_of_gt hp)]
  · show -((-(n * 2 ^ k)) / 2 ^ j.toNat) = _
    rw [e1, ← Int.mul_assoc, ← Int.neg_mul, Int.mul_ediv_cancel _ (Int.ne_of_gt hp), Int.neg_neg]
theorem cut_shift {n e p : Int} {k : Nat} (h : Good n e) (hk : k ≤ 1000000) (hp : 1 ≤ p) (up : Bool) : cutS (n * 2 ^ k) (e - k) p up = cutS n e p up := by
  by_cases h0 : n = 0
  · have he := h.2.2.2.1 h0
    have hz : ∀ E : Int, cutS 0 E p up = dyE 0 := fun E => by
      unfold cutS
      rw [if_pos (by rw [show Int.natAbs 0 = 0 from rfl, bl_zero]; omega)]
      unfold toldS
      rw [if_pos rfl]
    rw [h0, Int.zero_mul, hz, hz]
  · have hb : bl (n * 2 ^ k).natAbs = bl n.natAbs + k := by rw [abs_shl]; exact bl_mul_pow _ _ (by omega)
    unfold cutS
    rw [hb]
    by_cases h1 : (bl n.natAbs : Int) - p ≤ 0
    · rw [if_pos h1]
      by_cases h2 : ((bl n.natAbs + k : Nat) : Int) - p ≤ 0
      · rw [if_pos h2, told_shift h hk]
      · rw [if_neg h2, whole_exact n k _ (by omega)]
        obtain ⟨j, hj⟩ : ∃ j : Nat, (j : Int) = ((bl n.natAbs + k : Nat) : Int) - p := ⟨(((bl n.natAbs + k : Nat) : Int) - p).toNat, by omega⟩
        rw [← hj, Int.toNat_natCast]
        have := told_shift (k := k - j) h (by omega)
        rw [show e - ((k - j : Nat) : Int) = e - (k : Int) + (j : Int) by omega] at this
        exact this
    · rw [if_neg h1, if_neg (by omega), show ((bl n.natAbs + k : Nat) : Int) - p = ((bl n.natAbs : Int) - p) + (k : Int) by omega, whole_shift n k _ (by omega)]
      congr 1
      omega
theorem docQ_one (n : Int) (s : Nat) (up : Bool) : docQ n 1 s up = n * 2 ^ s := by
  cases up
  · show (n * 2 ^ s).fdiv 1 = _
    exact Int.fdiv_one _
  · show -((-(n * 2 ^ s)).fdiv 1) = _
    rw [Int.fdiv_one, Int.neg_neg]
theorem quo_one {a : D2} (h : a.good) {p : Int} (hp : 1 ≤ p ∧ p ≤ 70000) (hl : L64 a.1.natAbs ≤ 4096) (up : Bool) : quoP a (1, 0) p up = cutsS a.1 a.2 p up := by
  have h1 : L64 (Int.natAbs 1) ≤ 4096 := Nat.le_trans (L64_le (n := 1) (by decide)) (by decide)
  show quoS a.1 a.2 1 0 p up = _
  rw [quoS_ok hp (by decide) hl h1, docQ_one]
  have hk : quoK a.1 1 p 1 = max 0 (p + 1 + bl (Int.natAbs 1) - bl a.1.natAbs) := rfl
  have hb1 : bl (Int.natAbs 1) = 1 := rfl
  rw [hb1] at hk
  obtain ⟨k, hkk⟩ : ∃ k : Nat, (k : Int) = quoK a.1 1 p 1 := ⟨(quoK a.1 1 p 1).toNat, by omega⟩
  rw [← hkk, Int.toNat_natCast, Int.sub_zero, cut_shift h (by omega) hp.1]
  unfold cutsS
  rw [if_neg (by omega), if_neg (by omega)]
/-! ### products and quotients by their values -/
theorem Vc_two {n e : Int} (he : -1048576 ≤ e) : Vc 2097152 n e = VV n e * 2 ^ 1048576 := by
  unfold Vc VV
  rw [Int.mul_assoc, ← Int.pow_add]
  congr 2
  omega
theorem mul_V {a c : D2} (h : a.good) (k : c.good) (hc : (toAn (mulP a c)).c = 0) : (toAn (mulP a c)).d.v * 2 ^ 1048576 = a.v * c.v := by
  obtain ⟨h1, g, _⟩ := (mul_ans a c).eq
  obtain ⟨u, hu⟩ : ∃ u, u = toAn (mulP a c) := ⟨_, rfl⟩
  rw [← hu] at h1 hc g ⊢
  unfold An.pv at h1
  rw [hc] at h1
  have e1 := h.2.1
  have e2 := k.2.1
  have hE : dyE 5 ≠ .tup [DY u.x u.y, .val (.int .i64 0)] := fun hh => absurd (tup_inj hh).2.2 (by decide)
  unfold mulP mulS at h1
  split at h1
  · exact absurd h1 hE
  · have hv := told_Vc (c := 2097152) (by omega) h1
    show VV u.x u.y * 2 ^ 1048576 = VV a.1 a.2 * VV c.1 c.2
    rw [← Vc_two g.2.1, hv, Vc_mul e1 e2]
theorem cut_Vc {s E p c : Int} {x y : Int} (hE : -c ≤ E) (h : cutS s E p false = .tup [DY x y, .val (.int .i64 0)]) : Vc c x y ≤ Vc c s E := by
  unfold cutS at h
  split at h
  · exact Int.le_of_eq (told_Vc hE h)
  · rename_i hb
    obtain ⟨j, hj⟩ : ∃ j : Nat, (j : Int) = (bl s.natAbs : Int) - p := ⟨((bl s.natAbs : Int) - p).toNat, by omega⟩
    rw [← hj] at h
    have hv := told_Vc (c := c) (by omega) h
    rw [hv]
    have hw : wholeS s (j : Int) false = s / 2 ^ j := by show s / 2 ^ ((j : Int)).toNat = _; rw [Int.toNat_natCast]
    rw [hw]
    unfold Vc
    rw [show (E + (j : Int) + c).toNat = j + (E + c).toNat by omega, Int.pow_add, ← Int.mul_assoc]
    exact mr (Int.ediv_mul_le _ (Int.ne_of_gt (p2_pos j))) (Int.le_of_lt (p2_pos _))
theorem quo_low {a b : D2} (h : a.good) (g : b.good) (hb : 0 < b.1) {p : Int} (hp : 1 ≤ p ∧ p ≤ 70000) (hc : (toAn (quoP a b p false)).c = 0) : (toAn (quoP a b p false)).d.v * b.v ≤ a.v * 2 ^ 1048576 := by
  obtain ⟨h1, gu, _⟩ := (quo_ans (a := a) (b := b) hp (by omega) false).eq
  obtain ⟨u, hu⟩ : ∃ u, u = toAn (quoP a b p false) := ⟨_, rfl⟩
  rw [← hu] at h1 hc gu ⊢
  unfold An.pv at h1
  rw [hc] at h1
  have hE : dyE 5 ≠ .tup [DY u.x u.y, .val (.int .i64 0)] := fun hh => absurd (tup_inj hh).2.2 (by decide)
  have e1 := h.2.1
  have e2 := g.2.1
  have e3 := g.2.2.1
  have e4 := gu.2.1
  unfold quoP quoS at h1
  rw [if_neg (by omega), if_neg (by omega), if_neg (by omega)] at h1
  split at h1
  · exact absurd h1 hE
  · rename_i l1
    split at h1
    · exact absurd h1 hE
    · rename_i l2
      have hbl := bl_L64 b.1.natAbs
      have hk : quoK a.1 b.1 p 1 = max 0 (p + 1 + bl b.1.natAbs - bl a.1.natAbs) := rfl
      obtain ⟨k, hkk⟩ : ∃ k : Nat, (k : Int) = quoK a.1 b.1 p 1 := ⟨(quoK a.1 b.1 p 1).toNat, by omega⟩
      rw [← hkk, Int.toNat_natCast] at h1
      obtain ⟨c, hcc⟩ : ∃ c : Int, c = 4194304 := ⟨_, rfl⟩
      have hv := cut_Vc (c := c) (by omega) h1
      obtain ⟨s, hs⟩ : ∃ s, s = docQ a.1 b.1 k false := ⟨_, rfl⟩
      have hsm : s * b.1 ≤ a.1 * 2 ^ k := by
        rw [hs]
        show (a.1 * 2 ^ k).fdiv b.1 * b.1 ≤ a.1 * 2 ^ k
        rw [Int.fdiv_eq_ediv_of_nonneg _ (by omega)]
        exact Int.ediv_mul_le _ (by omega)
      rw [← hs] at hv
      -- everything in parts of 2^-c
      have k1 : u.x * 2 ^ (u.y + c).toNat * b.1 ≤ a.1 * 2 ^ (a.2 - b.2 + c).toNat := by
        unfold Vc at hv
        have m1 := mr hv (Int.le_of_lt hb)
        refine Int.le_trans m1 ?_
        rw [Int.mul_right_comm]
        have m2 := mr hsm (Int.le_of_lt (p2_pos (a.2 - b.2 - (k : Int) + c).toNat))
        refine Int.le_trans m2 ?_
        rw [Int.mul_assoc, ← Int.pow_add, show k + (a.2 - b.2 - (k : Int) + c).toNat = (a.2 - b.2 + c).toNat by omega]
        exact Int.le_refl _
      have k2 := mr k1 (Int.le_of_lt (p2_pos (b.2 + 2097152).toNat))
      have t1 : (VV u.x u.y * VV b.1 b.2) * 2 ^ c.toNat = u.x * 2 ^ (u.y + c).toNat * b.1 * 2 ^ (b.2 + 2097152).toNat := by
        have r : u.x * 2 ^ (u.y + c).toNat * b.1 * 2 ^ (b.2 + 2097152).toNat = u.x * b.1 * 2 ^ ((u.y + c).toNat + (b.2 + 2097152).toNat) := by
          rw [Int.mul_right_comm u.x, Int.mul_assoc, ← Int.pow_add]
        rw [r, Vc_mul e4 e2]
        unfold Vc
        rw [Int.mul_assoc, ← Int.pow_add, show (u.y + b.2 + 2097152).toNat + c.toNat = (u.y + c).toNat + (b.2 + 2097152).toNat by omega]
      have t2 : (VV a.1 a.2 * 2 ^ 1048576) * 2 ^ c.toNat = a.1 * 2 ^ (a.2 - b.2 + c).toNat * 2 ^ (b.2 + 2097152).toNat := by
        rw [← Vc_two e1]
        unfold Vc
        rw [Int.mul_assoc, ← Int.pow_add, Int.mul_assoc a.1, ← Int.pow_add, show (a.2 + 2097152).toNat + c.toNat = (a.2 - b.2 + c).toNat + (b.2 + 2097152).toNat by omega]
      show VV u.x u.y * VV b.1 b.2 ≤ VV a.1 a.2 * 2 ^ 1048576
      refine Int.le_of_mul_le_mul_right ?_ (p2_pos c.toNat)
      rw [t1, t2]
      exact k2
theorem docQ_neg (n m : Int) (s : Nat) (up : Bool) : docQ (-n) m s up = -docQ n m s (!up) := by
  cases up
  · show ((-n) * 2 ^ s).fdiv m = - -((-(n * 2 ^ s)).fdiv m)
    rw [Int.neg_neg, Int.neg_mul]
  · show -((-((-n) * 2 ^ s)).fdiv m) = -((n * 2 ^ s).fdiv m)
    rw [Int.neg_mul, Int.neg_neg]
theorem cutS_neg (n e p : Int) (up : Bool) : toAn (cutS (-n) e p up) = (toAn (cutS n e p (!up))).neg := by
  unfold cutS
  rw [Int.natAbs_neg, whole_neg]
  split
  · exact told_neg _ _
  · exact told_neg _ _
theorem quo_neg1 (a b : D2) (p : Int) (up : Bool) (hp : 1 ≤ p ∧ p ≤ 70000) (h0 : b.1 ≠ 0) : toAn (quoP a.neg b p up) = (toAn (quoP a b p (!up))).neg := by
  have e1 : quoK (-a.1) b.1 p 1 = quoK a.1 b.1 p 1 := by unfold quoK; rw [Int.natAbs_neg]
  have en : L64 (-a.1).natAbs = L64 a.1.natAbs := by rw [Int.natAbs_neg]
  show toAn (quoS (-a.1) a.2 b.1 b.2 p up) = (toAn (quoS a.1 a.2 b.1 b.2 p (!up))).neg
  by_cases hl : L64 a.1.natAbs ≤ 4096 ∧ L64 b.1.natAbs ≤ 4096
  · rw [quoS_ok hp h0 (by omega) hl.2, quoS_ok hp h0 hl.1 hl.2, e1, docQ_neg]
    exact cutS_neg _ _ _ _
  · rw [quoS_5 hp h0 (by omega), quoS_5 hp h0 (by omega), dyE_an]
    rfl
theorem quo_high {a b : D2} (h : a.good) (g : b.good) (hb : 0 < b.1) {p : Int} (hp : 1 ≤ p ∧ p ≤ 70000) (hc : (toAn (quoP a b p true)).c = 0) : a.v * 2 ^ 1048576 ≤ (toAn (quoP a b p true)).d.v * b.v := by
  have e := quo_neg1 a b p false hp (by omega)
  have h1 := quo_low (D2.neg_good h) g hb hp (by rw [e]; exact hc)
  rw [e, An.neg_d, D2.neg_v, D2.neg_v, Int.neg_mul, Int.neg_mul] at h1
  have : (!false) = true := rfl
  rw [this] at h1
  omega
end Go.Proofs.YtpjbgmafnheomaaGreatDoor.Sim
namespace Go.Proofs.YtpjbgmafnheomaaGreatDoor.Sim
open Go.RowKit
set_option linter.unusedVariables false
set_option linter.unusedSimpArgs false
theorem D2.sgn (a : D2) : (a.1 < 0 ↔ a.v < 0) ∧ (0 < a.1 ↔ 0 < a.v) := by
  have h := VV_sign (n := a.1) (e := a.2)
  unfold D2.v
  exact ⟨h.2.symm, h.1.symm⟩
/-- A quotient by a span above nought. -/
theorem quo_pos {a b c d : D2} (h : GoodS a b) (k : GoodS c d) (hc : 0 < c.1) {p : Int} (hp : 1 ≤ p ∧ p ≤ 70000) : spQuoPos a b c d p = spE 5 ∨ ∃ x y : D2, spQuoPos a b c d p = spR x y ∧ GoodS x y
    ∧ (x.v * c.v ≤ a.v * 2 ^ 1048576 ∨ x.v * d.v ≤ a.v * 2 ^ 1048576) ∧ (b.v * 2 ^ 1048576 ≤ y.v * c.v ∨ b.v * 2 ^ 1048576 ≤ y.v * d.v) := by
  have sc := D2.sgn c
  have sd := D2.sgn d
  have sa := D2.sgn a
  have sb := D2.sgn b
  have hcd := k.2.2
  have hab := h.2.2
  have hcv : 0 < c.v := sc.2.1 hc
  have hdv : 0 < d.v := by omega
  have hd1 : 0 < d.1 := sd.2.2 hdv
  unfold spQuoPos
  obtain ⟨un, hun⟩ : ∃ r, r = (if a.1 < 0 then c else d) := ⟨_, rfl⟩
  obtain ⟨ov, hov⟩ : ∃ r, r = (if b.1 < 0 then d else c) := ⟨_, rfl⟩
  rw [← hun, ← hov]
  have u1 : un.good ∧ 0 < un.1 := by rw [hun]; split <;> first | exact ⟨k.1, hc⟩ | exact ⟨k.2.1, hd1⟩
  have u2 : ov.good ∧ 0 < ov.1 := by rw [hov]; split <;> first | exact ⟨k.1, hc⟩ | exact ⟨k.2.1, hd1⟩
  have l1 := quo_low h.1 u1.1 u1.2 hp
  have l2 := quo_high h.2.1 u2.1 u2.2 hp
  have g1 := An.d_good (quo_ans (a := a) (b := un) hp (by omega) false)
  have g2 := An.d_good (quo_ans (a := b) (b := ov) hp (by omega) true)
  obtain ⟨u, hu⟩ : ∃ u, u = toAn (quoP a un p false) := ⟨_, rfl⟩
  obtain ⟨v, hv⟩ : ∃ v, v = toAn (quoP b ov p true) := ⟨_, rfl⟩
  rw [← hu] at l1 g1 ⊢
  rw [← hv] at l2 g2 ⊢
  by_cases hz : u.c = 0 ∧ v.c = 0
  · refine .inr ⟨u.d, v.d, bothA_ok hz.1 hz.2, ⟨g1, g2, ?_⟩, ?_, ?_⟩
    · have m1 := l1 hz.1
      have m2 := l2 hz.2
      obtain ⟨C, hC⟩ : ∃ C : Int, C = 2 ^ 1048576 := ⟨_, rfl⟩
      have hC0 : 0 < C := hC ▸ p2_pos 1048576
      rw [← hC] at m1 m2
      have ab := mr hab (Int.le_of_lt hC0)
      obtain ⟨X, hX⟩ : ∃ X, X = u.d.v := ⟨_, rfl⟩
      obtain ⟨Y, hY⟩ : ∃ Y, Y = v.d.v := ⟨_, rfl⟩
      rw [← hX] at m1 ⊢
      rw [← hY] at m2 ⊢
      rcases Int.lt_or_le Y X with hlt | hle
      · exfalso
        by_cases ha : a.1 < 0
        · rw [if_pos ha] at hun
          subst hun
          have hav := sa.1.1 ha
          have hx0 : X < 0 := by
            rcases Int.lt_or_le X 0 with q | q
            · exact q
            · exfalso
              have n1 := Int.mul_nonneg q (Int.le_of_lt hcv)
              have n2 := Int.mul_neg_of_neg_of_pos hav hC0
              omega
          by_cases hb : b.1 < 0
          · rw [if_pos hb] at hov
            subst hov
            have n1 := mln hcd (show Y ≤ 0 by omega)
            have n2 := Int.mul_lt_mul_of_pos_right hlt hcv
            omega
          · rw [if_neg hb] at hov
            subst hov
            have hbv : 0 ≤ b.v := by have := sb.1; omega
            have n1 := Int.mul_nonneg hbv (Int.le_of_lt hC0)
            have n2 := Int.mul_neg_of_neg_of_pos (show Y < 0 by omega) hcv
            omega
        · rw [if_neg ha] at hun
          subst hun
          have hav : 0 ≤ a.v := by have := sa.1; omega
          have hb : ¬ b.1 < 0 := fun hh => by have := sb.1.1 hh; omega
          rw [if_neg hb] at hov
          subst hov
          have n0 := Int.mul_nonneg hav (Int.le_of_lt hC0)
          have hy0 : 0 ≤ Y := by
            rcases Int.lt_or_le Y 0 with q | q
            · exfalso
              have n2 := Int.mul_neg_of_neg_of_pos q hcv
              omega
            · exact q
          have n1 := ml hcd (show 0 ≤ X by omega)
          have n2 := Int.mul_lt_mul_of_pos_right hlt hcv
          omega
      · exact hle
    · have m1 := l1 hz.1
      rw [hun] at m1
      split at m1
      · exact .inl m1
      · exact .inr m1
    · have m2 := l2 hz.2
      rw [hov] at m2
      split at m2
      · exact .inr m2
      · exact .inl m2
  · exact .inl (bothA_no (by omega))
theorem quo_res {a b c d : D2} (h : GoodS a b) (k : GoodS c d) {p : Int} (hp : 1 ≤ p ∧ p ≤ 70000) : (∃ e, spQuo a b c d p = spE e ∧ (e = 4 ∨ e = 5)) ∨ ∃ x y : D2, spQuo a b c d p = spR x y ∧ GoodS x y
    ∧ (x.v * c.v ≤ a.v * 2 ^ 1048576 ∨ x.v * d.v ≤ a.v * 2 ^ 1048576 ∨ y.v * c.v ≤ a.v * 2 ^ 1048576 ∨ y.v * d.v ≤ a.v * 2 ^ 1048576)
    ∧ (b.v * 2 ^ 1048576 ≤ y.v * c.v ∨ b.v * 2 ^ 1048576 ≤ y.v * d.v ∨ b.v * 2 ^ 1048576 ≤ x.v * c.v ∨ b.v * 2 ^ 1048576 ≤ x.v * d.v) := by
  unfold spQuo
  by_cases hc : 0 < c.1
  · rw [if_pos hc]
    rcases quo_pos h k hc hp with hE | ⟨x, y, h1, h2, h3, h4⟩
    · exact .inl ⟨5, hE, .inr rfl⟩
    · exact .inr ⟨x, y, h1, h2, by rcases h3 with h3 | h3 <;> simp only [h3, true_or, or_true], by rcases h4 with h4 | h4 <;> simp only [h4, true_or, or_true]⟩
  · rw [if_neg hc]
    by_cases hd : d.1 < 0
    · rw [if_pos hd]
      rcases quo_pos h.neg k.neg (show 0 < d.neg.1 by show 0 < -d.1; omega) hp with hE | ⟨x, y, h1, h2, h3, h4⟩
      · exact .inl ⟨5, hE, .inr rfl⟩
      · simp only [D2.neg_v, Int.mul_neg, Int.neg_mul] at h3 h4
        refine .inr ⟨x, y, h1, h2, ?_, ?_⟩
        · rcases h4 with h4 | h4
          · exact .inr (.inr (.inr (by omega)))
          · exact .inr (.inr (.inl (by omega)))
        · rcases h3 with h3 | h3
          · exact .inr (.inr (.inr (by omega)))
          · exact .inr (.inr (.inl (by omega)))
    · rw [if_neg hd]
      exact .inl ⟨4, rfl, .inl rfl⟩
theorem le_2C {a b : Int} (h : a * 2 ^ 1048576 ≤ b * 2 ^ 1048576) : a ≤ b := Int.le_of_mul_le_mul_right h (p2_pos 1048576)
/-- The quotient times the divisor. -/
theorem back_res {a b c d x y : D2} (g : GoodS x y) (k : GoodS c d) {p : Int} (hp : 1 ≤ p ∧ p ≤ 70000)
    (h1 : x.v * c.v ≤ a.v * 2 ^ 1048576 ∨ x.v * d.v ≤ a.v * 2 ^ 1048576 ∨ y.v * c.v ≤ a.v * 2 ^ 1048576 ∨ y.v * d.v ≤ a.v * 2 ^ 1048576)
    (h2 : b.v * 2 ^ 1048576 ≤ y.v * c.v ∨ b.v * 2 ^ 1048576 ≤ y.v * d.v ∨ b.v * 2 ^ 1048576 ≤ x.v * c.v ∨ b.v * 2 ^ 1048576 ≤ x.v * d.v) :
    spMul x y c d p = spE 5 ∨ ∃ m n : D2, spMul x y c d p = spR m n ∧ GoodS m n ∧ m.v ≤ a.v ∧ b.v ≤ n.v := by
  rcases mul_res (a := x) (b := y) (c := c) (d := d) hp with ⟨hE, _⟩ | ⟨z1, z2, z3, z4, m, n, hm, _, gm, lo, hi⟩
  · exact .inl hE
  · refine .inr ⟨m, n, hm, gm, ?_, ?_⟩
    · have w1 := mul_V g.1 k.1 z1
      have w2 := mul_V g.1 k.2.1 z2
      have w3 := mul_V g.2.1 k.1 z3
      have w4 := mul_V g.2.1 k.2.1 z4
      rw [← w1, ← w2, ← w3, ← w4] at h1
      rcases h1 with h | h | h | h <;> (have := le_2C h; omega)
    · have w1 := mul_V g.1 k.1 z1
      have w2 := mul_V g.1 k.2.1 z2
      have w3 := mul_V g.2.1 k.1 z3
      have w4 := mul_V g.2.1 k.2.1 z4
      rw [← w1, ← w2, ← w3, ← w4] at h2
      rcases h2 with h | h | h | h <;> (have := le_2C h; omega)
end Go.Proofs.YtpjbgmafnheomaaGreatDoor.Sim
namespace Go.Proofs.YtpjbgmafnheomaaGreatDoor.Sim
open Go.RowKit
set_option linter.unusedVariables false
set_option linter.unusedSimpArgs false
set_option maxRecDepth 10000
set_option maxHeartbeats 8000000
variable {G : List (Nat × List Value)}
end Go.Proofs.YtpjbgmafnheomaaGreatDoor.Sim
namespace Go.Proofs.YtpjbgmafnheomaaGreatDoor.Sim
open Go.RowKit
set_option linter.unusedVariables false
set_option linter.unusedSimpArgs false
set_option maxRecDepth 10000
set_option maxHeartbeats 8000000
variable {G : List (Nat × List Value)}
theorem q_holds {a b d : D2} (h : GoodS a b) (k : d.good) : FC Tryz.prog G 37 [SP a b, DY d.1 d.2] (· = .val (.bool (hasV a b d))) := by
  have f1 := q_below (G := G) k h.1
  have f2 := q_below (G := G) h.2.1 k
  have e : hasV a b d = (!decide (d.v < a.v) && !decide (b.v < d.v)) := by
    unfold hasV
    have n1 := not_dec d.v a.v
    have n2 := not_dec b.v d.v
    rw [Bool.true_and, Bool.true_and] at n1 n2
    rw [n1, n2]
  rw [e]
  clear e
  by_cases q : d.v < a.v
  · rw [decide_eq_true q]
    refine FC.intro (X := XX) tok Tryz.func37 rfl Tryz.ntmps37 (by rw [Tryz.results37]) (by kernel_rfl) rfl ?_; intro F hG hO
    rw [← hG] at f1 f2
    repeat' ((try (conv => whnf)); first
  | ((with_reducible refine cg ?_); first | refine ceq f1 rfl ?_ | refine ceq f2 rfl ?_)
  
  | with_reducible first
    | refine Chk.mk' (by first | omega | exact trivial | (simp only [List.length_append, List.length_set, List.length_replicate, List.length_take, List.length_drop, List.length_cons, List.length_nil, List.length_map]; omega)) ?_
    | refine wrap_g (by dsimp only [inR]; omega) ?_
    | refine idx_g (by omega) ?_ | refine idx_l _ rfl (by decide) ?_ | refine BothG.mk ?_ ?_ | refine fork_tt ?_ | refine fork_ff ?_
    | (refine fork_e (c := true) (by decide) ?_; refine fork_tt ?_) | (refine fork_e (c := false) (by decide) ?_; refine fork_ff ?_)
    | refine fork_t (by omega) ?_ | refine fork_f (by omega) ?_ | (refine fork_d ?_ ?_ <;> intro hc) | refine fork_n ?_ | (refine fork_b ?_ ?_ <;> intro hc)
    | refine SlcG.mk (by omega) ?_ | refine MakG.mk (by dsimp only; omega) ?_
    | refine AppG.mk (by first | omega | (simp only [List.length_append, List.length_set, List.length_replicate, List.length_take, List.length_drop, List.length_cons, List.length_nil, List.length_map]; omega)) (by dsimp only [List.length_cons, List.length_nil]; omega) (by omega) ?_
    | refine div_g (by omega) (by omega) (by dsimp only [inR]; omega) ?_ | refine mod_g (by omega) (by omega) ?_
    | refine mask_g (m := 4294967296) 32 rfl rfl (by decide) (by omega) ?_ | refine shr_g (m := 4294967296) 32 rfl (by decide) (by omega) rfl ?_
    | refine fz_all (by omega) ?_ | (refine smk ?_ ?_; constructor))
    all_goals exact ⟨ret_e rfl⟩
  · rw [decide_eq_false q]
    refine FC.intro (X := XX) tok Tryz.func37 rfl Tryz.ntmps37 (by rw [Tryz.results37]) (by kernel_rfl) rfl ?_; intro F hG hO
    rw [← hG] at f1 f2
    repeat' ((try (conv => whnf)); first
  | ((with_reducible refine cg ?_); first | refine ceq f1 rfl ?_ | refine ceq f2 rfl ?_)
  
  | with_reducible first
    | refine Chk.mk' (by first | omega | exact trivial | (simp only [List.length_append, List.length_set, List.length_replicate, List.length_take, List.length_drop, List.length_cons, List.length_nil, List.length_map]; omega)) ?_
    | refine wrap_g (by dsimp only [inR]; omega) ?_
    | refine idx_g (by omega) ?_ | refine idx_l _ rfl (by decide) ?_ | refine BothG.mk ?_ ?_ | refine fork_tt ?_ | refine fork_ff ?_
    | (refine fork_e (c := true) (by decide) ?_; refine fork_tt ?_) | (refine fork_e (c := false) (by decide) ?_; refine fork_ff ?_)
    | refine fork_t (by omega) ?_ | refine fork_f (by omega) ?_ | (refine fork_d ?_ ?_ <;> intro hc) | refine fork_n ?_ | (refine fork_b ?_ ?_ <;> intro hc)
    | refine SlcG.mk (by omega) ?_ | refine MakG.mk (by dsimp only; omega) ?_
    | refine AppG.mk (by first | omega | (simp only [List.length_append, List.length_set, List.length_replicate, List.length_take, List.length_drop, List.length_cons, List.length_nil, List.length_map]; omega)) (by dsimp only [List.length_cons, List.length_nil]; omega) (by omega) ?_
    | refine div_g (by omega) (by omega) (by dsimp only [inR]; omega) ?_ | refine mod_g (by omega) (by omega) ?_
    | refine mask_g (m := 4294967296) 32 rfl rfl (by decide) (by omega) ?_ | refine shr_g (m := 4294967296) 32 rfl (by decide) (by omega) rfl ?_
    | refine fz_all (by omega) ?_ | (refine smk ?_ ?_; constructor))
    all_goals exact ⟨ret_e rfl⟩
end Go.Proofs.YtpjbgmafnheomaaGreatDoor.Sim
namespace Go.Proofs.YtpjbgmafnheomaaGreatDoor.Sim
open Go.RowKit
set_option linter.unusedVariables false
set_option linter.unusedSimpArgs false
set_option maxRecDepth 10000
set_option maxHeartbeats 8000000
variable {G : List (Nat × List Value)}
theorem outP_good (a b : D2) {p : Int} (hp : 1 ≤ p ∧ p ≤ 70000) : ∃ x y : D2, ∃ c : Int, outP a b p = .tup [SP x y, .val (.int .i64 c)] ∧ x.good ∧ y.good := by
  have g1 := An.d_good (cuts_ans a hp false)
  have g2 := An.d_good (cuts_ans b hp true)
  unfold outP bothA
  split
  · exact ⟨(0, 0), (0, 0), 5, rfl, Good.zero, Good.zero⟩
  · exact ⟨_, _, 0, rfl, g1, g2⟩
theorem one_good : GoodS (1, 0) (1, 0) := tinyS (n := 1) (m := 1) (by decide) (by decide) (by decide)
theorem quo_by_one {a b : D2} (h : GoodS a b) {p : Int} (hp : 1 ≤ p ∧ p ≤ 70000) (l1 : L64 a.1.natAbs ≤ 4096) (l2 : L64 b.1.natAbs ≤ 4096) : spQuo a b (1, 0) (1, 0) p = outP a b p := by
  unfold spQuo spQuoPos outP
  rw [if_pos (by decide), show (if a.1 < 0 then ((1, 0) : D2) else (1, 0)) = (1, 0) by split <;> rfl, show (if b.1 < 0 then ((1, 0) : D2) else (1, 0)) = (1, 0) by split <;> rfl, quo_one h.1 hp l1, quo_one h.2.1 hp l2]
theorem quo_one_form (a b : D2) (p : Int) : ∃ x y : D2, ∃ c : Int, spQuo a b (1, 0) (1, 0) p = .tup [SP x y, .val (.int .i64 c)] := by
  unfold spQuo spQuoPos
  rw [if_pos (by decide)]
  exact bothA_form _ _
theorem s_within {a b m n : D2} (h : GoodS a b) (k : GoodS m n) (h1 : m.v ≤ a.v) (h2 : b.v ≤ n.v) : FC Tryz.prog G 21 [SP a b, SP m n] (· = .val (.bool true)) := by
  have hab := h.2.2
  have f1 := q_holds (G := G) k h.1
  have f2 := q_holds (G := G) k h.2.1
  have e1 : hasV m n a = true := by unfold hasV; rw [decide_eq_true (by omega), decide_eq_true (by omega)]; rfl
  have e2 : hasV m n b = true := by unfold hasV; rw [decide_eq_true (by omega), decide_eq_true (by omega)]; rfl
  rw [e1] at f1
  rw [e2] at f2
  refine FC.intro (X := XX) tok Tryz.func21 rfl Tryz.ntmps21 (by rw [Tryz.results21]) (by kernel_rfl) rfl ?_; intro F hG hO
  rw [← hG] at f1 f2
  repeat' ((try (conv => whnf)); first
  | ((with_reducible refine cg ?_); first | refine ceq f1 rfl ?_ | refine ceq f2 rfl ?_)
  
  | with_reducible first
    | refine Chk.mk' (by first | omega | exact trivial | (simp only [List.length_append, List.length_set, List.length_replicate, List.length_take, List.length_drop, List.length_cons, List.length_nil, List.length_map]; omega)) ?_
    | refine wrap_g (by dsimp only [inR]; omega) ?_
    | refine idx_g (by omega) ?_ | refine idx_l _ rfl (by decide) ?_ | refine BothG.mk ?_ ?_ | refine fork_tt ?_ | refine fork_ff ?_
    | (refine fork_e (c := true) (by decide) ?_; refine fork_tt ?_) | (refine fork_e (c := false) (by decide) ?_; refine fork_ff ?_)
    | refine fork_t (by omega) ?_ | refine fork_f (by omega) ?_ | (refine fork_d ?_ ?_ <;> intro hc) | refine fork_n ?_ | (refine fork_b ?_ ?_ <;> intro hc)
    | refine SlcG.mk (by omega) ?_ | refine MakG.mk (by dsimp only; omega) ?_
    | refine AppG.mk (by first | omega | (simp only [List.length_append, List.length_set, List.length_replicate, List.length_take, List.length_drop, List.length_cons, List.length_nil, List.length_map]; omega)) (by dsimp only [List.length_cons, List.length_nil]; omega) (by omega) ?_
    | refine div_g (by omega) (by omega) (by dsimp only [inR]; omega) ?_ | refine mod_g (by omega) (by omega) ?_
    | refine mask_g (m := 4294967296) 32 rfl rfl (by decide) (by omega) ?_ | refine shr_g (m := 4294967296) 32 rfl (by decide) (by omega) rfl ?_
    | refine fz_all (by omega) ?_ | (refine smk ?_ ?_; constructor))
  all_goals exact ⟨ret_e rfl⟩
theorem l_spanQuoBack {g : List (Nat × List Value)} (hD : (0, debT.map (Value.int .u8)) ∈ g) (b1 : Bool) (l1 : List Int) (e1 : Int) (b2 : Bool) (l2 : List Int) (e2 : Int) (b3 : Bool) (l3 : List Int) (e3 : Int) (b4 : Bool) (l4 : List Int) (e4 : Int) (p : Int) (o1 : OKM l1) (o2 : OKM l2) (o3 : OKM l3) (o4 : OKM l4) (hp0 : inR .i64 p) : FC Tryz.prog g 3 [Sp b1 l1 e1 b2 l2 e2, Sp b3 l3 e3 b4 l4 e4, .val (.int .i64 p)] (· = .val (.bool true)) := by
  have aw := s_awake hD
  have t1 := s_twin (G := g) b1 l1 e1 b2 l2 e2 o1 o2
  have t2 := s_twin (G := g) b3 l3 e3 b4 l4 e4 o3 o4
  have fr := s_from (G := g) 1 1 (by decide) (by decide) (by decide) (by decide)
  have s0 := q_same_0 (G := g)
  have hone := spF_SP one_good
  by_cases hc : chkE p (spF b1 l1 e1 b2 l2 e2) = 0
  · have hp : 1 ≤ p ∧ p ≤ 70000 := by
      unfold chkE at hc
      by_cases hh : p < 1 ∨ 70000 < p
      · rw [if_pos hh] at hc; cases hc
      · omega
    have h1 : spF b1 l1 e1 b2 l2 e2 = true := by
      cases hf : spF b1 l1 e1 b2 l2 e2
      · rw [hf] at hc
        unfold chkE at hc
        rw [if_neg (by omega)] at hc
        cases hc
      · rfl
    obtain ⟨a, b, ea, ga⟩ := spF_ex o1.1 o2.1 h1
    rw [ea] at t1 ⊢
    clear hc
    have r1 := p_quo hD ga one_good hp
    have r2 := p_out hD ga hp
    obtain ⟨x0, y0, c0, hO, gx0, gy0⟩ := outP_good a b hp
    rw [hO] at r2
    have s1 := q_same_t (G := g) gx0 gy0
    have len1 : (d64 a.1.natAbs).length = L64 a.1.natAbs := rfl
    have len2 : (d64 b.1.natAbs).length = L64 b.1.natAbs := rfl
    have second : (∃ x y : D2, ∃ e : Int, e ≠ 0 ∧ FC Tryz.prog g 14 [SP a b, Sp b3 l3 e3 b4 l4 e4, .val (.int .i64 p)] (· = .tup [SP x y, .val (.int .i64 e)])) ∨ ∃ c d x y : D2, Sp b3 l3 e3 b4 l4 e4 = SP c d ∧ GoodS c d ∧ GoodS x y ∧ FC Tryz.prog g 14 [SP a b, SP c d, .val (.int .i64 p)] (· = spR x y)
        ∧ (spMul x y c d p = spE 5 ∨ ∃ m n : D2, spMul x y c d p = spR m n ∧ GoodS m n ∧ m.v ≤ a.v ∧ b.v ≤ n.v) := by
      cases h2 : spF b3 l3 e3 b4 l4 e4 with
      | false =>
        have f := p_quoX (G := g) b1 l1 e1 b2 l2 e2 o1.1 o2.1 b3 l3 e3 b4 l4 e4 o3.1 o4.1 p (by rw [h2, Bool.and_false]; unfold chkE; rw [if_neg (by omega)]; decide)
        rw [h2, Bool.and_false, ea] at f
        exact .inl ⟨_, _, _, by unfold chkE; rw [if_neg (by omega)]; decide, f⟩
      | true =>
        obtain ⟨c, d, ec, gc⟩ := spF_ex o3.1 o4.1 h2
        have f := p_quo hD ga gc hp
        rcases quo_res ga gc hp with ⟨e, hE, he⟩ | ⟨x, y, hq, gq, w1, w2⟩
        · rw [hE] at f
          rw [ec]
          exact .inl ⟨_, _, e, by omega, f⟩
        · rw [hq] at f
          exact .inr ⟨c, d, x, y, ec, gc, gq, f, back_res gq gc hp w1 w2⟩
    have first : (L64 a.1.natAbs ≤ 4096 ∧ L64 b.1.natAbs ≤ 4096 ∧ FC Tryz.prog g 14 [SP a b, SP (1, 0) (1, 0), .val (.int .i64 p)] (· = .tup [SP x0 y0, .val (.int .i64 c0)])) ∨ ((4096 < L64 a.1.natAbs ∨ 4096 < L64 b.1.natAbs) ∧ ∃ x1 y1 : D2, ∃ c1 : Int, FC Tryz.prog g 14 [SP a b, SP (1, 0) (1, 0), .val (.int .i64 p)] (· = .tup [SP x1 y1, .val (.int .i64 c1)])) := by
      by_cases hl : L64 a.1.natAbs ≤ 4096 ∧ L64 b.1.natAbs ≤ 4096
      · rw [quo_by_one ga hp hl.1 hl.2, hO] at r1
        exact .inl ⟨hl.1, hl.2, r1⟩
      · obtain ⟨x1, y1, c1, hf⟩ := quo_one_form a b p
        rw [hf] at r1
        exact .inr ⟨by omega, x1, y1, c1, r1⟩
    clear r1 hO hone h1 ea
    rcases first with ⟨k1, k2, r1⟩ | ⟨kl, x1, y1, c1, r1⟩
    · skip
      rcases second with ⟨x, y, e, he, q⟩ | ⟨c, d, x, y, ec, gc, gq, q, hm⟩
      · skip
        refine FC.intro (X := XX) tok Tryz.func3 rfl Tryz.ntmps3 (by rw [Tryz.results3]) (by kernel_rfl) rfl ?_; intro F hG hO
        rw [← hG] at aw t1 fr r1 r2 s1 t2 q
        repeat' ((try (conv => whnf)); first
  | ((with_reducible refine cg ?_); first | refine ceq aw rfl ?_ | refine ceq t1 rfl ?_ | refine ceq fr rfl ?_ | refine ceq r1 rfl ?_ | refine ceq r2 rfl ?_ | refine ceq s1 rfl ?_ | refine ceq t2 rfl ?_ | refine ceq q rfl ?_)
  
  | (with_reducible refine draw_g (id := 8) [[], [4, 0, 2, 1, 3, 5], [6], [7], [8], [9, 10]] tok mixed (by kernel_rfl) ?_)
  | with_reducible first
    | refine Chk.mk' (by first | omega | exact trivial | (simp only [List.length_append, List.length_set, List.length_replicate, List.length_take, List.length_drop, List.length_cons, List.length_nil, List.length_map]; omega)) ?_
    | refine wrap_g (by dsimp only [inR]; omega) ?_
    | refine idx_g (by omega) ?_ | refine idx_l _ rfl (by decide) ?_ | refine BothG.mk ?_ ?_ | refine fork_tt ?_ | refine fork_ff ?_
    | (refine fork_e (c := true) (by decide) ?_; refine fork_tt ?_) | (refine fork_e (c := false) (by decide) ?_; refine fork_ff ?_)
    | refine fork_t (by omega) ?_ | refine fork_f (by omega) ?_ | (refine fork_d ?_ ?_ <;> intro hc) | refine fork_n ?_ | (refine fork_b ?_ ?_ <;> intro hc)
    | refine SlcG.mk (by omega) ?_ | refine MakG.mk (by dsimp only; omega) ?_
    | refine AppG.mk (by first | omega | (simp only [List.length_append, List.length_set, List.length_replicate, List.length_take, List.length_drop, List.length_cons, List.length_nil, List.length_map]; omega)) (by dsimp only [List.length_cons, List.length_nil]; omega) (by omega) ?_
    | refine div_g (by omega) (by omega) (by dsimp only [inR]; omega) ?_ | refine mod_g (by omega) (by omega) ?_
    | refine mask_g (m := 4294967296) 32 rfl rfl (by decide) (by omega) ?_ | refine shr_g (m := 4294967296) 32 rfl (by decide) (by omega) rfl ?_
    | refine fz_all (by omega) ?_ | (refine smk ?_ ?_; constructor))
        all_goals exact ⟨ret_e rfl⟩
      · rw [ec] at t2 ⊢
        clear ec
        have ml := p_mul hD gq gc hp
        rcases hm with hm | ⟨m, n, hm, gm, w1, w2⟩
        · rw [hm] at ml
          clear hm
          refine FC.intro (X := XX) tok Tryz.func3 rfl Tryz.ntmps3 (by rw [Tryz.results3]) (by kernel_rfl) rfl ?_; intro F hG hO
          rw [← hG] at aw t1 fr r1 r2 s1 t2 q ml
          repeat' ((try (conv => whnf)); first
  | ((with_reducible refine cg ?_); first | refine ceq aw rfl ?_ | refine ceq t1 rfl ?_ | refine ceq fr rfl ?_ | refine ceq r1 rfl ?_ | refine ceq r2 rfl ?_ | refine ceq s1 rfl ?_ | refine ceq t2 rfl ?_ | refine ceq q rfl ?_ | refine ceq ml rfl ?_)
  | ((with_reducible refine dg ?_); refine draw_j (A := Unit) (id := 11) (N := 89) (fun _ => [(3, .ptr 0 0), (10, .val (.int .i64 5)), (12, .ptr 4 0)]) (fun _ => [[.val (.bool (decide (a.1 < 0))), .ws .u64 (d64 a.1.natAbs), .val (.int .i64 a.2), .val (.bool (decide (b.1 < 0))), .ws .u64 (d64 b.1.natAbs), .val (.int .i64 b.2)], [.val (.bool (decide (c.1 < 0))), .ws .u64 (d64 c.1.natAbs), .val (.int .i64 c.2), .val (.bool (decide (d.1 < 0))), .ws .u64 (d64 d.1.natAbs), .val (.int .i64 d.2)], [.val (.bool (decide (x.1 < 0))), .ws .u64 (d64 x.1.natAbs), .val (.int .i64 x.2), .val (.bool (decide (y.1 < 0))), .ws .u64 (d64 y.1.natAbs), .val (.int .i64 y.2)], [.val (.bool (decide (x0.1 < 0))), .ws .u64 (d64 x0.1.natAbs), .val (.int .i64 x0.2), .val (.bool (decide (y0.1 < 0))), .ws .u64 (d64 y0.1.natAbs), .val (.int .i64 y0.2)], [.val (.bool (decide (((0, 0) : D2).1 < 0))), .ws .u64 (d64 ((0, 0) : D2).1.natAbs), .val (.int .i64 ((0, 0) : D2).2), .val (.bool (decide (((0, 0) : D2).1 < 0))), .ws .u64 (d64 ((0, 0) : D2).1.natAbs), .val (.int .i64 ((0, 0) : D2).2)]]) (fun _ => []) (.take 3 (.alt 0 (.alt 1 (.alt 2 (.alt 4 (.take 5 (.take 6 (.take 7 (.alt 8 (.alt 9 (.alt 10 (.fin) (.non)) (.non)) (.non))))) (.alt 8 (.alt 4 (.take 5 (.take 6 (.take 7 (.alt 9 (.alt 10 (.fin) (.non)) (.non))))) (.non)) (.non))) (.alt 8 (.alt 2 (.alt 4 (.take 5 (.take 6 (.take 7 (.alt 9 (.alt 10 (.fin) (.non)) (.non))))) (.non)) (.non)) (.non))) (.alt 8 (.alt 1 (.alt 2 (.alt 4 (.take 5 (.take 6 (.take 7 (.alt 9 (.alt 10 (.fin) (.non)) (.non))))) (.non)) (.non)) (.non)) (.non))) (.alt 1 (.alt 0 (.alt 2 (.alt 4 (.take 5 (.take 6 (.take 7 (.alt 8 (.alt 9 (.alt 10 (.fin) (.non)) (.non)) (.non))))) (.alt 8 (.alt 4 (.take 5 (.take 6 (.take 7 (.alt 9 (.alt 10 (.fin) (.non)) (.non))))) (.non)) (.non))) (.alt 8 (.alt 2 (.alt 4 (.take 5 (.take 6 (.take 7 (.alt 9 (.alt 10 (.fin) (.non)) (.non))))) (.non)) (.non)) (.non))) (.alt 2 (.alt 0 (.alt 4 (.take 5 (.take 6 (.take 7 (.alt 8 (.alt 9 (.alt 10 (.fin) (.non)) (.non)) (.non))))) (.alt 8 (.alt 4 (.take 5 (.take 6 (.take 7 (.alt 9 (.alt 10 (.fin) (.non)) (.non))))) (.non)) (.non))) (.alt 8 (.alt 0 (.alt 4 (.take 5 (.take 6 (.take 7 (.alt 9 (.alt 10 (.fin) (.non)) (.non))))) (.non)) (.non)) (.non))) (.alt 8 (.alt 0 (.alt 2 (.alt 4 (.take 5 (.take 6 (.take 7 (.alt 9 (.alt 10 (.fin) (.non)) (.non))))) (.non)) (.non)) (.alt 2 (.alt 0 (.alt 4 (.take 5 (.take 6 (.take 7 (.alt 9 (.alt 10 (.fin) (.non)) (.non))))) (.non)) (.non)) (.non))) (.non)))) (.alt 8 (.alt 0 (.alt 1 (.alt 2 (.alt 4 (.take 5 (.take 6 (.take 7 (.alt 9 (.alt 10 (.fin) (.non)) (.non))))) (.non)) (.non)) (.non)) (.alt 1 (.alt 0 (.alt 2 (.alt 4 (.take 5 (.take 6 (.take 7 (.alt 9 (.alt 10 (.fin) (.non)) (.non))))) (.non)) (.non)) (.alt 2 (.alt 0 (.alt 4 (.take 5 (.take 6 (.take 7 (.alt 9 (.alt 10 (.fin) (.non)) (.non))))) (.non)) (.non)) (.non))) (.non))) (.non))))) tok mixed (by kernel_rfl) (by kernel_rfl) (by intro ju; (refine ⟨?_, ?_, ?_⟩ <;> simp [inS, inBB, inBL, inB, hO])) ?_ ?_; rotate_left; intro ju)
  | exact join () ⟨rfl, rfl, rfl, trivial⟩ ⟨[], rfl⟩ ⟨[], rfl⟩
  
  | (with_reducible refine draw_g (id := 8) [[], [4, 0, 2, 1, 3, 5], [6], [7], [8], [9, 10]] tok mixed (by kernel_rfl) ?_)
  | with_reducible first
    | refine Chk.mk' (by first | omega | exact trivial | (simp only [List.length_append, List.length_set, List.length_replicate, List.length_take, List.length_drop, List.length_cons, List.length_nil, List.length_map]; omega)) ?_
    | refine wrap_g (by dsimp only [inR]; omega) ?_
    | refine idx_g (by omega) ?_ | refine idx_l _ rfl (by decide) ?_ | refine BothG.mk ?_ ?_ | refine fork_tt ?_ | refine fork_ff ?_
    | (refine fork_e (c := true) (by decide) ?_; refine fork_tt ?_) | (refine fork_e (c := false) (by decide) ?_; refine fork_ff ?_)
    | refine fork_t (by omega) ?_ | refine fork_f (by omega) ?_ | (refine fork_d ?_ ?_ <;> intro hc) | refine fork_n ?_ | (refine fork_b ?_ ?_ <;> intro hc)
    | refine SlcG.mk (by omega) ?_ | refine MakG.mk (by dsimp only; omega) ?_
    | refine AppG.mk (by first | omega | (simp only [List.length_append, List.length_set, List.length_replicate, List.length_take, List.length_drop, List.length_cons, List.length_nil, List.length_map]; omega)) (by dsimp only [List.length_cons, List.length_nil]; omega) (by omega) ?_
    | refine div_g (by omega) (by omega) (by dsimp only [inR]; omega) ?_ | refine mod_g (by omega) (by omega) ?_
    | refine mask_g (m := 4294967296) 32 rfl rfl (by decide) (by omega) ?_ | refine shr_g (m := 4294967296) 32 rfl (by decide) (by omega) rfl ?_
    | refine fz_all (by omega) ?_ | (refine smk ?_ ?_; constructor))
          all_goals exact ⟨ret_e rfl⟩
        · rw [hm] at ml
          clear hm
          have v1 := q_form (G := g) gm
          have v2 := s_within (G := g) ga gm w1 w2
          refine FC.intro (X := XX) tok Tryz.func3 rfl Tryz.ntmps3 (by rw [Tryz.results3]) (by kernel_rfl) rfl ?_; intro F hG hO
          rw [← hG] at aw t1 fr r1 r2 s1 t2 q ml v1 v2
          repeat' ((try (conv => whnf)); first
  | ((with_reducible refine cg ?_); first | refine ceq aw rfl ?_ | refine ceq t1 rfl ?_ | refine ceq fr rfl ?_ | refine ceq r1 rfl ?_ | refine ceq r2 rfl ?_ | refine ceq s1 rfl ?_ | refine ceq t2 rfl ?_ | refine ceq q rfl ?_ | refine ceq ml rfl ?_ | refine ceq v1 rfl ?_ | refine ceq v2 rfl ?_)
  | ((with_reducible refine dg ?_); refine draw_j (A := Unit) (id := 11) (N := 89) (fun _ => [(3, .ptr 0 0), (10, .val (.int .i64 0)), (12, .ptr 4 0)]) (fun _ => [[.val (.bool (decide (a.1 < 0))), .ws .u64 (d64 a.1.natAbs), .val (.int .i64 a.2), .val (.bool (decide (b.1 < 0))), .ws .u64 (d64 b.1.natAbs), .val (.int .i64 b.2)], [.val (.bool (decide (c.1 < 0))), .ws .u64 (d64 c.1.natAbs), .val (.int .i64 c.2), .val (.bool (decide (d.1 < 0))), .ws .u64 (d64 d.1.natAbs), .val (.int .i64 d.2)], [.val (.bool (decide (x.1 < 0))), .ws .u64 (d64 x.1.natAbs), .val (.int .i64 x.2), .val (.bool (decide (y.1 < 0))), .ws .u64 (d64 y.1.natAbs), .val (.int .i64 y.2)], [.val (.bool (decide (x0.1 < 0))), .ws .u64 (d64 x0.1.natAbs), .val (.int .i64 x0.2), .val (.bool (decide (y0.1 < 0))), .ws .u64 (d64 y0.1.natAbs), .val (.int .i64 y0.2)], [.val (.bool (decide (m.1 < 0))), .ws .u64 (d64 m.1.natAbs), .val (.int .i64 m.2), .val (.bool (decide (n.1 < 0))), .ws .u64 (d64 n.1.natAbs), .val (.int .i64 n.2)]]) (fun _ => []) (.take 3 (.alt 0 (.alt 1 (.alt 2 (.alt 4 (.take 5 (.take 6 (.take 7 (.alt 8 (.alt 9 (.alt 10 (.fin) (.non)) (.non)) (.non))))) (.alt 8 (.alt 4 (.take 5 (.take 6 (.take 7 (.alt 9 (.alt 10 (.fin) (.non)) (.non))))) (.non)) (.non))) (.alt 8 (.alt 2 (.alt 4 (.take 5 (.take 6 (.take 7 (.alt 9 (.alt 10 (.fin) (.non)) (.non))))) (.non)) (.non)) (.non))) (.alt 8 (.alt 1 (.alt 2 (.alt 4 (.take 5 (.take 6 (.take 7 (.alt 9 (.alt 10 (.fin) (.non)) (.non))))) (.non)) (.non)) (.non)) (.non))) (.alt 1 (.alt 0 (.alt 2 (.alt 4 (.take 5 (.take 6 (.take 7 (.alt 8 (.alt 9 (.alt 10 (.fin) (.non)) (.non)) (.non))))) (.alt 8 (.alt 4 (.take 5 (.take 6 (.take 7 (.alt 9 (.alt 10 (.fin) (.non)) (.non))))) (.non)) (.non))) (.alt 8 (.alt 2 (.alt 4 (.take 5 (.take 6 (.take 7 (.alt 9 (.alt 10 (.fin) (.non)) (.non))))) (.non)) (.non)) (.non))) (.alt 2 (.alt 0 (.alt 4 (.take 5 (.take 6 (.take 7 (.alt 8 (.alt 9 (.alt 10 (.fin) (.non)) (.non)) (.non))))) (.alt 8 (.alt 4 (.take 5 (.take 6 (.take 7 (.alt 9 (.alt 10 (.fin) (.non)) (.non))))) (.non)) (.non))) (.alt 8 (.alt 0 (.alt 4 (.take 5 (.take 6 (.take 7 (.alt 9 (.alt 10 (.fin) (.non)) (.non))))) (.non)) (.non)) (.non))) (.alt 8 (.alt 0 (.alt 2 (.alt 4 (.take 5 (.take 6 (.take 7 (.alt 9 (.alt 10 (.fin) (.non)) (.non))))) (.non)) (.non)) (.alt 2 (.alt 0 (.alt 4 (.take 5 (.take 6 (.take 7 (.alt 9 (.alt 10 (.fin) (.non)) (.non))))) (.non)) (.non)) (.non))) (.non)))) (.alt 8 (.alt 0 (.alt 1 (.alt 2 (.alt 4 (.take 5 (.take 6 (.take 7 (.alt 9 (.alt 10 (.fin) (.non)) (.non))))) (.non)) (.non)) (.non)) (.alt 1 (.alt 0 (.alt 2 (.alt 4 (.take 5 (.take 6 (.take 7 (.alt 9 (.alt 10 (.fin) (.non)) (.non))))) (.non)) (.non)) (.alt 2 (.alt 0 (.alt 4 (.take 5 (.take 6 (.take 7 (.alt 9 (.alt 10 (.fin) (.non)) (.non))))) (.non)) (.non)) (.non))) (.non))) (.non))))) tok mixed (by kernel_rfl) (by kernel_rfl) (by intro ju; (refine ⟨?_, ?_, ?_⟩ <;> simp [inS, inBB, inBL, inB, hO])) ?_ ?_; rotate_left; intro ju)
  | exact join () ⟨rfl, rfl, rfl, trivial⟩ ⟨[], rfl⟩ ⟨[], rfl⟩
  
  | (with_reducible refine draw_g (id := 8) [[], [4, 0, 2, 1, 3, 5], [6], [7], [8], [9, 10]] tok mixed (by kernel_rfl) ?_)
  | with_reducible first
    | refine Chk.mk' (by first | omega | exact trivial | (simp only [List.length_append, List.length_set, List.length_replicate, List.length_take, List.length_drop, List.length_cons, List.length_nil, List.length_map]; omega)) ?_
    | refine wrap_g (by dsimp only [inR]; omega) ?_
    | refine idx_g (by omega) ?_ | refine idx_l _ rfl (by decide) ?_ | refine BothG.mk ?_ ?_ | refine fork_tt ?_ | refine fork_ff ?_
    | (refine fork_e (c := true) (by decide) ?_; refine fork_tt ?_) | (refine fork_e (c := false) (by decide) ?_; refine fork_ff ?_)
    | refine fork_t (by omega) ?_ | refine fork_f (by omega) ?_ | (refine fork_d ?_ ?_ <;> intro hc) | refine fork_n ?_ | (refine fork_b ?_ ?_ <;> intro hc)
    | refine SlcG.mk (by omega) ?_ | refine MakG.mk (by dsimp only; omega) ?_
    | refine AppG.mk (by first | omega | (simp only [List.length_append, List.length_set, List.length_replicate, List.length_take, List.length_drop, List.length_cons, List.length_nil, List.length_map]; omega)) (by dsimp only [List.length_cons, List.length_nil]; omega) (by omega) ?_
    | refine div_g (by omega) (by omega) (by dsimp only [inR]; omega) ?_ | refine mod_g (by omega) (by omega) ?_
    | refine mask_g (m := 4294967296) 32 rfl rfl (by decide) (by omega) ?_ | refine shr_g (m := 4294967296) 32 rfl (by decide) (by omega) rfl ?_
    | refine fz_all (by omega) ?_ | (refine smk ?_ ?_; constructor))
          all_goals exact ⟨ret_e rfl⟩
    · rcases kl with kl | kl
      · skip
        rcases second with ⟨x, y, e, he, q⟩ | ⟨c, d, x, y, ec, gc, gq, q, hm⟩
        · skip
          refine FC.intro (X := XX) tok Tryz.func3 rfl Tryz.ntmps3 (by rw [Tryz.results3]) (by kernel_rfl) rfl ?_; intro F hG hO
          rw [← hG] at aw t1 fr r1 r2 s1 t2 q
          repeat' ((try (conv => whnf)); first
  | ((with_reducible refine cg ?_); first | refine ceq aw rfl ?_ | refine ceq t1 rfl ?_ | refine ceq fr rfl ?_ | refine ceq r1 rfl ?_ | refine ceq r2 rfl ?_ | refine ceq s1 rfl ?_ | refine ceq t2 rfl ?_ | refine ceq q rfl ?_)
  
  | (with_reducible refine draw_g (id := 8) [[], [4, 0, 2, 1, 3, 5], [6], [7], [8], [9, 10]] tok mixed (by kernel_rfl) ?_)
  | with_reducible first
    | refine Chk.mk' (by first | omega | exact trivial | (simp only [List.length_append, List.length_set, List.length_replicate, List.length_take, List.length_drop, List.length_cons, List.length_nil, List.length_map]; omega)) ?_
    | refine wrap_g (by dsimp only [inR]; omega) ?_
    | refine idx_g (by omega) ?_ | refine idx_l _ rfl (by decide) ?_ | refine BothG.mk ?_ ?_ | refine fork_tt ?_ | refine fork_ff ?_
    | (refine fork_e (c := true) (by decide) ?_; refine fork_tt ?_) | (refine fork_e (c := false) (by decide) ?_; refine fork_ff ?_)
    | refine fork_t (by omega) ?_ | refine fork_f (by omega) ?_ | (refine fork_d ?_ ?_ <;> intro hc) | refine fork_n ?_ | (refine fork_b ?_ ?_ <;> intro hc)
    | refine SlcG.mk (by omega) ?_ | refine MakG.mk (by dsimp only; omega) ?_
    | refine AppG.mk (by first | omega | (simp only [List.length_append, List.length_set, List.length_replicate, List.length_take, List.length_drop, List.length_cons, List.length_nil, List.length_map]; omega)) (by dsimp only [List.length_cons, List.length_nil]; omega) (by omega) ?_
    | refine div_g (by omega) (by omega) (by dsimp only [inR]; omega) ?_ | refine mod_g (by omega) (by omega) ?_
    | refine mask_g (m := 4294967296) 32 rfl rfl (by decide) (by omega) ?_ | refine shr_g (m := 4294967296) 32 rfl (by decide) (by omega) rfl ?_
    | refine fz_all (by omega) ?_ | (refine smk ?_ ?_; constructor))
          all_goals exact ⟨ret_e rfl⟩
        · rw [ec] at t2 ⊢
          clear ec
          have ml := p_mul hD gq gc hp
          rcases hm with hm | ⟨m, n, hm, gm, w1, w2⟩
          · rw [hm] at ml
            clear hm
            refine FC.intro (X := XX) tok Tryz.func3 rfl Tryz.ntmps3 (by rw [Tryz.results3]) (by kernel_rfl) rfl ?_; intro F hG hO
            rw [← hG] at aw t1 fr r1 r2 s1 t2 q ml
            repeat' ((try (conv => whnf)); first
  | ((with_reducible refine cg ?_); first | refine ceq aw rfl ?_ | refine ceq t1 rfl ?_ | refine ceq fr rfl ?_ | refine ceq r1 rfl ?_ | refine ceq r2 rfl ?_ | refine ceq s1 rfl ?_ | refine ceq t2 rfl ?_ | refine ceq q rfl ?_ | refine ceq ml rfl ?_)
  | ((with_reducible refine dg ?_); refine draw_j (A := Unit) (id := 11) (N := 89) (fun _ => [(3, .ptr 0 0), (10, .val (.int .i64 5)), (12, .ptr 4 0)]) (fun _ => [[.val (.bool (decide (a.1 < 0))), .ws .u64 (d64 a.1.natAbs), .val (.int .i64 a.2), .val (.bool (decide (b.1 < 0))), .ws .u64 (d64 b.1.natAbs), .val (.int .i64 b.2)], [.val (.bool (decide (c.1 < 0))), .ws .u64 (d64 c.1.natAbs), .val (.int .i64 c.2), .val (.bool (decide (d.1 < 0))), .ws .u64 (d64 d.1.natAbs), .val (.int .i64 d.2)], [.val (.bool (decide (x.1 < 0))), .ws .u64 (d64 x.1.natAbs), .val (.int .i64 x.2), .val (.bool (decide (y.1 < 0))), .ws .u64 (d64 y.1.natAbs), .val (.int .i64 y.2)], [.val (.bool (decide (x0.1 < 0))), .ws .u64 (d64 x0.1.natAbs), .val (.int .i64 x0.2), .val (.bool (decide (y0.1 < 0))), .ws .u64 (d64 y0.1.natAbs), .val (.int .i64 y0.2)], [.val (.bool (decide (((0, 0) : D2).1 < 0))), .ws .u64 (d64 ((0, 0) : D2).1.natAbs), .val (.int .i64 ((0, 0) : D2).2), .val (.bool (decide (((0, 0) : D2).1 < 0))), .ws .u64 (d64 ((0, 0) : D2).1.natAbs), .val (.int .i64 ((0, 0) : D2).2)]]) (fun _ => []) (.take 3 (.alt 0 (.alt 1 (.alt 2 (.alt 4 (.take 5 (.take 6 (.take 7 (.alt 8 (.alt 9 (.alt 10 (.fin) (.non)) (.non)) (.non))))) (.alt 8 (.alt 4 (.take 5 (.take 6 (.take 7 (.alt 9 (.alt 10 (.fin) (.non)) (.non))))) (.non)) (.non))) (.alt 8 (.alt 2 (.alt 4 (.take 5 (.take 6 (.take 7 (.alt 9 (.alt 10 (.fin) (.non)) (.non))))) (.non)) (.non)) (.non))) (.alt 8 (.alt 1 (.alt 2 (.alt 4 (.take 5 (.take 6 (.take 7 (.alt 9 (.alt 10 (.fin) (.non)) (.non))))) (.non)) (.non)) (.non)) (.non))) (.alt 1 (.alt 0 (.alt 2 (.alt 4 (.take 5 (.take 6 (.take 7 (.alt 8 (.alt 9 (.alt 10 (.fin) (.non)) (.non)) (.non))))) (.alt 8 (.alt 4 (.take 5 (.take 6 (.take 7 (.alt 9 (.alt 10 (.fin) (.non)) (.non))))) (.non)) (.non))) (.alt 8 (.alt 2 (.alt 4 (.take 5 (.take 6 (.take 7 (.alt 9 (.alt 10 (.fin) (.non)) (.non))))) (.non)) (.non)) (.non))) (.alt 2 (.alt 0 (.alt 4 (.take 5 (.take 6 (.take 7 (.alt 8 (.alt 9 (.alt 10 (.fin) (.non)) (.non)) (.non))))) (.alt 8 (.alt 4 (.take 5 (.take 6 (.take 7 (.alt 9 (.alt 10 (.fin) (.non)) (.non))))) (.non)) (.non))) (.alt 8 (.alt 0 (.alt 4 (.take 5 (.take 6 (.take 7 (.alt 9 (.alt 10 (.fin) (.non)) (.non))))) (.non)) (.non)) (.non))) (.alt 8 (.alt 0 (.alt 2 (.alt 4 (.take 5 (.take 6 (.take 7 (.alt 9 (.alt 10 (.fin) (.non)) (.non))))) (.non)) (.non)) (.alt 2 (.alt 0 (.alt 4 (.take 5 (.take 6 (.take 7 (.alt 9 (.alt 10 (.fin) (.non)) (.non))))) (.non)) (.non)) (.non))) (.non)))) (.alt 8 (.alt 0 (.alt 1 (.alt 2 (.alt 4 (.take 5 (.take 6 (.take 7 (.alt 9 (.alt 10 (.fin) (.non)) (.non))))) (.non)) (.non)) (.non)) (.alt 1 (.alt 0 (.alt 2 (.alt 4 (.take 5 (.take 6 (.take 7 (.alt 9 (.alt 10 (.fin) (.non)) (.non))))) (.non)) (.non)) (.alt 2 (.alt 0 (.alt 4 (.take 5 (.take 6 (.take 7 (.alt 9 (.alt 10 (.fin) (.non)) (.non))))) (.non)) (.non)) (.non))) (.non))) (.non))))) tok mixed (by kernel_rfl) (by kernel_rfl) (by intro ju; (refine ⟨?_, ?_, ?_⟩ <;> simp [inS, inBB, inBL, inB, hO])) ?_ ?_; rotate_left; intro ju)
  | exact join () ⟨rfl, rfl, rfl, trivial⟩ ⟨[], rfl⟩ ⟨[], rfl⟩
  
  | (with_reducible refine draw_g (id := 8) [[], [4, 0, 2, 1, 3, 5], [6], [7], [8], [9, 10]] tok mixed (by kernel_rfl) ?_)
  | with_reducible first
    | refine Chk.mk' (by first | omega | exact trivial | (simp only [List.length_append, List.length_set, List.length_replicate, List.length_take, List.length_drop, List.length_cons, List.length_nil, List.length_map]; omega)) ?_
    | refine wrap_g (by dsimp only [inR]; omega) ?_
    | refine idx_g (by omega) ?_ | refine idx_l _ rfl (by decide) ?_ | refine BothG.mk ?_ ?_ | refine fork_tt ?_ | refine fork_ff ?_
    | (refine fork_e (c := true) (by decide) ?_; refine fork_tt ?_) | (refine fork_e (c := false) (by decide) ?_; refine fork_ff ?_)
    | refine fork_t (by omega) ?_ | refine fork_f (by omega) ?_ | (refine fork_d ?_ ?_ <;> intro hc) | refine fork_n ?_ | (refine fork_b ?_ ?_ <;> intro hc)
    | refine SlcG.mk (by omega) ?_ | refine MakG.mk (by dsimp only; omega) ?_
    | refine AppG.mk (by first | omega | (simp only [List.length_append, List.length_set, List.length_replicate, List.length_take, List.length_drop, List.length_cons, List.length_nil, List.length_map]; omega)) (by dsimp only [List.length_cons, List.length_nil]; omega) (by omega) ?_
    | refine div_g (by omega) (by omega) (by dsimp only [inR]; omega) ?_ | refine mod_g (by omega) (by omega) ?_
    | refine mask_g (m := 4294967296) 32 rfl rfl (by decide) (by omega) ?_ | refine shr_g (m := 4294967296) 32 rfl (by decide) (by omega) rfl ?_
    | refine fz_all (by omega) ?_ | (refine smk ?_ ?_; constructor))
            all_goals exact ⟨ret_e rfl⟩
          · rw [hm] at ml
            clear hm
            have v1 := q_form (G := g) gm
            have v2 := s_within (G := g) ga gm w1 w2
            refine FC.intro (X := XX) tok Tryz.func3 rfl Tryz.ntmps3 (by rw [Tryz.results3]) (by kernel_rfl) rfl ?_; intro F hG hO
            rw [← hG] at aw t1 fr r1 r2 s1 t2 q ml v1 v2
            repeat' ((try (conv => whnf)); first
  | ((with_reducible refine cg ?_); first | refine ceq aw rfl ?_ | refine ceq t1 rfl ?_ | refine ceq fr rfl ?_ | refine ceq r1 rfl ?_ | refine ceq r2 rfl ?_ | refine ceq s1 rfl ?_ | refine ceq t2 rfl ?_ | refine ceq q rfl ?_ | refine ceq ml rfl ?_ | refine ceq v1 rfl ?_ | refine ceq v2 rfl ?_)
  | ((with_reducible refine dg ?_); refine draw_j (A := Unit) (id := 11) (N := 89) (fun _ => [(3, .ptr 0 0), (10, .val (.int .i64 0)), (12, .ptr 4 0)]) (fun _ => [[.val (.bool (decide (a.1 < 0))), .ws .u64 (d64 a.1.natAbs), .val (.int .i64 a.2), .val (.bool (decide (b.1 < 0))), .ws .u64 (d64 b.1.natAbs), .val (.int .i64 b.2)], [.val (.bool (decide (c.1 < 0))), .ws .u64 (d64 c.1.natAbs), .val (.int .i64 c.2), .val (.bool (decide (d.1 < 0))), .ws .u64 (d64 d.1.natAbs), .val (.int .i64 d.2)], [.val (.bool (decide (x.1 < 0))), .ws .u64 (d64 x.1.natAbs), .val (.int .i64 x.2), .val (.bool (decide (y.1 < 0))), .ws .u64 (d64 y.1.natAbs), .val (.int .i64 y.2)], [.val (.bool (decide (x0.1 < 0))), .ws .u64 (d64 x0.1.natAbs), .val (.int .i64 x0.2), .val (.bool (decide (y0.1 < 0))), .ws .u64 (d64 y0.1.natAbs), .val (.int .i64 y0.2)], [.val (.bool (decide (m.1 < 0))), .ws .u64 (d64 m.1.natAbs), .val (.int .i64 m.2), .val (.bool (decide (n.1 < 0))), .ws .u64 (d64 n.1.natAbs), .val (.int .i64 n.2)]]) (fun _ => []) (.take 3 (.alt 0 (.alt 1 (.alt 2 (.alt 4 (.take 5 (.take 6 (.take 7 (.alt 8 (.alt 9 (.alt 10 (.fin) (.non)) (.non)) (.non))))) (.alt 8 (.alt 4 (.take 5 (.take 6 (.take 7 (.alt 9 (.alt 10 (.fin) (.non)) (.non))))) (.non)) (.non))) (.alt 8 (.alt 2 (.alt 4 (.take 5 (.take 6 (.take 7 (.alt 9 (.alt 10 (.fin) (.non)) (.non))))) (.non)) (.non)) (.non))) (.alt 8 (.alt 1 (.alt 2 (.alt 4 (.take 5 (.take 6 (.take 7 (.alt 9 (.alt 10 (.fin) (.non)) (.non))))) (.non)) (.non)) (.non)) (.non))) (.alt 1 (.alt 0 (.alt 2 (.alt 4 (.take 5 (.take 6 (.take 7 (.alt 8 (.alt 9 (.alt 10 (.fin) (.non)) (.non)) (.non))))) (.alt 8 (.alt 4 (.take 5 (.take 6 (.take 7 (.alt 9 (.alt 10 (.fin) (.non)) (.non))))) (.non)) (.non))) (.alt 8 (.alt 2 (.alt 4 (.take 5 (.take 6 (.take 7 (.alt 9 (.alt 10 (.fin) (.non)) (.non))))) (.non)) (.non)) (.non))) (.alt 2 (.alt 0 (.alt 4 (.take 5 (.take 6 (.take 7 (.alt 8 (.alt 9 (.alt 10 (.fin) (.non)) (.non)) (.non))))) (.alt 8 (.alt 4 (.take 5 (.take 6 (.take 7 (.alt 9 (.alt 10 (.fin) (.non)) (.non))))) (.non)) (.non))) (.alt 8 (.alt 0 (.alt 4 (.take 5 (.take 6 (.take 7 (.alt 9 (.alt 10 (.fin) (.non)) (.non))))) (.non)) (.non)) (.non))) (.alt 8 (.alt 0 (.alt 2 (.alt 4 (.take 5 (.take 6 (.take 7 (.alt 9 (.alt 10 (.fin) (.non)) (.non))))) (.non)) (.non)) (.alt 2 (.alt 0 (.alt 4 (.take 5 (.take 6 (.take 7 (.alt 9 (.alt 10 (.fin) (.non)) (.non))))) (.non)) (.non)) (.non))) (.non)))) (.alt 8 (.alt 0 (.alt 1 (.alt 2 (.alt 4 (.take 5 (.take 6 (.take 7 (.alt 9 (.alt 10 (.fin) (.non)) (.non))))) (.non)) (.non)) (.non)) (.alt 1 (.alt 0 (.alt 2 (.alt 4 (.take 5 (.take 6 (.take 7 (.alt 9 (.alt 10 (.fin) (.non)) (.non))))) (.non)) (.non)) (.alt 2 (.alt 0 (.alt 4 (.take 5 (.take 6 (.take 7 (.alt 9 (.alt 10 (.fin) (.non)) (.non))))) (.non)) (.non)) (.non))) (.non))) (.non))))) tok mixed (by kernel_rfl) (by kernel_rfl) (by intro ju; (refine ⟨?_, ?_, ?_⟩ <;> simp [inS, inBB, inBL, inB, hO])) ?_ ?_; rotate_left; intro ju)
  | exact join () ⟨rfl, rfl, rfl, trivial⟩ ⟨[], rfl⟩ ⟨[], rfl⟩
  
  | (with_reducible refine draw_g (id := 8) [[], [4, 0, 2, 1, 3, 5], [6], [7], [8], [9, 10]] tok mixed (by kernel_rfl) ?_)
  | with_reducible first
    | refine Chk.mk' (by first | omega | exact trivial | (simp only [List.length_append, List.length_set, List.length_replicate, List.length_take, List.length_drop, List.length_cons, List.length_nil, List.length_map]; omega)) ?_
    | refine wrap_g (by dsimp only [inR]; omega) ?_
    | refine idx_g (by omega) ?_ | refine idx_l _ rfl (by decide) ?_ | refine BothG.mk ?_ ?_ | refine fork_tt ?_ | refine fork_ff ?_
    | (refine fork_e (c := true) (by decide) ?_; refine fork_tt ?_) | (refine fork_e (c := false) (by decide) ?_; refine fork_ff ?_)
    | refine fork_t (by omega) ?_ | refine fork_f (by omega) ?_ | (refine fork_d ?_ ?_ <;> intro hc) | refine fork_n ?_ | (refine fork_b ?_ ?_ <;> intro hc)
    | refine SlcG.mk (by omega) ?_ | refine MakG.mk (by dsimp only; omega) ?_
    | refine AppG.mk (by first | omega | (simp only [List.length_append, List.length_set, List.length_replicate, List.length_take, List.length_drop, List.length_cons, List.length_nil, List.length_map]; omega)) (by dsimp only [List.length_cons, List.length_nil]; omega) (by omega) ?_
    | refine div_g (by omega) (by omega) (by dsimp only [inR]; omega) ?_ | refine mod_g (by omega) (by omega) ?_
    | refine mask_g (m := 4294967296) 32 rfl rfl (by decide) (by omega) ?_ | refine shr_g (m := 4294967296) 32 rfl (by decide) (by omega) rfl ?_
    | refine fz_all (by omega) ?_ | (refine smk ?_ ?_; constructor))
            all_goals exact ⟨ret_e rfl⟩
      · skip
        rcases second with ⟨x, y, e, he, q⟩ | ⟨c, d, x, y, ec, gc, gq, q, hm⟩
        · skip
          refine FC.intro (X := XX) tok Tryz.func3 rfl Tryz.ntmps3 (by rw [Tryz.results3]) (by kernel_rfl) rfl ?_; intro F hG hO
          rw [← hG] at aw t1 fr r1 r2 s1 t2 q
          repeat' ((try (conv => whnf)); first
  | ((with_reducible refine cg ?_); first | refine ceq aw rfl ?_ | refine ceq t1 rfl ?_ | refine ceq fr rfl ?_ | refine ceq r1 rfl ?_ | refine ceq r2 rfl ?_ | refine ceq s1 rfl ?_ | refine ceq t2 rfl ?_ | refine ceq q rfl ?_)
  
  | (with_reducible refine draw_g (id := 8) [[], [4, 0, 2, 1, 3, 5], [6], [7], [8], [9, 10]] tok mixed (by kernel_rfl) ?_)
  | with_reducible first
    | refine Chk.mk' (by first | omega | exact trivial | (simp only [List.length_append, List.length_set, List.length_replicate, List.length_take, List.length_drop, List.length_cons, List.length_nil, List.length_map]; omega)) ?_
    | refine wrap_g (by dsimp only [inR]; omega) ?_
    | refine idx_g (by omega) ?_ | refine idx_l _ rfl (by decide) ?_ | refine BothG.mk ?_ ?_ | refine fork_tt ?_ | refine fork_ff ?_
    | (refine fork_e (c := true) (by decide) ?_; refine fork_tt ?_) | (refine fork_e (c := false) (by decide) ?_; refine fork_ff ?_)
    | refine fork_t (by omega) ?_ | refine fork_f (by omega) ?_ | (refine fork_d ?_ ?_ <;> intro hc) | refine fork_n ?_ | (refine fork_b ?_ ?_ <;> intro hc)
    | refine SlcG.mk (by omega) ?_ | refine MakG.mk (by dsimp only; omega) ?_
    | refine AppG.mk (by first | omega | (simp only [List.length_append, List.length_set, List.length_replicate, List.length_take, List.length_drop, List.length_cons, List.length_nil, List.length_map]; omega)) (by dsimp only [List.length_cons, List.length_nil]; omega) (by omega) ?_
    | refine div_g (by omega) (by omega) (by dsimp only [inR]; omega) ?_ | refine mod_g (by omega) (by omega) ?_
    | refine mask_g (m := 4294967296) 32 rfl rfl (by decide) (by omega) ?_ | refine shr_g (m := 4294967296) 32 rfl (by decide) (by omega) rfl ?_
    | refine fz_all (by omega) ?_ | (refine smk ?_ ?_; constructor))
          all_goals exact ⟨ret_e rfl⟩
        · rw [ec] at t2 ⊢
          clear ec
          have ml := p_mul hD gq gc hp
          rcases hm with hm | ⟨m, n, hm, gm, w1, w2⟩
          · rw [hm] at ml
            clear hm
            refine FC.intro (X := XX) tok Tryz.func3 rfl Tryz.ntmps3 (by rw [Tryz.results3]) (by kernel_rfl) rfl ?_; intro F hG hO
            rw [← hG] at aw t1 fr r1 r2 s1 t2 q ml
            repeat' ((try (conv => whnf)); first
  | ((with_reducible refine cg ?_); first | refine ceq aw rfl ?_ | refine ceq t1 rfl ?_ | refine ceq fr rfl ?_ | refine ceq r1 rfl ?_ | refine ceq r2 rfl ?_ | refine ceq s1 rfl ?_ | refine ceq t2 rfl ?_ | refine ceq q rfl ?_ | refine ceq ml rfl ?_)
  | ((with_reducible refine dg ?_); refine draw_j (A := Unit) (id := 11) (N := 89) (fun _ => [(3, .ptr 0 0), (10, .val (.int .i64 5)), (12, .ptr 4 0)]) (fun _ => [[.val (.bool (decide (a.1 < 0))), .ws .u64 (d64 a.1.natAbs), .val (.int .i64 a.2), .val (.bool (decide (b.1 < 0))), .ws .u64 (d64 b.1.natAbs), .val (.int .i64 b.2)], [.val (.bool (decide (c.1 < 0))), .ws .u64 (d64 c.1.natAbs), .val (.int .i64 c.2), .val (.bool (decide (d.1 < 0))), .ws .u64 (d64 d.1.natAbs), .val (.int .i64 d.2)], [.val (.bool (decide (x.1 < 0))), .ws .u64 (d64 x.1.natAbs), .val (.int .i64 x.2), .val (.bool (decide (y.1 < 0))), .ws .u64 (d64 y.1.natAbs), .val (.int .i64 y.2)], [.val (.bool (decide (x0.1 < 0))), .ws .u64 (d64 x0.1.natAbs), .val (.int .i64 x0.2), .val (.bool (decide (y0.1 < 0))), .ws .u64 (d64 y0.1.natAbs), .val (.int .i64 y0.2)], [.val (.bool (decide (((0, 0) : D2).1 < 0))), .ws .u64 (d64 ((0, 0) : D2).1.natAbs), .val (.int .i64 ((0, 0) : D2).2), .val (.bool (decide (((0, 0) : D2).1 < 0))), .ws .u64 (d64 ((0, 0) : D2).1.natAbs), .val (.int .i64 ((0, 0) : D2).2)]]) (fun _ => []) (.take 3 (.alt 0 (.alt 1 (.alt 2 (.alt 4 (.take 5 (.take 6 (.take 7 (.alt 8 (.alt 9 (.alt 10 (.fin) (.non)) (.non)) (.non))))) (.alt 8 (.alt 4 (.take 5 (.take 6 (.take 7 (.alt 9 (.alt 10 (.fin) (.non)) (.non))))) (.non)) (.non))) (.alt 8 (.alt 2 (.alt 4 (.take 5 (.take 6 (.take 7 (.alt 9 (.alt 10 (.fin) (.non)) (.non))))) (.non)) (.non)) (.non))) (.alt 8 (.alt 1 (.alt 2 (.alt 4 (.take 5 (.take 6 (.take 7 (.alt 9 (.alt 10 (.fin) (.non)) (.non))))) (.non)) (.non)) (.non)) (.non))) (.alt 1 (.alt 0 (.alt 2 (.alt 4 (.take 5 (.take 6 (.take 7 (.alt 8 (.alt 9 (.alt 10 (.fin) (.non)) (.non)) (.non))))) (.alt 8 (.alt 4 (.take 5 (.take 6 (.take 7 (.alt 9 (.alt 10 (.fin) (.non)) (.non))))) (.non)) (.non))) (.alt 8 (.alt 2 (.alt 4 (.take 5 (.take 6 (.take 7 (.alt 9 (.alt 10 (.fin) (.non)) (.non))))) (.non)) (.non)) (.non))) (.alt 2 (.alt 0 (.alt 4 (.take 5 (.take 6 (.take 7 (.alt 8 (.alt 9 (.alt 10 (.fin) (.non)) (.non)) (.non))))) (.alt 8 (.alt 4 (.take 5 (.take 6 (.take 7 (.alt 9 (.alt 10 (.fin) (.non)) (.non))))) (.non)) (.non))) (.alt 8 (.alt 0 (.alt 4 (.take 5 (.take 6 (.take 7 (.alt 9 (.alt 10 (.fin) (.non)) (.non))))) (.non)) (.non)) (.non))) (.alt 8 (.alt 0 (.alt 2 (.alt 4 (.take 5 (.take 6 (.take 7 (.alt 9 (.alt 10 (.fin) (.non)) (.non))))) (.non)) (.non)) (.alt 2 (.alt 0 (.alt 4 (.take 5 (.take 6 (.take 7 (.alt 9 (.alt 10 (.fin) (.non)) (.non))))) (.non)) (.non)) (.non))) (.non)))) (.alt 8 (.alt 0 (.alt 1 (.alt 2 (.alt 4 (.take 5 (.take 6 (.take 7 (.alt 9 (.alt 10 (.fin) (.non)) (.non))))) (.non)) (.non)) (.non)) (.alt 1 (.alt 0 (.alt 2 (.alt 4 (.take 5 (.take 6 (.take 7 (.alt 9 (.alt 10 (.fin) (.non)) (.non))))) (.non)) (.non)) (.alt 2 (.alt 0 (.alt 4 (.take 5 (.take 6 (.take 7 (.alt 9 (.alt 10 (.fin) (.non)) (.non))))) (.non)) (.non)) (.non))) (.non))) (.non))))) tok mixed (by kernel_rfl) (by kernel_rfl) (by intro ju; (refine ⟨?_, ?_, ?_⟩ <;> simp [inS, inBB, inBL, inB, hO])) ?_ ?_; rotate_left; intro ju)
  | exact join () ⟨rfl, rfl, rfl, trivial⟩ ⟨[], rfl⟩ ⟨[], rfl⟩
  
  | (with_reducible refine draw_g (id := 8) [[], [4, 0, 2, 1, 3, 5], [6], [7], [8], [9, 10]] tok mixed (by kernel_rfl) ?_)
  | with_reducible first
    | refine Chk.mk' (by first | omega | exact trivial | (simp only [List.length_append, List.length_set, List.length_replicate, List.length_take, List.length_drop, List.length_cons, List.length_nil, List.length_map]; omega)) ?_
    | refine wrap_g (by dsimp only [inR]; omega) ?_
    | refine idx_g (by omega) ?_ | refine idx_l _ rfl (by decide) ?_ | refine BothG.mk ?_ ?_ | refine fork_tt ?_ | refine fork_ff ?_
    | (refine fork_e (c := true) (by decide) ?_; refine fork_tt ?_) | (refine fork_e (c := false) (by decide) ?_; refine fork_ff ?_)
    | refine fork_t (by omega) ?_ | refine fork_f (by omega) ?_ | (refine fork_d ?_ ?_ <;> intro hc) | refine fork_n ?_ | (refine fork_b ?_ ?_ <;> intro hc)
    | refine SlcG.mk (by omega) ?_ | refine MakG.mk (by dsimp only; omega) ?_
    | refine AppG.mk (by first | omega | (simp only [List.length_append, List.length_set, List.length_replicate, List.length_take, List.length_drop, List.length_cons, List.length_nil, List.length_map]; omega)) (by dsimp only [List.length_cons, List.length_nil]; omega) (by omega) ?_
    | refine div_g (by omega) (by omega) (by dsimp only [inR]; omega) ?_ | refine mod_g (by omega) (by omega) ?_
    | refine mask_g (m := 4294967296) 32 rfl rfl (by decide) (by omega) ?_ | refine shr_g (m := 4294967296) 32 rfl (by decide) (by omega) rfl ?_
    | refine fz_all (by omega) ?_ | (refine smk ?_ ?_; constructor))
            all_goals exact ⟨ret_e rfl⟩
          · rw [hm] at ml
            clear hm
            have v1 := q_form (G := g) gm
            have v2 := s_within (G := g) ga gm w1 w2
            refine FC.intro (X := XX) tok Tryz.func3 rfl Tryz.ntmps3 (by rw [Tryz.results3]) (by kernel_rfl) rfl ?_; intro F hG hO
            rw [← hG] at aw t1 fr r1 r2 s1 t2 q ml v1 v2
            repeat' ((try (conv => whnf)); first
  | ((with_reducible refine cg ?_); first | refine ceq aw rfl ?_ | refine ceq t1 rfl ?_ | refine ceq fr rfl ?_ | refine ceq r1 rfl ?_ | refine ceq r2 rfl ?_ | refine ceq s1 rfl ?_ | refine ceq t2 rfl ?_ | refine ceq q rfl ?_ | refine ceq ml rfl ?_ | refine ceq v1 rfl ?_ | refine ceq v2 rfl ?_)
  | ((with_reducible refine dg ?_); refine draw_j (A := Unit) (id := 11) (N := 89) (fun _ => [(3, .ptr 0 0), (10, .val (.int .i64 0)), (12, .ptr 4 0)]) (fun _ => [[.val (.bool (decide (a.1 < 0))), .ws .u64 (d64 a.1.natAbs), .val (.int .i64 a.2), .val (.bool (decide (b.1 < 0))), .ws .u64 (d64 b.1.natAbs), .val (.int .i64 b.2)], [.val (.bool (decide (c.1 < 0))), .ws .u64 (d64 c.1.natAbs), .val (.int .i64 c.2), .val (.bool (decide (d.1 < 0))), .ws .u64 (d64 d.1.natAbs), .val (.int .i64 d.2)], [.val (.bool (decide (x.1 < 0))), .ws .u64 (d64 x.1.natAbs), .val (.int .i64 x.2), .val (.bool (decide (y.1 < 0))), .ws .u64 (d64 y.1.natAbs), .val (.int .i64 y.2)], [.val (.bool (decide (x0.1 < 0))), .ws .u64 (d64 x0.1.natAbs), .val (.int .i64 x0.2), .val (.bool (decide (y0.1 < 0))), .ws .u64 (d64 y0.1.natAbs), .val (.int .i64 y0.2)], [.val (.bool (decide (m.1 < 0))), .ws .u64 (d64 m.1.natAbs), .val (.int .i64 m.2), .val (.bool (decide (n.1 < 0))), .ws .u64 (d64 n.1.natAbs), .val (.int .i64 n.2)]]) (fun _ => []) (.take 3 (.alt 0 (.alt 1 (.alt 2 (.alt 4 (.take 5 (.take 6 (.take 7 (.alt 8 (.alt 9 (.alt 10 (.fin) (.non)) (.non)) (.non))))) (.alt 8 (.alt 4 (.take 5 (.take 6 (.take 7 (.alt 9 (.alt 10 (.fin) (.non)) (.non))))) (.non)) (.non))) (.alt 8 (.alt 2 (.alt 4 (.take 5 (.take 6 (.take 7 (.alt 9 (.alt 10 (.fin) (.non)) (.non))))) (.non)) (.non)) (.non))) (.alt 8 (.alt 1 (.alt 2 (.alt 4 (.take 5 (.take 6 (.take 7 (.alt 9 (.alt 10 (.fin) (.non)) (.non))))) (.non)) (.non)) (.non)) (.non))) (.alt 1 (.alt 0 (.alt 2 (.alt 4 (.take 5 (.take 6 (.take 7 (.alt 8 (.alt 9 (.alt 10 (.fin) (.non)) (.non)) (.non))))) (.alt 8 (.alt 4 (.take 5 (.take 6 (.take 7 (.alt 9 (.alt 10 (.fin) (.non)) (.non))))) (.non)) (.non))) (.alt 8 (.alt 2 (.alt 4 (.take 5 (.take 6 (.take 7 (.alt 9 (.alt 10 (.fin) (.non)) (.non))))) (.non)) (.non)) (.non))) (.alt 2 (.alt 0 (.alt 4 (.take 5 (.take 6 (.take 7 (.alt 8 (.alt 9 (.alt 10 (.fin) (.non)) (.non)) (.non))))) (.alt 8 (.alt 4 (.take 5 (.take 6 (.take 7 (.alt 9 (.alt 10 (.fin) (.non)) (.non))))) (.non)) (.non))) (.alt 8 (.alt 0 (.alt 4 (.take 5 (.take 6 (.take 7 (.alt 9 (.alt 10 (.fin) (.non)) (.non))))) (.non)) (.non)) (.non))) (.alt 8 (.alt 0 (.alt 2 (.alt 4 (.take 5 (.take 6 (.take 7 (.alt 9 (.alt 10 (.fin) (.non)) (.non))))) (.non)) (.non)) (.alt 2 (.alt 0 (.alt 4 (.take 5 (.take 6 (.take 7 (.alt 9 (.alt 10 (.fin) (.non)) (.non))))) (.non)) (.non)) (.non))) (.non)))) (.alt 8 (.alt 0 (.alt 1 (.alt 2 (.alt 4 (.take 5 (.take 6 (.take 7 (.alt 9 (.alt 10 (.fin) (.non)) (.non))))) (.non)) (.non)) (.non)) (.alt 1 (.alt 0 (.alt 2 (.alt 4 (.take 5 (.take 6 (.take 7 (.alt 9 (.alt 10 (.fin) (.non)) (.non))))) (.non)) (.non)) (.alt 2 (.alt 0 (.alt 4 (.take 5 (.take 6 (.take 7 (.alt 9 (.alt 10 (.fin) (.non)) (.non))))) (.non)) (.non)) (.non))) (.non))) (.non))))) tok mixed (by kernel_rfl) (by kernel_rfl) (by intro ju; (refine ⟨?_, ?_, ?_⟩ <;> simp [inS, inBB, inBL, inB, hO])) ?_ ?_; rotate_left; intro ju)
  | exact join () ⟨rfl, rfl, rfl, trivial⟩ ⟨[], rfl⟩ ⟨[], rfl⟩
  
  | (with_reducible refine draw_g (id := 8) [[], [4, 0, 2, 1, 3, 5], [6], [7], [8], [9, 10]] tok mixed (by kernel_rfl) ?_)
  | with_reducible first
    | refine Chk.mk' (by first | omega | exact trivial | (simp only [List.length_append, List.length_set, List.length_replicate, List.length_take, List.length_drop, List.length_cons, List.length_nil, List.length_map]; omega)) ?_
    | refine wrap_g (by dsimp only [inR]; omega) ?_
    | refine idx_g (by omega) ?_ | refine idx_l _ rfl (by decide) ?_ | refine BothG.mk ?_ ?_ | refine fork_tt ?_ | refine fork_ff ?_
    | (refine fork_e (c := true) (by decide) ?_; refine fork_tt ?_) | (refine fork_e (c := false) (by decide) ?_; refine fork_ff ?_)
    | refine fork_t (by omega) ?_ | refine fork_f (by omega) ?_ | (refine fork_d ?_ ?_ <;> intro hc) | refine fork_n ?_ | (refine fork_b ?_ ?_ <;> intro hc)
    | refine SlcG.mk (by omega) ?_ | refine MakG.mk (by dsimp only; omega) ?_
    | refine AppG.mk (by first | omega | (simp only [List.length_append, List.length_set, List.length_replicate, List.length_take, List.length_drop, List.length_cons, List.length_nil, List.length_map]; omega)) (by dsimp only [List.length_cons, List.length_nil]; omega) (by omega) ?_
    | refine div_g (by omega) (by omega) (by dsimp only [inR]; omega) ?_ | refine mod_g (by omega) (by omega) ?_
    | refine mask_g (m := 4294967296) 32 rfl rfl (by decide) (by omega) ?_ | refine shr_g (m := 4294967296) 32 rfl (by decide) (by omega) rfl ?_
    | refine fz_all (by omega) ?_ | (refine smk ?_ ?_; constructor))
            all_goals exact ⟨ret_e rfl⟩
  · have q1 := p_quoX (G := g) b1 l1 e1 b2 l2 e2 o1.1 o2.1 (decide ((1 : Int) < 0)) (d64 (1 : Int).natAbs) 0 (decide ((1 : Int) < 0)) (d64 (1 : Int).natAbs) 0 (okD64 _) (okD64 _) p (by rw [show spF (decide ((1 : Int) < 0)) (d64 (1 : Int).natAbs) 0 (decide ((1 : Int) < 0)) (d64 (1 : Int).natAbs) 0 = true from hone, Bool.and_true]; exact hc)
    rw [show spF (decide ((1 : Int) < 0)) (d64 (1 : Int).natAbs) 0 (decide ((1 : Int) < 0)) (d64 (1 : Int).natAbs) 0 = true from hone, Bool.and_true] at q1
    have q2 := p_outX (G := g) b1 l1 e1 b2 l2 e2 o1.1 o2.1 p hc
    have hc2 : chkE p (spF b1 l1 e1 b2 l2 e2 && spF b3 l3 e3 b4 l4 e4) ≠ 0 := by
      unfold chkE at hc ⊢
      by_cases hh : p < 1 ∨ 70000 < p
      · rw [if_pos hh]; decide
      · rw [if_neg hh] at hc ⊢
        cases hf : spF b1 l1 e1 b2 l2 e2
        · rw [Bool.false_and]; decide
        · rw [hf] at hc
          exact absurd rfl hc
    have q3 := p_quoX (G := g) b1 l1 e1 b2 l2 e2 o1.1 o2.1 b3 l3 e3 b4 l4 e4 o3.1 o4.1 p hc2
    obtain ⟨c1, hc1⟩ : ∃ c, c = chkE p (spF b1 l1 e1 b2 l2 e2) := ⟨_, rfl⟩
    obtain ⟨c3, hc3⟩ : ∃ c, c = chkE p (spF b1 l1 e1 b2 l2 e2 && spF b3 l3 e3 b4 l4 e4) := ⟨_, rfl⟩
    rw [← hc1] at q1 q2 hc
    rw [← hc3] at q3 hc2
    clear hc1 hc3 hone
    have q1' : FC Tryz.prog g 14 [Sp b1 l1 e1 b2 l2 e2, SP (1, 0) (1, 0), .val (.int .i64 p)] (· = spE c1) := q1
    clear q1
    refine FC.intro (X := XX) tok Tryz.func3 rfl Tryz.ntmps3 (by rw [Tryz.results3]) (by kernel_rfl) rfl ?_; intro F hG hO
    rw [← hG] at aw t1 t2 fr q1' q2 q3 s0
    repeat' ((try (conv => whnf)); first
  | ((with_reducible refine cg ?_); first | refine ceq aw rfl ?_ | refine ceq t1 rfl ?_ | refine ceq t2 rfl ?_ | refine ceq fr rfl ?_ | refine ceq q1' rfl ?_ | refine ceq q2 rfl ?_ | refine ceq q3 rfl ?_ | refine ceq s0 rfl ?_)
  
  | (with_reducible refine draw_g (id := 8) [[], [4, 0, 2, 1, 3, 5], [6], [7], [8], [9, 10]] tok mixed (by kernel_rfl) ?_)
  | with_reducible first
    | refine Chk.mk' (by first | omega | exact trivial | (simp only [List.length_append, List.length_set, List.length_replicate, List.length_take, List.length_drop, List.length_cons, List.length_nil, List.length_map]; omega)) ?_
    | refine wrap_g (by dsimp only [inR]; omega) ?_
    | refine idx_g (by omega) ?_ | refine idx_l _ rfl (by decide) ?_ | refine BothG.mk ?_ ?_ | refine fork_tt ?_ | refine fork_ff ?_
    | (refine fork_e (c := true) (by decide) ?_; refine fork_tt ?_) | (refine fork_e (c := false) (by decide) ?_; refine fork_ff ?_)
    | refine fork_t (by omega) ?_ | refine fork_f (by omega) ?_ | (refine fork_d ?_ ?_ <;> intro hc) | refine fork_n ?_ | (refine fork_b ?_ ?_ <;> intro hc)
    | refine SlcG.mk (by omega) ?_ | refine MakG.mk (by dsimp only; omega) ?_
    | refine AppG.mk (by first | omega | (simp only [List.length_append, List.length_set, List.length_replicate, List.length_take, List.length_drop, List.length_cons, List.length_nil, List.length_map]; omega)) (by dsimp only [List.length_cons, List.length_nil]; omega) (by omega) ?_
    | refine div_g (by omega) (by omega) (by dsimp only [inR]; omega) ?_ | refine mod_g (by omega) (by omega) ?_
    | refine mask_g (m := 4294967296) 32 rfl rfl (by decide) (by omega) ?_ | refine shr_g (m := 4294967296) 32 rfl (by decide) (by omega) rfl ?_
    | refine fz_all (by omega) ?_ | (refine smk ?_ ?_; constructor))
    all_goals exact ⟨ret_e rfl⟩
end Go.Proofs.YtpjbgmafnheomaaGreatDoor.Sim
namespace Go.Proofs.YtpjbgmafnheomaaGreatDoor.Sim
open Go.RowKit Go.ChangeShapes Go.WideShapes
section
variable {H : Type} {enc : TypeId × Value → H} {P : Program}
/-- 'post' where nothing has turned below. -/
theorem post_below2 {f : Func} {s : ChangeSpec} {apart fresh handsOn again : Bool} {W W' : World} {args : Array Value} {v : Value} {ds gs : List (DataW H)} {before pa pv : List MemPlace}
    (hW : DataW.Whole enc P f.params.toList s.vars apart W args.toList ds gs before)
    (hres : ∀ (b : Nat) (sp : Nat → Bool) (hd : Bool), DataW.TrodAll enc P W' b sp hd f.resultTypes.toList (v.resultList f.resultTypes.size) (s.fn H (ds ++ gs)).results [])
    (hargs : ∀ sp : Nat → Bool, (∀ p ∈ before, sp p.block = true) → DataW.TrodAll enc P W' 0 sp true f.params.toList args.toList (s.fn H (ds ++ gs)).args pa)
    (hvars : ∀ sp : Nat → Bool, (∀ p ∈ before, sp p.block = true) → DataW.TrodVars enc P W' sp s.vars (s.fn H (ds ++ gs)).vars pv)
    (hps : before = pa ++ pv) (hb : Below W.heap.size W W')
    (hok : ∀ (j : Nat) (t : TypeId) (r : Value), f.resultTypes[j]? = some t → (v.resultList f.resultTypes.size)[j]? = some r → Value.okWide P W' .any 0 t r) :
    s.post enc P f apart fresh handsOn again W args v W' := by
  have hold : ∀ p ∈ before, (fun b => decide (b < W.heap.size)) p.block = true := fun p hp => by simpa using hW.lt p hp
  have hlt := hW.lt
  refine ⟨ds, gs, before, [], pa, pv, hW, hres _ _ _, hargs _ hold, hvars _ hold, hb.frame _, fun _ => ?_⟩
  obtain ⟨_, _, _, _, _, hz, hn⟩ := hW
  refine ⟨hok, _, _, ([] ++ pa) ++ pv, ⟨[] ++ pa, pv, trodAll_append (hargs _ (fun _ _ => rfl)) (hres _ _ _), hvars _ (fun _ _ => rfl), rfl, ?_, ?_⟩, ?_⟩
  · intro b off hp
    have hm : MemPlace.cell b off ∈ before := by rw [hps]; simpa using hp
    rw [hb.frozen (p := ⟨b, off, none⟩) (hlt _ hm)]
    exact hz b off hm
  · intro ha
    have := hn ha
    rw [hps] at this
    simpa using this
  · intro p hp _
    rw [hps]
    simpa using hp
end
end Go.Proofs.YtpjbgmafnheomaaGreatDoor.Sim
