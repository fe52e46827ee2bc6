/-
  What the statement SpanSnugCardSaid leans on, part 15: the logic of walks, digits, contracts of the functions, the plain law. Conditions stand in each theorem.
-/
import Derived.Test.YtpjbgmafnheomaaGreatDoorPkSpanSnugCardSaidN
import Derived.SizedLaws
import Derived.DataElems
import Derived.ChangeSame
namespace Go.Proofs.YtpjbgmafnheomaaGreatDoor.Sim
open Go.RowKit Go.ChangeShapes Go.WideShapes
set_option linter.unusedVariables false
set_option linter.unusedSimpArgs false
/-- Words that are limbs, and not too many. -/
def OKM (l : List Int) : Prop := okD 18446744073709551616 l ∧ l.length ≤ 17592186044415
section
variable {H : Type} {enc : TypeId × Value → H} {P : Program} {w : World} {base : Nat} {sp : Nat → Bool} {held : Bool}
theorem trod_fieldsQ {t : TypeId} {c : Nat} {fs : List (TypeId × Nat × Nat)} {fuel : Nat} {cs : List Value} {x : DataW H × List MemPlace} (hu : fieldT P t = some (c, fs)) (h : DataW.trod enc P w base sp held fuel t cs = some x) (hw : ∀ q ∈ x.1.weights P t, q ≤ reachBytes) :
    cs.length = c ∧ ∃ n, ∀ (i : Nat) (ty off z : Nat), fs[i]? = some (ty, off, z) → ∃ y, DataW.trod enc P w base sp held n ty ((cs.drop off).take z) = some y ∧ ∀ q ∈ y.1.weights P ty, q ≤ reachBytes := by
  unfold fieldT at hu
  split at hu
  · rename_i gs hg
    simp only [Option.some.injEq, Prod.mk.injEq] at hu
    obtain ⟨rfl, rfl⟩ := hu
    obtain ⟨xs, n, _, rfl, hl, hlen, hf⟩ := DataW.trod_struct hg h
    refine ⟨hl, n, fun i ty off z hi => ?_⟩
    rw [List.getElem?_map] at hi
    cases hq : gs.toList[i]? with
    | none => rw [hq] at hi; cases hi
    | some f =>
      rw [hq] at hi
      simp only [Option.map_some, Option.some.injEq, Prod.mk.injEq] at hi
      obtain ⟨rfl, rfl, rfl⟩ := hi
      have h2 := hf i f (by simpa using hq)
      have h3 : i < xs.length := by
        rw [hlen]
        have := (List.getElem?_eq_some_iff.1 hq).1
        simpa using this
      rw [List.getElem?_eq_getElem h3] at h2
      refine ⟨_, h2, fun q hqm => hw q ?_⟩
      have hm := DataW.weights_mem_each (P := P) (ts := gs.toList.map (·.type)) (ds := xs.map (·.1)) (j := i) (t := f.type) (d := xs[i].1) (by rw [List.getElem?_map, hq]; rfl) (by rw [List.getElem?_map, List.getElem?_eq_getElem h3]; rfl) q hqm
      simpa [DataW.weights, hg] using hm
  · cases hu
theorem lits_lenQ (k : IntKind) (zs : List Int) : (ChangeShapes.lits (H := H) k zs).length = zs.length := by simp [ChangeShapes.lits]
theorem trod_wordsQ {t e : TypeId} {k : IntKind} {fuel : Nat} {v : Value} {x : DataW H × List MemPlace} (ht : P.underlying t = some (.slice e)) (he : P.underlying e = some (.int k)) (hc : P.cellsOf e = 1)
    (h : DataW.trod enc P w base sp held fuel t [v] = some x) (hw : ∀ q ∈ x.1.weights P t, q ≤ reachBytes) : ∃ l : List Int, Rep ⟨w.cell?, [], []⟩ (.ws k l) v ∧ (∀ z ∈ l, (Lit.int k z).wf = true) ∧ l.length * P.bytesOf e ≤ reachBytes := by
  rcases open_ints ht he hc h with ⟨h1, h2⟩ | ⟨a, len, cap, zs, h1, h2, h3, h4, h5, h6, h7, h8⟩
  · simp only [List.cons.injEq, and_true] at h1
    subst h1
    exact ⟨[], .ws rfl (Nat.le_refl _) (fun j x hj => by cases hj), (fun z hz => by cases hz), by rw [List.length_nil, Nat.zero_mul]; exact Nat.zero_le _⟩
  · simp only [List.cons.injEq, and_true] at h1
    subst h1
    have hlen : (zs.take len).length = len := by
      rw [List.length_take]
      split at h5 <;> omega
    refine ⟨zs.take len, .ws hlen.symm h3 (fun j x hj => ⟨a, rfl, ?_⟩), (fun z hz => h8 z (List.mem_of_mem_take hz)), ?_⟩
    · have hj1 := (List.getElem?_eq_some_iff.1 hj).1
      rw [hlen] at hj1
      rw [List.getElem?_take, if_pos hj1] at hj
      have hj2 := (List.getElem?_eq_some_iff.1 hj).1
      have := h7 j hj2
      rw [List.getD_eq_getElem?_getD, hj] at this
      exact this
    · have := hw (((ChangeShapes.lits (H := H) k (zs.take len)).length + (ChangeShapes.lits (H := H) k (zs.drop len)).length) * P.bytesOf e) (by rw [h6]; simp [DataW.weights, ht])
      refine Nat.le_trans (Nat.mul_le_mul_right _ ?_) this
      rw [lits_lenQ]
      exact Nat.le_add_right _ _
end
theorem byU6q : Tryz.prog.bytesOf 82 = 8 := by kernel_rfl
section
variable {H : Type} {enc : TypeId × Value → H} {w : World} {base : Nat} {sp : Nat → Bool} {held : Bool}
theorem open_int24Q {fuel : Nat} {cs : List Value} {x : DataW H × List MemPlace} (h : DataW.trod enc Tryz.prog w base sp held fuel 24 cs = some x) (hw : ∀ q ∈ x.1.weights Tryz.prog 24, q ≤ reachBytes) :
    ∃ b l v, cs = [.bool b, v] ∧ Rep ⟨w.cell?, [], []⟩ (.ws .u64 l) v ∧ OKM l := by
  obtain ⟨hl, n, hf⟩ := trod_fieldsQ fIn h hw
  match cs, hl with
  | [a, v], _ =>
    obtain ⟨y0, h0, _⟩ := hf 0 _ _ _ rfl
    obtain ⟨y1, h1, w1⟩ := hf 1 _ _ _ rfl
    obtain ⟨b, rfl⟩ := trod_bool uBo h0
    obtain ⟨l, hr, ho, hs⟩ := trod_wordsQ uWs uU6 cU6 h1 w1
    rw [byU6q] at hs
    exact ⟨b, l, v, rfl, hr, okD_wf ho, by unfold reachBytes at hs; omega⟩
theorem open_dyQ {fuel : Nat} {cs : List Value} {x : DataW H × List MemPlace} (h : DataW.trod enc Tryz.prog w base sp held fuel 26 cs = some x) (hw : ∀ q ∈ x.1.weights Tryz.prog 26, q ≤ reachBytes) :
    ∃ b l e v, cs = [.bool b, v, .int .i64 e] ∧ Rep ⟨w.cell?, [], []⟩ (.ws .u64 l) v ∧ OKM l ∧ inR .i64 e := by
  obtain ⟨hl, n, hf⟩ := trod_fieldsQ fDy h hw
  match cs, hl with
  | [a, v, e], _ =>
    obtain ⟨y0, h0, w0⟩ := hf 0 _ _ _ rfl
    obtain ⟨y1, h1, w1⟩ := hf 1 _ _ _ rfl
    obtain ⟨b, l, v', hc, hr, ho⟩ := open_int24Q h0 w0
    simp only [List.drop_zero, List.take_succ_cons, List.take_zero, List.cons.injEq, and_true] at hc
    obtain ⟨rfl, rfl⟩ := hc
    obtain ⟨z, rfl, hz⟩ := trod_int uIt h1
    exact ⟨b, l, z, v, rfl, hr, ho, wf_i64r hz⟩
set_option maxRecDepth 100000 in
theorem open_dyadQ {r : Reach} {b0 : Nat} {v : Value} {d : DataW H} {ps : List MemPlace} (hval : Value.okWide Tryz.prog w r b0 26 v) (h : DataW.Trod enc Tryz.prog w base sp held 26 v d ps) (hw : ∀ q ∈ d.weights Tryz.prog 26, q ≤ reachBytes) :
    ∃ b l e, Rep ⟨w.cell?, [], []⟩ (Dy b l e) v ∧ OKM l ∧ inR .i64 e := by
  obtain ⟨cs, rfl⟩ := okWide_agg fDy hval
  obtain ⟨n, h⟩ := h
  obtain ⟨b, l, e, v, hc, hr, ho, hi⟩ := open_dyQ h hw
  have hcs : cs = [Value.bool b, v, .int .i64 e].toArray := by
    have : cs.toList = [Value.bool b, v, .int .i64 e] := hc
    rw [← this]
  subst hcs
  exact ⟨b, l, e, .agg (.cons (.val _) (.cons hr (.cons (.val _) .nil))), ho, hi⟩
end
end Go.Proofs.YtpjbgmafnheomaaGreatDoor.Sim
namespace Go.Proofs.YtpjbgmafnheomaaGreatDoor.Sim
open Go.RowKit
set_option linter.unusedVariables false
set_option linter.unusedSimpArgs false
set_option maxRecDepth 10000
set_option maxHeartbeats 8000000
variable {G : List (Nat × List Value)}
theorem OKM64 {n e : Int} (h : Good n e) : OKM (d64 n.natAbs) := ⟨okD64 _, good_len h⟩
theorem s_number (b : Bool) (l : List Int) (e : Int) (o : OKM l) : FC Tryz.prog G 28 [Dy b l e] (· = Dy b l e) := by
  have f1 := r_twinl (G := G) l o.2
  refine FC.intro (X := XX) tok Tryz.func28 rfl Tryz.ntmps28 (by rw [Tryz.results28]) (by kernel_rfl) rfl ?_; intro F hG hO
  rw [← hG] at f1
  repeat' ((try (conv => whnf)); first
  | ((with_reducible refine cg ?_); first | refine ceq f1 rfl ?_)
  
  | with_reducible first
    | refine BothG.mk ?_ ?_ | refine fork_tt ?_ | refine fork_ff ?_
    | (refine fork_e (c := true) (by decide) ?_; refine fork_tt ?_) | (refine fork_e (c := false) (by decide) ?_; refine fork_ff ?_)
    | refine fork_t (by omega) ?_ | refine fork_f (by omega) ?_ | (refine fork_d ?_ ?_ <;> intro hc) | refine fork_n ?_ | (refine fork_b ?_ ?_ <;> intro hc)
    | refine fz_all (by omega) ?_ | (refine smk ?_ ?_; constructor))
  exact ⟨ret_e rfl⟩
theorem s_numberg {a : D2} (h : a.good) : FC Tryz.prog G 28 [DY a.1 a.2] (· = DY a.1 a.2) := s_number _ _ _ (OKM64 h)
theorem s_twin (b1 : Bool) (l1 : List Int) (e1 : Int) (b2 : Bool) (l2 : List Int) (e2 : Int) (o1 : OKM l1) (o2 : OKM l2) : FC Tryz.prog G 15 [Sp b1 l1 e1 b2 l2 e2] (· = Sp b1 l1 e1 b2 l2 e2) := by
  have f1 := s_number (G := G) b1 l1 e1 o1
  have f2 := s_number (G := G) b2 l2 e2 o2
  refine FC.intro (X := XX) tok Tryz.func15 rfl Tryz.ntmps15 (by rw [Tryz.results15]) (by kernel_rfl) rfl ?_; intro F hG hO
  rw [← hG] at f1 f2
  repeat' ((try (conv => whnf)); first
  | ((with_reducible refine cg ?_); first | refine ceq f1 rfl ?_ | refine ceq f2 rfl ?_)
  
  | (with_reducible refine draw_g (id := 1) [[0, 1, 3, 4, 2, 5, 6], [7]] tok mixed (by kernel_rfl) ?_)
  | with_reducible first
    | refine BothG.mk ?_ ?_ | refine fork_tt ?_ | refine fork_ff ?_
    | (refine fork_e (c := true) (by decide) ?_; refine fork_tt ?_) | (refine fork_e (c := false) (by decide) ?_; refine fork_ff ?_)
    | refine fork_t (by omega) ?_ | refine fork_f (by omega) ?_ | (refine fork_d ?_ ?_ <;> intro hc) | refine fork_n ?_ | (refine fork_b ?_ ?_ <;> intro hc)
    | refine fz_all (by omega) ?_ | (refine smk ?_ ?_; constructor))
  exact ⟨ret_e rfl⟩
theorem s_twing {a b : D2} (h : GoodS a b) : FC Tryz.prog G 15 [SP a b] (· = SP a b) := s_twin _ _ _ _ _ _ (OKM64 h.1) (OKM64 h.2.1)
theorem same_t (b : Bool) (l : List Int) (e : Int) : sameB b l e b l e = true := by unfold sameB; simp
theorem same_dec (a c : D2) : sameB (decide (a.1 < 0)) (d64 a.1.natAbs) a.2 (decide (c.1 < 0)) (d64 c.1.natAbs) c.2 = decide (a = c) := by
  by_cases h : a = c
  · rw [h, same_t, decide_eq_true rfl]
  · rw [decide_eq_false h]
    cases hx : sameB (decide (a.1 < 0)) (d64 a.1.natAbs) a.2 (decide (c.1 < 0)) (d64 c.1.natAbs) c.2 with
    | false => rfl
    | true =>
      unfold sameB at hx
      simp only [Bool.and_eq_true, beq_iff_eq, decide_eq_true_eq] at hx
      have : DY a.1 a.2 = DY c.1 c.2 := by unfold DY; rw [hx.1.1, hx.1.2, hx.2]
      obtain ⟨h1, h2⟩ := DY_inj this
      exact absurd (Prod.ext h1 h2) h
theorem q_sameX (b : Bool) (l : List Int) (e : Int) (b' : Bool) (l' : List Int) (e' : Int) (h : l.length ≤ 1099511627776) : FC Tryz.prog G 60 [Dy b l e, Dy b' l' e'] (· = .val (.bool (sameB b l e b' l' e'))) := by
  have f1 := r_same (G := G) l l' h
  refine FC.intro (X := XX) tok Tryz.func60 rfl Tryz.ntmps60 (by rw [Tryz.results60]) (by kernel_rfl) rfl ?_; intro F hG hO
  rw [← hG] at f1
  repeat' ((try (conv => whnf)); first
  | ((with_reducible refine cg ?_); first | refine ceq f1 rfl ?_)
  
  | with_reducible first
    | refine BothG.mk ?_ ?_ | refine fork_tt ?_ | refine fork_ff ?_
    | (refine fork_e (c := true) (by decide) ?_; refine fork_tt ?_) | (refine fork_e (c := false) (by decide) ?_; refine fork_ff ?_)
    | refine fork_t (by omega) ?_ | refine fork_f (by omega) ?_ | (refine fork_d ?_ ?_ <;> intro hc) | refine fork_n ?_ | (refine fork_b ?_ ?_ <;> intro hc)
    | refine fz_all (by omega) ?_ | (refine smk ?_ ?_; constructor))
  all_goals (refine ⟨ret_e (bv_eq ?_)⟩; unfold sameB)
  · rename_i a1; rw [a1, decide_eq_true hc]; simp
  · rw [decide_eq_false hc]; simp
  · rw [hc]; simp
theorem q_sameD {a : D2} (h : a.good) (c : D2) : FC Tryz.prog G 60 [DY a.1 a.2, DY c.1 c.2] (· = .val (.bool (decide (a = c)))) := by
  have := q_sameX (G := G) (decide (a.1 < 0)) (d64 a.1.natAbs) a.2 (decide (c.1 < 0)) (d64 c.1.natAbs) c.2 (Nat.le_trans h.1 (by decide))
  rw [same_dec] at this
  exact this
theorem q_same {a b : D2} (h : a.good) (k : b.good) (c d : D2) : FC Tryz.prog G 18 [SP a b, SP c d] (· = .val (.bool (decide (a = c) && decide (b = d)))) := by
  have f1 := q_sameD (G := G) h c
  have f2 := q_sameD (G := G) k d
  obtain ⟨x, hx⟩ : ∃ x, x = decide (a = c) := ⟨_, rfl⟩
  rw [← hx] at f1 ⊢
  clear hx
  cases x
  · clear f2
    refine FC.intro (X := XX) tok Tryz.func18 rfl Tryz.ntmps18 (by rw [Tryz.results18]) (by kernel_rfl) rfl ?_; intro F hG hO
    rw [← hG] at f1
    repeat' ((try (conv => whnf)); first
  | ((with_reducible refine cg ?_); first | refine ceq f1 rfl ?_)
  
  | with_reducible first
    | refine BothG.mk ?_ ?_ | refine fork_tt ?_ | refine fork_ff ?_
    | (refine fork_e (c := true) (by decide) ?_; refine fork_tt ?_) | (refine fork_e (c := false) (by decide) ?_; refine fork_ff ?_)
    | refine fork_t (by omega) ?_ | refine fork_f (by omega) ?_ | (refine fork_d ?_ ?_ <;> intro hc) | refine fork_n ?_ | (refine fork_b ?_ ?_ <;> intro hc)
    | refine fz_all (by omega) ?_ | (refine smk ?_ ?_; constructor))
    exact ⟨ret_e rfl⟩
  · skip
    refine FC.intro (X := XX) tok Tryz.func18 rfl Tryz.ntmps18 (by rw [Tryz.results18]) (by kernel_rfl) rfl ?_; intro F hG hO
    rw [← hG] at f1 f2
    repeat' ((try (conv => whnf)); first
  | ((with_reducible refine cg ?_); first | refine ceq f1 rfl ?_ | refine ceq f2 rfl ?_)
  
  | with_reducible first
    | refine BothG.mk ?_ ?_ | refine fork_tt ?_ | refine fork_ff ?_
    | (refine fork_e (c := true) (by decide) ?_; refine fork_tt ?_) | (refine fork_e (c := false) (by decide) ?_; refine fork_ff ?_)
    | refine fork_t (by omega) ?_ | refine fork_f (by omega) ?_ | (refine fork_d ?_ ?_ <;> intro hc) | refine fork_n ?_ | (refine fork_b ?_ ?_ <;> intro hc)
    | refine fz_all (by omega) ?_ | (refine smk ?_ ?_; constructor))
    exact ⟨ret_e rfl⟩
theorem q_same_t {a b : D2} (h : a.good) (k : b.good) : FC Tryz.prog G 18 [SP a b, SP a b] (· = .val (.bool true)) := by
  have := q_same (G := G) h k a b
  rw [decide_eq_true rfl, decide_eq_true rfl] at this
  exact this
/-! ### small numbers -/
theorem Good.tiny {m e : Int} (hm : m % 2 = 1) (hb : -1000 ≤ m ∧ m ≤ 1000) (he : -1048576 ≤ e ∧ e ≤ 1048576) : Good m e :=
  ⟨Nat.le_trans (L64_le (n := 1) (show m.natAbs < 2 ^ (64 * 1) by omega)) (by decide), he.1, he.2, fun h => by omega, fun _ => hm⟩
theorem L32_tiny {n : Nat} (h : n < 4294967296) : L32 n ≤ 1 := L32_le (show n < 2 ^ (32 * 1) by omega)
theorem s_whole (i : Int) (hi : i ≠ 0) (hb : -1000 ≤ i ∧ i ≤ 1000) : FC Tryz.prog G 52 [.val (.int .i64 i)] (· = DY i 0) := by
  have f1 := r_small (G := G) i (by dsimp only [inR]; omega)
  have f2 := r_small (G := G) (0 - i) (by dsimp only [inR]; omega)
  have f3 := r_to (G := G) i.toNat (Nat.le_trans (L32_tiny (by omega)) (by decide))
  have f4 := r_to (G := G) (0 - i).toNat (Nat.le_trans (L32_tiny (by omega)) (by decide))
  refine FC.intro (X := XX) tok Tryz.func52 rfl Tryz.ntmps52 (by rw [Tryz.results52]) (by kernel_rfl) rfl ?_; intro F hG hO
  rw [← hG] at f1 f2 f3 f4
  repeat' ((try (conv => whnf)); first
  | ((with_reducible refine cg ?_); first | refine ceq f1 rfl ?_ | refine ceq f2 rfl ?_ | refine ceq f3 rfl ?_ | refine ceq f4 rfl ?_)
  
  | with_reducible first
    | refine wrap_g (by dsimp only [inR]; omega) ?_
    | refine BothG.mk ?_ ?_ | refine fork_tt ?_ | refine fork_ff ?_
    | (refine fork_e (c := true) (by decide) ?_; refine fork_tt ?_) | (refine fork_e (c := false) (by decide) ?_; refine fork_ff ?_)
    | refine fork_t (by omega) ?_ | refine fork_f (by omega) ?_ | (refine fork_d ?_ ?_ <;> intro hc) | refine fork_n ?_ | (refine fork_b ?_ ?_ <;> intro hc)
    | refine fz_all (by omega) ?_ | (refine smk ?_ ?_; constructor))
  · exact ⟨ret_e (by unfold DY; rw [decide_eq_true (show i < 0 by omega), show i.natAbs = (0 - i).toNat by omega])⟩
  · exact ⟨ret_e (by unfold DY; rw [decide_eq_false (show ¬ i < 0 by omega), show i.natAbs = i.toNat by omega])⟩
theorem s_from (i j : Int) (hi : i ≠ 0) (hj : j ≠ 0) (hb : -1000 ≤ i ∧ i ≤ 1000) (hc : -1000 ≤ j ∧ j ≤ 1000) : FC Tryz.prog G 16 [.val (.int .i64 i), .val (.int .i64 j)] (· = SP (i, 0) (j, 0)) := by
  have f1 := s_whole (G := G) i hi hb
  have f2 := s_whole (G := G) j hj hc
  refine FC.intro (X := XX) tok Tryz.func16 rfl Tryz.ntmps16 (by rw [Tryz.results16]) (by kernel_rfl) rfl ?_; intro F hG hO
  rw [← hG] at f1 f2
  repeat' ((try (conv => whnf)); first
  | ((with_reducible refine cg ?_); first | refine ceq f1 rfl ?_ | refine ceq f2 rfl ?_)
  
  | with_reducible first
    | refine BothG.mk ?_ ?_ | refine fork_tt ?_ | refine fork_ff ?_
    | (refine fork_e (c := true) (by decide) ?_; refine fork_tt ?_) | (refine fork_e (c := false) (by decide) ?_; refine fork_ff ?_)
    | refine fork_t (by omega) ?_ | refine fork_f (by omega) ?_ | (refine fork_d ?_ ?_ <;> intro hc) | refine fork_n ?_ | (refine fork_b ?_ ?_ <;> intro hc)
    | refine fz_all (by omega) ?_ | (refine smk ?_ ?_; constructor))
  exact ⟨ret_e rfl⟩
theorem lt_same {n m k : Int} : VV n k < VV m k ↔ n < m := by
  have h := VV_le (a := m) (b := n) (k := k)
  omega
theorem lst2_same (n m k : Int) : lst2 (n, k) (m, k) = if m < n then (m, k) else (n, k) := by
  unfold lst2 D2.v
  by_cases h : m < n
  · rw [if_pos h, if_pos (lt_same.2 h)]
  · rw [if_neg h, if_neg (fun hh => h (lt_same.1 hh))]
theorem gst2_same (n m k : Int) : gst2 (n, k) (m, k) = if n < m then (m, k) else (n, k) := by
  unfold gst2 D2.v
  by_cases h : n < m
  · rw [if_pos h, if_pos (lt_same.2 h)]
  · rw [if_neg h, if_neg (fun hh => h (lt_same.1 hh))]
theorem mul_tiny {n m : Int} (hm : (n * m) % 2 = 1) (hb : -1000 ≤ n * m ∧ n * m ≤ 1000) : toAn (mulP (n, 0) (m, 0)) = ⟨n * m, 0, 0⟩ := by
  refine toAn_of ?_
  show mulS n 0 m 0 = dyR (n * m) 0
  have g := Good.tiny (e := 0) hm hb (by decide)
  unfold mulS
  rw [if_neg (by have := g.1; omega), Int.add_zero]
  exact told_good g
theorem cut_tiny {n e : Int} (up : Bool) (g : Good n e) (hb : (bl n.natAbs : Int) ≤ 10) : toAn (cutsS n e 10 up) = ⟨n, e, 0⟩ := toAn_of (cuts_same up g (by decide) hb)
theorem aw_add1 : toAn (addP (1, 0) (5, 0)) = ⟨3, 1, 0⟩ := by
  refine toAn_of ?_
  show addS 1 0 5 0 = dyR 3 1
  unfold addS
  rw [if_neg (by decide), if_neg (by decide), if_neg (by decide +kernel), if_neg (by decide +kernel)]
  exact told_eq (by decide) (Good.tiny (m := 3) (e := 1) (by decide) (by decide) (by decide)) (by rw [VV_low (n := 3) (e := 1) (k := 0) (by decide) (by decide)]; rfl)
theorem aw_add2 : toAn (addP (3, 0) (7, 0)) = ⟨5, 1, 0⟩ := by
  refine toAn_of ?_
  show addS 3 0 7 0 = dyR 5 1
  unfold addS
  rw [if_neg (by decide), if_neg (by decide), if_neg (by decide +kernel), if_neg (by decide +kernel)]
  exact told_eq (by decide) (Good.tiny (m := 5) (e := 1) (by decide) (by decide) (by decide)) (by rw [VV_low (n := 5) (e := 1) (k := 0) (by decide) (by decide)]; rfl)
theorem out_tiny {n e m f : Int} (g : Good n e) (h : Good m f) (hb : (bl n.natAbs : Int) ≤ 10) (hc : (bl m.natAbs : Int) ≤ 10) : outP (n, e) (m, f) 10 = spR (n, e) (m, f) := by
  unfold outP
  rw [show toAn (cutsS (n, e).1 (n, e).2 10 false) = ⟨n, e, 0⟩ from cut_tiny false g hb, show toAn (cutsS (m, f).1 (m, f).2 10 true) = ⟨m, f, 0⟩ from cut_tiny true h hc]
  exact bothA_ok rfl rfl
theorem aw_add : sumP (1, 0) (3, 0) (5, 0) (7, 0) 10 = spR (3, 1) (5, 1) := by
  unfold sumP
  rw [aw_add1, aw_add2, if_neg (by decide)]
  exact out_tiny (Good.tiny (by decide) (by decide) (by decide)) (Good.tiny (by decide) (by decide) (by decide)) (by decide +kernel) (by decide +kernel)
theorem aw_mul : spMul (-3, 0) (5, 0) (-7, 0) (1, 0) 10 = spR (-35, 0) (21, 0) := by
  unfold spMul least4 great4
  rw [mul_tiny (n := -3) (m := -7) (by decide) (by decide), mul_tiny (n := -3) (m := 1) (by decide) (by decide), mul_tiny (n := 5) (m := -7) (by decide) (by decide), mul_tiny (n := 5) (m := 1) (by decide) (by decide), if_neg (by decide)]
  have e1 : lst2 (lst2 (lst2 (An.d ⟨-3 * -7, 0, 0⟩) (An.d ⟨-3 * 1, 0, 0⟩)) (An.d ⟨5 * -7, 0, 0⟩)) (An.d ⟨5 * 1, 0, 0⟩) = (-35, 0) := by
    unfold An.d
    rw [lst2_same, if_pos (by decide), lst2_same, if_pos (by decide), lst2_same, if_neg (by decide)]; rfl
  have e2 : gst2 (gst2 (gst2 (An.d ⟨-3 * -7, 0, 0⟩) (An.d ⟨-3 * 1, 0, 0⟩)) (An.d ⟨5 * -7, 0, 0⟩)) (An.d ⟨5 * 1, 0, 0⟩) = (21, 0) := by
    unfold An.d
    rw [gst2_same, if_neg (by decide), gst2_same, if_neg (by decide), gst2_same, if_neg (by decide)]; rfl
  rw [e1, e2]
  exact out_tiny (Good.tiny (by decide) (by decide) (by decide)) (Good.tiny (by decide) (by decide) (by decide)) (by decide +kernel) (by decide +kernel)
theorem tiny_4096 {n : Int} (h : -1000 ≤ n ∧ n ≤ 1000) : L64 n.natAbs ≤ 4096 := Nat.le_trans (L64_le (n := 1) (show n.natAbs < 2 ^ (64 * 1) by omega)) (by decide)
theorem aw_q1 : toAn (quoP (1, 0) (1, 0) 10 false) = ⟨1, 0, 0⟩ := by
  refine toAn_of ?_
  show quoS 1 0 1 0 10 false = dyR 1 0
  rw [quoS_ok (by decide) (by decide) (tiny_4096 (by decide)) (tiny_4096 (by decide)), show quoK 1 1 10 1 = 11 by decide +kernel, show docQ 1 1 (11 : Int).toNat false = 2048 by decide +kernel]
  unfold cutS
  rw [if_neg (by decide +kernel), show wholeS 2048 ((bl (Int.natAbs 2048) : Int) - 10) false = 512 by decide +kernel, show (0 - 0 - 11 : Int) + ((bl (Int.natAbs 2048) : Int) - 10) = -9 by decide +kernel]
  exact told_eq (by decide) (Good.tiny (m := 1) (e := 0) (by decide) (by decide) (by decide)) (by rw [VV_low (n := 1) (e := 0) (k := -9) (by decide) (by decide)]; rfl)
theorem aw_q2 : toAn (quoP (3, 0) (1, 0) 10 true) = ⟨3, 0, 0⟩ := by
  refine toAn_of ?_
  show quoS 3 0 1 0 10 true = dyR 3 0
  rw [quoS_ok (by decide) (by decide) (tiny_4096 (by decide)) (tiny_4096 (by decide)), show quoK 3 1 10 1 = 10 by decide +kernel, show docQ 3 1 (10 : Int).toNat true = 3072 by decide +kernel]
  unfold cutS
  rw [if_neg (by decide +kernel), show wholeS 3072 ((bl (Int.natAbs 3072) : Int) - 10) true = 768 by decide +kernel, show (0 - 0 - 10 : Int) + ((bl (Int.natAbs 3072) : Int) - 10) = -8 by decide +kernel]
  exact told_eq (by decide) (Good.tiny (m := 3) (e := 0) (by decide) (by decide) (by decide)) (by rw [VV_low (n := 3) (e := 0) (k := -8) (by decide) (by decide)]; rfl)
theorem aw_quo : spQuo (1, 0) (3, 0) (1, 0) (1, 0) 10 = spR (1, 0) (3, 0) := by
  unfold spQuo spQuoPos
  rw [if_pos (by decide), if_neg (by decide), if_neg (by decide), aw_q1, aw_q2]
  exact bothA_ok rfl rfl
theorem tinyS {n m : Int} (hn : n % 2 = 1 ∧ -1000 ≤ n ∧ n ≤ 1000) (hm : m % 2 = 1 ∧ -1000 ≤ m ∧ m ≤ 1000) (h : n ≤ m) : GoodS (n, 0) (m, 0) :=
  ⟨Good.tiny (e := 0) hn.1 hn.2 (by decide), Good.tiny (e := 0) hm.1 hm.2 (by decide), VV_le.2 h⟩
theorem s_awake {g : List (Nat × List Value)} (hD : (0, debT.map (Value.int .u8)) ∈ g) : FC Tryz.prog g 13 [] (· = .val (.bool true)) := by
  have n0 := s_from (G := g) (1) (3) (by decide) (by decide) (by decide) (by decide)
  have n1 := s_from (G := g) (5) (7) (by decide) (by decide) (by decide) (by decide)
  have n2 := s_from (G := g) (-3) (5) (by decide) (by decide) (by decide) (by decide)
  have n3 := s_from (G := g) (-7) (1) (by decide) (by decide) (by decide) (by decide)
  have n4 := s_from (G := g) (1) (1) (by decide) (by decide) (by decide) (by decide)
  have n5 := s_from (G := g) (-35) (21) (by decide) (by decide) (by decide) (by decide)
  have f1 := p_add hD (tinyS (n := 1) (m := 3) (by decide) (by decide) (by decide)) (tinyS (n := 5) (m := 7) (by decide) (by decide) (by decide)) (p := 10) (by decide)
  rw [aw_add] at f1
  have f2 := p_mul hD (tinyS (n := -3) (m := 5) (by decide) (by decide) (by decide)) (tinyS (n := -7) (m := 1) (by decide) (by decide) (by decide)) (p := 10) (by decide)
  rw [aw_mul] at f2
  have f3 := p_quo hD (tinyS (n := 1) (m := 3) (by decide) (by decide) (by decide)) (tinyS (n := 1) (m := 1) (by decide) (by decide) (by decide)) (p := 10) (by decide)
  rw [aw_quo] at f3
  have g1 := q_same_t (G := g) (a := (-35, 0)) (b := (21, 0)) (Good.tiny (by decide) (by decide) (by decide)) (Good.tiny (by decide) (by decide) (by decide))
  have g2 := q_same_t (G := g) (a := (1, 0)) (b := (3, 0)) (Good.tiny (by decide) (by decide) (by decide)) (Good.tiny (by decide) (by decide) (by decide))
  have g3 := q_same_t (G := g) (a := (3, 1)) (b := (5, 1)) (Good.tiny (by decide) (by decide) (by decide)) (Good.tiny (by decide) (by decide) (by decide))
  have w1 := s_whole (G := g) 3 (by decide) (by decide)
  have w2 := s_whole (G := g) 5 (by decide) (by decide)
  refine FC.intro (X := XX) tok Tryz.func13 rfl Tryz.ntmps13 (by rw [Tryz.results13]) (by kernel_rfl) rfl ?_; intro F hG hO
  rw [← hG] at n0 n1 n2 n3 n4 n5 f1 f2 f3 g1 g2 g3 w1 w2
  repeat' ((try (conv => whnf)); first
  | ((with_reducible refine cg ?_); first | refine ceq n0 rfl ?_ | refine ceq n1 rfl ?_ | refine ceq n2 rfl ?_ | refine ceq n3 rfl ?_ | refine ceq n4 rfl ?_ | refine ceq n5 rfl ?_ | refine ceq f1 rfl ?_ | refine ceq f2 rfl ?_ | refine ceq f3 rfl ?_ | refine ceq g1 rfl ?_ | refine ceq g2 rfl ?_ | refine ceq g3 rfl ?_ | refine ceq w1 rfl ?_ | refine ceq w2 rfl ?_)
  
  | (with_reducible refine draw_g (id := 4) [[0, 1, 2, 3, 4, 5, 6, 7, 8, 9, 10, 11, 12, 13, 14, 15, 16, 17, 18, 19, 20, 21]] tok mixed (by kernel_rfl) ?_)
  | with_reducible first
    | refine BothG.mk ?_ ?_ | refine fork_tt ?_ | refine fork_ff ?_
    | (refine fork_e (c := true) (by decide) ?_; refine fork_tt ?_) | (refine fork_e (c := false) (by decide) ?_; refine fork_ff ?_)
    | refine fork_t (by omega) ?_ | refine fork_f (by omega) ?_ | (refine fork_d ?_ ?_ <;> intro hc) | refine fork_n ?_ | (refine fork_b ?_ ?_ <;> intro hc)
    | refine fz_all (by omega) ?_ | (refine smk ?_ ?_; constructor))
  all_goals exact ⟨ret_e rfl⟩
end Go.Proofs.YtpjbgmafnheomaaGreatDoor.Sim
namespace Go.Proofs.YtpjbgmafnheomaaGreatDoor.Sim
open Go.RowKit
set_option linter.unusedVariables false
set_option linter.unusedSimpArgs false
theorem tup_inj {x y c x' y' c' : Int} (h : PV.tup [DY x y, .val (.int .i64 c)] = .tup [DY x' y', .val (.int .i64 c')]) : x = x' ∧ y = y' ∧ c = c' := by
  simp only [PV.tup.injEq, List.cons.injEq, PV.val.injEq, Value.int.injEq, true_and, and_true] at h
  obtain ⟨h1, h2⟩ := h
  obtain ⟨h3, h4⟩ := DY_inj h1
  exact ⟨h3, h4, h2⟩
theorem told_inv {s k x y : Int} (h : toldS s k = .tup [DY x y, .val (.int .i64 0)]) : (s = 0 ∧ x = 0 ∧ y = 0) ∨ (s ≠ 0 ∧ x = s / 2 ^ tz s.natAbs ∧ y = k + tz s.natAbs ∧ s = x * 2 ^ tz s.natAbs) := by
  have hE : dyE 5 ≠ .tup [DY x y, .val (.int .i64 0)] := fun hh => by
    have := (tup_inj hh).2.2
    exact absurd this (by decide)
  unfold toldS at h
  by_cases h0 : s = 0
  · rw [if_pos h0] at h
    have := tup_inj h
    exact .inl ⟨h0, this.1.symm, this.2.1.symm⟩
  · rw [if_neg h0] at h
    split at h
    · exact absurd h hE
    · split at h
      · exact absurd h hE
      · split at h
        · exact absurd h hE
        · split at h
          · exact absurd h hE
          · split at h
            · exact absurd h hE
            · have h1 := tup_inj h
              obtain ⟨h2, _⟩ := odd_div (n := s.natAbs) (by omega)
              obtain ⟨t, ht⟩ : ∃ t, t = tz s.natAbs := ⟨_, rfl⟩
              rw [← ht] at h1 h2 ⊢
              refine .inr ⟨h0, h1.1.symm, h1.2.1.symm, ?_⟩
              have hs : s = sg (decide (s < 0)) (s.natAbs / 2 ^ t) * 2 ^ t := by rw [← sg_pow, ← h2, sg_of]
              rw [← h1.1]
              have hd : s / 2 ^ t = sg (decide (s < 0)) (s.natAbs / 2 ^ t) := by
                conv => lhs; rw [hs]
                exact Int.mul_ediv_cancel _ (Int.ne_of_gt (p2_pos t))
              rw [hd]
              exact hs
theorem told_Vc {c s k x y : Int} (hk : -c ≤ k) (h : toldS s k = .tup [DY x y, .val (.int .i64 0)]) : Vc c x y = Vc c s k := by
  rcases told_inv h with ⟨h1, h2, h3⟩ | ⟨h1, h2, h3, h4⟩
  · rw [h1, h2]; unfold Vc; rw [Int.zero_mul, Int.zero_mul]
  · obtain ⟨t, ht⟩ : ∃ t, t = tz s.natAbs := ⟨_, rfl⟩
    rw [← ht] at h3 h4
    unfold Vc
    rw [h3, show (k + (t : Int) + c).toNat = t + (k + c).toNat by omega, Int.pow_add, ← Int.mul_assoc, ← h4]
def An.neg (a : An) : An := ⟨-a.x, a.y, a.c⟩
theorem An.neg_d (a : An) : a.neg.d = a.d.neg := rfl
theorem dyR_an (n e : Int) : toAn (dyR n e) = ⟨n, e, 0⟩ := toAn_tup n e 0
theorem dyE_an (c : Int) : toAn (dyE c) = ⟨0, 0, c⟩ := toAn_tup 0 0 c
theorem told_neg (s k : Int) : toAn (toldS (-s) k) = (toAn (toldS s k)).neg := by
  have hE : (⟨0, 0, 5⟩ : An) = An.neg ⟨0, 0, 5⟩ := rfl
  unfold toldS
  rw [Int.natAbs_neg]
  by_cases h0 : s = 0
  · rw [if_pos h0, if_pos (by omega), dyE_an]; rfl
  · rw [if_neg h0, if_neg (by omega)]
    repeat' split
    all_goals first
      | (rw [dyE_an]; exact hE)
      | (rw [dyR_an, dyR_an]
         obtain ⟨h2, _⟩ := odd_div (n := s.natAbs) (by omega)
         obtain ⟨t, ht⟩ : ∃ t, t = tz s.natAbs := ⟨_, rfl⟩
         rw [← ht] at h2 ⊢
         have hs : s = sg (decide (s < 0)) (s.natAbs / 2 ^ t) * 2 ^ t := by rw [← sg_pow, ← h2, sg_of]
         have hp : (2 : Int) ^ t ≠ 0 := Int.ne_of_gt (p2_pos t)
         have hd : (-s) / 2 ^ t = -(s / 2 ^ t) := by
           obtain ⟨z, hz⟩ : ∃ z, z = sg (decide (s < 0)) (s.natAbs / 2 ^ t) := ⟨_, rfl⟩
           rw [← hz] at hs
           rw [hs, ← Int.neg_mul, Int.mul_ediv_cancel _ hp, Int.mul_ediv_cancel _ hp]
         rw [hd]
         rfl)
theorem whole_neg (n k : Int) (up : Bool) : wholeS (-n) k up = -wholeS n k (!up) := by
  cases up
  · show (-n) / 2 ^ k.toNat = -(-((-n) / 2 ^ k.toNat)); rw [Int.neg_neg]
  · show -((- -n) / 2 ^ k.toNat) = -(n / 2 ^ k.toNat); rw [Int.neg_neg]
theorem cuts_neg (n e p : Int) (up : Bool) : toAn (cutsS (-n) e p up) = (toAn (cutsS n e p (!up))).neg := by
  unfold cutsS cutS
  rw [Int.natAbs_neg, whole_neg]
  repeat' split
  · rw [dyE_an]; rfl
  · rw [dyE_an]; rfl
  · exact told_neg _ _
  · exact told_neg _ _
/-! ### cut down lies below, cut up above -/
theorem cut_low {a : D2} (h : a.good) {p : Int} (hp : 1 ≤ p ∧ p ≤ 70000) (hc : (toAn (cutsS a.1 a.2 p false)).c = 0) : (toAn (cutsS a.1 a.2 p false)).d.v ≤ a.v := by
  obtain ⟨h1, _, _⟩ := (cuts_ans a hp false).eq
  obtain ⟨u, hu⟩ : ∃ u, u = toAn (cutsS a.1 a.2 p false) := ⟨_, rfl⟩
  rw [← hu] at h1 hc ⊢
  unfold An.pv at h1
  rw [hc] at h1
  by_cases hb : (bl a.1.natAbs : Int) ≤ p
  · rw [cuts_same false h hp hb] at h1
    have := tup_inj h1
    show VV u.x u.y ≤ VV a.1 a.2
    rw [← this.1, ← this.2.1]
    exact Int.le_refl _
  · rw [cuts_down hp (by omega)] at h1
    have e1 := h.2.1
    have hv := told_Vc (c := 1048576) (by omega) h1
    obtain ⟨j, hj⟩ : ∃ j : Nat, (j : Int) = (bl a.1.natAbs : Int) - p := ⟨((bl a.1.natAbs : Int) - p).toNat, by omega⟩
    rw [← hj, Int.toNat_natCast] at hv
    show Vc 1048576 u.x u.y ≤ Vc 1048576 a.1 a.2
    rw [hv]
    unfold Vc
    rw [show (a.2 + (j : Int) + 1048576).toNat = j + (a.2 + 1048576).toNat by omega, Int.pow_add, ← Int.mul_assoc]
    exact mr (Int.ediv_mul_le _ (Int.ne_of_gt (p2_pos j))) (Int.le_of_lt (p2_pos _))
theorem An.d_good {p : PV} (h : Ans p) : (toAn p).d.good := h.eq.2.1
end Go.Proofs.YtpjbgmafnheomaaGreatDoor.Sim
namespace Go.Proofs.YtpjbgmafnheomaaGreatDoor.Sim
open Go.RowKit
set_option linter.unusedVariables false
set_option linter.unusedSimpArgs false
set_option maxRecDepth 10000
set_option maxHeartbeats 8000000
variable {G : List (Nat × List Value)}
end Go.Proofs.YtpjbgmafnheomaaGreatDoor.Sim
namespace Go.Proofs.YtpjbgmafnheomaaGreatDoor.Sim
open Go.RowKit
set_option linter.unusedVariables false
set_option linter.unusedSimpArgs false
/-! ### products and quotients by their values -/
theorem Vc_two {n e : Int} (he : -1048576 ≤ e) : Vc 2097152 n e = VV n e * 2 ^ 1048576 := by
  unfold Vc VV
  rw [Int.mul_assoc, ← Int.pow_add]
  congr 2
  omega
theorem cut_Vc {s E p c : Int} {x y : Int} (hE : -c ≤ E) (h : cutS s E p false = .tup [DY x y, .val (.int .i64 0)]) : Vc c x y ≤ Vc c s E := by
  unfold cutS at h
  split at h
  · exact Int.le_of_eq (told_Vc hE h)
  · rename_i hb
    obtain ⟨j, hj⟩ : ∃ j : Nat, (j : Int) = (bl s.natAbs : Int) - p := ⟨((bl s.natAbs : Int) - p).toNat, by omega⟩
    rw [← hj] at h
    have hv := told_Vc (c := c) (by omega) h
    rw [hv]
    have hw : wholeS s (j : Int) false = s / 2 ^ j := by show s / 2 ^ ((j : Int)).toNat = _; rw [Int.toNat_natCast]
    rw [hw]
    unfold Vc
    rw [show (E + (j : Int) + c).toNat = j + (E + c).toNat by omega, Int.pow_add, ← Int.mul_assoc]
    exact mr (Int.ediv_mul_le _ (Int.ne_of_gt (p2_pos j))) (Int.le_of_lt (p2_pos _))
theorem quo_low {a b : D2} (h : a.good) (g : b.good) (hb : 0 < b.1) {p : Int} (hp : 1 ≤ p ∧ p ≤ 70000) (hc : (toAn (quoP a b p false)).c = 0) : (toAn (quoP a b p false)).d.v * b.v ≤ a.v * 2 ^ 1048576 := by
  obtain ⟨h1, gu, _⟩ := (quo_ans (a := a) (b := b) hp (by omega) false).eq
  obtain ⟨u, hu⟩ : ∃ u, u = toAn (quoP a b p false) := ⟨_, rfl⟩
  rw [← hu] at h1 hc gu ⊢
  unfold An.pv at h1
  rw [hc] at h1
  have hE : dyE 5 ≠ .tup [DY u.x u.y, .val (.int .i64 0)] := fun hh => absurd (tup_inj hh).2.2 (by decide)
  have e1 := h.2.1
  have e2 := g.2.1
  have e3 := g.2.2.1
  have e4 := gu.2.1
  unfold quoP quoS at h1
  rw [if_neg (by omega), if_neg (by omega), if_neg (by omega)] at h1
  split at h1
  · exact absurd h1 hE
  · rename_i l1
    split at h1
    · exact absurd h1 hE
    · rename_i l2
      have hbl := bl_L64 b.1.natAbs
      have hk : quoK a.1 b.1 p 1 = max 0 (p + 1 + bl b.1.natAbs - bl a.1.natAbs) := rfl
      obtain ⟨k, hkk⟩ : ∃ k : Nat, (k : Int) = quoK a.1 b.1 p 1 := ⟨(quoK a.1 b.1 p 1).toNat, by omega⟩
      rw [← hkk, Int.toNat_natCast] at h1
      obtain ⟨c, hcc⟩ : ∃ c : Int, c = 4194304 := ⟨_, rfl⟩
      have hv := cut_Vc (c := c) (by omega) h1
      obtain ⟨s, hs⟩ : ∃ s, s = docQ a.1 b.1 k false := ⟨_, rfl⟩
      have hsm : s * b.1 ≤ a.1 * 2 ^ k := by
        rw [hs]
        show (a.1 * 2 ^ k).fdiv b.1 * b.1 ≤ a.1 * 2 ^ k
        rw [Int.fdiv_eq_ediv_of_nonneg _ (by omega)]
        exact Int.ediv_mul_le _ (by omega)
      rw [← hs] at hv
      -- everything in parts of 2^-c
      have k1 : u.x * 2 ^ (u.y + c).toNat * b.1 ≤ a.1 * 2 ^ (a.2 - b.2 + c).toNat := by
        unfold Vc at hv
        have m1 := mr hv (Int.le_of_lt hb)
        refine Int.le_trans m1 ?_
        rw [Int.mul_right_comm]
        have m2 := mr hsm (Int.le_of_lt (p2_pos (a.2 - b.2 - (k : Int) + c).toNat))
        refine Int.le_trans m2 ?_
        rw [Int.mul_assoc, ← Int.pow_add, show k + (a.2 - b.2 - (k : Int) + c).toNat = (a.2 - b.2 + c).toNat by omega]
        exact Int.le_refl _
      have k2 := mr k1 (Int.le_of_lt (p2_pos (b.2 + 2097152).toNat))
      have t1 : (VV u.x u.y * VV b.1 b.2) * 2 ^ c.toNat = u.x * 2 ^ (u.y + c).toNat * b.1 * 2 ^ (b.2 + 2097152).toNat := by
        have r : u.x * 2 ^ (u.y + c).toNat * b.1 * 2 ^ (b.2 + 2097152).toNat = u.x * b.1 * 2 ^ ((u.y + c).toNat + (b.2 + 2097152).toNat) := by
          rw [Int.mul_right_comm u.x, Int.mul_assoc, ← Int.pow_add]
        rw [r, Vc_mul e4 e2]
        unfold Vc
        rw [Int.mul_assoc, ← Int.pow_add, show (u.y + b.2 + 2097152).toNat + c.toNat = (u.y + c).toNat + (b.2 + 2097152).toNat by omega]
      have t2 : (VV a.1 a.2 * 2 ^ 1048576) * 2 ^ c.toNat = a.1 * 2 ^ (a.2 - b.2 + c).toNat * 2 ^ (b.2 + 2097152).toNat := by
        rw [← Vc_two e1]
        unfold Vc
        rw [Int.mul_assoc, ← Int.pow_add, Int.mul_assoc a.1, ← Int.pow_add, show (a.2 + 2097152).toNat + c.toNat = (a.2 - b.2 + c).toNat + (b.2 + 2097152).toNat by omega]
      show VV u.x u.y * VV b.1 b.2 ≤ VV a.1 a.2 * 2 ^ 1048576
      refine Int.le_of_mul_le_mul_right ?_ (p2_pos c.toNat)
      rw [t1, t2]
      exact k2
theorem docQ_neg (n m : Int) (s : Nat) (up : Bool) : docQ (-n) m s up = -docQ n m s (!up) := by
  cases up
  · show ((-n) * 2 ^ s).fdiv m = - -((-(n * 2 ^ s)).fdiv m)
    rw [Int.neg_neg, Int.neg_mul]
  · show -((-((-n) * 2 ^ s)).fdiv m) = -((n * 2 ^ s).fdiv m)
    rw [Int.neg_mul, Int.neg_neg]
theorem cutS_neg (n e p : Int) (up : Bool) : toAn (cutS (-n) e p up) = (toAn (cutS n e p (!up))).neg := by
  unfold cutS
  rw [Int.natAbs_neg, whole_neg]
  split
  · exact told_neg _ _
  · exact told_neg _ _
theorem quo_neg1 (a b : D2) (p : Int) (up : Bool) (hp : 1 ≤ p ∧ p ≤ 70000) (h0 : b.1 ≠ 0) : toAn (quoP a.neg b p up) = (toAn (quoP a b p (!up))).neg := by
  have e1 : quoK (-a.1) b.1 p 1 = quoK a.1 b.1 p 1 := by unfold quoK; rw [Int.natAbs_neg]
  have en : L64 (-a.1).natAbs = L64 a.1.natAbs := by rw [Int.natAbs_neg]
  show toAn (quoS (-a.1) a.2 b.1 b.2 p up) = (toAn (quoS a.1 a.2 b.1 b.2 p (!up))).neg
  by_cases hl : L64 a.1.natAbs ≤ 4096 ∧ L64 b.1.natAbs ≤ 4096
  · rw [quoS_ok hp h0 (by omega) hl.2, quoS_ok hp h0 hl.1 hl.2, e1, docQ_neg]
    exact cutS_neg _ _ _ _
  · rw [quoS_5 hp h0 (by omega), quoS_5 hp h0 (by omega), dyE_an]
    rfl
theorem quo_high {a b : D2} (h : a.good) (g : b.good) (hb : 0 < b.1) {p : Int} (hp : 1 ≤ p ∧ p ≤ 70000) (hc : (toAn (quoP a b p true)).c = 0) : a.v * 2 ^ 1048576 ≤ (toAn (quoP a b p true)).d.v * b.v := by
  have e := quo_neg1 a b p false hp (by omega)
  have h1 := quo_low (D2.neg_good h) g hb hp (by rw [e]; exact hc)
  rw [e, An.neg_d, D2.neg_v, D2.neg_v, Int.neg_mul, Int.neg_mul] at h1
  have : (!false) = true := rfl
  rw [this] at h1
  omega
end Go.Proofs.YtpjbgmafnheomaaGreatDoor.Sim
namespace Go.Proofs.YtpjbgmafnheomaaGreatDoor.Sim
open Go.RowKit
set_option linter.unusedVariables false
set_option linter.unusedSimpArgs false
end Go.Proofs.YtpjbgmafnheomaaGreatDoor.Sim
namespace Go.Proofs.YtpjbgmafnheomaaGreatDoor.Sim
open Go.RowKit
set_option linter.unusedVariables false
set_option linter.unusedSimpArgs false
set_option maxRecDepth 10000
set_option maxHeartbeats 8000000
variable {G : List (Nat × List Value)}
end Go.Proofs.YtpjbgmafnheomaaGreatDoor.Sim
namespace Go.Proofs.YtpjbgmafnheomaaGreatDoor.Sim
open Go.RowKit
set_option linter.unusedVariables false
set_option linter.unusedSimpArgs false
set_option maxRecDepth 10000
set_option maxHeartbeats 8000000
variable {G : List (Nat × List Value)}
theorem LZ_bound {a : Int} (h : (bl a.natAbs : Int) ≤ 2097152) : LZ a ≤ 65537 := by
  have := L32_bl a.natAbs
  unfold LZ
  omega
theorem s_hold (a i b j : Int) (ha : (bl a.natAbs : Int) ≤ 2097152) (hb : (bl b.natAbs : Int) ≤ 2097152) (hi : -8388608 ≤ i ∧ i ≤ 8388608) (hj : -8388608 ≤ j ∧ j ≤ 8388608) : FC Tryz.prog G 39 [ZI a, .val (.int .i64 i), ZI b, .val (.int .i64 j)] (· = .val (.int .i64 (holdS a i b j))) := by
  rw [← hold_eq]
  have la := LZ_bound ha
  have lb := LZ_bound hb
  have f1 := r_sign (G := G) a
  have f2 := r_sign (G := G) b
  have sa := sign_bd a
  have sb := sign_bd b
  have f3 := r_of (G := G) a.sign (by dsimp only [inR]; omega)
  have f4 := r_of (G := G) b.sign (by dsimp only [inR]; omega)
  have f5 := r_zcmp (G := G) a.sign b.sign (Nat.le_trans (LZ_small _ (by omega)) (by decide)) (Nat.le_trans (LZ_small _ (by omega)) (by decide))
  have f6 := r_bits (G := G) a.natAbs (by unfold LZ at la; omega)
  have f7 := r_bits (G := G) b.natAbs (by unfold LZ at lb; omega)
  unfold holdC
  by_cases hs : a.sign ≠ b.sign ∨ a.sign = 0
  · rw [if_pos hs]
    obtain ⟨s, hs1⟩ : ∃ s, s = a.sign := ⟨_, rfl⟩
    obtain ⟨t, ht1⟩ : ∃ s, s = b.sign := ⟨_, rfl⟩
    rw [← hs1] at f1 f3 f5 hs sa ⊢
    rw [← ht1] at f2 f4 f5 hs sb ⊢
    clear hs1 ht1
    by_cases hne : s = t
    · have h0 : s = 0 := by omega
      clear hs
      refine FC.intro (X := XX) tok Tryz.func39 rfl Tryz.ntmps39 (by rw [Tryz.results39]) (by kernel_rfl) rfl ?_; intro F hG hO
      rw [← hG] at f1 f2 f3 f4 f5
      repeat' ((try (conv => whnf)); first
  | ((with_reducible refine cg ?_); first | refine ceq f1 rfl ?_ | refine ceq f2 rfl ?_ | refine ceq f3 rfl ?_ | refine ceq f4 rfl ?_ | refine ceq f5 rfl ?_)
  
  | (with_reducible refine draw_g (id := 3) [[0, 2, 1, 3, 4, 5, 6]] tok mixed (by kernel_rfl) ?_)
  | (with_reducible refine draw_g (id := 4) [[0, 1, 3, 5, 6, 8, 2, 4, 7, 9, 10, 11]] tok mixed (by kernel_rfl) ?_)
  | (with_reducible refine draw_g (id := 10) [[0, 1, 2, 3, 5, 4, 6, 7]] tok mixed (by kernel_rfl) ?_)
  | (with_reducible refine draw_g (id := 11) [[0, 1, 2, 3, 4, 5, 6, 7]] tok mixed (by kernel_rfl) ?_)
  | with_reducible first
    | refine wrap_g (by dsimp only [inR]; omega) ?_
    | refine BothG.mk ?_ ?_ | refine fork_tt ?_ | refine fork_ff ?_
    | (refine fork_e (c := true) (by decide) ?_; refine fork_tt ?_) | (refine fork_e (c := false) (by decide) ?_; refine fork_ff ?_)
    | refine fork_t (by omega) ?_ | refine fork_f (by omega) ?_ | (refine fork_d ?_ ?_ <;> intro hc) | refine fork_n ?_ | (refine fork_b ?_ ?_ <;> intro hc)
    | refine fz_all (by omega) ?_ | (refine smk ?_ ?_; constructor))
      all_goals exact ⟨ret_e rfl⟩
    · clear hs
      refine FC.intro (X := XX) tok Tryz.func39 rfl Tryz.ntmps39 (by rw [Tryz.results39]) (by kernel_rfl) rfl ?_; intro F hG hO
      rw [← hG] at f1 f2 f3 f4 f5
      repeat' ((try (conv => whnf)); first
  | ((with_reducible refine cg ?_); first | refine ceq f1 rfl ?_ | refine ceq f2 rfl ?_ | refine ceq f3 rfl ?_ | refine ceq f4 rfl ?_ | refine ceq f5 rfl ?_)
  
  | (with_reducible refine draw_g (id := 3) [[0, 2, 1, 3, 4, 5, 6]] tok mixed (by kernel_rfl) ?_)
  | (with_reducible refine draw_g (id := 4) [[0, 1, 3, 5, 6, 8, 2, 4, 7, 9, 10, 11]] tok mixed (by kernel_rfl) ?_)
  | (with_reducible refine draw_g (id := 10) [[0, 1, 2, 3, 5, 4, 6, 7]] tok mixed (by kernel_rfl) ?_)
  | (with_reducible refine draw_g (id := 11) [[0, 1, 2, 3, 4, 5, 6, 7]] tok mixed (by kernel_rfl) ?_)
  | with_reducible first
    | refine wrap_g (by dsimp only [inR]; omega) ?_
    | refine BothG.mk ?_ ?_ | refine fork_tt ?_ | refine fork_ff ?_
    | (refine fork_e (c := true) (by decide) ?_; refine fork_tt ?_) | (refine fork_e (c := false) (by decide) ?_; refine fork_ff ?_)
    | refine fork_t (by omega) ?_ | refine fork_f (by omega) ?_ | (refine fork_d ?_ ?_ <;> intro hc) | refine fork_n ?_ | (refine fork_b ?_ ?_ <;> intro hc)
    | refine fz_all (by omega) ?_ | (refine smk ?_ ?_; constructor))
      all_goals exact ⟨ret_e rfl⟩
  · rw [if_neg hs]
    have h1 : a.sign = b.sign := by omega
    have h2 : a.sign ≠ 0 := by omega
    clear hs f3 f4 f5
    have d1 := LZ_shl a (i - j).toNat
    have d2 := LZ_shl b (j - i).toNat
    by_cases ht : (bl a.natAbs : Int) + i = (bl b.natAbs : Int) + j
    · rw [if_neg (by omega)]
      by_cases hij : j ≤ i
      · have g1 := r_zshl (G := G) a (i - j) (by omega) (by dsimp only [inR]; omega) (by omega)
        have g2 := r_zcmp (G := G) (a * 2 ^ (i - j).toNat) b (by omega) (by omega)
        rw [show min i j = j by omega, show (j - j).toNat = 0 by omega, Int.pow_zero, Int.mul_one]
        obtain ⟨s, hs1⟩ : ∃ s, s = a.sign := ⟨_, rfl⟩
        obtain ⟨t, ht1⟩ : ∃ s, s = b.sign := ⟨_, rfl⟩
        rw [← hs1] at f1 h1 h2
        rw [← ht1] at f2 h1
        clear hs1 ht1 d1 d2
        refine FC.intro (X := XX) tok Tryz.func39 rfl Tryz.ntmps39 (by rw [Tryz.results39]) (by kernel_rfl) rfl ?_; intro F hG hO
        rw [← hG] at f1 f2 f6 f7 g1 g2
        repeat' ((try (conv => whnf)); first
  | ((with_reducible refine cg ?_); first | refine ceq f1 rfl ?_ | refine ceq f2 rfl ?_ | refine ceq f6 rfl ?_ | refine ceq f7 rfl ?_ | refine ceq g1 rfl ?_ | refine ceq g2 rfl ?_)
  
  | (with_reducible refine draw_g (id := 3) [[0, 2, 1, 3, 4, 5, 6]] tok mixed (by kernel_rfl) ?_)
  | (with_reducible refine draw_g (id := 4) [[0, 1, 3, 5, 6, 8, 2, 4, 7, 9, 10, 11]] tok mixed (by kernel_rfl) ?_)
  | (with_reducible refine draw_g (id := 10) [[0, 1, 2, 3, 5, 4, 6, 7]] tok mixed (by kernel_rfl) ?_)
  | (with_reducible refine draw_g (id := 11) [[0, 1, 2, 3, 4, 5, 6, 7]] tok mixed (by kernel_rfl) ?_)
  | with_reducible first
    | refine wrap_g (by dsimp only [inR]; omega) ?_
    | refine BothG.mk ?_ ?_ | refine fork_tt ?_ | refine fork_ff ?_
    | (refine fork_e (c := true) (by decide) ?_; refine fork_tt ?_) | (refine fork_e (c := false) (by decide) ?_; refine fork_ff ?_)
    | refine fork_t (by omega) ?_ | refine fork_f (by omega) ?_ | (refine fork_d ?_ ?_ <;> intro hc) | refine fork_n ?_ | (refine fork_b ?_ ?_ <;> intro hc)
    | refine fz_all (by omega) ?_ | (refine smk ?_ ?_; constructor))
        all_goals exact ⟨ret_e rfl⟩
      · have g1 := r_zshl (G := G) b (j - i) (by omega) (by dsimp only [inR]; omega) (by omega)
        have g2 := r_zcmp (G := G) a (b * 2 ^ (j - i).toNat) (by omega) (by omega)
        rw [show min i j = i by omega, show (i - i).toNat = 0 by omega, Int.pow_zero, Int.mul_one]
        obtain ⟨s, hs1⟩ : ∃ s, s = a.sign := ⟨_, rfl⟩
        obtain ⟨t, ht1⟩ : ∃ s, s = b.sign := ⟨_, rfl⟩
        rw [← hs1] at f1 h1 h2
        rw [← ht1] at f2 h1
        clear hs1 ht1 d1 d2
        refine FC.intro (X := XX) tok Tryz.func39 rfl Tryz.ntmps39 (by rw [Tryz.results39]) (by kernel_rfl) rfl ?_; intro F hG hO
        rw [← hG] at f1 f2 f6 f7 g1 g2
        repeat' ((try (conv => whnf)); first
  | ((with_reducible refine cg ?_); first | refine ceq f1 rfl ?_ | refine ceq f2 rfl ?_ | refine ceq f6 rfl ?_ | refine ceq f7 rfl ?_ | refine ceq g1 rfl ?_ | refine ceq g2 rfl ?_)
  
  | (with_reducible refine draw_g (id := 3) [[0, 2, 1, 3, 4, 5, 6]] tok mixed (by kernel_rfl) ?_)
  | (with_reducible refine draw_g (id := 4) [[0, 1, 3, 5, 6, 8, 2, 4, 7, 9, 10, 11]] tok mixed (by kernel_rfl) ?_)
  | (with_reducible refine draw_g (id := 10) [[0, 1, 2, 3, 5, 4, 6, 7]] tok mixed (by kernel_rfl) ?_)
  | (with_reducible refine draw_g (id := 11) [[0, 1, 2, 3, 4, 5, 6, 7]] tok mixed (by kernel_rfl) ?_)
  | with_reducible first
    | refine wrap_g (by dsimp only [inR]; omega) ?_
    | refine BothG.mk ?_ ?_ | refine fork_tt ?_ | refine fork_ff ?_
    | (refine fork_e (c := true) (by decide) ?_; refine fork_tt ?_) | (refine fork_e (c := false) (by decide) ?_; refine fork_ff ?_)
    | refine fork_t (by omega) ?_ | refine fork_f (by omega) ?_ | (refine fork_d ?_ ?_ <;> intro hc) | refine fork_n ?_ | (refine fork_b ?_ ?_ <;> intro hc)
    | refine fz_all (by omega) ?_ | (refine smk ?_ ?_; constructor))
        all_goals exact ⟨ret_e rfl⟩
    · rw [if_pos ht]
      obtain ⟨s, hs1⟩ : ∃ s, s = a.sign := ⟨_, rfl⟩
      obtain ⟨t, ht1⟩ : ∃ s, s = b.sign := ⟨_, rfl⟩
      rw [← hs1] at f1 h1 h2 sa ⊢
      rw [← ht1] at f2 h1
      clear hs1 ht1 d1 d2
      by_cases hlt : (bl a.natAbs : Int) + i < (bl b.natAbs : Int) + j
      · rw [if_pos hlt]
        refine FC.intro (X := XX) tok Tryz.func39 rfl Tryz.ntmps39 (by rw [Tryz.results39]) (by kernel_rfl) rfl ?_; intro F hG hO
        rw [← hG] at f1 f2 f6 f7
        repeat' ((try (conv => whnf)); first
  | ((with_reducible refine cg ?_); first | refine ceq f1 rfl ?_ | refine ceq f2 rfl ?_ | refine ceq f6 rfl ?_ | refine ceq f7 rfl ?_)
  
  | (with_reducible refine draw_g (id := 3) [[0, 2, 1, 3, 4, 5, 6]] tok mixed (by kernel_rfl) ?_)
  | (with_reducible refine draw_g (id := 4) [[0, 1, 3, 5, 6, 8, 2, 4, 7, 9, 10, 11]] tok mixed (by kernel_rfl) ?_)
  | (with_reducible refine draw_g (id := 10) [[0, 1, 2, 3, 5, 4, 6, 7]] tok mixed (by kernel_rfl) ?_)
  | (with_reducible refine draw_g (id := 11) [[0, 1, 2, 3, 4, 5, 6, 7]] tok mixed (by kernel_rfl) ?_)
  | with_reducible first
    | refine wrap_g (by dsimp only [inR]; omega) ?_
    | refine BothG.mk ?_ ?_ | refine fork_tt ?_ | refine fork_ff ?_
    | (refine fork_e (c := true) (by decide) ?_; refine fork_tt ?_) | (refine fork_e (c := false) (by decide) ?_; refine fork_ff ?_)
    | refine fork_t (by omega) ?_ | refine fork_f (by omega) ?_ | (refine fork_d ?_ ?_ <;> intro hc) | refine fork_n ?_ | (refine fork_b ?_ ?_ <;> intro hc)
    | refine fz_all (by omega) ?_ | (refine smk ?_ ?_; constructor))
        all_goals exact ⟨ret_e (by rw [show -s = 0 - s by omega])⟩
      · rw [if_neg hlt]
        refine FC.intro (X := XX) tok Tryz.func39 rfl Tryz.ntmps39 (by rw [Tryz.results39]) (by kernel_rfl) rfl ?_; intro F hG hO
        rw [← hG] at f1 f2 f6 f7
        repeat' ((try (conv => whnf)); first
  | ((with_reducible refine cg ?_); first | refine ceq f1 rfl ?_ | refine ceq f2 rfl ?_ | refine ceq f6 rfl ?_ | refine ceq f7 rfl ?_)
  
  | (with_reducible refine draw_g (id := 3) [[0, 2, 1, 3, 4, 5, 6]] tok mixed (by kernel_rfl) ?_)
  | (with_reducible refine draw_g (id := 4) [[0, 1, 3, 5, 6, 8, 2, 4, 7, 9, 10, 11]] tok mixed (by kernel_rfl) ?_)
  | (with_reducible refine draw_g (id := 10) [[0, 1, 2, 3, 5, 4, 6, 7]] tok mixed (by kernel_rfl) ?_)
  | (with_reducible refine draw_g (id := 11) [[0, 1, 2, 3, 4, 5, 6, 7]] tok mixed (by kernel_rfl) ?_)
  | with_reducible first
    | refine wrap_g (by dsimp only [inR]; omega) ?_
    | refine BothG.mk ?_ ?_ | refine fork_tt ?_ | refine fork_ff ?_
    | (refine fork_e (c := true) (by decide) ?_; refine fork_tt ?_) | (refine fork_e (c := false) (by decide) ?_; refine fork_ff ?_)
    | refine fork_t (by omega) ?_ | refine fork_f (by omega) ?_ | (refine fork_d ?_ ?_ <;> intro hc) | refine fork_n ?_ | (refine fork_b ?_ ?_ <;> intro hc)
    | refine fz_all (by omega) ?_ | (refine smk ?_ ?_; constructor))
        all_goals exact ⟨ret_e rfl⟩
end Go.Proofs.YtpjbgmafnheomaaGreatDoor.Sim
namespace Go.Proofs.YtpjbgmafnheomaaGreatDoor.Sim
open Go.RowKit
set_option linter.unusedVariables false
set_option linter.unusedSimpArgs false
set_option maxRecDepth 10000
set_option maxHeartbeats 8000000
variable {G : List (Nat × List Value)}
end Go.Proofs.YtpjbgmafnheomaaGreatDoor.Sim
namespace Go.Proofs.YtpjbgmafnheomaaGreatDoor.Sim
open Go.RowKit
set_option linter.unusedVariables false
set_option linter.unusedSimpArgs false
theorem pow_half {P : Nat} (h : 1 ≤ P) : (2 : Int) ^ P = 2 ^ (P - 1) * 2 := by rw [← Int.pow_succ]; congr 1; omega
theorem abs_lt_pow {n : Int} {P : Nat} (h : bl n.natAbs ≤ P) : -(2 ^ P) < n ∧ n < 2 ^ P := by
  have h1 := lt_bl n.natAbs
  have h2 : 2 ^ bl n.natAbs ≤ 2 ^ P := Nat.pow_le_pow_right (by decide) h
  have h3 : ((2 ^ P : Nat) : Int) = 2 ^ P := by simp
  omega
theorem abs_ge_pow {s : Int} {m : Nat} (h : m < bl s.natAbs) : s ≤ -(2 ^ m) ∨ 2 ^ m ≤ s := by
  have h1 := le_of_bl (n := s.natAbs) (fun hh => by rw [hh, bl_zero] at h; omega)
  have h2 : 2 ^ m ≤ 2 ^ (bl s.natAbs - 1) := Nat.pow_le_pow_right (by decide) (by omega)
  have h3 : ((2 ^ m : Nat) : Int) = 2 ^ m := by simp
  omega
/-- No number of so many bits lies between what is cut and what it was cut from. -/
theorem cutS_max {s E p c x y n e : Int} (hE : -c ≤ E) (hp : 1 ≤ p) (h : cutS s E p false = .tup [DY x y, .val (.int .i64 0)]) (he : -c ≤ e) (hn : (bl n.natAbs : Int) ≤ p) (hz : Vc c n e ≤ Vc c s E) : Vc c n e ≤ Vc c x y := by
  unfold cutS at h
  split at h
  · rw [told_Vc hE h]; exact hz
  · rename_i hb
    obtain ⟨j, hj⟩ : ∃ j : Nat, (j : Int) = (bl s.natAbs : Int) - p := ⟨((bl s.natAbs : Int) - p).toNat, by omega⟩
    obtain ⟨P, hP⟩ : ∃ P : Nat, (P : Int) = p := ⟨p.toNat, by omega⟩
    rw [← hj] at h
    have hw : wholeS s (j : Int) false = s / 2 ^ j := by show s / 2 ^ ((j : Int)).toNat = _; rw [Int.toNat_natCast]
    rw [hw] at h
    rw [told_Vc (c := c) (by omega) h]
    obtain ⟨q, hq⟩ : ∃ q, q = s / 2 ^ j := ⟨_, rfl⟩
    rw [← hq]
    have hpj := p2_pos j
    have hqd := Int.mul_ediv_add_emod s (2 ^ j)
    have hm0 := Int.emod_nonneg s (Int.ne_of_gt hpj)
    have hm1 := Int.emod_lt_of_pos s hpj
    rw [← hq] at hqd
    unfold Vc at hz ⊢
    by_cases hej : E + (j : Int) ≤ e
    · have e1 : (e + c).toNat = (e - E - (j : Int)).toNat + (j + (E + c).toNat) := by omega
      have e2 : (E + (j : Int) + c).toNat = j + (E + c).toNat := by omega
      rw [e1, Int.pow_add, ← Int.mul_assoc, Int.pow_add, ← Int.mul_assoc] at hz
      have k1 := (mul_le_iff (p2_pos (E + c).toNat)).1 hz
      have k2 : n * 2 ^ (e - E - (j : Int)).toNat ≤ q := by rw [hq]; exact Int.le_ediv_of_mul_le hpj k1
      rw [e1, e2, Int.pow_add, ← Int.mul_assoc]
      exact mr k2 (Int.le_of_lt (p2_pos _))
    · have hP1 : 1 ≤ P := by omega
      have hl := abs_lt_pow (n := n) (P := P) (by omega)
      have hh := pow_half hP1
      -- 2^P 2^(e+c) is at most 2^(P-1) 2^(E+j+c)
      have k1 : (2 : Int) ^ P * 2 ^ (e + c).toNat ≤ 2 ^ (P - 1) * 2 ^ (E + (j : Int) + c).toNat := by
        rw [hh, Int.mul_assoc]
        refine ml ?_ (Int.le_of_lt (p2_pos _))
        have : (2 : Int) * 2 ^ (e + c).toNat = 2 ^ ((e + c).toNat + 1) := by rw [Int.pow_succ, Int.mul_comm]
        rw [this]
        have h1 : (2 : Nat) ^ ((e + c).toNat + 1) ≤ 2 ^ (E + (j : Int) + c).toNat := Nat.pow_le_pow_right (by decide) (by omega)
        have h2 : ∀ k : Nat, ((2 ^ k : Nat) : Int) = 2 ^ k := fun k => by simp
        rw [← h2, ← h2]
        omega
      have k2 := Int.mul_lt_mul_of_pos_right hl.2 (p2_pos (e + c).toNat)
      have k3 := Int.mul_lt_mul_of_pos_right hl.1 (p2_pos (e + c).toNat)
      rw [Int.neg_mul] at k3
      have e2 : (E + (j : Int) + c).toNat = j + (E + c).toNat := by omega
      rcases abs_ge_pow (s := s) (m := P - 1 + j) (by omega) with hs | hs
      · exfalso
        have m1 := mr hs (Int.le_of_lt (p2_pos (E + c).toNat))
        rw [Int.neg_mul, Int.pow_add, Int.mul_assoc, ← Int.pow_add, ← e2] at m1
        omega
      · have m1 : (2 : Int) ^ (P - 1) ≤ q := by
          rw [hq]
          refine Int.le_ediv_of_mul_le hpj ?_
          rw [← Int.pow_add]
          exact hs
        have m2 := mr m1 (Int.le_of_lt (p2_pos (E + (j : Int) + c).toNat))
        omega
theorem cutS_bits {s E p x y : Int} (hp : 1 ≤ p) (g : Good x y) (h : cutS s E p false = .tup [DY x y, .val (.int .i64 0)]) : (bl x.natAbs : Int) ≤ p := by
  by_cases hx : x = 0
  · rw [hx, show Int.natAbs 0 = 0 from rfl, bl_zero]; omega
  have hodd := g.2.2.2.2 hx
  have key : ∀ {t k : Int}, toldS t k = .tup [DY x y, .val (.int .i64 0)] → x.natAbs ≤ t.natAbs := fun {t k} ht => by
    rcases told_inv ht with ⟨h1, h2, _⟩ | ⟨h1, _, _, h4⟩
    · exact absurd h2 hx
    · rw [h4, abs_shl]
      exact Nat.le_mul_of_pos_right _ (Nat.pow_pos (by decide))
  unfold cutS at h
  split at h
  · have := bl_mono (key h)
    omega
  · rename_i hb
    have h1 := key h
    obtain ⟨j, hj⟩ : ∃ j : Nat, (j : Int) = (bl s.natAbs : Int) - p := ⟨((bl s.natAbs : Int) - p).toNat, by omega⟩
    obtain ⟨P, hP⟩ : ∃ P : Nat, (P : Int) = p := ⟨p.toNat, by omega⟩
    rw [← hj] at h1
    have hw : wholeS s (j : Int) false = s / 2 ^ j := by show s / 2 ^ ((j : Int)).toNat = _; rw [Int.toNat_natCast]
    rw [hw] at h1
    have hpj := p2_pos j
    have hl := abs_lt_pow (n := s) (P := P + j) (by omega)
    have h3 : ((2 ^ P : Nat) : Int) = 2 ^ P := by simp
    have u1 : s / 2 ^ j < 2 ^ P := Int.ediv_lt_of_lt_mul hpj (by rw [← Int.pow_add]; exact hl.2)
    have u2 : -(2 ^ P) ≤ s / 2 ^ j := Int.le_ediv_of_mul_le hpj (by rw [Int.neg_mul, ← Int.pow_add]; omega)
    have h5 : x.natAbs ≤ 2 ^ P := by omega
    have := odd_bl hodd (m := P) (by omega) h5
    omega
/-- The greatest of at most p bits of which B holds; the least. -/
def QLo (p : Int) (B : D2 → Prop) (x : D2) : Prop := x.good ∧ (bl x.1.natAbs : Int) ≤ p ∧ B x ∧ ∀ z : D2, z.good → (bl z.1.natAbs : Int) ≤ p → B z → z.v ≤ x.v
def QHi (p : Int) (B : D2 → Prop) (x : D2) : Prop := x.good ∧ (bl x.1.natAbs : Int) ≤ p ∧ B x ∧ ∀ z : D2, z.good → (bl z.1.natAbs : Int) ≤ p → B z → x.v ≤ z.v
theorem QLo.mono {p : Int} {B B' : D2 → Prop} {x x' : D2} (h : QLo p B x) (k : QLo p B' x') (hB : B' x' → B x') : x'.v ≤ x.v := h.2.2.2 x' k.1 k.2.1 (hB k.2.2.1)
theorem QHi.mono {p : Int} {B B' : D2 → Prop} {x x' : D2} (h : QHi p B x) (k : QHi p B' x') (hB : B' x' → B x') : x.v ≤ x'.v := h.2.2.2 x' k.1 k.2.1 (hB k.2.2.1)
theorem bl_neg (a : D2) : bl a.neg.1.natAbs = bl a.1.natAbs := by unfold D2.neg; simp only [Int.natAbs_neg]
theorem QLo.neg {p : Int} {B B' : D2 → Prop} {x : D2} (h : QLo p B x) (hB : ∀ z, B' z ↔ B z.neg) : QHi p B' x.neg := by
  refine ⟨D2.neg_good h.1, by rw [bl_neg]; exact h.2.1, (hB _).2 (by rw [D2.neg_neg]; exact h.2.2.1), fun z g hb k => ?_⟩
  have := h.2.2.2 z.neg (D2.neg_good g) (by rw [bl_neg]; exact hb) ((hB z).1 k)
  rw [D2.neg_v] at this ⊢
  omega
theorem cuts_lo {a : D2} (h : a.good) {p : Int} (hp : 1 ≤ p ∧ p ≤ 70000) (hc : (toAn (cutsS a.1 a.2 p false)).c = 0) : QLo p (fun z => z.v ≤ a.v) (toAn (cutsS a.1 a.2 p false)).d := by
  have hl := cut_low h hp hc
  obtain ⟨h1, g, _⟩ := (cuts_ans a hp false).eq
  obtain ⟨u, hu⟩ : ∃ u, u = toAn (cutsS a.1 a.2 p false) := ⟨_, rfl⟩
  rw [← hu] at h1 hc g hl ⊢
  unfold An.pv at h1
  rw [hc] at h1
  unfold cutsS at h1
  rw [if_neg (by omega), if_neg (by omega)] at h1
  exact ⟨g, cutS_bits hp.1 g h1, hl, fun z gz bz hz => cutS_max (c := 1048576) h.2.1 hp.1 h1 gz.2.1 bz hz⟩
theorem cuts_hi {a : D2} (h : a.good) {p : Int} (hp : 1 ≤ p ∧ p ≤ 70000) (hc : (toAn (cutsS a.1 a.2 p true)).c = 0) : QHi p (fun z => a.v ≤ z.v) (toAn (cutsS a.1 a.2 p true)).d := by
  have e : toAn (cutsS a.neg.1 a.neg.2 p false) = (toAn (cutsS a.1 a.2 p true)).neg := cuts_neg a.1 a.2 p false
  have h1 := cuts_lo (D2.neg_good h) hp (by rw [e]; exact hc)
  rw [e, An.neg_d] at h1
  have h2 := h1.neg (B' := fun z => a.v ≤ z.v) (fun z => by
    show a.v ≤ z.v ↔ z.neg.v ≤ a.neg.v
    rw [D2.neg_v, D2.neg_v]; omega)
  rw [D2.neg_neg] at h2
  exact h2
/-- Two answers, the one in the other where both answer. -/
def Grow (r r' : PV) : Prop := ∃ x y x' y' : D2, ∃ e f : Int, r = .tup [SP x y, .val (.int .i64 e)] ∧ r' = .tup [SP x' y', .val (.int .i64 f)] ∧ (e = 0 ∨ e = 4 ∨ e = 5) ∧ (f = 0 ∨ f = 4 ∨ f = 5) ∧ (e = 0 → f = 0 → GoodS x y ∧ GoodS x' y' ∧ x'.v ≤ x.v ∧ y.v ≤ y'.v)
theorem Grow.of {r r' : PV} (h : (∃ e, r = spE e ∧ (e = 4 ∨ e = 5)) ∨ ∃ x y : D2, r = spR x y ∧ GoodS x y) (k : (∃ e, r' = spE e ∧ (e = 4 ∨ e = 5)) ∨ ∃ x y : D2, r' = spR x y ∧ GoodS x y) (hw : ∀ x y x' y' : D2, r = spR x y → r' = spR x' y' → GoodS x y → GoodS x' y' → x'.v ≤ x.v ∧ y.v ≤ y'.v) : Grow r r' := by
  rcases h with ⟨e, h1, h2⟩ | ⟨x, y, h1, g1⟩ <;> rcases k with ⟨f, k1, k2⟩ | ⟨x', y', k1, g2⟩
  · exact ⟨_, _, _, _, e, f, h1, k1, by omega, by omega, fun a _ => by omega⟩
  · exact ⟨_, _, _, _, e, 0, h1, k1, by omega, by omega, fun a _ => by omega⟩
  · exact ⟨_, _, _, _, 0, f, h1, k1, by omega, by omega, fun _ a => by omega⟩
  · exact ⟨_, _, _, _, 0, 0, h1, k1, by omega, by omega, fun _ _ => ⟨g1, g2, hw x y x' y' h1 k1 g1 g2⟩⟩
end Go.Proofs.YtpjbgmafnheomaaGreatDoor.Sim
namespace Go.Proofs.YtpjbgmafnheomaaGreatDoor.Sim
open Go.RowKit
set_option linter.unusedVariables false
set_option linter.unusedSimpArgs false
set_option maxHeartbeats 4000000
theorem quo_cut (neg up : Bool) (x d p j : Nat) (E : Int) (hp : 0 < p) (hF : 2 ^ p ≤ x / d) (hd : 0 < d) (hE : -1000000000000 ≤ E) (hj : j = bl (x / d) - p) :
    cutS (sg neg (rdv (up != neg) x d)) E p up = toldS (sg neg (rdv (up != neg) x (d * 2 ^ j))) (E + (j : Int)) := by
  obtain ⟨aw, haw⟩ : ∃ aw, aw = (up != neg) := ⟨_, rfl⟩
  rw [← haw]
  obtain ⟨F, hFe⟩ : ∃ F, F = x / d := ⟨_, rfl⟩
  obtain ⟨N, hN⟩ : ∃ N, N = rdv aw x d := ⟨_, rfl⟩
  have hge := rdv_ge aw x d hd
  have hup := rdv_up aw x d hd
  rw [← hFe] at hF hge hup hj
  rw [← hN] at hge hup ⊢
  have hFp : 0 < 2 ^ p := Nat.pow_pos (by decide)
  have hbF := bl_ge hF
  have hbN : p < bl N := bl_ge (Nat.le_trans hF hge)
  have hR : rdv aw x (d * 2 ^ j) = rdv aw N (2 ^ j) := by rw [hN, rdv_rdv _ _ _ _ hd (Nat.pow_pos (by decide))]
  unfold cutS
  rw [sg_abs, if_neg (by omega), whole_sg, ← haw, hR]
  by_cases hb : bl N = bl F
  · rw [hb, show ((bl F : Nat) : Int) - (p : Int) = (j : Int) by omega, Int.toNat_natCast]
  · have h1 := lt_bl F
    have h2 : bl F ≤ bl N := bl_mono hge
    have h3 : N = 2 ^ bl F := by
      rcases Nat.lt_or_ge N (2 ^ bl F) with h | h
      · exact absurd (Nat.le_antisymm (bl_le h) h2) hb
      · omega
    have h4 : bl N = bl F + 1 := by
      rw [h3]
      exact bl_eq (Nat.pow_lt_pow_right (by decide) (by omega)) (.inr (by simp))
    rw [h4, show ((bl F + 1 : Nat) : Int) - (p : Int) = ((j + 1 : Nat) : Int) by omega, Int.toNat_natCast, h3]
    have e1 : 2 ^ bl F = 2 ^ p * 2 ^ j := by rw [← Nat.pow_add]; congr 1; omega
    have e2 : 2 ^ bl F = 2 ^ (p - 1) * 2 ^ (j + 1) := by rw [← Nat.pow_add]; congr 1; omega
    rw [show rdv aw (2 ^ bl F) (2 ^ j) = 2 ^ p by rw [e1, rdv_exact _ _ _ (Nat.pow_pos (by decide))]]
    rw [show rdv aw (2 ^ bl F) (2 ^ (j + 1)) = 2 ^ (p - 1) by rw [e2, rdv_exact _ _ _ (Nat.pow_pos (by decide))]]
    rw [told_pow neg p _ hp (by omega)]
    congr 1
    omega
theorem rdv_lo (X D : Nat) : rdv false X D * D ≤ X := Nat.div_mul_le_self X D
theorem rdv_hi (X D : Nat) (hD : 0 < D) : X ≤ rdv true X D * D := by
  show X ≤ (X + D - 1) / D * D
  have h1 := Nat.div_add_mod (X + D - 1) D
  have h2 := Nat.mod_lt (X + D - 1) hD
  rw [Nat.mul_comm] at h1
  omega
theorem rdv_two (X D : Nat) (hD : 0 < D) : (rdv true X D = rdv false X D ∧ rdv false X D * D = X) ∨ rdv true X D = rdv false X D + 1 := by
  have h1 := rdv_ge true X D hD
  have h2 := rdv_up true X D hD
  have h3 := rdv_lo X D
  have h4 := rdv_hi X D hD
  have h5 : rdv false X D = X / D := rfl
  rw [← h5] at h1 h2
  by_cases h : rdv true X D = rdv false X D
  · rw [h] at h4
    exact .inl ⟨h, Nat.le_antisymm h3 h4⟩
  · exact .inr (by omega)
theorem rdv_tops (X d p j : Nat) (hd : 0 < d) (hp : 0 < p) (hF : 2 ^ p ≤ X / d) (hj : j = bl (X / d) - p) :
    bl (rdv false X (d * 2 ^ j)) = p ∧ rdv true X (d * 2 ^ j) ≤ 2 ^ p ∧ p ≤ bl (rdv true X (d * 2 ^ j)) := by
  have hpos : 0 < 2 ^ j := Nat.pow_pos (by decide)
  have hA : rdv false X (d * 2 ^ j) = X / d / 2 ^ j := (Nat.div_div_eq_div_mul X d (2 ^ j)).symm
  have h1 := lt_bl (X / d)
  have h2 := bl_ge hF
  have h3 := le_of_bl (n := X / d) (Nat.ne_of_gt (Nat.lt_of_lt_of_le (Nat.pow_pos (by decide)) hF))
  rw [show bl (X / d) = p + j by omega, Nat.pow_add] at h1
  rw [show bl (X / d) - 1 = (p - 1) + j by omega, Nat.pow_add] at h3
  have h4 : 2 ^ (p - 1) ≤ X / d / 2 ^ j := (Nat.le_div_iff_mul_le hpos).2 h3
  have h5 : X / d / 2 ^ j < 2 ^ p := (Nat.div_lt_iff_lt_mul hpos).2 h1
  have h6 := rdv_ge true X (d * 2 ^ j) (Nat.mul_pos hd hpos)
  have h7 := rdv_up true X (d * 2 ^ j) (Nat.mul_pos hd hpos)
  have h8 : rdv false X (d * 2 ^ j) = X / (d * 2 ^ j) := rfl
  rw [← h8, hA] at h6 h7
  have h9 : bl (X / d / 2 ^ j) = p := bl_eq h5 (.inr h4)
  rw [hA]
  refine ⟨h9, by omega, ?_⟩
  have := bl_mono h6
  omega
/-- The next number of so many bits above one above nought. -/
def NextTo (p : Int) (x y : D2) : Prop := 0 < x.1 ∧ 0 < y.1 ∧ Vc 2097152 (x.1 * 2 ^ (p - bl x.1.natAbs).toNat + 1) (x.2 + bl x.1.natAbs - p) = Vc 2097152 y.1 y.2
def Snug (p : Int) (x y : D2) : Prop := (bl x.1.natAbs : Int) ≤ p ∧ (bl y.1.natAbs : Int) ≤ p ∧ (x = y ∨ NextTo p x y ∨ NextTo p y.neg x.neg)
theorem told_bits {s : Int} {U x y : Int} {P : Nat} (hs : s.natAbs ≤ 2 ^ P) (hP : 0 < P) (g : Good x y) (h : toldS s U = .tup [DY x y, .val (.int .i64 0)]) : bl x.natAbs ≤ P := by
  rcases told_inv h with ⟨h1, h2, _⟩ | ⟨h1, _, _, h4⟩
  · rw [h2, show Int.natAbs 0 = 0 from rfl, bl_zero]; omega
  · by_cases hx : x = 0
    · rw [hx, show Int.natAbs 0 = 0 from rfl, bl_zero]; omega
    · have h5 : x.natAbs ≤ s.natAbs := by
        rw [h4, abs_shl]
        exact Nat.le_mul_of_pos_right _ (Nat.pow_pos (by decide))
      exact odd_bl (g.2.2.2.2 hx) (m := P) hP (by omega)
/-- Two whole numbers that follow one another, of so many bits. -/
theorem told_next {q P : Nat} {U p : Int} {x y : D2} (hp : (P : Int) = p) (hp2 : 1 ≤ p ∧ p ≤ 70000) (hq : bl q = P) (gx : x.good) (gy : y.good) (h1 : toldS (q : Int) U = .tup [DY x.1 x.2, .val (.int .i64 0)]) (h2 : toldS ((q + 1 : Nat) : Int) U = .tup [DY y.1 y.2, .val (.int .i64 0)]) : NextTo p x y := by
  have hq0 : q ≠ 0 := fun h => by rw [h, bl_zero] at hq; omega
  rcases told_inv h1 with ⟨a1, _, _⟩ | ⟨a1, a2, a3, a4⟩
  · omega
  obtain ⟨t, ht⟩ : ∃ t, t = tz ((q : Int)).natAbs := ⟨_, rfl⟩
  rw [← ht] at a2 a3 a4
  rcases told_inv h2 with ⟨b1, _, _⟩ | ⟨b1, b2, b3, b4⟩
  · omega
  have hpt := p2_pos t
  have x0 : 0 < x.1 := by
    refine Classical.byContradiction fun h => ?_
    have := mr (a := x.1) (b := 0) (c := 2 ^ t) (by omega) (Int.le_of_lt hpt)
    omega
  have y0 : 0 < y.1 := by
    refine Classical.byContradiction fun h => ?_
    have := mr (a := y.1) (b := 0) (c := 2 ^ tz (((q + 1 : Nat) : Int)).natAbs) (by omega) (Int.le_of_lt (p2_pos _))
    omega
  have hb : bl q = bl x.1.natAbs + t := by
    have e1 : q = x.1.natAbs * 2 ^ t := by
      have e2 : ((q : Int)).natAbs = (x.1 * 2 ^ t).natAbs := by rw [← a4]
      rw [abs_shl] at e2
      exact e2
    rw [e1]
    exact bl_mul_pow _ _ (by omega)
  have e1 : (p - bl x.1.natAbs).toNat = t := by omega
  have e2 : x.2 + bl x.1.natAbs - p = U := by omega
  have xg := gx.2.1
  refine ⟨x0, y0, ?_⟩
  rw [e1, e2, ← a4]
  have := told_Vc (c := 2097152) (by omega) h2
  rw [this]
  rfl
theorem An.of_told (s U : Int) {u : An} (hu : u = toAn (toldS s U)) (hc : u.c = 0) : toldS s U = .tup [DY u.d.1 u.d.2, .val (.int .i64 0)] ∧ u.d.good := by
  obtain ⟨h1, g, _⟩ := Ans.eq (told_form s U)
  rw [← hu] at h1 g
  unfold An.pv at h1
  rw [hc] at h1
  exact ⟨h1, g⟩
/-- The two ways to round a quotient to so many bits. -/
theorem pair_snug {neg : Bool} {X D P : Nat} {U p : Int} {u v : An} (hD : 0 < D) (hp : (P : Int) = p) (hp2 : 1 ≤ p ∧ p ≤ 70000) (hb : bl (rdv false X D) = P)
    (hu : u = toAn (toldS (sg neg (rdv (false != neg) X D)) U)) (hv : v = toAn (toldS (sg neg (rdv (true != neg) X D)) U)) (cu : u.c = 0) (cv : v.c = 0) : Snug p u.d v.d := by
  have two := rdv_two X D hD
  obtain ⟨q, hq⟩ : ∃ q, q = rdv false X D := ⟨_, rfl⟩
  obtain ⟨r, hr⟩ : ∃ r, r = rdv true X D := ⟨_, rfl⟩
  rw [← hq] at hb two
  rw [← hr] at two
  have hlt := lt_bl q
  rw [hb] at hlt
  cases neg with
  | false =>
    have e1 : rdv (false != false) X D = q := hq.symm
    have e2 : rdv (true != false) X D = r := hr.symm
    rw [e1] at hu
    rw [e2] at hv
    obtain ⟨h1, g1⟩ := An.of_told _ _ hu cu
    obtain ⟨h2, g2⟩ := An.of_told _ _ hv cv
    refine ⟨?_, ?_, ?_⟩
    · have := told_bits (P := P) (by show Int.natAbs (q : Int) ≤ _; omega) (by omega) g1 h1; omega
    · have := told_bits (P := P) (by show Int.natAbs (r : Int) ≤ _; omega) (by omega) g2 h2; omega
    · rcases two with ⟨two, _⟩ | two
      · exact .inl (by rw [hu, hv, two])
      · rw [two] at h2
        exact .inr (.inl (told_next hp hp2 hb g1 g2 h1 h2))
  | true =>
    have e1 : rdv (false != true) X D = r := hr.symm
    have e2 : rdv (true != true) X D = q := hq.symm
    rw [e1] at hu
    rw [e2] at hv
    obtain ⟨h1, g1⟩ := An.of_told _ _ hu cu
    obtain ⟨h2, g2⟩ := An.of_told _ _ hv cv
    refine ⟨?_, ?_, ?_⟩
    · have := told_bits (P := P) (by show Int.natAbs (-(r : Int)) ≤ _; omega) (by omega) g1 h1; omega
    · have := told_bits (P := P) (by show Int.natAbs (-(q : Int)) ≤ _; omega) (by omega) g2 h2; omega
    · rcases two with ⟨two, _⟩ | two
      · exact .inl (by rw [hu, hv, two])
      · refine .inr (.inr ?_)
        have n1 : toAn (toldS (r : Int) U) = u.neg := by
          rw [hu]
          show _ = (toAn (toldS (-(r : Int)) U)).neg
          rw [← told_neg, Int.neg_neg]
        have n2 : toAn (toldS (q : Int) U) = v.neg := by
          rw [hv]
          show _ = (toAn (toldS (-(q : Int)) U)).neg
          rw [← told_neg, Int.neg_neg]
        obtain ⟨k1, _⟩ := An.of_told _ _ n1.symm cu
        obtain ⟨k2, _⟩ := An.of_told _ _ n2.symm cv
        rw [An.neg_d] at k1 k2
        rw [two] at k1
        exact told_next hp hp2 hb (D2.neg_good g2) (D2.neg_good g1) k2 k1
theorem cuts_snug {a : D2} (h : a.good) {p : Int} (hp : 1 ≤ p ∧ p ≤ 70000) (c1 : (toAn (cutsS a.1 a.2 p false)).c = 0) (c2 : (toAn (cutsS a.1 a.2 p true)).c = 0) : Snug p (toAn (cutsS a.1 a.2 p false)).d (toAn (cutsS a.1 a.2 p true)).d := by
  have l1 := cuts_lo h hp c1
  have l2 := cuts_hi h hp c2
  by_cases hb : (bl a.1.natAbs : Int) ≤ p
  · refine ⟨l1.2.1, l2.2.1, .inl ?_⟩
    unfold cutsS cutS
    simp only [if_neg (show ¬ p < 1 by omega), if_neg (show ¬ 70000 < p by omega), if_pos (show (bl a.1.natAbs : Int) - p ≤ 0 by omega)]
  · obtain ⟨P, hP⟩ : ∃ P : Nat, (P : Int) = p := ⟨p.toNat, by omega⟩
    obtain ⟨j, hj⟩ : ∃ j : Nat, j = bl a.1.natAbs - P := ⟨_, rfl⟩
    have e : ∀ up, cutsS a.1 a.2 p up = toldS (sg (decide (a.1 < 0)) (rdv (up != decide (a.1 < 0)) a.1.natAbs (1 * 2 ^ j))) (a.2 + (j : Int)) := fun up => by
      unfold cutsS cutS
      rw [if_neg (by omega), if_neg (by omega), if_neg (by omega), show (bl a.1.natAbs : Int) - p = (j : Int) by omega, Nat.one_mul]
      have hw := whole_sg (decide (a.1 < 0)) up a.1.natAbs (j : Int)
      rw [sg_of a.1, Int.toNat_natCast] at hw
      rw [hw]
    have hF : 2 ^ P ≤ a.1.natAbs / 1 := by
      rw [Nat.div_one]
      have h1 := le_of_bl (n := a.1.natAbs) (fun hh => by rw [hh, bl_zero] at hb; omega)
      have h2 : 2 ^ P ≤ 2 ^ (bl a.1.natAbs - 1) := Nat.pow_le_pow_right (by decide) (by omega)
      omega
    obtain ⟨t1, _, _⟩ := rdv_tops a.1.natAbs 1 P j (by decide) (by omega) hF (by rw [Nat.div_one]; exact hj)
    exact pair_snug (Nat.mul_pos (by decide) (Nat.pow_pos (by decide))) hP hp t1 (by rw [e]) (by rw [e]) c1 c2
theorem cut_nought (E p : Int) (up : Bool) (hp : 1 ≤ p) : cutS 0 E p up = dyR 0 0 := by
  unfold cutS
  rw [if_pos (by rw [show Int.natAbs 0 = 0 from rfl, bl_zero]; omega)]
  unfold toldS
  rw [if_pos rfl]
  rfl
theorem quo_snug {a b : D2} (h : a.good) (g : b.good) (hm : b.1 ≠ 0) {p : Int} (hp : 1 ≤ p ∧ p ≤ 70000) (c1 : (toAn (quoP a b p false)).c = 0) (c2 : (toAn (quoP a b p true)).c = 0) : Snug p (toAn (quoP a b p false)).d (toAn (quoP a b p true)).d := by
  have hE5 : toAn (dyE 5) = ⟨0, 0, 5⟩ := toAn_tup 0 0 5
  have hl : L64 a.1.natAbs ≤ 4096 ∧ L64 b.1.natAbs ≤ 4096 := by
    refine Classical.byContradiction fun hh => ?_
    have : quoP a b p false = dyE 5 := quoS_5 hp hm (by omega)
    rw [this, hE5] at c1
    exact absurd c1 (by decide)
  have e1 := h.2.1
  have e1b := h.2.2.1
  have e2 := g.2.1
  have e3 := g.2.2.1
  by_cases hn : a.1 = 0
  · have e : ∀ up, quoP a b p up = dyR 0 0 := fun up => by
      unfold quoP
      rw [quoS_ok hp hm hl.1 hl.2, hn]
      have : ∀ s, docQ 0 b.1 s up = 0 := fun s => by cases up <;> simp [docQ]
      rw [this, cut_nought _ _ _ hp.1]
    rw [e, e, show toAn (dyR 0 0) = ⟨0, 0, 0⟩ from toAn_tup 0 0 0]
    refine ⟨?_, ?_, .inl rfl⟩ <;> (show ((bl (Int.natAbs 0) : Nat) : Int) ≤ p; rw [show Int.natAbs 0 = 0 from rfl, bl_zero]; omega)
  have hd : 0 < b.1.natAbs := by omega
  have hk1 : quoK a.1 b.1 p 1 = max 0 (p + 1 + bl b.1.natAbs - bl a.1.natAbs) := rfl
  have hbl := bl_L64 b.1.natAbs
  obtain ⟨P, hP⟩ : ∃ P : Nat, (P : Int) = p := ⟨p.toNat, by omega⟩
  obtain ⟨kn, hkn⟩ : ∃ kn : Nat, (kn : Int) = quoK a.1 b.1 p 1 := ⟨(quoK a.1 b.1 p 1).toNat, by omega⟩
  obtain ⟨X, hX⟩ : ∃ X, X = a.1.natAbs * 2 ^ kn := ⟨_, rfl⟩
  obtain ⟨d, hdd⟩ : ∃ d, d = b.1.natAbs := ⟨_, rfl⟩
  have p1 := bl_pos (n := a.1.natAbs) (by omega)
  have hF : 2 ^ P ≤ X / d := by
    rw [Nat.le_div_iff_mul_le (by omega), hX, hdd]
    have a1 := le_of_bl (n := a.1.natAbs) (by omega)
    have a2 := lt_bl b.1.natAbs
    have a3 : 2 ^ P * b.1.natAbs ≤ 2 ^ P * 2 ^ bl b.1.natAbs := Nat.mul_le_mul_left _ (Nat.le_of_lt a2)
    have a4 : 2 ^ (bl a.1.natAbs - 1) * 2 ^ kn ≤ a.1.natAbs * 2 ^ kn := Nat.mul_le_mul_right _ a1
    rw [← Nat.pow_add] at a3 a4
    have a5 : 2 ^ (P + bl b.1.natAbs) ≤ 2 ^ (bl a.1.natAbs - 1 + kn) := Nat.pow_le_pow_right (by decide) (by omega)
    omega
  obtain ⟨j, hj⟩ : ∃ j, j = bl (X / d) - P := ⟨_, rfl⟩
  obtain ⟨neg, hneg⟩ : ∃ neg, neg = (decide (a.1 < 0) != decide (b.1 < 0)) := ⟨_, rfl⟩
  have e : ∀ up, quoP a b p up = toldS (sg neg (rdv (up != neg) X (d * 2 ^ j))) (a.2 - b.2 - (kn : Int) + (j : Int)) := fun up => by
    unfold quoP
    rw [quoS_ok hp hm hl.1 hl.2, docQ_eq _ _ _ _ hm, ← hkn, Int.toNat_natCast, ← hX, ← hdd, ← hneg, ← hP]
    exact quo_cut neg up X d P j _ (by omega) hF (by omega) (by omega) hj
  obtain ⟨t1, _, _⟩ := rdv_tops X d P j (by omega) (by omega) hF hj
  exact pair_snug (Nat.mul_pos (by omega) (Nat.pow_pos (by decide))) hP hp t1 (by rw [e]) (by rw [e]) c1 c2
theorem mulS_zero {m f : Int} : mulS 0 0 m f = dyR 0 0 := by
  unfold mulS
  rw [Int.zero_mul, if_neg (by rw [show Int.natAbs 0 = 0 from rfl, L64, lenB_zero]; omega)]
  unfold toldS
  rw [if_pos rfl]
  rfl
/-- What a call on single numbers answers. -/
def SnugR (p : Int) (z : Bool) (r : PV) : Prop := (∃ x y : D2, r = spR x y ∧ GoodS x y ∧ Snug p x y) ∨ r = spE 5 ∨ (z = true ∧ r = spE 4)
theorem snug_out {a : D2} (h : a.good) {p : Int} (hp : 1 ≤ p ∧ p ≤ 70000) : SnugR p false (outP a a p) := by
  have l1 := cuts_lo h hp
  have l2 := cuts_hi h hp
  have sn := cuts_snug h hp
  unfold outP
  obtain ⟨u, hu⟩ : ∃ u, u = toAn (cutsS a.1 a.2 p false) := ⟨_, rfl⟩
  obtain ⟨v, hv2⟩ : ∃ v, v = toAn (cutsS a.1 a.2 p true) := ⟨_, rfl⟩
  rw [← hu] at l1 sn ⊢
  rw [← hv2] at l2 sn ⊢
  by_cases hc : u.c = 0 ∧ v.c = 0
  · have q1 := l1 hc.1
    have q2 := l2 hc.2
    have w1 : u.d.v ≤ a.v := q1.2.2.1
    have w2 : a.v ≤ v.d.v := q2.2.2.1
    exact .inl ⟨u.d, v.d, bothA_ok hc.1 hc.2, ⟨q1.1, q2.1, by omega⟩, sn hc.1 hc.2⟩
  · exact .inr (.inl (bothA_no (by omega)))
theorem snug_sum {a c : D2} (h : a.good) (k : c.good) {p : Int} (hp : 1 ≤ p ∧ p ≤ 70000) : SnugR p false (sumP a a c c p) := by
  have g1 := An.d_good (add_ans h k)
  unfold sumP
  split
  · exact .inr (.inl rfl)
  · exact snug_out g1 hp
theorem lst2_self (a : D2) : lst2 a a = a := by unfold lst2; split <;> rfl
theorem gst2_self (a : D2) : gst2 a a = a := by unfold gst2; split <;> rfl
theorem snug_mul {a c : D2} {p : Int} (hp : 1 ≤ p ∧ p ≤ 70000) : SnugR p false (spMul a a c c p) := by
  have g1 := An.d_good (mul_ans a c)
  unfold spMul
  split
  · exact .inr (.inl rfl)
  · unfold least4 great4
    rw [lst2_self, lst2_self, lst2_self, gst2_self, gst2_self, gst2_self]
    exact snug_out g1 hp
theorem snug_sqr {a : D2} (h : a.good) {p : Int} (hp : 1 ≤ p ∧ p ≤ 70000) : SnugR p false (spSqr a a p) := by
  have g1 := An.d_good (mul_ans a a)
  unfold spSqr
  split
  · exact .inr (.inl rfl)
  · rw [lst2_self, gst2_self]
    by_cases h0 : a.1 ≤ 0 ∧ 0 ≤ a.1
    · have e : a.1 = 0 := by omega
      have e2 : toAn (mulP a a) = ⟨0, 0, 0⟩ := by
        unfold mulP
        rw [e, h.2.2.2.1 e, mulS_zero]
        exact toAn_tup 0 0 0
      rw [if_pos h0, e2]
      exact snug_out (a := (0, 0)) Good.zero hp
    · rw [if_neg h0]
      exact snug_out g1 hp
theorem snug_quoPos {a c : D2} (h : a.good) (k : c.good) (hc : 0 < c.1) {p : Int} (hp : 1 ≤ p ∧ p ≤ 70000) (z : Bool) : SnugR p z (spQuoPos a a c c p) := by
  have m0 : c.1 ≠ 0 := by omega
  have sn := quo_snug h k m0 hp
  have l1 := quo_low h k hc hp
  have l2 := quo_high h k hc hp
  have g1 := An.d_good (quo_ans (a := a) (b := c) hp m0 false)
  have g2 := An.d_good (quo_ans (a := a) (b := c) hp m0 true)
  unfold spQuoPos
  rw [ite_self]
  obtain ⟨u, hu⟩ : ∃ u, u = toAn (quoP a c p false) := ⟨_, rfl⟩
  obtain ⟨v, hv2⟩ : ∃ v, v = toAn (quoP a c p true) := ⟨_, rfl⟩
  rw [← hu] at l1 sn g1 ⊢
  rw [← hv2] at l2 sn g2 ⊢
  by_cases hc2 : u.c = 0 ∧ v.c = 0
  · have q1 := l1 hc2.1
    have q2 := l2 hc2.2
    have cv : 0 < c.v := VV_sign.1.2 hc
    have : u.d.v ≤ v.d.v := (mul_le_iff cv).1 (Int.le_trans q1 q2)
    exact .inl ⟨u.d, v.d, bothA_ok hc2.1 hc2.2, ⟨g1, g2, this⟩, sn hc2.1 hc2.2⟩
  · exact .inr (.inl (bothA_no (by omega)))
theorem snug_quo {a c : D2} (h : a.good) (k : c.good) {p : Int} (hp : 1 ≤ p ∧ p ≤ 70000) : SnugR p (decide (c.1 = 0)) (spQuo a a c c p) := by
  unfold spQuo
  split
  · rename_i hc
    exact snug_quoPos h k hc hp _
  · split
    · rename_i hc
      exact snug_quoPos (D2.neg_good h) (D2.neg_good k) (by unfold D2.neg; show 0 < -c.1; omega) hp _
    · exact .inr (.inr ⟨decide_eq_true (by omega), rfl⟩)
end Go.Proofs.YtpjbgmafnheomaaGreatDoor.Sim
namespace Go.Proofs.YtpjbgmafnheomaaGreatDoor.Sim
open Go.RowKit
set_option linter.unusedVariables false
set_option linter.unusedSimpArgs false
set_option maxRecDepth 10000
set_option maxHeartbeats 8000000
variable {G : List (Nat × List Value)}
theorem dgw {P : Program} {F : Fr} {TT : List TI} {X : List FuncId} {s : St} {K : St → Prop} {id : Nat} {ops : List Oper} (x : Nat) (v : PV) (h0 : s.t x = v) (h : DrawG P F TT X id ops s K) : DrawG P F TT X id ops s K := h
theorem r_zabs (a : Int) (h : LZ a ≤ 1099511627776) : FC Tryz.prog G 85 [ZI a] (· = ZI (a.natAbs : Int)) := by
  unfold LZ at h
  have f := r_mk (G := G) false a.natAbs h
  refine FC.intro (X := XX) tok Tryz.func85 rfl Tryz.ntmps85 (by rw [Tryz.results85]) (by kernel_rfl) rfl ?_; intro F hG hO
  rw [← hG] at f
  repeat' ((try (conv => whnf)); first
  | ((with_reducible refine cg ?_); first | refine ceq f rfl ?_)
  
  | with_reducible first
    | refine BothG.mk ?_ ?_ | refine fork_tt ?_ | refine fork_ff ?_
    | (refine fork_e (c := true) (by decide) ?_; refine fork_tt ?_) | (refine fork_e (c := false) (by decide) ?_; refine fork_ff ?_)
    | refine fork_t (by omega) ?_ | refine fork_f (by omega) ?_ | (refine fork_d ?_ ?_ <;> intro hc) | refine fork_n ?_ | (refine fork_b ?_ ?_ <;> intro hc)
    | refine fz_all (by omega) ?_ | (refine smk ?_ ?_; constructor))
  exact ⟨ret_e (zi_eq (a := sg false a.natAbs) (by simp only [sg]))⟩
theorem r_zabs_p {a : Int} (h : LZ a ≤ 1099511627776) (h0 : 0 < a) : FC Tryz.prog G 85 [ZI a] (· = ZI a) := by
  have := r_zabs (G := G) a h
  rw [show (a.natAbs : Int) = a by omega] at this
  exact this
theorem r_zabs_n {a : Int} (h : LZ a ≤ 1099511627776) (h0 : a < 0) : FC Tryz.prog G 85 [ZI a] (· = ZI (-a)) := by
  have := r_zabs (G := G) a h
  rw [show (a.natAbs : Int) = -a by omega] at this
  exact this
theorem hold_nil {a i b j : Int} (hi : -2097152 ≤ i) (hj : -2097152 ≤ j) (h : Vc 2097152 a i = Vc 2097152 b j) : holdS a i b j = 0 := by
  have h1 := hold_neg (c := 2097152) (a := a) (i := i) (b := b) (j := j) hi hj
  have h2 := hold_pos (c := 2097152) (a := a) (i := i) (b := b) (j := j) hi hj
  have h3 : ¬ holdS a i b j < 0 := fun hh => by have := h1.1 hh; omega
  have h4 : ¬ 0 < holdS a i b j := fun hh => by have := h2.1 hh; omega
  omega
theorem bl_step {a : Int} {P t : Nat} (h : bl a.natAbs + t ≤ P) : bl (a * 2 ^ t + 1).natAbs ≤ P + 1 := by
  refine bl_le ?_
  have h1 := lt_bl a.natAbs
  have h2 : (a * 2 ^ t).natAbs = a.natAbs * 2 ^ t := abs_shl a t
  have h3 : a.natAbs * 2 ^ t < 2 ^ bl a.natAbs * 2 ^ t := Nat.mul_lt_mul_of_pos_right h1 (Nat.pow_pos (by decide))
  rw [← Nat.pow_add] at h3
  have h4 : 2 ^ (bl a.natAbs + t) ≤ 2 ^ P := Nat.pow_le_pow_right (by decide) h
  have h5 : 2 ^ (P + 1) = 2 * 2 ^ P := by rw [Nat.pow_succ, Nat.mul_comm]
  have h6 : 0 < 2 ^ P := Nat.pow_pos (by decide)
  omega
theorem s_snug {x y : D2} (h : GoodS x y) {p : Int} (hp : 1 ≤ p ∧ p ≤ 70000) (hs : Snug p x y) : FC Tryz.prog G 42 [SP x y, .val (.int .i64 p)] (· = .val (.bool true)) := by
  obtain ⟨hb1, hb2, hs⟩ := hs
  have z1 := h.1.1
  have z2 := h.2.1.1
  have f1 := r_zfromN (G := G) x.1 (by omega)
  have f2 := r_zfromN (G := G) y.1 (by omega)
  have d1 := L32_bl x.1.natAbs
  have d2 := L32_bl y.1.natAbs
  have k1 : LZ x.1 ≤ 65537 := LZ_bound (by omega)
  have k2 : LZ y.1 ≤ 65537 := LZ_bound (by omega)
  have f3 := r_bits (G := G) x.1.natAbs (by omega)
  have f4 := r_bits (G := G) y.1.natAbs (by omega)
  have f5 := q_sameD (G := G) h.1 y
  have e1 := h.1.2.1
  have e2 := h.1.2.2.1
  have e3 := h.2.1.2.1
  have e4 := h.2.1.2.2.1
  by_cases he : x = y
  · rw [decide_eq_true he] at f5
    clear he hs z1 z2 d1 d2 k1 k2 h
    refine FC.intro (X := XX) tok Tryz.func42 rfl Tryz.ntmps42 (by rw [Tryz.results42]) (by kernel_rfl) rfl ?_; intro F hG hO
    rw [← hG] at f1 f2 f3 f4 f5
    repeat' ((try (conv => whnf)); first
  | ((with_reducible refine cg ?_); first | refine ceq f1 rfl ?_ | refine ceq f2 rfl ?_ | refine ceq f3 rfl ?_ | refine ceq f4 rfl ?_ | refine ceq f5 rfl ?_)
  | ((with_reducible refine dg ?_); refine draw_j (A := Bool) (id := 1) (N := 93) (fun q => [(1, .val (.int .i64 (p))), (2, .ptr 0 0), (4, .val (.bool false)), (5, .ptr (cond q 1 2) 0), (6, .ptr (cond q 2 1) 0)]) (fun q => [[.val (.bool (decide (x.1 < 0))), .ws .u64 (d64 x.1.natAbs), .val (.int .i64 x.2), .val (.bool (decide (y.1 < 0))), .ws .u64 (d64 y.1.natAbs), .val (.int .i64 y.2)], [.val (.bool (decide ((cond q x y).1 < 0))), .ws .u32 (d32 (cond q x y).1.natAbs)], [.val (.bool (decide ((cond q y x).1 < 0))), .ws .u32 (d32 (cond q y x).1.natAbs)]]) (fun _ => []) (.take 0 (.take 1 (.take 4 (.take 5 (.alt 2 (.alt 3 (.alt 6 (.alt 7 (.alt 8 (.alt 9 (.alt 10 (.alt 11 (.fin) (.non)) (.non)) (.non)) (.alt 9 (.alt 8 (.alt 10 (.alt 11 (.fin) (.non)) (.non)) (.non)) (.non))) (.alt 8 (.alt 7 (.alt 9 (.alt 10 (.alt 11 (.fin) (.non)) (.non)) (.non)) (.alt 9 (.alt 7 (.alt 10 (.alt 11 (.fin) (.non)) (.non)) (.non)) (.non))) (.alt 9 (.alt 7 (.alt 8 (.alt 10 (.alt 11 (.fin) (.non)) (.non)) (.non)) (.alt 8 (.alt 7 (.alt 10 (.alt 11 (.fin) (.non)) (.non)) (.non)) (.non))) (.non)))) (.alt 8 (.alt 6 (.alt 7 (.alt 9 (.alt 10 (.alt 11 (.fin) (.non)) (.non)) (.non)) (.alt 9 (.alt 7 (.alt 10 (.alt 11 (.fin) (.non)) (.non)) (.non)) (.non))) (.alt 9 (.alt 6 (.alt 7 (.alt 10 (.alt 11 (.fin) (.non)) (.non)) (.non)) (.non)) (.non))) (.alt 9 (.alt 6 (.alt 7 (.alt 8 (.alt 10 (.alt 11 (.fin) (.non)) (.non)) (.non)) (.alt 8 (.alt 7 (.alt 10 (.alt 11 (.fin) (.non)) (.non)) (.non)) (.non))) (.alt 8 (.alt 6 (.alt 7 (.alt 10 (.alt 11 (.fin) (.non)) (.non)) (.non)) (.non)) (.non))) (.non)))) (.alt 6 (.alt 3 (.alt 7 (.alt 8 (.alt 9 (.alt 10 (.alt 11 (.fin) (.non)) (.non)) (.non)) (.alt 9 (.alt 8 (.alt 10 (.alt 11 (.fin) (.non)) (.non)) (.non)) (.non))) (.alt 8 (.alt 7 (.alt 9 (.alt 10 (.alt 11 (.fin) (.non)) (.non)) (.non)) (.alt 9 (.alt 7 (.alt 10 (.alt 11 (.fin) (.non)) (.non)) (.non)) (.non))) (.alt 9 (.alt 7 (.alt 8 (.alt 10 (.alt 11 (.fin) (.non)) (.non)) (.non)) (.alt 8 (.alt 7 (.alt 10 (.alt 11 (.fin) (.non)) (.non)) (.non)) (.non))) (.non)))) (.alt 8 (.alt 3 (.alt 7 (.alt 9 (.alt 10 (.alt 11 (.fin) (.non)) (.non)) (.non)) (.alt 9 (.alt 7 (.alt 10 (.alt 11 (.fin) (.non)) (.non)) (.non)) (.non))) (.alt 9 (.alt 3 (.alt 7 (.alt 10 (.alt 11 (.fin) (.non)) (.non)) (.non)) (.non)) (.non))) (.alt 9 (.alt 3 (.alt 7 (.alt 8 (.alt 10 (.alt 11 (.fin) (.non)) (.non)) (.non)) (.alt 8 (.alt 7 (.alt 10 (.alt 11 (.fin) (.non)) (.non)) (.non)) (.non))) (.alt 8 (.alt 3 (.alt 7 (.alt 10 (.alt 11 (.fin) (.non)) (.non)) (.non)) (.non)) (.non))) (.non)))) (.alt 8 (.alt 3 (.alt 6 (.alt 7 (.alt 9 (.alt 10 (.alt 11 (.fin) (.non)) (.non)) (.non)) (.alt 9 (.alt 7 (.alt 10 (.alt 11 (.fin) (.non)) (.non)) (.non)) (.non))) (.alt 9 (.alt 6 (.alt 7 (.alt 10 (.alt 11 (.fin) (.non)) (.non)) (.non)) (.non)) (.non))) (.alt 6 (.alt 3 (.alt 7 (.alt 9 (.alt 10 (.alt 11 (.fin) (.non)) (.non)) (.non)) (.alt 9 (.alt 7 (.alt 10 (.alt 11 (.fin) (.non)) (.non)) (.non)) (.non))) (.alt 9 (.alt 3 (.alt 7 (.alt 10 (.alt 11 (.fin) (.non)) (.non)) (.non)) (.non)) (.non))) (.alt 9 (.alt 3 (.alt 6 (.alt 7 (.alt 10 (.alt 11 (.fin) (.non)) (.non)) (.non)) (.non)) (.alt 6 (.alt 3 (.alt 7 (.alt 10 (.alt 11 (.fin) (.non)) (.non)) (.non)) (.non)) (.non))) (.non)))) (.alt 9 (.alt 3 (.alt 6 (.alt 7 (.alt 8 (.alt 10 (.alt 11 (.fin) (.non)) (.non)) (.non)) (.alt 8 (.alt 7 (.alt 10 (.alt 11 (.fin) (.non)) (.non)) (.non)) (.non))) (.alt 8 (.alt 6 (.alt 7 (.alt 10 (.alt 11 (.fin) (.non)) (.non)) (.non)) (.non)) (.non))) (.alt 6 (.alt 3 (.alt 7 (.alt 8 (.alt 10 (.alt 11 (.fin) (.non)) (.non)) (.non)) (.alt 8 (.alt 7 (.alt 10 (.alt 11 (.fin) (.non)) (.non)) (.non)) (.non))) (.alt 8 (.alt 3 (.alt 7 (.alt 10 (.alt 11 (.fin) (.non)) (.non)) (.non)) (.non)) (.non))) (.alt 8 (.alt 3 (.alt 6 (.alt 7 (.alt 10 (.alt 11 (.fin) (.non)) (.non)) (.non)) (.non)) (.alt 6 (.alt 3 (.alt 7 (.alt 10 (.alt 11 (.fin) (.non)) (.non)) (.non)) (.non)) (.non))) (.non)))) (.non))))) (.alt 6 (.alt 2 (.alt 3 (.alt 7 (.alt 8 (.alt 9 (.alt 10 (.alt 11 (.fin) (.non)) (.non)) (.non)) (.alt 9 (.alt 8 (.alt 10 (.alt 11 (.fin) (.non)) (.non)) (.non)) (.non))) (.alt 8 (.alt 7 (.alt 9 (.alt 10 (.alt 11 (.fin) (.non)) (.non)) (.non)) (.alt 9 (.alt 7 (.alt 10 (.alt 11 (.fin) (.non)) (.non)) (.non)) (.non))) (.alt 9 (.alt 7 (.alt 8 (.alt 10 (.alt 11 (.fin) (.non)) (.non)) (.non)) (.alt 8 (.alt 7 (.alt 10 (.alt 11 (.fin) (.non)) (.non)) (.non)) (.non))) (.non)))) (.alt 8 (.alt 3 (.alt 7 (.alt 9 (.alt 10 (.alt 11 (.fin) (.non)) (.non)) (.non)) (.alt 9 (.alt 7 (.alt 10 (.alt 11 (.fin) (.non)) (.non)) (.non)) (.non))) (.alt 9 (.alt 3 (.alt 7 (.alt 10 (.alt 11 (.fin) (.non)) (.non)) (.non)) (.non)) (.non))) (.alt 9 (.alt 3 (.alt 7 (.alt 8 (.alt 10 (.alt 11 (.fin) (.non)) (.non)) (.non)) (.alt 8 (.alt 7 (.alt 10 (.alt 11 (.fin) (.non)) (.non)) (.non)) (.non))) (.alt 8 (.alt 3 (.alt 7 (.alt 10 (.alt 11 (.fin) (.non)) (.non)) (.non)) (.non)) (.non))) (.non)))) (.alt 8 (.alt 2 (.alt 3 (.alt 7 (.alt 9 (.alt 10 (.alt 11 (.fin) (.non)) (.non)) (.non)) (.alt 9 (.alt 7 (.alt 10 (.alt 11 (.fin) (.non)) (.non)) (.non)) (.non))) (.alt 9 (.alt 3 (.alt 7 (.alt 10 (.alt 11 (.fin) (.non)) (.non)) (.non)) (.non)) (.non))) (.alt 9 (.alt 2 (.alt 3 (.alt 7 (.alt 10 (.alt 11 (.fin) (.non)) (.non)) (.non)) (.non)) (.non)) (.non))) (.alt 9 (.alt 2 (.alt 3 (.alt 7 (.alt 8 (.alt 10 (.alt 11 (.fin) (.non)) (.non)) (.non)) (.alt 8 (.alt 7 (.alt 10 (.alt 11 (.fin) (.non)) (.non)) (.non)) (.non))) (.alt 8 (.alt 3 (.alt 7 (.alt 10 (.alt 11 (.fin) (.non)) (.non)) (.non)) (.non)) (.non))) (.alt 8 (.alt 2 (.alt 3 (.alt 7 (.alt 10 (.alt 11 (.fin) (.non)) (.non)) (.non)) (.non)) (.non)) (.non))) (.non)))) (.alt 8 (.alt 2 (.alt 3 (.alt 6 (.alt 7 (.alt 9 (.alt 10 (.alt 11 (.fin) (.non)) (.non)) (.non)) (.alt 9 (.alt 7 (.alt 10 (.alt 11 (.fin) (.non)) (.non)) (.non)) (.non))) (.alt 9 (.alt 6 (.alt 7 (.alt 10 (.alt 11 (.fin) (.non)) (.non)) (.non)) (.non)) (.non))) (.alt 6 (.alt 3 (.alt 7 (.alt 9 (.alt 10 (.alt 11 (.fin) (.non)) (.non)) (.non)) (.alt 9 (.alt 7 (.alt 10 (.alt 11 (.fin) (.non)) (.non)) (.non)) (.non))) (.alt 9 (.alt 3 (.alt 7 (.alt 10 (.alt 11 (.fin) (.non)) (.non)) (.non)) (.non)) (.non))) (.alt 9 (.alt 3 (.alt 6 (.alt 7 (.alt 10 (.alt 11 (.fin) (.non)) (.non)) (.non)) (.non)) (.alt 6 (.alt 3 (.alt 7 (.alt 10 (.alt 11 (.fin) (.non)) (.non)) (.non)) (.non)) (.non))) (.non)))) (.alt 6 (.alt 2 (.alt 3 (.alt 7 (.alt 9 (.alt 10 (.alt 11 (.fin) (.non)) (.non)) (.non)) (.alt 9 (.alt 7 (.alt 10 (.alt 11 (.fin) (.non)) (.non)) (.non)) (.non))) (.alt 9 (.alt 3 (.alt 7 (.alt 10 (.alt 11 (.fin) (.non)) (.non)) (.non)) (.non)) (.non))) (.alt 9 (.alt 2 (.alt 3 (.alt 7 (.alt 10 (.alt 11 (.fin) (.non)) (.non)) (.non)) (.non)) (.non)) (.non))) (.alt 9 (.alt 2 (.alt 3 (.alt 6 (.alt 7 (.alt 10 (.alt 11 (.fin) (.non)) (.non)) (.non)) (.non)) (.alt 6 (.alt 3 (.alt 7 (.alt 10 (.alt 11 (.fin) (.non)) (.non)) (.non)) (.non)) (.non))) (.alt 6 (.alt 2 (.alt 3 (.alt 7 (.alt 10 (.alt 11 (.fin) (.non)) (.non)) (.non)) (.non)) (.non)) (.non))) (.non)))) (.alt 9 (.alt 2 (.alt 3 (.alt 6 (.alt 7 (.alt 8 (.alt 10 (.alt 11 (.fin) (.non)) (.non)) (.non)) (.alt 8 (.alt 7 (.alt 10 (.alt 11 (.fin) (.non)) (.non)) (.non)) (.non))) (.alt 8 (.alt 6 (.alt 7 (.alt 10 (.alt 11 (.fin) (.non)) (.non)) (.non)) (.non)) (.non))) (.alt 6 (.alt 3 (.alt 7 (.alt 8 (.alt 10 (.alt 11 (.fin) (.non)) (.non)) (.non)) (.alt 8 (.alt 7 (.alt 10 (.alt 11 (.fin) (.non)) (.non)) (.non)) (.non))) (.alt 8 (.alt 3 (.alt 7 (.alt 10 (.alt 11 (.fin) (.non)) (.non)) (.non)) (.non)) (.non))) (.alt 8 (.alt 3 (.alt 6 (.alt 7 (.alt 10 (.alt 11 (.fin) (.non)) (.non)) (.non)) (.non)) (.alt 6 (.alt 3 (.alt 7 (.alt 10 (.alt 11 (.fin) (.non)) (.non)) (.non)) (.non)) (.non))) (.non)))) (.alt 6 (.alt 2 (.alt 3 (.alt 7 (.alt 8 (.alt 10 (.alt 11 (.fin) (.non)) (.non)) (.non)) (.alt 8 (.alt 7 (.alt 10 (.alt 11 (.fin) (.non)) (.non)) (.non)) (.non))) (.alt 8 (.alt 3 (.alt 7 (.alt 10 (.alt 11 (.fin) (.non)) (.non)) (.non)) (.non)) (.non))) (.alt 8 (.alt 2 (.alt 3 (.alt 7 (.alt 10 (.alt 11 (.fin) (.non)) (.non)) (.non)) (.non)) (.non)) (.non))) (.alt 8 (.alt 2 (.alt 3 (.alt 6 (.alt 7 (.alt 10 (.alt 11 (.fin) (.non)) (.non)) (.non)) (.non)) (.alt 6 (.alt 3 (.alt 7 (.alt 10 (.alt 11 (.fin) (.non)) (.non)) (.non)) (.non)) (.non))) (.alt 6 (.alt 2 (.alt 3 (.alt 7 (.alt 10 (.alt 11 (.fin) (.non)) (.non)) (.non)) (.non)) (.non)) (.non))) (.non)))) (.non))))))))) tok mixed (by kernel_rfl) (by kernel_rfl) (by intro q; cases q <;> (refine ⟨?_, ?_, ?_⟩ <;> simp [inS, inBB, inBL, inB, hO])) ?_ ?_; rotate_left; intro q; cases q)
  | exact join true ⟨rfl, rfl, rfl, rfl, rfl, trivial⟩ ⟨[], rfl⟩ ⟨[], rfl⟩
  | exact join false ⟨rfl, rfl, rfl, rfl, rfl, trivial⟩ ⟨[], rfl⟩ ⟨[], rfl⟩
  | ((with_reducible refine dg ?_); refine dgw 5 (.ptr 1 0) (by rfl) ?_; refine draw_j (A := Unit) (id := 2) (N := 93) (fun _ => [(1, .val (.int .i64 (p))), (2, .ptr 0 0), (4, .val (.bool false)), (5, .ptr 1 0), (6, .ptr 2 0), (7, .val (.int .i64 (bl x.1.natAbs : Int))), (8, .val (.int .i64 (bl y.1.natAbs : Int)))]) (fun _ => [[.val (.bool (decide (x.1 < 0))), .ws .u64 (d64 x.1.natAbs), .val (.int .i64 x.2), .val (.bool (decide (y.1 < 0))), .ws .u64 (d64 y.1.natAbs), .val (.int .i64 y.2)], [.val (.bool (decide (x.1 < 0))), .ws .u32 (d32 x.1.natAbs)], [.val (.bool (decide (y.1 < 0))), .ws .u32 (d32 y.1.natAbs)]]) (fun _ => []) (.take 0 (.take 3 (.alt 1 (.alt 2 (.alt 4 (.alt 5 (.alt 6 (.alt 7 (.fin) (.non)) (.non)) (.non)) (.non)) (.alt 4 (.alt 2 (.alt 5 (.alt 6 (.alt 7 (.fin) (.non)) (.non)) (.non)) (.non)) (.non))) (.alt 4 (.alt 1 (.alt 2 (.alt 5 (.alt 6 (.alt 7 (.fin) (.non)) (.non)) (.non)) (.non)) (.non)) (.non))))) tok mixed (by kernel_rfl) (by kernel_rfl) (by intro ju; (refine ⟨?_, ?_, ?_⟩ <;> simp [inS, inBB, inBL, inB, hO])) ?_ ?_; rotate_left; intro ju)
  | exact join () ⟨rfl, rfl, rfl, rfl, rfl, rfl, rfl, trivial⟩ ⟨[], rfl⟩ ⟨[], rfl⟩
  | ((with_reducible refine dg ?_); refine dgw 5 (.ptr 2 0) (by rfl) ?_; refine draw_j (A := Unit) (id := 2) (N := 93) (fun _ => [(1, .val (.int .i64 (p))), (2, .ptr 0 0), (4, .val (.bool false)), (5, .ptr 2 0), (6, .ptr 1 0), (7, .val (.int .i64 (bl x.1.natAbs : Int))), (8, .val (.int .i64 (bl y.1.natAbs : Int)))]) (fun _ => [[.val (.bool (decide (x.1 < 0))), .ws .u64 (d64 x.1.natAbs), .val (.int .i64 x.2), .val (.bool (decide (y.1 < 0))), .ws .u64 (d64 y.1.natAbs), .val (.int .i64 y.2)], [.val (.bool (decide (y.1 < 0))), .ws .u32 (d32 y.1.natAbs)], [.val (.bool (decide (x.1 < 0))), .ws .u32 (d32 x.1.natAbs)]]) (fun _ => []) (.take 0 (.take 3 (.alt 1 (.alt 2 (.alt 4 (.alt 5 (.alt 6 (.alt 7 (.fin) (.non)) (.non)) (.non)) (.non)) (.alt 4 (.alt 2 (.alt 5 (.alt 6 (.alt 7 (.fin) (.non)) (.non)) (.non)) (.non)) (.non))) (.alt 4 (.alt 1 (.alt 2 (.alt 5 (.alt 6 (.alt 7 (.fin) (.non)) (.non)) (.non)) (.non)) (.non)) (.non))))) tok mixed (by kernel_rfl) (by kernel_rfl) (by intro ju; (refine ⟨?_, ?_, ?_⟩ <;> simp [inS, inBB, inBL, inB, hO])) ?_ ?_; rotate_left; intro ju)
  | exact join () ⟨rfl, rfl, rfl, rfl, rfl, rfl, rfl, trivial⟩ ⟨[], rfl⟩ ⟨[], rfl⟩
  
  | (with_reducible refine draw_t (id := 1) (.one 0 (.one 1 (.one 2 (.one 4 (.one 5 (.one 6 (.two (.one 3 (.two (.one 7 (.two (.one 8 (.one 9 (.st (.one 10 (.st (.one 11 (.fin))))))) (.one 9 (.one 8 (.st (.one 10 (.st (.one 11 (.fin))))))))) (.two (.one 8 (.two (.one 7 (.one 9 (.st (.one 10 (.st (.one 11 (.fin))))))) (.one 9 (.one 7 (.st (.one 10 (.st (.one 11 (.fin))))))))) (.one 9 (.two (.one 7 (.one 8 (.st (.one 10 (.st (.one 11 (.fin))))))) (.one 8 (.one 7 (.st (.one 10 (.st (.one 11 (.fin)))))))))))) (.two (.one 8 (.two (.one 3 (.two (.one 7 (.one 9 (.st (.one 10 (.st (.one 11 (.fin))))))) (.one 9 (.one 7 (.st (.one 10 (.st (.one 11 (.fin))))))))) (.one 9 (.one 3 (.one 7 (.st (.one 10 (.st (.one 11 (.fin)))))))))) (.one 9 (.two (.one 3 (.two (.one 7 (.one 8 (.st (.one 10 (.st (.one 11 (.fin))))))) (.one 8 (.one 7 (.st (.one 10 (.st (.one 11 (.fin))))))))) (.one 8 (.one 3 (.one 7 (.st (.one 10 (.st (.one 11 (.fin)))))))))))))))))) tok mixed (by kernel_rfl) (by kernel_rfl) ?_)
  | (with_reducible refine draw_g (id := 2) [[0, 1, 3, 4, 2, 5, 6, 7]] tok mixed (by kernel_rfl) ?_)
  | (with_reducible refine draw_g (id := 7) [[0, 2, 1, 3, 4, 5, 6, 7, 8, 9]] tok mixed (by kernel_rfl) ?_)
  | (with_reducible refine draw_g (id := 9) [[], [4, 0, 1, 2, 3, 5, 6], [7, 8]] tok mixed (by kernel_rfl) ?_)
  | (with_reducible refine draw_g (id := 10) [[0, 1, 2, 3, 4], [5, 6]] tok mixed (by kernel_rfl) ?_)
  | (with_reducible refine draw_g (id := 12) [[], [4, 0, 1, 2, 3, 5], [6, 7]] tok mixed (by kernel_rfl) ?_)
  | (with_reducible refine draw_g (id := 13) [[0, 1, 2, 3], [4, 5]] tok mixed (by kernel_rfl) ?_)
  | (with_reducible refine draw_g (id := 16) [[0, 1, 2, 4, 3, 5, 6, 7]] tok mixed (by kernel_rfl) ?_)
  | with_reducible first
    | refine wrap_g (by dsimp only [inR]; omega) ?_
    | refine BothG.mk ?_ ?_ | refine fork_tt ?_ | refine fork_ff ?_
    | (refine fork_e (c := true) (by decide) ?_; refine fork_tt ?_) | (refine fork_e (c := false) (by decide) ?_; refine fork_ff ?_)
    | refine fork_t (by omega) ?_ | refine fork_f (by omega) ?_ | (refine fork_d ?_ ?_ <;> intro hc) | refine fork_n ?_ | (refine fork_b ?_ ?_ <;> intro hc)
    | refine fz_all (by omega) ?_ | (refine smk ?_ ?_; constructor))
    all_goals exact ⟨ret_e rfl⟩
  · rw [decide_eq_false he] at f5
    rcases hs with hs | hs | hs
    · exact absurd hs he
    · obtain ⟨hx, hy, hv⟩ := hs
      have f6 := r_sign (G := G) x.1
      have f7 := r_sign (G := G) y.1
      rw [Int.sign_eq_one_of_pos hx] at f6
      rw [Int.sign_eq_one_of_pos hy] at f7
      have g1 := r_zabs_p (G := G) (a := x.1) (by omega) hx
      have g2 := r_zshl (G := G) x.1 (p - bl x.1.natAbs) (by omega) (by dsimp only [inR]; omega) (by omega)
      have g3 := r_of (G := G) 1 (by dsimp only [inR]; omega)
      have bs := bl_step (a := x.1) (P := p.toNat) (t := (p - bl x.1.natAbs).toNat) (by omega)
      have ls := LZ_shl x.1 (p - bl x.1.natAbs).toNat
      have g4 := r_zadd (G := G) (x.1 * 2 ^ (p - bl x.1.natAbs).toNat) 1 (by omega) (Nat.le_trans (LZ_small 1 (by omega)) (by decide))
      have g5 := r_zabs_p (G := G) (a := y.1) (by omega) hy
      have g6 := s_hold (G := G) (x.1 * 2 ^ (p - bl x.1.natAbs).toNat + 1) (x.2 + bl x.1.natAbs - p) y.1 y.2 (by omega) (by omega) (by omega) (by omega)
      rw [hold_nil (by omega) (by omega) hv] at g6
      clear he bs ls hv z1 z2 d1 d2 k1 k2 h
      refine FC.intro (X := XX) tok Tryz.func42 rfl Tryz.ntmps42 (by rw [Tryz.results42]) (by kernel_rfl) rfl ?_; intro F hG hO
      rw [← hG] at f1 f2 f3 f4 f5 f6 f7 g1 g2 g3 g4 g5 g6
      repeat' ((try (conv => whnf)); first
  | ((with_reducible refine cg ?_); first | refine ceq f1 rfl ?_ | refine ceq f2 rfl ?_ | refine ceq f3 rfl ?_ | refine ceq f4 rfl ?_ | refine ceq f5 rfl ?_ | refine ceq f6 rfl ?_ | refine ceq f7 rfl ?_ | refine ceq g1 rfl ?_ | refine ceq g2 rfl ?_ | refine ceq g3 rfl ?_ | refine ceq g4 rfl ?_ | refine ceq g5 rfl ?_ | refine ceq g6 rfl ?_)
  | ((with_reducible refine dg ?_); refine draw_j (A := Bool) (id := 1) (N := 93) (fun q => [(1, .val (.int .i64 (p))), (2, .ptr 0 0), (4, .val (.bool false)), (5, .ptr (cond q 1 2) 0), (6, .ptr (cond q 2 1) 0)]) (fun q => [[.val (.bool (decide (x.1 < 0))), .ws .u64 (d64 x.1.natAbs), .val (.int .i64 x.2), .val (.bool (decide (y.1 < 0))), .ws .u64 (d64 y.1.natAbs), .val (.int .i64 y.2)], [.val (.bool (decide ((cond q x y).1 < 0))), .ws .u32 (d32 (cond q x y).1.natAbs)], [.val (.bool (decide ((cond q y x).1 < 0))), .ws .u32 (d32 (cond q y x).1.natAbs)]]) (fun _ => []) (.take 0 (.take 1 (.take 4 (.take 5 (.alt 2 (.alt 3 (.alt 6 (.alt 7 (.alt 8 (.alt 9 (.alt 10 (.alt 11 (.fin) (.non)) (.non)) (.non)) (.alt 9 (.alt 8 (.alt 10 (.alt 11 (.fin) (.non)) (.non)) (.non)) (.non))) (.alt 8 (.alt 7 (.alt 9 (.alt 10 (.alt 11 (.fin) (.non)) (.non)) (.non)) (.alt 9 (.alt 7 (.alt 10 (.alt 11 (.fin) (.non)) (.non)) (.non)) (.non))) (.alt 9 (.alt 7 (.alt 8 (.alt 10 (.alt 11 (.fin) (.non)) (.non)) (.non)) (.alt 8 (.alt 7 (.alt 10 (.alt 11 (.fin) (.non)) (.non)) (.non)) (.non))) (.non)))) (.alt 8 (.alt 6 (.alt 7 (.alt 9 (.alt 10 (.alt 11 (.fin) (.non)) (.non)) (.non)) (.alt 9 (.alt 7 (.alt 10 (.alt 11 (.fin) (.non)) (.non)) (.non)) (.non))) (.alt 9 (.alt 6 (.alt 7 (.alt 10 (.alt 11 (.fin) (.non)) (.non)) (.non)) (.non)) (.non))) (.alt 9 (.alt 6 (.alt 7 (.alt 8 (.alt 10 (.alt 11 (.fin) (.non)) (.non)) (.non)) (.alt 8 (.alt 7 (.alt 10 (.alt 11 (.fin) (.non)) (.non)) (.non)) (.non))) (.alt 8 (.alt 6 (.alt 7 (.alt 10 (.alt 11 (.fin) (.non)) (.non)) (.non)) (.non)) (.non))) (.non)))) (.alt 6 (.alt 3 (.alt 7 (.alt 8 (.alt 9 (.alt 10 (.alt 11 (.fin) (.non)) (.non)) (.non)) (.alt 9 (.alt 8 (.alt 10 (.alt 11 (.fin) (.non)) (.non)) (.non)) (.non))) (.alt 8 (.alt 7 (.alt 9 (.alt 10 (.alt 11 (.fin) (.non)) (.non)) (.non)) (.alt 9 (.alt 7 (.alt 10 (.alt 11 (.fin) (.non)) (.non)) (.non)) (.non))) (.alt 9 (.alt 7 (.alt 8 (.alt 10 (.alt 11 (.fin) (.non)) (.non)) (.non)) (.alt 8 (.alt 7 (.alt 10 (.alt 11 (.fin) (.non)) (.non)) (.non)) (.non))) (.non)))) (.alt 8 (.alt 3 (.alt 7 (.alt 9 (.alt 10 (.alt 11 (.fin) (.non)) (.non)) (.non)) (.alt 9 (.alt 7 (.alt 10 (.alt 11 (.fin) (.non)) (.non)) (.non)) (.non))) (.alt 9 (.alt 3 (.alt 7 (.alt 10 (.alt 11 (.fin) (.non)) (.non)) (.non)) (.non)) (.non))) (.alt 9 (.alt 3 (.alt 7 (.alt 8 (.alt 10 (.alt 11 (.fin) (.non)) (.non)) (.non)) (.alt 8 (.alt 7 (.alt 10 (.alt 11 (.fin) (.non)) (.non)) (.non)) (.non))) (.alt 8 (.alt 3 (.alt 7 (.alt 10 (.alt 11 (.fin) (.non)) (.non)) (.non)) (.non)) (.non))) (.non)))) (.alt 8 (.alt 3 (.alt 6 (.alt 7 (.alt 9 (.alt 10 (.alt 11 (.fin) (.non)) (.non)) (.non)) (.alt 9 (.alt 7 (.alt 10 (.alt 11 (.fin) (.non)) (.non)) (.non)) (.non))) (.alt 9 (.alt 6 (.alt 7 (.alt 10 (.alt 11 (.fin) (.non)) (.non)) (.non)) (.non)) (.non))) (.alt 6 (.alt 3 (.alt 7 (.alt 9 (.alt 10 (.alt 11 (.fin) (.non)) (.non)) (.non)) (.alt 9 (.alt 7 (.alt 10 (.alt 11 (.fin) (.non)) (.non)) (.non)) (.non))) (.alt 9 (.alt 3 (.alt 7 (.alt 10 (.alt 11 (.fin) (.non)) (.non)) (.non)) (.non)) (.non))) (.alt 9 (.alt 3 (.alt 6 (.alt 7 (.alt 10 (.alt 11 (.fin) (.non)) (.non)) (.non)) (.non)) (.alt 6 (.alt 3 (.alt 7 (.alt 10 (.alt 11 (.fin) (.non)) (.non)) (.non)) (.non)) (.non))) (.non)))) (.alt 9 (.alt 3 (.alt 6 (.alt 7 (.alt 8 (.alt 10 (.alt 11 (.fin) (.non)) (.non)) (.non)) (.alt 8 (.alt 7 (.alt 10 (.alt 11 (.fin) (.non)) (.non)) (.non)) (.non))) (.alt 8 (.alt 6 (.alt 7 (.alt 10 (.alt 11 (.fin) (.non)) (.non)) (.non)) (.non)) (.non))) (.alt 6 (.alt 3 (.alt 7 (.alt 8 (.alt 10 (.alt 11 (.fin) (.non)) (.non)) (.non)) (.alt 8 (.alt 7 (.alt 10 (.alt 11 (.fin) (.non)) (.non)) (.non)) (.non))) (.alt 8 (.alt 3 (.alt 7 (.alt 10 (.alt 11 (.fin) (.non)) (.non)) (.non)) (.non)) (.non))) (.alt 8 (.alt 3 (.alt 6 (.alt 7 (.alt 10 (.alt 11 (.fin) (.non)) (.non)) (.non)) (.non)) (.alt 6 (.alt 3 (.alt 7 (.alt 10 (.alt 11 (.fin) (.non)) (.non)) (.non)) (.non)) (.non))) (.non)))) (.non))))) (.alt 6 (.alt 2 (.alt 3 (.alt 7 (.alt 8 (.alt 9 (.alt 10 (.alt 11 (.fin) (.non)) (.non)) (.non)) (.alt 9 (.alt 8 (.alt 10 (.alt 11 (.fin) (.non)) (.non)) (.non)) (.non))) (.alt 8 (.alt 7 (.alt 9 (.alt 10 (.alt 11 (.fin) (.non)) (.non)) (.non)) (.alt 9 (.alt 7 (.alt 10 (.alt 11 (.fin) (.non)) (.non)) (.non)) (.non))) (.alt 9 (.alt 7 (.alt 8 (.alt 10 (.alt 11 (.fin) (.non)) (.non)) (.non)) (.alt 8 (.alt 7 (.alt 10 (.alt 11 (.fin) (.non)) (.non)) (.non)) (.non))) (.non)))) (.alt 8 (.alt 3 (.alt 7 (.alt 9 (.alt 10 (.alt 11 (.fin) (.non)) (.non)) (.non)) (.alt 9 (.alt 7 (.alt 10 (.alt 11 (.fin) (.non)) (.non)) (.non)) (.non))) (.alt 9 (.alt 3 (.alt 7 (.alt 10 (.alt 11 (.fin) (.non)) (.non)) (.non)) (.non)) (.non))) (.alt 9 (.alt 3 (.alt 7 (.alt 8 (.alt 10 (.alt 11 (.fin) (.non)) (.non)) (.non)) (.alt 8 (.alt 7 (.alt 10 (.alt 11 (.fin) (.non)) (.non)) (.non)) (.non))) (.alt 8 (.alt 3 (.alt 7 (.alt 10 (.alt 11 (.fin) (.non)) (.non)) (.non)) (.non)) (.non))) (.non)))) (.alt 8 (.alt 2 (.alt 3 (.alt 7 (.alt 9 (.alt 10 (.alt 11 (.fin) (.non)) (.non)) (.non)) (.alt 9 (.alt 7 (.alt 10 (.alt 11 (.fin) (.non)) (.non)) (.non)) (.non))) (.alt 9 (.alt 3 (.alt 7 (.alt 10 (.alt 11 (.fin) (.non)) (.non)) (.non)) (.non)) (.non))) (.alt 9 (.alt 2 (.alt 3 (.alt 7 (.alt 10 (.alt 11 (.fin) (.non)) (.non)) (.non)) (.non)) (.non)) (.non))) (.alt 9 (.alt 2 (.alt 3 (.alt 7 (.alt 8 (.alt 10 (.alt 11 (.fin) (.non)) (.non)) (.non)) (.alt 8 (.alt 7 (.alt 10 (.alt 11 (.fin) (.non)) (.non)) (.non)) (.non))) (.alt 8 (.alt 3 (.alt 7 (.alt 10 (.alt 11 (.fin) (.non)) (.non)) (.non)) (.non)) (.non))) (.alt 8 (.alt 2 (.alt 3 (.alt 7 (.alt 10 (.alt 11 (.fin) (.non)) (.non)) (.non)) (.non)) (.non)) (.non))) (.non)))) (.alt 8 (.alt 2 (.alt 3 (.alt 6 (.alt 7 (.alt 9 (.alt 10 (.alt 11 (.fin) (.non)) (.non)) (.non)) (.alt 9 (.alt 7 (.alt 10 (.alt 11 (.fin) (.non)) (.non)) (.non)) (.non))) (.alt 9 (.alt 6 (.alt 7 (.alt 10 (.alt 11 (.fin) (.non)) (.non)) (.non)) (.non)) (.non))) (.alt 6 (.alt 3 (.alt 7 (.alt 9 (.alt 10 (.alt 11 (.fin) (.non)) (.non)) (.non)) (.alt 9 (.alt 7 (.alt 10 (.alt 11 (.fin) (.non)) (.non)) (.non)) (.non))) (.alt 9 (.alt 3 (.alt 7 (.alt 10 (.alt 11 (.fin) (.non)) (.non)) (.non)) (.non)) (.non))) (.alt 9 (.alt 3 (.alt 6 (.alt 7 (.alt 10 (.alt 11 (.fin) (.non)) (.non)) (.non)) (.non)) (.alt 6 (.alt 3 (.alt 7 (.alt 10 (.alt 11 (.fin) (.non)) (.non)) (.non)) (.non)) (.non))) (.non)))) (.alt 6 (.alt 2 (.alt 3 (.alt 7 (.alt 9 (.alt 10 (.alt 11 (.fin) (.non)) (.non)) (.non)) (.alt 9 (.alt 7 (.alt 10 (.alt 11 (.fin) (.non)) (.non)) (.non)) (.non))) (.alt 9 (.alt 3 (.alt 7 (.alt 10 (.alt 11 (.fin) (.non)) (.non)) (.non)) (.non)) (.non))) (.alt 9 (.alt 2 (.alt 3 (.alt 7 (.alt 10 (.alt 11 (.fin) (.non)) (.non)) (.non)) (.non)) (.non)) (.non))) (.alt 9 (.alt 2 (.alt 3 (.alt 6 (.alt 7 (.alt 10 (.alt 11 (.fin) (.non)) (.non)) (.non)) (.non)) (.alt 6 (.alt 3 (.alt 7 (.alt 10 (.alt 11 (.fin) (.non)) (.non)) (.non)) (.non)) (.non))) (.alt 6 (.alt 2 (.alt 3 (.alt 7 (.alt 10 (.alt 11 (.fin) (.non)) (.non)) (.non)) (.non)) (.non)) (.non))) (.non)))) (.alt 9 (.alt 2 (.alt 3 (.alt 6 (.alt 7 (.alt 8 (.alt 10 (.alt 11 (.fin) (.non)) (.non)) (.non)) (.alt 8 (.alt 7 (.alt 10 (.alt 11 (.fin) (.non)) (.non)) (.non)) (.non))) (.alt 8 (.alt 6 (.alt 7 (.alt 10 (.alt 11 (.fin) (.non)) (.non)) (.non)) (.non)) (.non))) (.alt 6 (.alt 3 (.alt 7 (.alt 8 (.alt 10 (.alt 11 (.fin) (.non)) (.non)) (.non)) (.alt 8 (.alt 7 (.alt 10 (.alt 11 (.fin) (.non)) (.non)) (.non)) (.non))) (.alt 8 (.alt 3 (.alt 7 (.alt 10 (.alt 11 (.fin) (.non)) (.non)) (.non)) (.non)) (.non))) (.alt 8 (.alt 3 (.alt 6 (.alt 7 (.alt 10 (.alt 11 (.fin) (.non)) (.non)) (.non)) (.non)) (.alt 6 (.alt 3 (.alt 7 (.alt 10 (.alt 11 (.fin) (.non)) (.non)) (.non)) (.non)) (.non))) (.non)))) (.alt 6 (.alt 2 (.alt 3 (.alt 7 (.alt 8 (.alt 10 (.alt 11 (.fin) (.non)) (.non)) (.non)) (.alt 8 (.alt 7 (.alt 10 (.alt 11 (.fin) (.non)) (.non)) (.non)) (.non))) (.alt 8 (.alt 3 (.alt 7 (.alt 10 (.alt 11 (.fin) (.non)) (.non)) (.non)) (.non)) (.non))) (.alt 8 (.alt 2 (.alt 3 (.alt 7 (.alt 10 (.alt 11 (.fin) (.non)) (.non)) (.non)) (.non)) (.non)) (.non))) (.alt 8 (.alt 2 (.alt 3 (.alt 6 (.alt 7 (.alt 10 (.alt 11 (.fin) (.non)) (.non)) (.non)) (.non)) (.alt 6 (.alt 3 (.alt 7 (.alt 10 (.alt 11 (.fin) (.non)) (.non)) (.non)) (.non)) (.non))) (.alt 6 (.alt 2 (.alt 3 (.alt 7 (.alt 10 (.alt 11 (.fin) (.non)) (.non)) (.non)) (.non)) (.non)) (.non))) (.non)))) (.non))))))))) tok mixed (by kernel_rfl) (by kernel_rfl) (by intro q; cases q <;> (refine ⟨?_, ?_, ?_⟩ <;> simp [inS, inBB, inBL, inB, hO])) ?_ ?_; rotate_left; intro q; cases q)
  | exact join true ⟨rfl, rfl, rfl, rfl, rfl, trivial⟩ ⟨[], rfl⟩ ⟨[], rfl⟩
  | exact join false ⟨rfl, rfl, rfl, rfl, rfl, trivial⟩ ⟨[], rfl⟩ ⟨[], rfl⟩
  | ((with_reducible refine dg ?_); refine dgw 5 (.ptr 1 0) (by rfl) ?_; refine draw_j (A := Unit) (id := 2) (N := 93) (fun _ => [(1, .val (.int .i64 (p))), (2, .ptr 0 0), (4, .val (.bool false)), (5, .ptr 1 0), (6, .ptr 2 0), (7, .val (.int .i64 (bl x.1.natAbs : Int))), (8, .val (.int .i64 (bl y.1.natAbs : Int)))]) (fun _ => [[.val (.bool (decide (x.1 < 0))), .ws .u64 (d64 x.1.natAbs), .val (.int .i64 x.2), .val (.bool (decide (y.1 < 0))), .ws .u64 (d64 y.1.natAbs), .val (.int .i64 y.2)], [.val (.bool (decide (x.1 < 0))), .ws .u32 (d32 x.1.natAbs)], [.val (.bool (decide (y.1 < 0))), .ws .u32 (d32 y.1.natAbs)]]) (fun _ => []) (.take 0 (.take 3 (.alt 1 (.alt 2 (.alt 4 (.alt 5 (.alt 6 (.alt 7 (.fin) (.non)) (.non)) (.non)) (.non)) (.alt 4 (.alt 2 (.alt 5 (.alt 6 (.alt 7 (.fin) (.non)) (.non)) (.non)) (.non)) (.non))) (.alt 4 (.alt 1 (.alt 2 (.alt 5 (.alt 6 (.alt 7 (.fin) (.non)) (.non)) (.non)) (.non)) (.non)) (.non))))) tok mixed (by kernel_rfl) (by kernel_rfl) (by intro ju; (refine ⟨?_, ?_, ?_⟩ <;> simp [inS, inBB, inBL, inB, hO])) ?_ ?_; rotate_left; intro ju)
  | exact join () ⟨rfl, rfl, rfl, rfl, rfl, rfl, rfl, trivial⟩ ⟨[], rfl⟩ ⟨[], rfl⟩
  | ((with_reducible refine dg ?_); refine dgw 5 (.ptr 1 0) (by rfl) ?_; refine draw_j (A := Unit) (id := 9) (N := 93) (fun _ => [(1, .val (.int .i64 (p))), (2, .ptr 0 0), (4, .val (.bool false)), (5, .ptr 1 0), (6, .ptr 2 0), (7, .val (.int .i64 (bl x.1.natAbs : Int))), (8, .val (.int .i64 (bl y.1.natAbs : Int))), (10, .ptr 3 0), (9, .val (.int .i64 (x.2))), (11, .val (.int .i64 (bl x.1.natAbs : Int)))]) (fun _ => [[.val (.bool (decide (x.1 < 0))), .ws .u64 (d64 x.1.natAbs), .val (.int .i64 x.2), .val (.bool (decide (y.1 < 0))), .ws .u64 (d64 y.1.natAbs), .val (.int .i64 y.2)], [.val (.bool (decide (x.1 < 0))), .ws .u32 (d32 x.1.natAbs)], [.val (.bool (decide (y.1 < 0))), .ws .u32 (d32 y.1.natAbs)], [.val (.bool (decide (x.1 < 0))), .ws .u32 (d32 x.1.natAbs)]]) (fun _ => []) (.take 0 (.take 1 (.take 4 (.alt 2 (.alt 3 (.alt 5 (.alt 6 (.alt 7 (.alt 8 (.fin) (.non)) (.non)) (.non)) (.non)) (.alt 5 (.alt 3 (.alt 6 (.alt 7 (.alt 8 (.fin) (.non)) (.non)) (.non)) (.alt 6 (.alt 3 (.alt 7 (.alt 8 (.fin) (.non)) (.non)) (.non)) (.non))) (.non))) (.alt 3 (.alt 2 (.alt 5 (.alt 6 (.alt 7 (.alt 8 (.fin) (.non)) (.non)) (.non)) (.non)) (.alt 5 (.alt 2 (.alt 6 (.alt 7 (.alt 8 (.fin) (.non)) (.non)) (.non)) (.non)) (.non))) (.alt 5 (.alt 2 (.alt 3 (.alt 6 (.alt 7 (.alt 8 (.fin) (.non)) (.non)) (.non)) (.alt 6 (.alt 3 (.alt 7 (.alt 8 (.fin) (.non)) (.non)) (.non)) (.non))) (.alt 3 (.alt 2 (.alt 6 (.alt 7 (.alt 8 (.fin) (.non)) (.non)) (.non)) (.non)) (.non))) (.non))))))) tok mixed (by kernel_rfl) (by kernel_rfl) (by intro ju; (refine ⟨?_, ?_, ?_⟩ <;> simp [inS, inBB, inBL, inB, hO])) ?_ ?_; rotate_left; intro ju)
  | exact join () ⟨rfl, rfl, rfl, rfl, rfl, rfl, rfl, rfl, rfl, rfl, trivial⟩ ⟨[], rfl⟩ ⟨[], rfl⟩
  | ((with_reducible refine dg ?_); refine dgw 5 (.ptr 1 0) (by rfl) ?_; refine draw_j (A := Unit) (id := 10) (N := 93) (fun _ => [(1, .val (.int .i64 (p))), (2, .ptr 0 0), (4, .val (.bool false)), (5, .ptr 1 0), (6, .ptr 2 0), (7, .val (.int .i64 (bl x.1.natAbs : Int))), (8, .val (.int .i64 (bl y.1.natAbs : Int))), (10, .ptr 3 0), (9, .val (.int .i64 (x.2))), (11, .val (.int .i64 (bl x.1.natAbs : Int))), (12, .ptr 4 0), (13, .val (.int .i64 (y.2)))]) (fun _ => [[.val (.bool (decide (x.1 < 0))), .ws .u64 (d64 x.1.natAbs), .val (.int .i64 x.2), .val (.bool (decide (y.1 < 0))), .ws .u64 (d64 y.1.natAbs), .val (.int .i64 y.2)], [.val (.bool (decide (x.1 < 0))), .ws .u32 (d32 x.1.natAbs)], [.val (.bool (decide (y.1 < 0))), .ws .u32 (d32 y.1.natAbs)], [.val (.bool (decide (x.1 < 0))), .ws .u32 (d32 x.1.natAbs)], [.val (.bool (decide (y.1 < 0))), .ws .u32 (d32 y.1.natAbs)]]) (fun _ => []) (.take 1 (.take 2 (.alt 0 (.alt 3 (.alt 4 (.alt 5 (.alt 6 (.fin) (.non)) (.non)) (.non)) (.alt 4 (.alt 3 (.alt 5 (.alt 6 (.fin) (.non)) (.non)) (.alt 5 (.alt 3 (.alt 6 (.fin) (.non)) (.non)) (.non))) (.non))) (.alt 3 (.alt 0 (.alt 4 (.alt 5 (.alt 6 (.fin) (.non)) (.non)) (.non)) (.alt 4 (.alt 0 (.alt 5 (.alt 6 (.fin) (.non)) (.non)) (.non)) (.non))) (.alt 4 (.alt 0 (.alt 3 (.alt 5 (.alt 6 (.fin) (.non)) (.non)) (.alt 5 (.alt 3 (.alt 6 (.fin) (.non)) (.non)) (.non))) (.alt 3 (.alt 0 (.alt 5 (.alt 6 (.fin) (.non)) (.non)) (.non)) (.non))) (.non)))))) tok mixed (by kernel_rfl) (by kernel_rfl) (by intro ju; (refine ⟨?_, ?_, ?_⟩ <;> simp [inS, inBB, inBL, inB, hO])) ?_ ?_; rotate_left; intro ju)
  | exact join () ⟨rfl, rfl, rfl, rfl, rfl, rfl, rfl, rfl, rfl, rfl, rfl, rfl, trivial⟩ ⟨[], rfl⟩ ⟨[], rfl⟩
  | ((with_reducible refine dg ?_); refine dgw 5 (.ptr 1 0) (by rfl) ?_; refine draw_j (A := Unit) (id := 16) (N := 93) (fun _ => [(4, .val (.bool true))]) (fun _ => []) (fun _ => []) (.take 1 (.take 4 (.alt 0 (.alt 2 (.alt 3 (.alt 5 (.take 6 (.alt 7 (.fin) (.non))) (.non)) (.non)) (.non)) (.alt 2 (.alt 0 (.alt 3 (.alt 5 (.take 6 (.alt 7 (.fin) (.non))) (.non)) (.non)) (.alt 3 (.alt 0 (.alt 5 (.take 6 (.alt 7 (.fin) (.non))) (.non)) (.non)) (.non))) (.non))))) tok mixed (by kernel_rfl) (by kernel_rfl) (by intro ju; (refine ⟨?_, ?_, ?_⟩ <;> simp [inS, inBB, inBL, inB, hO])) ?_ ?_; rotate_left; intro ju)
  | exact join () ⟨rfl, trivial⟩ ⟨_, rfl⟩ ⟨[], rfl⟩
  | ((with_reducible refine dg ?_); refine dgw 5 (.ptr 2 0) (by rfl) ?_; refine draw_j (A := Unit) (id := 2) (N := 93) (fun _ => [(1, .val (.int .i64 (p))), (2, .ptr 0 0), (4, .val (.bool false)), (5, .ptr 2 0), (6, .ptr 1 0), (7, .val (.int .i64 (bl x.1.natAbs : Int))), (8, .val (.int .i64 (bl y.1.natAbs : Int)))]) (fun _ => [[.val (.bool (decide (x.1 < 0))), .ws .u64 (d64 x.1.natAbs), .val (.int .i64 x.2), .val (.bool (decide (y.1 < 0))), .ws .u64 (d64 y.1.natAbs), .val (.int .i64 y.2)], [.val (.bool (decide (y.1 < 0))), .ws .u32 (d32 y.1.natAbs)], [.val (.bool (decide (x.1 < 0))), .ws .u32 (d32 x.1.natAbs)]]) (fun _ => []) (.take 0 (.take 3 (.alt 1 (.alt 2 (.alt 4 (.alt 5 (.alt 6 (.alt 7 (.fin) (.non)) (.non)) (.non)) (.non)) (.alt 4 (.alt 2 (.alt 5 (.alt 6 (.alt 7 (.fin) (.non)) (.non)) (.non)) (.non)) (.non))) (.alt 4 (.alt 1 (.alt 2 (.alt 5 (.alt 6 (.alt 7 (.fin) (.non)) (.non)) (.non)) (.non)) (.non)) (.non))))) tok mixed (by kernel_rfl) (by kernel_rfl) (by intro ju; (refine ⟨?_, ?_, ?_⟩ <;> simp [inS, inBB, inBL, inB, hO])) ?_ ?_; rotate_left; intro ju)
  | exact join () ⟨rfl, rfl, rfl, rfl, rfl, rfl, rfl, trivial⟩ ⟨[], rfl⟩ ⟨[], rfl⟩
  | ((with_reducible refine dg ?_); refine dgw 5 (.ptr 2 0) (by rfl) ?_; refine draw_j (A := Unit) (id := 9) (N := 93) (fun _ => [(1, .val (.int .i64 (p))), (2, .ptr 0 0), (4, .val (.bool false)), (5, .ptr 2 0), (6, .ptr 1 0), (7, .val (.int .i64 (bl x.1.natAbs : Int))), (8, .val (.int .i64 (bl y.1.natAbs : Int))), (10, .ptr 3 0), (9, .val (.int .i64 (x.2))), (11, .val (.int .i64 (bl x.1.natAbs : Int)))]) (fun _ => [[.val (.bool (decide (x.1 < 0))), .ws .u64 (d64 x.1.natAbs), .val (.int .i64 x.2), .val (.bool (decide (y.1 < 0))), .ws .u64 (d64 y.1.natAbs), .val (.int .i64 y.2)], [.val (.bool (decide (y.1 < 0))), .ws .u32 (d32 y.1.natAbs)], [.val (.bool (decide (x.1 < 0))), .ws .u32 (d32 x.1.natAbs)], [.val (.bool (decide (x.1 < 0))), .ws .u32 (d32 x.1.natAbs)]]) (fun _ => []) (.take 0 (.take 1 (.take 4 (.alt 2 (.alt 3 (.alt 5 (.alt 6 (.alt 7 (.alt 8 (.fin) (.non)) (.non)) (.non)) (.non)) (.alt 5 (.alt 3 (.alt 6 (.alt 7 (.alt 8 (.fin) (.non)) (.non)) (.non)) (.alt 6 (.alt 3 (.alt 7 (.alt 8 (.fin) (.non)) (.non)) (.non)) (.non))) (.non))) (.alt 3 (.alt 2 (.alt 5 (.alt 6 (.alt 7 (.alt 8 (.fin) (.non)) (.non)) (.non)) (.non)) (.alt 5 (.alt 2 (.alt 6 (.alt 7 (.alt 8 (.fin) (.non)) (.non)) (.non)) (.non)) (.non))) (.alt 5 (.alt 2 (.alt 3 (.alt 6 (.alt 7 (.alt 8 (.fin) (.non)) (.non)) (.non)) (.alt 6 (.alt 3 (.alt 7 (.alt 8 (.fin) (.non)) (.non)) (.non)) (.non))) (.alt 3 (.alt 2 (.alt 6 (.alt 7 (.alt 8 (.fin) (.non)) (.non)) (.non)) (.non)) (.non))) (.non))))))) tok mixed (by kernel_rfl) (by kernel_rfl) (by intro ju; (refine ⟨?_, ?_, ?_⟩ <;> simp [inS, inBB, inBL, inB, hO])) ?_ ?_; rotate_left; intro ju)
  | exact join () ⟨rfl, rfl, rfl, rfl, rfl, rfl, rfl, rfl, rfl, rfl, trivial⟩ ⟨[], rfl⟩ ⟨[], rfl⟩
  | ((with_reducible refine dg ?_); refine dgw 5 (.ptr 2 0) (by rfl) ?_; refine draw_j (A := Unit) (id := 10) (N := 93) (fun _ => [(1, .val (.int .i64 (p))), (2, .ptr 0 0), (4, .val (.bool false)), (5, .ptr 2 0), (6, .ptr 1 0), (7, .val (.int .i64 (bl x.1.natAbs : Int))), (8, .val (.int .i64 (bl y.1.natAbs : Int))), (10, .ptr 3 0), (9, .val (.int .i64 (x.2))), (11, .val (.int .i64 (bl x.1.natAbs : Int))), (12, .ptr 4 0), (13, .val (.int .i64 (y.2)))]) (fun _ => [[.val (.bool (decide (x.1 < 0))), .ws .u64 (d64 x.1.natAbs), .val (.int .i64 x.2), .val (.bool (decide (y.1 < 0))), .ws .u64 (d64 y.1.natAbs), .val (.int .i64 y.2)], [.val (.bool (decide (y.1 < 0))), .ws .u32 (d32 y.1.natAbs)], [.val (.bool (decide (x.1 < 0))), .ws .u32 (d32 x.1.natAbs)], [.val (.bool (decide (x.1 < 0))), .ws .u32 (d32 x.1.natAbs)], [.val (.bool (decide (y.1 < 0))), .ws .u32 (d32 y.1.natAbs)]]) (fun _ => []) (.take 1 (.take 2 (.alt 0 (.alt 3 (.alt 4 (.alt 5 (.alt 6 (.fin) (.non)) (.non)) (.non)) (.alt 4 (.alt 3 (.alt 5 (.alt 6 (.fin) (.non)) (.non)) (.alt 5 (.alt 3 (.alt 6 (.fin) (.non)) (.non)) (.non))) (.non))) (.alt 3 (.alt 0 (.alt 4 (.alt 5 (.alt 6 (.fin) (.non)) (.non)) (.non)) (.alt 4 (.alt 0 (.alt 5 (.alt 6 (.fin) (.non)) (.non)) (.non)) (.non))) (.alt 4 (.alt 0 (.alt 3 (.alt 5 (.alt 6 (.fin) (.non)) (.non)) (.alt 5 (.alt 3 (.alt 6 (.fin) (.non)) (.non)) (.non))) (.alt 3 (.alt 0 (.alt 5 (.alt 6 (.fin) (.non)) (.non)) (.non)) (.non))) (.non)))))) tok mixed (by kernel_rfl) (by kernel_rfl) (by intro ju; (refine ⟨?_, ?_, ?_⟩ <;> simp [inS, inBB, inBL, inB, hO])) ?_ ?_; rotate_left; intro ju)
  | exact join () ⟨rfl, rfl, rfl, rfl, rfl, rfl, rfl, rfl, rfl, rfl, rfl, rfl, trivial⟩ ⟨[], rfl⟩ ⟨[], rfl⟩
  | ((with_reducible refine dg ?_); refine dgw 5 (.ptr 2 0) (by rfl) ?_; refine draw_j (A := Unit) (id := 16) (N := 93) (fun _ => [(4, .val (.bool true))]) (fun _ => []) (fun _ => []) (.take 1 (.take 4 (.alt 0 (.alt 2 (.alt 3 (.alt 5 (.take 6 (.alt 7 (.fin) (.non))) (.non)) (.non)) (.non)) (.alt 2 (.alt 0 (.alt 3 (.alt 5 (.take 6 (.alt 7 (.fin) (.non))) (.non)) (.non)) (.alt 3 (.alt 0 (.alt 5 (.take 6 (.alt 7 (.fin) (.non))) (.non)) (.non)) (.non))) (.non))))) tok mixed (by kernel_rfl) (by kernel_rfl) (by intro ju; (refine ⟨?_, ?_, ?_⟩ <;> simp [inS, inBB, inBL, inB, hO])) ?_ ?_; rotate_left; intro ju)
  | exact join () ⟨rfl, trivial⟩ ⟨_, rfl⟩ ⟨[], rfl⟩
  
  | (with_reducible refine draw_t (id := 1) (.one 0 (.one 1 (.one 2 (.one 4 (.one 5 (.one 6 (.two (.one 3 (.two (.one 7 (.two (.one 8 (.one 9 (.st (.one 10 (.st (.one 11 (.fin))))))) (.one 9 (.one 8 (.st (.one 10 (.st (.one 11 (.fin))))))))) (.two (.one 8 (.two (.one 7 (.one 9 (.st (.one 10 (.st (.one 11 (.fin))))))) (.one 9 (.one 7 (.st (.one 10 (.st (.one 11 (.fin))))))))) (.one 9 (.two (.one 7 (.one 8 (.st (.one 10 (.st (.one 11 (.fin))))))) (.one 8 (.one 7 (.st (.one 10 (.st (.one 11 (.fin)))))))))))) (.two (.one 8 (.two (.one 3 (.two (.one 7 (.one 9 (.st (.one 10 (.st (.one 11 (.fin))))))) (.one 9 (.one 7 (.st (.one 10 (.st (.one 11 (.fin))))))))) (.one 9 (.one 3 (.one 7 (.st (.one 10 (.st (.one 11 (.fin)))))))))) (.one 9 (.two (.one 3 (.two (.one 7 (.one 8 (.st (.one 10 (.st (.one 11 (.fin))))))) (.one 8 (.one 7 (.st (.one 10 (.st (.one 11 (.fin))))))))) (.one 8 (.one 3 (.one 7 (.st (.one 10 (.st (.one 11 (.fin)))))))))))))))))) tok mixed (by kernel_rfl) (by kernel_rfl) ?_)
  | (with_reducible refine draw_g (id := 2) [[0, 1, 3, 4, 2, 5, 6, 7]] tok mixed (by kernel_rfl) ?_)
  | (with_reducible refine draw_g (id := 7) [[0, 2, 1, 3, 4, 5, 6, 7, 8, 9]] tok mixed (by kernel_rfl) ?_)
  | (with_reducible refine draw_g (id := 9) [[], [4, 0, 1, 2, 3, 5, 6], [7, 8]] tok mixed (by kernel_rfl) ?_)
  | (with_reducible refine draw_g (id := 10) [[0, 1, 2, 3, 4], [5, 6]] tok mixed (by kernel_rfl) ?_)
  | (with_reducible refine draw_g (id := 12) [[], [4, 0, 1, 2, 3, 5], [6, 7]] tok mixed (by kernel_rfl) ?_)
  | (with_reducible refine draw_g (id := 13) [[0, 1, 2, 3], [4, 5]] tok mixed (by kernel_rfl) ?_)
  | (with_reducible refine draw_g (id := 16) [[0, 1, 2, 4, 3, 5, 6, 7]] tok mixed (by kernel_rfl) ?_)
  | with_reducible first
    | refine wrap_g (by dsimp only [inR]; omega) ?_
    | refine BothG.mk ?_ ?_ | refine fork_tt ?_ | refine fork_ff ?_
    | (refine fork_e (c := true) (by decide) ?_; refine fork_tt ?_) | (refine fork_e (c := false) (by decide) ?_; refine fork_ff ?_)
    | refine fork_t (by omega) ?_ | refine fork_f (by omega) ?_ | (refine fork_d ?_ ?_ <;> intro hc) | refine fork_n ?_ | (refine fork_b ?_ ?_ <;> intro hc)
    | refine fz_all (by omega) ?_ | (refine smk ?_ ?_; constructor))
      all_goals exact ⟨ret_e rfl⟩
    · obtain ⟨hy, hx, hv⟩ := hs
      simp only [D2.neg, Int.natAbs_neg] at hx hy hv
      have f6 := r_sign (G := G) x.1
      have f7 := r_sign (G := G) y.1
      rw [Int.sign_eq_neg_one_of_neg (by omega)] at f6
      rw [Int.sign_eq_neg_one_of_neg (by omega)] at f7
      have g1 := r_zabs_n (G := G) (a := y.1) (by omega) (by omega)
      have bn : bl (-y.1).natAbs = bl y.1.natAbs := by rw [Int.natAbs_neg]
      have ln : LZ (-y.1) = LZ y.1 := by unfold LZ; rw [Int.natAbs_neg]
      have g2 := r_zshl (G := G) (-y.1) (p - bl y.1.natAbs) (by omega) (by dsimp only [inR]; omega) (by omega)
      have g3 := r_of (G := G) 1 (by dsimp only [inR]; omega)
      have bs := bl_step (a := -y.1) (P := p.toNat) (t := (p - bl y.1.natAbs).toNat) (by omega)
      have ls := LZ_shl (-y.1) (p - bl y.1.natAbs).toNat
      have g4 := r_zadd (G := G) (-y.1 * 2 ^ (p - bl y.1.natAbs).toNat) 1 (by omega) (Nat.le_trans (LZ_small 1 (by omega)) (by decide))
      have g5 := r_zabs_n (G := G) (a := x.1) (by omega) (by omega)
      have g6 := s_hold (G := G) (-y.1 * 2 ^ (p - bl y.1.natAbs).toNat + 1) (y.2 + bl y.1.natAbs - p) (-x.1) x.2 (by omega) (by rw [Int.natAbs_neg]; omega) (by omega) (by omega)
      rw [hold_nil (by omega) (by omega) hv] at g6
      clear he bs ls hv z1 z2 d1 d2 k1 k2 h bn ln
      refine FC.intro (X := XX) tok Tryz.func42 rfl Tryz.ntmps42 (by rw [Tryz.results42]) (by kernel_rfl) rfl ?_; intro F hG hO
      rw [← hG] at f1 f2 f3 f4 f5 f6 f7 g1 g2 g3 g4 g5 g6
      repeat' ((try (conv => whnf)); first
  | ((with_reducible refine cg ?_); first | refine ceq f1 rfl ?_ | refine ceq f2 rfl ?_ | refine ceq f3 rfl ?_ | refine ceq f4 rfl ?_ | refine ceq f5 rfl ?_ | refine ceq f6 rfl ?_ | refine ceq f7 rfl ?_ | refine ceq g1 rfl ?_ | refine ceq g2 rfl ?_ | refine ceq g3 rfl ?_ | refine ceq g4 rfl ?_ | refine ceq g5 rfl ?_ | refine ceq g6 rfl ?_)
  | ((with_reducible refine dg ?_); refine draw_j (A := Bool) (id := 1) (N := 93) (fun q => [(1, .val (.int .i64 (p))), (2, .ptr 0 0), (4, .val (.bool false)), (5, .ptr (cond q 1 2) 0), (6, .ptr (cond q 2 1) 0)]) (fun q => [[.val (.bool (decide (x.1 < 0))), .ws .u64 (d64 x.1.natAbs), .val (.int .i64 x.2), .val (.bool (decide (y.1 < 0))), .ws .u64 (d64 y.1.natAbs), .val (.int .i64 y.2)], [.val (.bool (decide ((cond q x y).1 < 0))), .ws .u32 (d32 (cond q x y).1.natAbs)], [.val (.bool (decide ((cond q y x).1 < 0))), .ws .u32 (d32 (cond q y x).1.natAbs)]]) (fun _ => []) (.take 0 (.take 1 (.take 4 (.take 5 (.alt 2 (.alt 3 (.alt 6 (.alt 7 (.alt 8 (.alt 9 (.alt 10 (.alt 11 (.fin) (.non)) (.non)) (.non)) (.alt 9 (.alt 8 (.alt 10 (.alt 11 (.fin) (.non)) (.non)) (.non)) (.non))) (.alt 8 (.alt 7 (.alt 9 (.alt 10 (.alt 11 (.fin) (.non)) (.non)) (.non)) (.alt 9 (.alt 7 (.alt 10 (.alt 11 (.fin) (.non)) (.non)) (.non)) (.non))) (.alt 9 (.alt 7 (.alt 8 (.alt 10 (.alt 11 (.fin) (.non)) (.non)) (.non)) (.alt 8 (.alt 7 (.alt 10 (.alt 11 (.fin) (.non)) (.non)) (.non)) (.non))) (.non)))) (.alt 8 (.alt 6 (.alt 7 (.alt 9 (.alt 10 (.alt 11 (.fin) (.non)) (.non)) (.non)) (.alt 9 (.alt 7 (.alt 10 (.alt 11 (.fin) (.non)) (.non)) (.non)) (.non))) (.alt 9 (.alt 6 (.alt 7 (.alt 10 (.alt 11 (.fin) (.non)) (.non)) (.non)) (.non)) (.non))) (.alt 9 (.alt 6 (.alt 7 (.alt 8 (.alt 10 (.alt 11 (.fin) (.non)) (.non)) (.non)) (.alt 8 (.alt 7 (.alt 10 (.alt 11 (.fin) (.non)) (.non)) (.non)) (.non))) (.alt 8 (.alt 6 (.alt 7 (.alt 10 (.alt 11 (.fin) (.non)) (.non)) (.non)) (.non)) (.non))) (.non)))) (.alt 6 (.alt 3 (.alt 7 (.alt 8 (.alt 9 (.alt 10 (.alt 11 (.fin) (.non)) (.non)) (.non)) (.alt 9 (.alt 8 (.alt 10 (.alt 11 (.fin) (.non)) (.non)) (.non)) (.non))) (.alt 8 (.alt 7 (.alt 9 (.alt 10 (.alt 11 (.fin) (.non)) (.non)) (.non)) (.alt 9 (.alt 7 (.alt 10 (.alt 11 (.fin) (.non)) (.non)) (.non)) (.non))) (.alt 9 (.alt 7 (.alt 8 (.alt 10 (.alt 11 (.fin) (.non)) (.non)) (.non)) (.alt 8 (.alt 7 (.alt 10 (.alt 11 (.fin) (.non)) (.non)) (.non)) (.non))) (.non)))) (.alt 8 (.alt 3 (.alt 7 (.alt 9 (.alt 10 (.alt 11 (.fin) (.non)) (.non)) (.non)) (.alt 9 (.alt 7 (.alt 10 (.alt 11 (.fin) (.non)) (.non)) (.non)) (.non))) (.alt 9 (.alt 3 (.alt 7 (.alt 10 (.alt 11 (.fin) (.non)) (.non)) (.non)) (.non)) (.non))) (.alt 9 (.alt 3 (.alt 7 (.alt 8 (.alt 10 (.alt 11 (.fin) (.non)) (.non)) (.non)) (.alt 8 (.alt 7 (.alt 10 (.alt 11 (.fin) (.non)) (.non)) (.non)) (.non))) (.alt 8 (.alt 3 (.alt 7 (.alt 10 (.alt 11 (.fin) (.non)) (.non)) (.non)) (.non)) (.non))) (.non)))) (.alt 8 (.alt 3 (.alt 6 (.alt 7 (.alt 9 (.alt 10 (.alt 11 (.fin) (.non)) (.non)) (.non)) (.alt 9 (.alt 7 (.alt 10 (.alt 11 (.fin) (.non)) (.non)) (.non)) (.non))) (.alt 9 (.alt 6 (.alt 7 (.alt 10 (.alt 11 (.fin) (.non)) (.non)) (.non)) (.non)) (.non))) (.alt 6 (.alt 3 (.alt 7 (.alt 9 (.alt 10 (.alt 11 (.fin) (.non)) (.non)) (.non)) (.alt 9 (.alt 7 (.alt 10 (.alt 11 (.fin) (.non)) (.non)) (.non)) (.non))) (.alt 9 (.alt 3 (.alt 7 (.alt 10 (.alt 11 (.fin) (.non)) (.non)) (.non)) (.non)) (.non))) (.alt 9 (.alt 3 (.alt 6 (.alt 7 (.alt 10 (.alt 11 (.fin) (.non)) (.non)) (.non)) (.non)) (.alt 6 (.alt 3 (.alt 7 (.alt 10 (.alt 11 (.fin) (.non)) (.non)) (.non)) (.non)) (.non))) (.non)))) (.alt 9 (.alt 3 (.alt 6 (.alt 7 (.alt 8 (.alt 10 (.alt 11 (.fin) (.non)) (.non)) (.non)) (.alt 8 (.alt 7 (.alt 10 (.alt 11 (.fin) (.non)) (.non)) (.non)) (.non))) (.alt 8 (.alt 6 (.alt 7 (.alt 10 (.alt 11 (.fin) (.non)) (.non)) (.non)) (.non)) (.non))) (.alt 6 (.alt 3 (.alt 7 (.alt 8 (.alt 10 (.alt 11 (.fin) (.non)) (.non)) (.non)) (.alt 8 (.alt 7 (.alt 10 (.alt 11 (.fin) (.non)) (.non)) (.non)) (.non))) (.alt 8 (.alt 3 (.alt 7 (.alt 10 (.alt 11 (.fin) (.non)) (.non)) (.non)) (.non)) (.non))) (.alt 8 (.alt 3 (.alt 6 (.alt 7 (.alt 10 (.alt 11 (.fin) (.non)) (.non)) (.non)) (.non)) (.alt 6 (.alt 3 (.alt 7 (.alt 10 (.alt 11 (.fin) (.non)) (.non)) (.non)) (.non)) (.non))) (.non)))) (.non))))) (.alt 6 (.alt 2 (.alt 3 (.alt 7 (.alt 8 (.alt 9 (.alt 10 (.alt 11 (.fin) (.non)) (.non)) (.non)) (.alt 9 (.alt 8 (.alt 10 (.alt 11 (.fin) (.non)) (.non)) (.non)) (.non))) (.alt 8 (.alt 7 (.alt 9 (.alt 10 (.alt 11 (.fin) (.non)) (.non)) (.non)) (.alt 9 (.alt 7 (.alt 10 (.alt 11 (.fin) (.non)) (.non)) (.non)) (.non))) (.alt 9 (.alt 7 (.alt 8 (.alt 10 (.alt 11 (.fin) (.non)) (.non)) (.non)) (.alt 8 (.alt 7 (.alt 10 (.alt 11 (.fin) (.non)) (.non)) (.non)) (.non))) (.non)))) (.alt 8 (.alt 3 (.alt 7 (.alt 9 (.alt 10 (.alt 11 (.fin) (.non)) (.non)) (.non)) (.alt 9 (.alt 7 (.alt 10 (.alt 11 (.fin) (.non)) (.non)) (.non)) (.non))) (.alt 9 (.alt 3 (.alt 7 (.alt 10 (.alt 11 (.fin) (.non)) (.non)) (.non)) (.non)) (.non))) (.alt 9 (.alt 3 (.alt 7 (.alt 8 (.alt 10 (.alt 11 (.fin) (.non)) (.non)) (.non)) (.alt 8 (.alt 7 (.alt 10 (.alt 11 (.fin) (.non)) (.non)) (.non)) (.non))) (.alt 8 (.alt 3 (.alt 7 (.alt 10 (.alt 11 (.fin) (.non)) (.non)) (.non)) (.non)) (.non))) (.non)))) (.alt 8 (.alt 2 (.alt 3 (.alt 7 (.alt 9 (.alt 10 (.alt 11 (.fin) (.non)) (.non)) (.non)) (.alt 9 (.alt 7 (.alt 10 (.alt 11 (.fin) (.non)) (.non)) (.non)) (.non))) (.alt 9 (.alt 3 (.alt 7 (.alt 10 (.alt 11 (.fin) (.non)) (.non)) (.non)) (.non)) (.non))) (.alt 9 (.alt 2 (.alt 3 (.alt 7 (.alt 10 (.alt 11 (.fin) (.non)) (.non)) (.non)) (.non)) (.non)) (.non))) (.alt 9 (.alt 2 (.alt 3 (.alt 7 (.alt 8 (.alt 10 (.alt 11 (.fin) (.non)) (.non)) (.non)) (.alt 8 (.alt 7 (.alt 10 (.alt 11 (.fin) (.non)) (.non)) (.non)) (.non))) (.alt 8 (.alt 3 (.alt 7 (.alt 10 (.alt 11 (.fin) (.non)) (.non)) (.non)) (.non)) (.non))) (.alt 8 (.alt 2 (.alt 3 (.alt 7 (.alt 10 (.alt 11 (.fin) (.non)) (.non)) (.non)) (.non)) (.non)) (.non))) (.non)))) (.alt 8 (.alt 2 (.alt 3 (.alt 6 (.alt 7 (.alt 9 (.alt 10 (.alt 11 (.fin) (.non)) (.non)) (.non)) (.alt 9 (.alt 7 (.alt 10 (.alt 11 (.fin) (.non)) (.non)) (.non)) (.non))) (.alt 9 (.alt 6 (.alt 7 (.alt 10 (.alt 11 (.fin) (.non)) (.non)) (.non)) (.non)) (.non))) (.alt 6 (.alt 3 (.alt 7 (.alt 9 (.alt 10 (.alt 11 (.fin) (.non)) (.non)) (.non)) (.alt 9 (.alt 7 (.alt 10 (.alt 11 (.fin) (.non)) (.non)) (.non)) (.non))) (.alt 9 (.alt 3 (.alt 7 (.alt 10 (.alt 11 (.fin) (.non)) (.non)) (.non)) (.non)) (.non))) (.alt 9 (.alt 3 (.alt 6 (.alt 7 (.alt 10 (.alt 11 (.fin) (.non)) (.non)) (.non)) (.non)) (.alt 6 (.alt 3 (.alt 7 (.alt 10 (.alt 11 (.fin) (.non)) (.non)) (.non)) (.non)) (.non))) (.non)))) (.alt 6 (.alt 2 (.alt 3 (.alt 7 (.alt 9 (.alt 10 (.alt 11 (.fin) (.non)) (.non)) (.non)) (.alt 9 (.alt 7 (.alt 10 (.alt 11 (.fin) (.non)) (.non)) (.non)) (.non))) (.alt 9 (.alt 3 (.alt 7 (.alt 10 (.alt 11 (.fin) (.non)) (.non)) (.non)) (.non)) (.non))) (.alt 9 (.alt 2 (.alt 3 (.alt 7 (.alt 10 (.alt 11 (.fin) (.non)) (.non)) (.non)) (.non)) (.non)) (.non))) (.alt 9 (.alt 2 (.alt 3 (.alt 6 (.alt 7 (.alt 10 (.alt 11 (.fin) (.non)) (.non)) (.non)) (.non)) (.alt 6 (.alt 3 (.alt 7 (.alt 10 (.alt 11 (.fin) (.non)) (.non)) (.non)) (.non)) (.non))) (.alt 6 (.alt 2 (.alt 3 (.alt 7 (.alt 10 (.alt 11 (.fin) (.non)) (.non)) (.non)) (.non)) (.non)) (.non))) (.non)))) (.alt 9 (.alt 2 (.alt 3 (.alt 6 (.alt 7 (.alt 8 (.alt 10 (.alt 11 (.fin) (.non)) (.non)) (.non)) (.alt 8 (.alt 7 (.alt 10 (.alt 11 (.fin) (.non)) (.non)) (.non)) (.non))) (.alt 8 (.alt 6 (.alt 7 (.alt 10 (.alt 11 (.fin) (.non)) (.non)) (.non)) (.non)) (.non))) (.alt 6 (.alt 3 (.alt 7 (.alt 8 (.alt 10 (.alt 11 (.fin) (.non)) (.non)) (.non)) (.alt 8 (.alt 7 (.alt 10 (.alt 11 (.fin) (.non)) (.non)) (.non)) (.non))) (.alt 8 (.alt 3 (.alt 7 (.alt 10 (.alt 11 (.fin) (.non)) (.non)) (.non)) (.non)) (.non))) (.alt 8 (.alt 3 (.alt 6 (.alt 7 (.alt 10 (.alt 11 (.fin) (.non)) (.non)) (.non)) (.non)) (.alt 6 (.alt 3 (.alt 7 (.alt 10 (.alt 11 (.fin) (.non)) (.non)) (.non)) (.non)) (.non))) (.non)))) (.alt 6 (.alt 2 (.alt 3 (.alt 7 (.alt 8 (.alt 10 (.alt 11 (.fin) (.non)) (.non)) (.non)) (.alt 8 (.alt 7 (.alt 10 (.alt 11 (.fin) (.non)) (.non)) (.non)) (.non))) (.alt 8 (.alt 3 (.alt 7 (.alt 10 (.alt 11 (.fin) (.non)) (.non)) (.non)) (.non)) (.non))) (.alt 8 (.alt 2 (.alt 3 (.alt 7 (.alt 10 (.alt 11 (.fin) (.non)) (.non)) (.non)) (.non)) (.non)) (.non))) (.alt 8 (.alt 2 (.alt 3 (.alt 6 (.alt 7 (.alt 10 (.alt 11 (.fin) (.non)) (.non)) (.non)) (.non)) (.alt 6 (.alt 3 (.alt 7 (.alt 10 (.alt 11 (.fin) (.non)) (.non)) (.non)) (.non)) (.non))) (.alt 6 (.alt 2 (.alt 3 (.alt 7 (.alt 10 (.alt 11 (.fin) (.non)) (.non)) (.non)) (.non)) (.non)) (.non))) (.non)))) (.non))))))))) tok mixed (by kernel_rfl) (by kernel_rfl) (by intro q; cases q <;> (refine ⟨?_, ?_, ?_⟩ <;> simp [inS, inBB, inBL, inB, hO])) ?_ ?_; rotate_left; intro q; cases q)
  | exact join true ⟨rfl, rfl, rfl, rfl, rfl, trivial⟩ ⟨[], rfl⟩ ⟨[], rfl⟩
  | exact join false ⟨rfl, rfl, rfl, rfl, rfl, trivial⟩ ⟨[], rfl⟩ ⟨[], rfl⟩
  | ((with_reducible refine dg ?_); refine dgw 5 (.ptr 1 0) (by rfl) ?_; refine draw_j (A := Unit) (id := 2) (N := 93) (fun _ => [(1, .val (.int .i64 (p))), (2, .ptr 0 0), (4, .val (.bool false)), (5, .ptr 1 0), (6, .ptr 2 0), (7, .val (.int .i64 (bl x.1.natAbs : Int))), (8, .val (.int .i64 (bl y.1.natAbs : Int)))]) (fun _ => [[.val (.bool (decide (x.1 < 0))), .ws .u64 (d64 x.1.natAbs), .val (.int .i64 x.2), .val (.bool (decide (y.1 < 0))), .ws .u64 (d64 y.1.natAbs), .val (.int .i64 y.2)], [.val (.bool (decide (x.1 < 0))), .ws .u32 (d32 x.1.natAbs)], [.val (.bool (decide (y.1 < 0))), .ws .u32 (d32 y.1.natAbs)]]) (fun _ => []) (.take 0 (.take 3 (.alt 1 (.alt 2 (.alt 4 (.alt 5 (.alt 6 (.alt 7 (.fin) (.non)) (.non)) (.non)) (.non)) (.alt 4 (.alt 2 (.alt 5 (.alt 6 (.alt 7 (.fin) (.non)) (.non)) (.non)) (.non)) (.non))) (.alt 4 (.alt 1 (.alt 2 (.alt 5 (.alt 6 (.alt 7 (.fin) (.non)) (.non)) (.non)) (.non)) (.non)) (.non))))) tok mixed (by kernel_rfl) (by kernel_rfl) (by intro ju; (refine ⟨?_, ?_, ?_⟩ <;> simp [inS, inBB, inBL, inB, hO])) ?_ ?_; rotate_left; intro ju)
  | exact join () ⟨rfl, rfl, rfl, rfl, rfl, rfl, rfl, trivial⟩ ⟨[], rfl⟩ ⟨[], rfl⟩
  | ((with_reducible refine dg ?_); refine dgw 5 (.ptr 1 0) (by rfl) ?_; refine draw_j (A := Unit) (id := 9) (N := 93) (fun _ => [(1, .val (.int .i64 (p))), (2, .ptr 0 0), (4, .val (.bool false)), (5, .ptr 1 0), (6, .ptr 2 0), (7, .val (.int .i64 (bl x.1.natAbs : Int))), (8, .val (.int .i64 (bl y.1.natAbs : Int))), (10, .ptr 3 0), (9, .val (.int .i64 (x.2))), (11, .val (.int .i64 (bl x.1.natAbs : Int)))]) (fun _ => [[.val (.bool (decide (x.1 < 0))), .ws .u64 (d64 x.1.natAbs), .val (.int .i64 x.2), .val (.bool (decide (y.1 < 0))), .ws .u64 (d64 y.1.natAbs), .val (.int .i64 y.2)], [.val (.bool (decide (x.1 < 0))), .ws .u32 (d32 x.1.natAbs)], [.val (.bool (decide (y.1 < 0))), .ws .u32 (d32 y.1.natAbs)], [.val (.bool (decide (x.1 < 0))), .ws .u32 (d32 x.1.natAbs)]]) (fun _ => []) (.take 0 (.take 1 (.take 4 (.alt 2 (.alt 3 (.alt 5 (.alt 6 (.alt 7 (.alt 8 (.fin) (.non)) (.non)) (.non)) (.non)) (.alt 5 (.alt 3 (.alt 6 (.alt 7 (.alt 8 (.fin) (.non)) (.non)) (.non)) (.alt 6 (.alt 3 (.alt 7 (.alt 8 (.fin) (.non)) (.non)) (.non)) (.non))) (.non))) (.alt 3 (.alt 2 (.alt 5 (.alt 6 (.alt 7 (.alt 8 (.fin) (.non)) (.non)) (.non)) (.non)) (.alt 5 (.alt 2 (.alt 6 (.alt 7 (.alt 8 (.fin) (.non)) (.non)) (.non)) (.non)) (.non))) (.alt 5 (.alt 2 (.alt 3 (.alt 6 (.alt 7 (.alt 8 (.fin) (.non)) (.non)) (.non)) (.alt 6 (.alt 3 (.alt 7 (.alt 8 (.fin) (.non)) (.non)) (.non)) (.non))) (.alt 3 (.alt 2 (.alt 6 (.alt 7 (.alt 8 (.fin) (.non)) (.non)) (.non)) (.non)) (.non))) (.non))))))) tok mixed (by kernel_rfl) (by kernel_rfl) (by intro ju; (refine ⟨?_, ?_, ?_⟩ <;> simp [inS, inBB, inBL, inB, hO])) ?_ ?_; rotate_left; intro ju)
  | exact join () ⟨rfl, rfl, rfl, rfl, rfl, rfl, rfl, rfl, rfl, rfl, trivial⟩ ⟨[], rfl⟩ ⟨[], rfl⟩
  | ((with_reducible refine dg ?_); refine dgw 5 (.ptr 1 0) (by rfl) ?_; refine draw_j (A := Unit) (id := 10) (N := 93) (fun _ => [(1, .val (.int .i64 (p))), (2, .ptr 0 0), (4, .val (.bool false)), (5, .ptr 1 0), (6, .ptr 2 0), (7, .val (.int .i64 (bl x.1.natAbs : Int))), (8, .val (.int .i64 (bl y.1.natAbs : Int))), (10, .ptr 3 0), (9, .val (.int .i64 (x.2))), (11, .val (.int .i64 (bl x.1.natAbs : Int))), (12, .ptr 4 0), (13, .val (.int .i64 (y.2)))]) (fun _ => [[.val (.bool (decide (x.1 < 0))), .ws .u64 (d64 x.1.natAbs), .val (.int .i64 x.2), .val (.bool (decide (y.1 < 0))), .ws .u64 (d64 y.1.natAbs), .val (.int .i64 y.2)], [.val (.bool (decide (x.1 < 0))), .ws .u32 (d32 x.1.natAbs)], [.val (.bool (decide (y.1 < 0))), .ws .u32 (d32 y.1.natAbs)], [.val (.bool (decide (x.1 < 0))), .ws .u32 (d32 x.1.natAbs)], [.val (.bool (decide (y.1 < 0))), .ws .u32 (d32 y.1.natAbs)]]) (fun _ => []) (.take 1 (.take 2 (.alt 0 (.alt 3 (.alt 4 (.alt 5 (.alt 6 (.fin) (.non)) (.non)) (.non)) (.alt 4 (.alt 3 (.alt 5 (.alt 6 (.fin) (.non)) (.non)) (.alt 5 (.alt 3 (.alt 6 (.fin) (.non)) (.non)) (.non))) (.non))) (.alt 3 (.alt 0 (.alt 4 (.alt 5 (.alt 6 (.fin) (.non)) (.non)) (.non)) (.alt 4 (.alt 0 (.alt 5 (.alt 6 (.fin) (.non)) (.non)) (.non)) (.non))) (.alt 4 (.alt 0 (.alt 3 (.alt 5 (.alt 6 (.fin) (.non)) (.non)) (.alt 5 (.alt 3 (.alt 6 (.fin) (.non)) (.non)) (.non))) (.alt 3 (.alt 0 (.alt 5 (.alt 6 (.fin) (.non)) (.non)) (.non)) (.non))) (.non)))))) tok mixed (by kernel_rfl) (by kernel_rfl) (by intro ju; (refine ⟨?_, ?_, ?_⟩ <;> simp [inS, inBB, inBL, inB, hO])) ?_ ?_; rotate_left; intro ju)
  | exact join () ⟨rfl, rfl, rfl, rfl, rfl, rfl, rfl, rfl, rfl, rfl, rfl, rfl, trivial⟩ ⟨[], rfl⟩ ⟨[], rfl⟩
  | ((with_reducible refine dg ?_); refine dgw 5 (.ptr 1 0) (by rfl) ?_; refine draw_j (A := Unit) (id := 12) (N := 93) (fun _ => [(1, .val (.int .i64 (p))), (2, .ptr 0 0), (4, .val (.bool false)), (5, .ptr 1 0), (6, .ptr 2 0), (7, .val (.int .i64 (bl x.1.natAbs : Int))), (8, .val (.int .i64 (bl y.1.natAbs : Int))), (10, .ptr 3 0), (9, .val (.int .i64 (y.2))), (11, .val (.int .i64 (bl y.1.natAbs : Int))), (12, .ptr 4 0), (13, .val (.int .i64 (y.2)))]) (fun _ => [[.val (.bool (decide (x.1 < 0))), .ws .u64 (d64 x.1.natAbs), .val (.int .i64 x.2), .val (.bool (decide (y.1 < 0))), .ws .u64 (d64 y.1.natAbs), .val (.int .i64 y.2)], [.val (.bool (decide (x.1 < 0))), .ws .u32 (d32 x.1.natAbs)], [.val (.bool (decide (y.1 < 0))), .ws .u32 (d32 y.1.natAbs)], [.val (.bool (decide (y.1 < 0))), .ws .u32 (d32 y.1.natAbs)], [.val (.bool (decide (y.1 < 0))), .ws .u32 (d32 y.1.natAbs)]]) (fun _ => []) (.take 0 (.take 1 (.take 4 (.alt 2 (.alt 3 (.alt 5 (.alt 6 (.alt 7 (.fin) (.non)) (.non)) (.non)) (.alt 5 (.alt 3 (.alt 6 (.alt 7 (.fin) (.non)) (.non)) (.non)) (.non))) (.alt 3 (.alt 2 (.alt 5 (.alt 6 (.alt 7 (.fin) (.non)) (.non)) (.non)) (.non)) (.non)))))) tok mixed (by kernel_rfl) (by kernel_rfl) (by intro ju; (refine ⟨?_, ?_, ?_⟩ <;> simp [inS, inBB, inBL, inB, hO])) ?_ ?_; rotate_left; intro ju)
  | exact join () ⟨rfl, rfl, rfl, rfl, rfl, rfl, rfl, rfl, rfl, rfl, rfl, rfl, trivial⟩ ⟨[], rfl⟩ ⟨[], rfl⟩
  | ((with_reducible refine dg ?_); refine dgw 5 (.ptr 1 0) (by rfl) ?_; refine draw_j (A := Unit) (id := 13) (N := 93) (fun _ => [(1, .val (.int .i64 (p))), (2, .ptr 0 0), (4, .val (.bool false)), (5, .ptr 1 0), (6, .ptr 2 0), (7, .val (.int .i64 (bl x.1.natAbs : Int))), (8, .val (.int .i64 (bl y.1.natAbs : Int))), (10, .ptr 3 0), (9, .val (.int .i64 (y.2))), (11, .val (.int .i64 (bl y.1.natAbs : Int))), (12, .ptr 4 0), (13, .val (.int .i64 (x.2)))]) (fun _ => [[.val (.bool (decide (x.1 < 0))), .ws .u64 (d64 x.1.natAbs), .val (.int .i64 x.2), .val (.bool (decide (y.1 < 0))), .ws .u64 (d64 y.1.natAbs), .val (.int .i64 y.2)], [.val (.bool (decide (x.1 < 0))), .ws .u32 (d32 x.1.natAbs)], [.val (.bool (decide (y.1 < 0))), .ws .u32 (d32 y.1.natAbs)], [.val (.bool (decide (y.1 < 0))), .ws .u32 (d32 y.1.natAbs)], [.val (.bool (decide (x.1 < 0))), .ws .u32 (d32 x.1.natAbs)]]) (fun _ => []) (.take 1 (.take 2 (.alt 0 (.alt 3 (.alt 4 (.alt 5 (.fin) (.non)) (.non)) (.alt 4 (.alt 3 (.alt 5 (.fin) (.non)) (.non)) (.non))) (.alt 3 (.alt 0 (.alt 4 (.alt 5 (.fin) (.non)) (.non)) (.non)) (.non))))) tok mixed (by kernel_rfl) (by kernel_rfl) (by intro ju; (refine ⟨?_, ?_, ?_⟩ <;> simp [inS, inBB, inBL, inB, hO])) ?_ ?_; rotate_left; intro ju)
  | exact join () ⟨rfl, rfl, rfl, rfl, rfl, rfl, rfl, rfl, rfl, rfl, rfl, rfl, trivial⟩ ⟨[], rfl⟩ ⟨[], rfl⟩
  | ((with_reducible refine dg ?_); refine dgw 5 (.ptr 1 0) (by rfl) ?_; refine draw_j (A := Unit) (id := 16) (N := 93) (fun _ => [(4, .val (.bool true))]) (fun _ => []) (fun _ => []) (.take 1 (.take 4 (.alt 0 (.alt 2 (.alt 3 (.alt 5 (.take 6 (.alt 7 (.fin) (.non))) (.non)) (.non)) (.non)) (.alt 2 (.alt 0 (.alt 3 (.alt 5 (.take 6 (.alt 7 (.fin) (.non))) (.non)) (.non)) (.alt 3 (.alt 0 (.alt 5 (.take 6 (.alt 7 (.fin) (.non))) (.non)) (.non)) (.non))) (.non))))) tok mixed (by kernel_rfl) (by kernel_rfl) (by intro ju; (refine ⟨?_, ?_, ?_⟩ <;> simp [inS, inBB, inBL, inB, hO])) ?_ ?_; rotate_left; intro ju)
  | exact join () ⟨rfl, trivial⟩ ⟨_, rfl⟩ ⟨[], rfl⟩
  | ((with_reducible refine dg ?_); refine dgw 5 (.ptr 2 0) (by rfl) ?_; refine draw_j (A := Unit) (id := 2) (N := 93) (fun _ => [(1, .val (.int .i64 (p))), (2, .ptr 0 0), (4, .val (.bool false)), (5, .ptr 2 0), (6, .ptr 1 0), (7, .val (.int .i64 (bl x.1.natAbs : Int))), (8, .val (.int .i64 (bl y.1.natAbs : Int)))]) (fun _ => [[.val (.bool (decide (x.1 < 0))), .ws .u64 (d64 x.1.natAbs), .val (.int .i64 x.2), .val (.bool (decide (y.1 < 0))), .ws .u64 (d64 y.1.natAbs), .val (.int .i64 y.2)], [.val (.bool (decide (y.1 < 0))), .ws .u32 (d32 y.1.natAbs)], [.val (.bool (decide (x.1 < 0))), .ws .u32 (d32 x.1.natAbs)]]) (fun _ => []) (.take 0 (.take 3 (.alt 1 (.alt 2 (.alt 4 (.alt 5 (.alt 6 (.alt 7 (.fin) (.non)) (.non)) (.non)) (.non)) (.alt 4 (.alt 2 (.alt 5 (.alt 6 (.alt 7 (.fin) (.non)) (.non)) (.non)) (.non)) (.non))) (.alt 4 (.alt 1 (.alt 2 (.alt 5 (.alt 6 (.alt 7 (.fin) (.non)) (.non)) (.non)) (.non)) (.non)) (.non))))) tok mixed (by kernel_rfl) (by kernel_rfl) (by intro ju; (refine ⟨?_, ?_, ?_⟩ <;> simp [inS, inBB, inBL, inB, hO])) ?_ ?_; rotate_left; intro ju)
  | exact join () ⟨rfl, rfl, rfl, rfl, rfl, rfl, rfl, trivial⟩ ⟨[], rfl⟩ ⟨[], rfl⟩
  | ((with_reducible refine dg ?_); refine dgw 5 (.ptr 2 0) (by rfl) ?_; refine draw_j (A := Unit) (id := 9) (N := 93) (fun _ => [(1, .val (.int .i64 (p))), (2, .ptr 0 0), (4, .val (.bool false)), (5, .ptr 2 0), (6, .ptr 1 0), (7, .val (.int .i64 (bl x.1.natAbs : Int))), (8, .val (.int .i64 (bl y.1.natAbs : Int))), (10, .ptr 3 0), (9, .val (.int .i64 (x.2))), (11, .val (.int .i64 (bl x.1.natAbs : Int)))]) (fun _ => [[.val (.bool (decide (x.1 < 0))), .ws .u64 (d64 x.1.natAbs), .val (.int .i64 x.2), .val (.bool (decide (y.1 < 0))), .ws .u64 (d64 y.1.natAbs), .val (.int .i64 y.2)], [.val (.bool (decide (y.1 < 0))), .ws .u32 (d32 y.1.natAbs)], [.val (.bool (decide (x.1 < 0))), .ws .u32 (d32 x.1.natAbs)], [.val (.bool (decide (x.1 < 0))), .ws .u32 (d32 x.1.natAbs)]]) (fun _ => []) (.take 0 (.take 1 (.take 4 (.alt 2 (.alt 3 (.alt 5 (.alt 6 (.alt 7 (.alt 8 (.fin) (.non)) (.non)) (.non)) (.non)) (.alt 5 (.alt 3 (.alt 6 (.alt 7 (.alt 8 (.fin) (.non)) (.non)) (.non)) (.alt 6 (.alt 3 (.alt 7 (.alt 8 (.fin) (.non)) (.non)) (.non)) (.non))) (.non))) (.alt 3 (.alt 2 (.alt 5 (.alt 6 (.alt 7 (.alt 8 (.fin) (.non)) (.non)) (.non)) (.non)) (.alt 5 (.alt 2 (.alt 6 (.alt 7 (.alt 8 (.fin) (.non)) (.non)) (.non)) (.non)) (.non))) (.alt 5 (.alt 2 (.alt 3 (.alt 6 (.alt 7 (.alt 8 (.fin) (.non)) (.non)) (.non)) (.alt 6 (.alt 3 (.alt 7 (.alt 8 (.fin) (.non)) (.non)) (.non)) (.non))) (.alt 3 (.alt 2 (.alt 6 (.alt 7 (.alt 8 (.fin) (.non)) (.non)) (.non)) (.non)) (.non))) (.non))))))) tok mixed (by kernel_rfl) (by kernel_rfl) (by intro ju; (refine ⟨?_, ?_, ?_⟩ <;> simp [inS, inBB, inBL, inB, hO])) ?_ ?_; rotate_left; intro ju)
  | exact join () ⟨rfl, rfl, rfl, rfl, rfl, rfl, rfl, rfl, rfl, rfl, trivial⟩ ⟨[], rfl⟩ ⟨[], rfl⟩
  | ((with_reducible refine dg ?_); refine dgw 5 (.ptr 2 0) (by rfl) ?_; refine draw_j (A := Unit) (id := 10) (N := 93) (fun _ => [(1, .val (.int .i64 (p))), (2, .ptr 0 0), (4, .val (.bool false)), (5, .ptr 2 0), (6, .ptr 1 0), (7, .val (.int .i64 (bl x.1.natAbs : Int))), (8, .val (.int .i64 (bl y.1.natAbs : Int))), (10, .ptr 3 0), (9, .val (.int .i64 (x.2))), (11, .val (.int .i64 (bl x.1.natAbs : Int))), (12, .ptr 4 0), (13, .val (.int .i64 (y.2)))]) (fun _ => [[.val (.bool (decide (x.1 < 0))), .ws .u64 (d64 x.1.natAbs), .val (.int .i64 x.2), .val (.bool (decide (y.1 < 0))), .ws .u64 (d64 y.1.natAbs), .val (.int .i64 y.2)], [.val (.bool (decide (y.1 < 0))), .ws .u32 (d32 y.1.natAbs)], [.val (.bool (decide (x.1 < 0))), .ws .u32 (d32 x.1.natAbs)], [.val (.bool (decide (x.1 < 0))), .ws .u32 (d32 x.1.natAbs)], [.val (.bool (decide (y.1 < 0))), .ws .u32 (d32 y.1.natAbs)]]) (fun _ => []) (.take 1 (.take 2 (.alt 0 (.alt 3 (.alt 4 (.alt 5 (.alt 6 (.fin) (.non)) (.non)) (.non)) (.alt 4 (.alt 3 (.alt 5 (.alt 6 (.fin) (.non)) (.non)) (.alt 5 (.alt 3 (.alt 6 (.fin) (.non)) (.non)) (.non))) (.non))) (.alt 3 (.alt 0 (.alt 4 (.alt 5 (.alt 6 (.fin) (.non)) (.non)) (.non)) (.alt 4 (.alt 0 (.alt 5 (.alt 6 (.fin) (.non)) (.non)) (.non)) (.non))) (.alt 4 (.alt 0 (.alt 3 (.alt 5 (.alt 6 (.fin) (.non)) (.non)) (.alt 5 (.alt 3 (.alt 6 (.fin) (.non)) (.non)) (.non))) (.alt 3 (.alt 0 (.alt 5 (.alt 6 (.fin) (.non)) (.non)) (.non)) (.non))) (.non)))))) tok mixed (by kernel_rfl) (by kernel_rfl) (by intro ju; (refine ⟨?_, ?_, ?_⟩ <;> simp [inS, inBB, inBL, inB, hO])) ?_ ?_; rotate_left; intro ju)
  | exact join () ⟨rfl, rfl, rfl, rfl, rfl, rfl, rfl, rfl, rfl, rfl, rfl, rfl, trivial⟩ ⟨[], rfl⟩ ⟨[], rfl⟩
  | ((with_reducible refine dg ?_); refine dgw 5 (.ptr 2 0) (by rfl) ?_; refine draw_j (A := Unit) (id := 12) (N := 93) (fun _ => [(1, .val (.int .i64 (p))), (2, .ptr 0 0), (4, .val (.bool false)), (5, .ptr 2 0), (6, .ptr 1 0), (7, .val (.int .i64 (bl x.1.natAbs : Int))), (8, .val (.int .i64 (bl y.1.natAbs : Int))), (10, .ptr 3 0), (9, .val (.int .i64 (y.2))), (11, .val (.int .i64 (bl y.1.natAbs : Int))), (12, .ptr 4 0), (13, .val (.int .i64 (y.2)))]) (fun _ => [[.val (.bool (decide (x.1 < 0))), .ws .u64 (d64 x.1.natAbs), .val (.int .i64 x.2), .val (.bool (decide (y.1 < 0))), .ws .u64 (d64 y.1.natAbs), .val (.int .i64 y.2)], [.val (.bool (decide (y.1 < 0))), .ws .u32 (d32 y.1.natAbs)], [.val (.bool (decide (x.1 < 0))), .ws .u32 (d32 x.1.natAbs)], [.val (.bool (decide (y.1 < 0))), .ws .u32 (d32 y.1.natAbs)], [.val (.bool (decide (y.1 < 0))), .ws .u32 (d32 y.1.natAbs)]]) (fun _ => []) (.take 0 (.take 1 (.take 4 (.alt 2 (.alt 3 (.alt 5 (.alt 6 (.alt 7 (.fin) (.non)) (.non)) (.non)) (.alt 5 (.alt 3 (.alt 6 (.alt 7 (.fin) (.non)) (.non)) (.non)) (.non))) (.alt 3 (.alt 2 (.alt 5 (.alt 6 (.alt 7 (.fin) (.non)) (.non)) (.non)) (.non)) (.non)))))) tok mixed (by kernel_rfl) (by kernel_rfl) (by intro ju; (refine ⟨?_, ?_, ?_⟩ <;> simp [inS, inBB, inBL, inB, hO])) ?_ ?_; rotate_left; intro ju)
  | exact join () ⟨rfl, rfl, rfl, rfl, rfl, rfl, rfl, rfl, rfl, rfl, rfl, rfl, trivial⟩ ⟨[], rfl⟩ ⟨[], rfl⟩
  | ((with_reducible refine dg ?_); refine dgw 5 (.ptr 2 0) (by rfl) ?_; refine draw_j (A := Unit) (id := 13) (N := 93) (fun _ => [(1, .val (.int .i64 (p))), (2, .ptr 0 0), (4, .val (.bool false)), (5, .ptr 2 0), (6, .ptr 1 0), (7, .val (.int .i64 (bl x.1.natAbs : Int))), (8, .val (.int .i64 (bl y.1.natAbs : Int))), (10, .ptr 3 0), (9, .val (.int .i64 (y.2))), (11, .val (.int .i64 (bl y.1.natAbs : Int))), (12, .ptr 4 0), (13, .val (.int .i64 (x.2)))]) (fun _ => [[.val (.bool (decide (x.1 < 0))), .ws .u64 (d64 x.1.natAbs), .val (.int .i64 x.2), .val (.bool (decide (y.1 < 0))), .ws .u64 (d64 y.1.natAbs), .val (.int .i64 y.2)], [.val (.bool (decide (y.1 < 0))), .ws .u32 (d32 y.1.natAbs)], [.val (.bool (decide (x.1 < 0))), .ws .u32 (d32 x.1.natAbs)], [.val (.bool (decide (y.1 < 0))), .ws .u32 (d32 y.1.natAbs)], [.val (.bool (decide (x.1 < 0))), .ws .u32 (d32 x.1.natAbs)]]) (fun _ => []) (.take 1 (.take 2 (.alt 0 (.alt 3 (.alt 4 (.alt 5 (.fin) (.non)) (.non)) (.alt 4 (.alt 3 (.alt 5 (.fin) (.non)) (.non)) (.non))) (.alt 3 (.alt 0 (.alt 4 (.alt 5 (.fin) (.non)) (.non)) (.non)) (.non))))) tok mixed (by kernel_rfl) (by kernel_rfl) (by intro ju; (refine ⟨?_, ?_, ?_⟩ <;> simp [inS, inBB, inBL, inB, hO])) ?_ ?_; rotate_left; intro ju)
  | exact join () ⟨rfl, rfl, rfl, rfl, rfl, rfl, rfl, rfl, rfl, rfl, rfl, rfl, trivial⟩ ⟨[], rfl⟩ ⟨[], rfl⟩
  | ((with_reducible refine dg ?_); refine dgw 5 (.ptr 2 0) (by rfl) ?_; refine draw_j (A := Unit) (id := 16) (N := 93) (fun _ => [(4, .val (.bool true))]) (fun _ => []) (fun _ => []) (.take 1 (.take 4 (.alt 0 (.alt 2 (.alt 3 (.alt 5 (.take 6 (.alt 7 (.fin) (.non))) (.non)) (.non)) (.non)) (.alt 2 (.alt 0 (.alt 3 (.alt 5 (.take 6 (.alt 7 (.fin) (.non))) (.non)) (.non)) (.alt 3 (.alt 0 (.alt 5 (.take 6 (.alt 7 (.fin) (.non))) (.non)) (.non)) (.non))) (.non))))) tok mixed (by kernel_rfl) (by kernel_rfl) (by intro ju; (refine ⟨?_, ?_, ?_⟩ <;> simp [inS, inBB, inBL, inB, hO])) ?_ ?_; rotate_left; intro ju)
  | exact join () ⟨rfl, trivial⟩ ⟨_, rfl⟩ ⟨[], rfl⟩
  
  | (with_reducible refine draw_t (id := 1) (.one 0 (.one 1 (.one 2 (.one 4 (.one 5 (.one 6 (.two (.one 3 (.two (.one 7 (.two (.one 8 (.one 9 (.st (.one 10 (.st (.one 11 (.fin))))))) (.one 9 (.one 8 (.st (.one 10 (.st (.one 11 (.fin))))))))) (.two (.one 8 (.two (.one 7 (.one 9 (.st (.one 10 (.st (.one 11 (.fin))))))) (.one 9 (.one 7 (.st (.one 10 (.st (.one 11 (.fin))))))))) (.one 9 (.two (.one 7 (.one 8 (.st (.one 10 (.st (.one 11 (.fin))))))) (.one 8 (.one 7 (.st (.one 10 (.st (.one 11 (.fin)))))))))))) (.two (.one 8 (.two (.one 3 (.two (.one 7 (.one 9 (.st (.one 10 (.st (.one 11 (.fin))))))) (.one 9 (.one 7 (.st (.one 10 (.st (.one 11 (.fin))))))))) (.one 9 (.one 3 (.one 7 (.st (.one 10 (.st (.one 11 (.fin)))))))))) (.one 9 (.two (.one 3 (.two (.one 7 (.one 8 (.st (.one 10 (.st (.one 11 (.fin))))))) (.one 8 (.one 7 (.st (.one 10 (.st (.one 11 (.fin))))))))) (.one 8 (.one 3 (.one 7 (.st (.one 10 (.st (.one 11 (.fin)))))))))))))))))) tok mixed (by kernel_rfl) (by kernel_rfl) ?_)
  | (with_reducible refine draw_g (id := 2) [[0, 1, 3, 4, 2, 5, 6, 7]] tok mixed (by kernel_rfl) ?_)
  | (with_reducible refine draw_g (id := 7) [[0, 2, 1, 3, 4, 5, 6, 7, 8, 9]] tok mixed (by kernel_rfl) ?_)
  | (with_reducible refine draw_g (id := 9) [[], [4, 0, 1, 2, 3, 5, 6], [7, 8]] tok mixed (by kernel_rfl) ?_)
  | (with_reducible refine draw_g (id := 10) [[0, 1, 2, 3, 4], [5, 6]] tok mixed (by kernel_rfl) ?_)
  | (with_reducible refine draw_g (id := 12) [[], [4, 0, 1, 2, 3, 5], [6, 7]] tok mixed (by kernel_rfl) ?_)
  | (with_reducible refine draw_g (id := 13) [[0, 1, 2, 3], [4, 5]] tok mixed (by kernel_rfl) ?_)
  | (with_reducible refine draw_g (id := 16) [[0, 1, 2, 4, 3, 5, 6, 7]] tok mixed (by kernel_rfl) ?_)
  | with_reducible first
    | refine wrap_g (by dsimp only [inR]; omega) ?_
    | refine BothG.mk ?_ ?_ | refine fork_tt ?_ | refine fork_ff ?_
    | (refine fork_e (c := true) (by decide) ?_; refine fork_tt ?_) | (refine fork_e (c := false) (by decide) ?_; refine fork_ff ?_)
    | refine fork_t (by omega) ?_ | refine fork_f (by omega) ?_ | (refine fork_d ?_ ?_ <;> intro hc) | refine fork_n ?_ | (refine fork_b ?_ ?_ <;> intro hc)
    | refine fz_all (by omega) ?_ | (refine smk ?_ ?_; constructor))
      all_goals exact ⟨ret_e rfl⟩
end Go.Proofs.YtpjbgmafnheomaaGreatDoor.Sim
namespace Go.Proofs.YtpjbgmafnheomaaGreatDoor.Sim
open Go.RowKit
set_option linter.unusedVariables false
set_option linter.unusedSimpArgs false
set_option maxRecDepth 10000
set_option maxHeartbeats 8000000
variable {G : List (Nat × List Value)}
theorem SnugR.x {p : Int} {r : PV} (h : SnugR p false r) : ∃ (x y : D2) (c d : Int), r = .tup [SP x y, .val (.int .i64 c)] ∧ c = 5 * d ∧ (0 ≤ d ∧ d ≤ 1) ∧ (Unit → c = 0 → GoodS x y ∧ Snug p x y) := by
  rcases h with ⟨x, y, h, g, s⟩ | h | ⟨h, _⟩
  · exact ⟨x, y, 0, 0, h, rfl, by omega, fun _ _ => ⟨g, s⟩⟩
  · exact ⟨(0, 0), (0, 0), 5, 1, h, rfl, by omega, fun _ h => by omega⟩
  · exact absurd h (by decide)
theorem spF_same (b : Bool) (l : List Int) (e : Int) : spF b l e b l e = dyF b l e := by
  unfold spF
  rw [decide_eq_true (Int.le_refl _), Bool.and_true, Bool.and_self]
theorem l_snug1 {g : List (Nat × List Value)} (hD : (0, debT.map (Value.int .u8)) ∈ g) {u v : D2} (gu : u.good) (gv : v.good) (p : Int) (o1 : OKM (d64 u.1.natAbs)) (o2 : OKM (d64 v.1.natAbs)) (hp0 : inR .i64 p) : FC Tryz.prog g 9 [DY u.1 u.2, DY v.1 v.2, .val (.int .i64 p)] (· = .val (.bool true)) := by
  have aw := s_awake hD
  have n1 := s_numberg (G := g) gu
  have n2 := s_numberg (G := g) gv
  have pu := p_point (G := g) gu
  have pv := p_point (G := g) gv
  have hu : GoodS u u := ⟨gu, gu, Int.le_refl _⟩
  have hv : GoodS v v := ⟨gv, gv, Int.le_refl _⟩
  have q1 := q_form (G := g) hu
  have q2 := q_form (G := g) hv
  have m1 := q_same_t (G := g) gu gu
  have m2 := q_same_t (G := g) gv gv
  have t1 := s_twing (G := g) hu
  have t2 := s_twing (G := g) hv
  by_cases hp : 1 ≤ p ∧ p ≤ 70000
  · obtain ⟨x1, y1, c1, d1, r1, hc1, hd1, ok1⟩ := (snug_sum gu gv hp).x
    obtain ⟨x2, y2, c2, d2, r2, hc2, hd2, ok2⟩ := (snug_sum gu (D2.neg_good gv) hp).x
    obtain ⟨x3, y3, c3, d3, r3, hc3, hd3, ok3⟩ := (snug_mul (a := u) (c := v) hp).x
    obtain ⟨x4, y4, c4, d4, r4, hc4, hd4, ok4⟩ := (snug_sqr gu hp).x
    obtain ⟨x6, y6, c6, d6, r6, hc6, hd6, ok6⟩ := (snug_out gu hp).x
    have f1 := p_add hD hu hv hp
    rw [r1] at f1
    have f2 := p_sub hD hu hv hp
    rw [r2] at f2
    have f3 := p_mul hD hu hv hp
    rw [r3] at f3
    have f4 := p_sqr hD hu hp
    rw [r4] at f4
    have f5 := p_quo hD hu hv hp
    have f6 := p_out hD hu hp
    rw [r6] at f6
    have hv1 : Unit → c1 = 0 → FC Tryz.prog g 20 [SP x1 y1] (· = .val (.bool true)) := fun ju hh => q_form (G := g) (ok1 ju hh).1
    have hw1 : Unit → c1 = 0 → FC Tryz.prog g 42 [SP x1 y1, .val (.int .i64 p)] (· = .val (.bool true)) := fun ju hh => s_snug (G := g) (ok1 ju hh).1 hp (ok1 ju hh).2
    have hv2 : Unit → c2 = 0 → FC Tryz.prog g 20 [SP x2 y2] (· = .val (.bool true)) := fun ju hh => q_form (G := g) (ok2 ju hh).1
    have hw2 : Unit → c2 = 0 → FC Tryz.prog g 42 [SP x2 y2, .val (.int .i64 p)] (· = .val (.bool true)) := fun ju hh => s_snug (G := g) (ok2 ju hh).1 hp (ok2 ju hh).2
    have hv3 : Unit → c3 = 0 → FC Tryz.prog g 20 [SP x3 y3] (· = .val (.bool true)) := fun ju hh => q_form (G := g) (ok3 ju hh).1
    have hw3 : Unit → c3 = 0 → FC Tryz.prog g 42 [SP x3 y3, .val (.int .i64 p)] (· = .val (.bool true)) := fun ju hh => s_snug (G := g) (ok3 ju hh).1 hp (ok3 ju hh).2
    have hv4 : Unit → c4 = 0 → FC Tryz.prog g 20 [SP x4 y4] (· = .val (.bool true)) := fun ju hh => q_form (G := g) (ok4 ju hh).1
    have hw4 : Unit → c4 = 0 → FC Tryz.prog g 42 [SP x4 y4, .val (.int .i64 p)] (· = .val (.bool true)) := fun ju hh => s_snug (G := g) (ok4 ju hh).1 hp (ok4 ju hh).2
    have hv6 : Unit → c6 = 0 → FC Tryz.prog g 20 [SP x6 y6] (· = .val (.bool true)) := fun ju hh => q_form (G := g) (ok6 ju hh).1
    have hw6 : Unit → c6 = 0 → FC Tryz.prog g 42 [SP x6 y6, .val (.int .i64 p)] (· = .val (.bool true)) := fun ju hh => s_snug (G := g) (ok6 ju hh).1 hp (ok6 ju hh).2
    have sq := snug_quo gu gv hp
    by_cases hz : v.1 = 0
    · rw [show spQuo u u v v p = spE 4 by unfold spQuo; rw [if_neg (by omega), if_neg (by omega)]] at f5
      have hlen : ((d64 v.1.natAbs).length : Int) = 0 := by rw [hz, show Int.natAbs 0 = 0 from rfl, d64_0]; rfl
      clear r1 r2 r3 r4 r6 ok1 ok2 ok3 ok4 ok6 sq hu hv gu gv o1 o2
      refine FC.intro (X := XX) tok Tryz.func9 rfl Tryz.ntmps9 (by rw [Tryz.results9]) (by kernel_rfl) rfl ?_; intro F hG hO
      rw [← hG] at hv1 hw1 hv2 hw2 hv3 hw3 hv4 hw4 hv6 hw6 aw n1 n2 pu pv q1 q2 m1 m2 t1 t2 f1 f2 f3 f4 f5 f6
      repeat' ((try (conv => whnf)); first
  | ((with_reducible refine cg ?_); first | refine ceq aw rfl ?_ | refine ceq n1 rfl ?_ | refine ceq n2 rfl ?_ | refine ceq pu rfl ?_ | refine ceq pv rfl ?_ | refine ceq q1 rfl ?_ | refine ceq q2 rfl ?_ | refine ceq m1 rfl ?_ | refine ceq m2 rfl ?_ | refine ceq t1 rfl ?_ | refine ceq t2 rfl ?_ | refine ceq f1 rfl ?_ | refine ceq f2 rfl ?_ | refine ceq f3 rfl ?_ | refine ceq f4 rfl ?_ | refine ceq f5 rfl ?_ | refine ceq f6 rfl ?_)
  | ((with_reducible refine cg ?_); refine call_eq (hv1 () (by omega)) (LpL.refl _) rfl ?_)
  | ((with_reducible refine cg ?_); refine call_eq (hw1 () (by omega)) (LpL.refl _) rfl ?_)
  | ((with_reducible refine cg ?_); refine call_eq (hv2 () (by omega)) (LpL.refl _) rfl ?_)
  | ((with_reducible refine cg ?_); refine call_eq (hw2 () (by omega)) (LpL.refl _) rfl ?_)
  | ((with_reducible refine cg ?_); refine call_eq (hv3 () (by omega)) (LpL.refl _) rfl ?_)
  | ((with_reducible refine cg ?_); refine call_eq (hw3 () (by omega)) (LpL.refl _) rfl ?_)
  | ((with_reducible refine cg ?_); refine call_eq (hv4 () (by omega)) (LpL.refl _) rfl ?_)
  | ((with_reducible refine cg ?_); refine call_eq (hw4 () (by omega)) (LpL.refl _) rfl ?_)
  | ((with_reducible refine cg ?_); refine call_eq (hv6 () (by omega)) (LpL.refl _) rfl ?_)
  | ((with_reducible refine cg ?_); refine call_eq (hw6 () (by omega)) (LpL.refl _) rfl ?_)
  | ((with_reducible refine dg ?_); refine draw_j (A := Unit) (id := 18) (N := 173) (fun _ => [(2, .val (.int .i64 (p))), (4, .ptr 1 0), (7, .ptr 2 0), (9, .ptr 3 0), (11, .val (.int .i64 k)), (12, .ptr 4 0), (8, .val (.int .i64 c1))]) (fun _ => [[.val (.bool (decide (u.1 < 0))), .ws .u64 (d64 u.1.natAbs), .val (.int .i64 u.2)], [.val (.bool (decide (v.1 < 0))), .ws .u64 (d64 v.1.natAbs), .val (.int .i64 v.2)], [.val (.bool (decide (u.1 < 0))), .ws .u64 (d64 u.1.natAbs), .val (.int .i64 u.2), .val (.bool (decide (u.1 < 0))), .ws .u64 (d64 u.1.natAbs), .val (.int .i64 u.2)], [.val (.bool (decide (v.1 < 0))), .ws .u64 (d64 v.1.natAbs), .val (.int .i64 v.2), .val (.bool (decide (v.1 < 0))), .ws .u64 (d64 v.1.natAbs), .val (.int .i64 v.2)], [.val (.bool (decide (x1.1 < 0))), .ws .u64 (d64 x1.1.natAbs), .val (.int .i64 x1.2), .val (.bool (decide (y1.1 < 0))), .ws .u64 (d64 y1.1.natAbs), .val (.int .i64 y1.2)]]) (fun _ => []) (.take 4 (.alt 0 (.alt 1 (.alt 2 (.alt 3 (.alt 5 (.take 6 (.take 7 (.take 8 (.alt 9 (.alt 10 (.fin) (.non)) (.non))))) (.non)) (.non)) (.non)) (.alt 2 (.alt 1 (.alt 3 (.alt 5 (.take 6 (.take 7 (.take 8 (.alt 9 (.alt 10 (.fin) (.non)) (.non))))) (.non)) (.non)) (.non)) (.non))) (.alt 2 (.alt 0 (.alt 1 (.alt 3 (.alt 5 (.take 6 (.take 7 (.take 8 (.alt 9 (.alt 10 (.fin) (.non)) (.non))))) (.non)) (.non)) (.non)) (.non)) (.non)))) tok mixed (by kernel_rfl) (by kernel_rfl) (by intro ju; (refine ⟨?_, ?_, ?_⟩ <;> simp [inS, inBB, inBL, inB, hO])) ?_ ?_; rotate_left; intro ju)
  | exact join () ⟨rfl, rfl, rfl, rfl, rfl, rfl, rfl, trivial⟩ ⟨[], rfl⟩ ⟨[], rfl⟩
  | ((with_reducible refine dg ?_); refine draw_j (A := Unit) (id := 20) (N := 173) (fun _ => [(2, .val (.int .i64 (p))), (4, .ptr 1 0), (7, .ptr 2 0), (9, .ptr 3 0), (11, .val (.int .i64 k)), (12, .ptr 4 0), (8, .val (.int .i64 c2))]) (fun _ => [[.val (.bool (decide (u.1 < 0))), .ws .u64 (d64 u.1.natAbs), .val (.int .i64 u.2)], [.val (.bool (decide (v.1 < 0))), .ws .u64 (d64 v.1.natAbs), .val (.int .i64 v.2)], [.val (.bool (decide (u.1 < 0))), .ws .u64 (d64 u.1.natAbs), .val (.int .i64 u.2), .val (.bool (decide (u.1 < 0))), .ws .u64 (d64 u.1.natAbs), .val (.int .i64 u.2)], [.val (.bool (decide (v.1 < 0))), .ws .u64 (d64 v.1.natAbs), .val (.int .i64 v.2), .val (.bool (decide (v.1 < 0))), .ws .u64 (d64 v.1.natAbs), .val (.int .i64 v.2)], [.val (.bool (decide (x2.1 < 0))), .ws .u64 (d64 x2.1.natAbs), .val (.int .i64 x2.2), .val (.bool (decide (y2.1 < 0))), .ws .u64 (d64 y2.1.natAbs), .val (.int .i64 y2.2)]]) (fun _ => []) (.take 4 (.alt 0 (.alt 1 (.alt 2 (.alt 3 (.alt 5 (.take 6 (.take 7 (.take 8 (.alt 9 (.alt 10 (.fin) (.non)) (.non))))) (.non)) (.non)) (.non)) (.alt 2 (.alt 1 (.alt 3 (.alt 5 (.take 6 (.take 7 (.take 8 (.alt 9 (.alt 10 (.fin) (.non)) (.non))))) (.non)) (.non)) (.non)) (.non))) (.alt 2 (.alt 0 (.alt 1 (.alt 3 (.alt 5 (.take 6 (.take 7 (.take 8 (.alt 9 (.alt 10 (.fin) (.non)) (.non))))) (.non)) (.non)) (.non)) (.non)) (.non)))) tok mixed (by kernel_rfl) (by kernel_rfl) (by intro ju; (refine ⟨?_, ?_, ?_⟩ <;> simp [inS, inBB, inBL, inB, hO])) ?_ ?_; rotate_left; intro ju)
  | exact join () ⟨rfl, rfl, rfl, rfl, rfl, rfl, rfl, trivial⟩ ⟨[], rfl⟩ ⟨[], rfl⟩
  | ((with_reducible refine dg ?_); refine draw_j (A := Unit) (id := 22) (N := 173) (fun _ => [(2, .val (.int .i64 (p))), (4, .ptr 1 0), (7, .ptr 2 0), (9, .ptr 3 0), (11, .val (.int .i64 k)), (12, .ptr 4 0), (8, .val (.int .i64 c3))]) (fun _ => [[.val (.bool (decide (u.1 < 0))), .ws .u64 (d64 u.1.natAbs), .val (.int .i64 u.2)], [.val (.bool (decide (v.1 < 0))), .ws .u64 (d64 v.1.natAbs), .val (.int .i64 v.2)], [.val (.bool (decide (u.1 < 0))), .ws .u64 (d64 u.1.natAbs), .val (.int .i64 u.2), .val (.bool (decide (u.1 < 0))), .ws .u64 (d64 u.1.natAbs), .val (.int .i64 u.2)], [.val (.bool (decide (v.1 < 0))), .ws .u64 (d64 v.1.natAbs), .val (.int .i64 v.2), .val (.bool (decide (v.1 < 0))), .ws .u64 (d64 v.1.natAbs), .val (.int .i64 v.2)], [.val (.bool (decide (x3.1 < 0))), .ws .u64 (d64 x3.1.natAbs), .val (.int .i64 x3.2), .val (.bool (decide (y3.1 < 0))), .ws .u64 (d64 y3.1.natAbs), .val (.int .i64 y3.2)]]) (fun _ => []) (.take 4 (.alt 0 (.alt 1 (.alt 2 (.alt 3 (.alt 5 (.take 6 (.take 7 (.take 8 (.alt 9 (.alt 10 (.fin) (.non)) (.non))))) (.non)) (.non)) (.non)) (.alt 2 (.alt 1 (.alt 3 (.alt 5 (.take 6 (.take 7 (.take 8 (.alt 9 (.alt 10 (.fin) (.non)) (.non))))) (.non)) (.non)) (.non)) (.non))) (.alt 2 (.alt 0 (.alt 1 (.alt 3 (.alt 5 (.take 6 (.take 7 (.take 8 (.alt 9 (.alt 10 (.fin) (.non)) (.non))))) (.non)) (.non)) (.non)) (.non)) (.non)))) tok mixed (by kernel_rfl) (by kernel_rfl) (by intro ju; (refine ⟨?_, ?_, ?_⟩ <;> simp [inS, inBB, inBL, inB, hO])) ?_ ?_; rotate_left; intro ju)
  | exact join () ⟨rfl, rfl, rfl, rfl, rfl, rfl, rfl, trivial⟩ ⟨[], rfl⟩ ⟨[], rfl⟩
  | ((with_reducible refine dg ?_); refine draw_j (A := Unit) (id := 26) (N := 173) (fun _ => [(2, .val (.int .i64 (p))), (4, .ptr 1 0), (7, .ptr 2 0), (9, .ptr 3 0), (11, .val (.int .i64 k)), (12, .ptr 4 0), (8, .val (.int .i64 4))]) (fun _ => [[.val (.bool (decide (u.1 < 0))), .ws .u64 (d64 u.1.natAbs), .val (.int .i64 u.2)], [.val (.bool (decide (v.1 < 0))), .ws .u64 (d64 v.1.natAbs), .val (.int .i64 v.2)], [.val (.bool (decide (u.1 < 0))), .ws .u64 (d64 u.1.natAbs), .val (.int .i64 u.2), .val (.bool (decide (u.1 < 0))), .ws .u64 (d64 u.1.natAbs), .val (.int .i64 u.2)], [.val (.bool (decide (v.1 < 0))), .ws .u64 (d64 v.1.natAbs), .val (.int .i64 v.2), .val (.bool (decide (v.1 < 0))), .ws .u64 (d64 v.1.natAbs), .val (.int .i64 v.2)], [.val (.bool (decide (((0, 0) : D2).1 < 0))), .ws .u64 (d64 ((0, 0) : D2).1.natAbs), .val (.int .i64 ((0, 0) : D2).2), .val (.bool (decide (((0, 0) : D2).1 < 0))), .ws .u64 (d64 ((0, 0) : D2).1.natAbs), .val (.int .i64 ((0, 0) : D2).2)]]) (fun _ => []) (.take 4 (.alt 0 (.alt 1 (.alt 2 (.alt 3 (.alt 5 (.take 6 (.take 7 (.take 8 (.alt 9 (.alt 10 (.fin) (.non)) (.non))))) (.non)) (.non)) (.non)) (.alt 2 (.alt 1 (.alt 3 (.alt 5 (.take 6 (.take 7 (.take 8 (.alt 9 (.alt 10 (.fin) (.non)) (.non))))) (.non)) (.non)) (.non)) (.non))) (.alt 2 (.alt 0 (.alt 1 (.alt 3 (.alt 5 (.take 6 (.take 7 (.take 8 (.alt 9 (.alt 10 (.fin) (.non)) (.non))))) (.non)) (.non)) (.non)) (.non)) (.non)))) tok mixed (by kernel_rfl) (by kernel_rfl) (by intro ju; (refine ⟨?_, ?_, ?_⟩ <;> simp [inS, inBB, inBL, inB, hO])) ?_ ?_; rotate_left; intro ju)
  | exact join () ⟨rfl, rfl, rfl, rfl, rfl, rfl, rfl, trivial⟩ ⟨[], rfl⟩ ⟨[], rfl⟩
  | ((with_reducible refine lg ?_); refine loop_g (A := Int) (fun k => 1 ≤ k ∧ k ≤ 7) (fun k => (7 - k).toNat) (fun k => [(2, .val (.int .i64 (p))), (4, .ptr 1 0), (7, .ptr 2 0), (9, .ptr 3 0), (11, .val (.int .i64 k))]) (fun _ => [[.val (.bool (decide (u.1 < 0))), .ws .u64 (d64 u.1.natAbs), .val (.int .i64 u.2)], [.val (.bool (decide (v.1 < 0))), .ws .u64 (d64 v.1.natAbs), .val (.int .i64 v.2)], [.val (.bool (decide (u.1 < 0))), .ws .u64 (d64 u.1.natAbs), .val (.int .i64 u.2), .val (.bool (decide (u.1 < 0))), .ws .u64 (d64 u.1.natAbs), .val (.int .i64 u.2)], [.val (.bool (decide (v.1 < 0))), .ws .u64 (d64 v.1.natAbs), .val (.int .i64 v.2), .val (.bool (decide (v.1 < 0))), .ws .u64 (d64 v.1.natAbs), .val (.int .i64 v.2)]]) (fun _ => []) 1 tok (by intro ju; (refine ⟨?_, ?_, ?_⟩ <;> simp [inS, inBB, inBL, inB, hO])) ?_ ⟨rfl, rfl, rfl, rfl, rfl, trivial⟩ ⟨[], rfl⟩ ⟨[], rfl⟩ ?_; rotate_left; rintro k ⟨hk1, hk2⟩)
  
  | (with_reducible refine draw_g (id := 18) [[], [4, 0, 2, 1, 3, 5], [6], [7], [8], [9, 10]] tok mixed (by kernel_rfl) ?_)
  | (with_reducible refine draw_g (id := 20) [[], [4, 0, 2, 1, 3, 5], [6], [7], [8], [9, 10]] tok mixed (by kernel_rfl) ?_)
  | (with_reducible refine draw_g (id := 22) [[], [4, 0, 2, 1, 3, 5], [6], [7], [8], [9, 10]] tok mixed (by kernel_rfl) ?_)
  | (with_reducible refine draw_g (id := 26) [[], [4, 0, 2, 1, 3, 5], [6], [7], [8], [9, 10]] tok mixed (by kernel_rfl) ?_)
  | with_reducible first
    | refine wrap_g (by dsimp only [inR]; omega) ?_
    | refine BothG.mk ?_ ?_ | refine fork_tt ?_ | refine fork_ff ?_
    | (refine fork_e (c := true) (by decide) ?_; refine fork_tt ?_) | (refine fork_e (c := false) (by decide) ?_; refine fork_ff ?_)
    | refine fork_t (by omega) ?_ | refine fork_f (by omega) ?_ | (refine fork_d ?_ ?_ <;> intro hc) | refine fork_n ?_ | (refine fork_b ?_ ?_ <;> intro hc)
    | refine fz_all (by omega) ?_ | (refine smk ?_ ?_; constructor))
      all_goals first
      | exact ⟨ret_e rfl⟩
      | exact ⟨again (k + 1) ⟨by omega, by omega⟩ (by omega) ⟨rfl, rfl, rfl, rfl, rfl, trivial⟩ ⟨_, rfl⟩ ⟨_, rfl⟩⟩
      | exact ⟨by omega, by omega⟩
    · obtain ⟨x5, y5, c5, d5, r5, hc5, hd5, ok5⟩ := (show SnugR p false (spQuo u u v v p) by rw [decide_eq_false hz] at sq; exact sq).x
      rw [r5] at f5
      have hv5 : Unit → c5 = 0 → FC Tryz.prog g 20 [SP x5 y5] (· = .val (.bool true)) := fun ju hh => q_form (G := g) (ok5 ju hh).1
      have hw5 : Unit → c5 = 0 → FC Tryz.prog g 42 [SP x5 y5, .val (.int .i64 p)] (· = .val (.bool true)) := fun ju hh => s_snug (G := g) (ok5 ju hh).1 hp (ok5 ju hh).2
      clear r1 r2 r3 r4 r5 r6 ok1 ok2 ok3 ok4 ok5 ok6 sq hu hv gu gv o1 o2
      refine FC.intro (X := XX) tok Tryz.func9 rfl Tryz.ntmps9 (by rw [Tryz.results9]) (by kernel_rfl) rfl ?_; intro F hG hO
      rw [← hG] at hv1 hw1 hv2 hw2 hv3 hw3 hv4 hw4 hv5 hw5 hv6 hw6 aw n1 n2 pu pv q1 q2 m1 m2 t1 t2 f1 f2 f3 f4 f5 f6
      repeat' ((try (conv => whnf)); first
  | ((with_reducible refine cg ?_); first | refine ceq aw rfl ?_ | refine ceq n1 rfl ?_ | refine ceq n2 rfl ?_ | refine ceq pu rfl ?_ | refine ceq pv rfl ?_ | refine ceq q1 rfl ?_ | refine ceq q2 rfl ?_ | refine ceq m1 rfl ?_ | refine ceq m2 rfl ?_ | refine ceq t1 rfl ?_ | refine ceq t2 rfl ?_ | refine ceq f1 rfl ?_ | refine ceq f2 rfl ?_ | refine ceq f3 rfl ?_ | refine ceq f4 rfl ?_ | refine ceq f5 rfl ?_ | refine ceq f6 rfl ?_)
  | ((with_reducible refine cg ?_); refine call_eq (hv1 () (by omega)) (LpL.refl _) rfl ?_)
  | ((with_reducible refine cg ?_); refine call_eq (hw1 () (by omega)) (LpL.refl _) rfl ?_)
  | ((with_reducible refine cg ?_); refine call_eq (hv2 () (by omega)) (LpL.refl _) rfl ?_)
  | ((with_reducible refine cg ?_); refine call_eq (hw2 () (by omega)) (LpL.refl _) rfl ?_)
  | ((with_reducible refine cg ?_); refine call_eq (hv3 () (by omega)) (LpL.refl _) rfl ?_)
  | ((with_reducible refine cg ?_); refine call_eq (hw3 () (by omega)) (LpL.refl _) rfl ?_)
  | ((with_reducible refine cg ?_); refine call_eq (hv4 () (by omega)) (LpL.refl _) rfl ?_)
  | ((with_reducible refine cg ?_); refine call_eq (hw4 () (by omega)) (LpL.refl _) rfl ?_)
  | ((with_reducible refine cg ?_); refine call_eq (hv5 () (by omega)) (LpL.refl _) rfl ?_)
  | ((with_reducible refine cg ?_); refine call_eq (hw5 () (by omega)) (LpL.refl _) rfl ?_)
  | ((with_reducible refine cg ?_); refine call_eq (hv6 () (by omega)) (LpL.refl _) rfl ?_)
  | ((with_reducible refine cg ?_); refine call_eq (hw6 () (by omega)) (LpL.refl _) rfl ?_)
  | ((with_reducible refine dg ?_); refine draw_j (A := Unit) (id := 18) (N := 173) (fun _ => [(2, .val (.int .i64 (p))), (4, .ptr 1 0), (7, .ptr 2 0), (9, .ptr 3 0), (11, .val (.int .i64 k)), (12, .ptr 4 0), (8, .val (.int .i64 c1))]) (fun _ => [[.val (.bool (decide (u.1 < 0))), .ws .u64 (d64 u.1.natAbs), .val (.int .i64 u.2)], [.val (.bool (decide (v.1 < 0))), .ws .u64 (d64 v.1.natAbs), .val (.int .i64 v.2)], [.val (.bool (decide (u.1 < 0))), .ws .u64 (d64 u.1.natAbs), .val (.int .i64 u.2), .val (.bool (decide (u.1 < 0))), .ws .u64 (d64 u.1.natAbs), .val (.int .i64 u.2)], [.val (.bool (decide (v.1 < 0))), .ws .u64 (d64 v.1.natAbs), .val (.int .i64 v.2), .val (.bool (decide (v.1 < 0))), .ws .u64 (d64 v.1.natAbs), .val (.int .i64 v.2)], [.val (.bool (decide (x1.1 < 0))), .ws .u64 (d64 x1.1.natAbs), .val (.int .i64 x1.2), .val (.bool (decide (y1.1 < 0))), .ws .u64 (d64 y1.1.natAbs), .val (.int .i64 y1.2)]]) (fun _ => []) (.take 4 (.alt 0 (.alt 1 (.alt 2 (.alt 3 (.alt 5 (.take 6 (.take 7 (.take 8 (.alt 9 (.alt 10 (.fin) (.non)) (.non))))) (.non)) (.non)) (.non)) (.alt 2 (.alt 1 (.alt 3 (.alt 5 (.take 6 (.take 7 (.take 8 (.alt 9 (.alt 10 (.fin) (.non)) (.non))))) (.non)) (.non)) (.non)) (.non))) (.alt 2 (.alt 0 (.alt 1 (.alt 3 (.alt 5 (.take 6 (.take 7 (.take 8 (.alt 9 (.alt 10 (.fin) (.non)) (.non))))) (.non)) (.non)) (.non)) (.non)) (.non)))) tok mixed (by kernel_rfl) (by kernel_rfl) (by intro ju; (refine ⟨?_, ?_, ?_⟩ <;> simp [inS, inBB, inBL, inB, hO])) ?_ ?_; rotate_left; intro ju)
  | exact join () ⟨rfl, rfl, rfl, rfl, rfl, rfl, rfl, trivial⟩ ⟨[], rfl⟩ ⟨[], rfl⟩
  | ((with_reducible refine dg ?_); refine draw_j (A := Unit) (id := 20) (N := 173) (fun _ => [(2, .val (.int .i64 (p))), (4, .ptr 1 0), (7, .ptr 2 0), (9, .ptr 3 0), (11, .val (.int .i64 k)), (12, .ptr 4 0), (8, .val (.int .i64 c2))]) (fun _ => [[.val (.bool (decide (u.1 < 0))), .ws .u64 (d64 u.1.natAbs), .val (.int .i64 u.2)], [.val (.bool (decide (v.1 < 0))), .ws .u64 (d64 v.1.natAbs), .val (.int .i64 v.2)], [.val (.bool (decide (u.1 < 0))), .ws .u64 (d64 u.1.natAbs), .val (.int .i64 u.2), .val (.bool (decide (u.1 < 0))), .ws .u64 (d64 u.1.natAbs), .val (.int .i64 u.2)], [.val (.bool (decide (v.1 < 0))), .ws .u64 (d64 v.1.natAbs), .val (.int .i64 v.2), .val (.bool (decide (v.1 < 0))), .ws .u64 (d64 v.1.natAbs), .val (.int .i64 v.2)], [.val (.bool (decide (x2.1 < 0))), .ws .u64 (d64 x2.1.natAbs), .val (.int .i64 x2.2), .val (.bool (decide (y2.1 < 0))), .ws .u64 (d64 y2.1.natAbs), .val (.int .i64 y2.2)]]) (fun _ => []) (.take 4 (.alt 0 (.alt 1 (.alt 2 (.alt 3 (.alt 5 (.take 6 (.take 7 (.take 8 (.alt 9 (.alt 10 (.fin) (.non)) (.non))))) (.non)) (.non)) (.non)) (.alt 2 (.alt 1 (.alt 3 (.alt 5 (.take 6 (.take 7 (.take 8 (.alt 9 (.alt 10 (.fin) (.non)) (.non))))) (.non)) (.non)) (.non)) (.non))) (.alt 2 (.alt 0 (.alt 1 (.alt 3 (.alt 5 (.take 6 (.take 7 (.take 8 (.alt 9 (.alt 10 (.fin) (.non)) (.non))))) (.non)) (.non)) (.non)) (.non)) (.non)))) tok mixed (by kernel_rfl) (by kernel_rfl) (by intro ju; (refine ⟨?_, ?_, ?_⟩ <;> simp [inS, inBB, inBL, inB, hO])) ?_ ?_; rotate_left; intro ju)
  | exact join () ⟨rfl, rfl, rfl, rfl, rfl, rfl, rfl, trivial⟩ ⟨[], rfl⟩ ⟨[], rfl⟩
  | ((with_reducible refine dg ?_); refine draw_j (A := Unit) (id := 22) (N := 173) (fun _ => [(2, .val (.int .i64 (p))), (4, .ptr 1 0), (7, .ptr 2 0), (9, .ptr 3 0), (11, .val (.int .i64 k)), (12, .ptr 4 0), (8, .val (.int .i64 c3))]) (fun _ => [[.val (.bool (decide (u.1 < 0))), .ws .u64 (d64 u.1.natAbs), .val (.int .i64 u.2)], [.val (.bool (decide (v.1 < 0))), .ws .u64 (d64 v.1.natAbs), .val (.int .i64 v.2)], [.val (.bool (decide (u.1 < 0))), .ws .u64 (d64 u.1.natAbs), .val (.int .i64 u.2), .val (.bool (decide (u.1 < 0))), .ws .u64 (d64 u.1.natAbs), .val (.int .i64 u.2)], [.val (.bool (decide (v.1 < 0))), .ws .u64 (d64 v.1.natAbs), .val (.int .i64 v.2), .val (.bool (decide (v.1 < 0))), .ws .u64 (d64 v.1.natAbs), .val (.int .i64 v.2)], [.val (.bool (decide (x3.1 < 0))), .ws .u64 (d64 x3.1.natAbs), .val (.int .i64 x3.2), .val (.bool (decide (y3.1 < 0))), .ws .u64 (d64 y3.1.natAbs), .val (.int .i64 y3.2)]]) (fun _ => []) (.take 4 (.alt 0 (.alt 1 (.alt 2 (.alt 3 (.alt 5 (.take 6 (.take 7 (.take 8 (.alt 9 (.alt 10 (.fin) (.non)) (.non))))) (.non)) (.non)) (.non)) (.alt 2 (.alt 1 (.alt 3 (.alt 5 (.take 6 (.take 7 (.take 8 (.alt 9 (.alt 10 (.fin) (.non)) (.non))))) (.non)) (.non)) (.non)) (.non))) (.alt 2 (.alt 0 (.alt 1 (.alt 3 (.alt 5 (.take 6 (.take 7 (.take 8 (.alt 9 (.alt 10 (.fin) (.non)) (.non))))) (.non)) (.non)) (.non)) (.non)) (.non)))) tok mixed (by kernel_rfl) (by kernel_rfl) (by intro ju; (refine ⟨?_, ?_, ?_⟩ <;> simp [inS, inBB, inBL, inB, hO])) ?_ ?_; rotate_left; intro ju)
  | exact join () ⟨rfl, rfl, rfl, rfl, rfl, rfl, rfl, trivial⟩ ⟨[], rfl⟩ ⟨[], rfl⟩
  | ((with_reducible refine dg ?_); refine draw_j (A := Unit) (id := 26) (N := 173) (fun _ => [(2, .val (.int .i64 (p))), (4, .ptr 1 0), (7, .ptr 2 0), (9, .ptr 3 0), (11, .val (.int .i64 k)), (12, .ptr 4 0), (8, .val (.int .i64 c5))]) (fun _ => [[.val (.bool (decide (u.1 < 0))), .ws .u64 (d64 u.1.natAbs), .val (.int .i64 u.2)], [.val (.bool (decide (v.1 < 0))), .ws .u64 (d64 v.1.natAbs), .val (.int .i64 v.2)], [.val (.bool (decide (u.1 < 0))), .ws .u64 (d64 u.1.natAbs), .val (.int .i64 u.2), .val (.bool (decide (u.1 < 0))), .ws .u64 (d64 u.1.natAbs), .val (.int .i64 u.2)], [.val (.bool (decide (v.1 < 0))), .ws .u64 (d64 v.1.natAbs), .val (.int .i64 v.2), .val (.bool (decide (v.1 < 0))), .ws .u64 (d64 v.1.natAbs), .val (.int .i64 v.2)], [.val (.bool (decide (x5.1 < 0))), .ws .u64 (d64 x5.1.natAbs), .val (.int .i64 x5.2), .val (.bool (decide (y5.1 < 0))), .ws .u64 (d64 y5.1.natAbs), .val (.int .i64 y5.2)]]) (fun _ => []) (.take 4 (.alt 0 (.alt 1 (.alt 2 (.alt 3 (.alt 5 (.take 6 (.take 7 (.take 8 (.alt 9 (.alt 10 (.fin) (.non)) (.non))))) (.non)) (.non)) (.non)) (.alt 2 (.alt 1 (.alt 3 (.alt 5 (.take 6 (.take 7 (.take 8 (.alt 9 (.alt 10 (.fin) (.non)) (.non))))) (.non)) (.non)) (.non)) (.non))) (.alt 2 (.alt 0 (.alt 1 (.alt 3 (.alt 5 (.take 6 (.take 7 (.take 8 (.alt 9 (.alt 10 (.fin) (.non)) (.non))))) (.non)) (.non)) (.non)) (.non)) (.non)))) tok mixed (by kernel_rfl) (by kernel_rfl) (by intro ju; (refine ⟨?_, ?_, ?_⟩ <;> simp [inS, inBB, inBL, inB, hO])) ?_ ?_; rotate_left; intro ju)
  | exact join () ⟨rfl, rfl, rfl, rfl, rfl, rfl, rfl, trivial⟩ ⟨[], rfl⟩ ⟨[], rfl⟩
  | ((with_reducible refine lg ?_); refine loop_g (A := Int) (fun k => 1 ≤ k ∧ k ≤ 7) (fun k => (7 - k).toNat) (fun k => [(2, .val (.int .i64 (p))), (4, .ptr 1 0), (7, .ptr 2 0), (9, .ptr 3 0), (11, .val (.int .i64 k))]) (fun _ => [[.val (.bool (decide (u.1 < 0))), .ws .u64 (d64 u.1.natAbs), .val (.int .i64 u.2)], [.val (.bool (decide (v.1 < 0))), .ws .u64 (d64 v.1.natAbs), .val (.int .i64 v.2)], [.val (.bool (decide (u.1 < 0))), .ws .u64 (d64 u.1.natAbs), .val (.int .i64 u.2), .val (.bool (decide (u.1 < 0))), .ws .u64 (d64 u.1.natAbs), .val (.int .i64 u.2)], [.val (.bool (decide (v.1 < 0))), .ws .u64 (d64 v.1.natAbs), .val (.int .i64 v.2), .val (.bool (decide (v.1 < 0))), .ws .u64 (d64 v.1.natAbs), .val (.int .i64 v.2)]]) (fun _ => []) 1 tok (by intro ju; (refine ⟨?_, ?_, ?_⟩ <;> simp [inS, inBB, inBL, inB, hO])) ?_ ⟨rfl, rfl, rfl, rfl, rfl, trivial⟩ ⟨[], rfl⟩ ⟨[], rfl⟩ ?_; rotate_left; rintro k ⟨hk1, hk2⟩)
  
  | (with_reducible refine draw_g (id := 18) [[], [4, 0, 2, 1, 3, 5], [6], [7], [8], [9, 10]] tok mixed (by kernel_rfl) ?_)
  | (with_reducible refine draw_g (id := 20) [[], [4, 0, 2, 1, 3, 5], [6], [7], [8], [9, 10]] tok mixed (by kernel_rfl) ?_)
  | (with_reducible refine draw_g (id := 22) [[], [4, 0, 2, 1, 3, 5], [6], [7], [8], [9, 10]] tok mixed (by kernel_rfl) ?_)
  | (with_reducible refine draw_g (id := 26) [[], [4, 0, 2, 1, 3, 5], [6], [7], [8], [9, 10]] tok mixed (by kernel_rfl) ?_)
  | with_reducible first
    | refine wrap_g (by dsimp only [inR]; omega) ?_
    | refine BothG.mk ?_ ?_ | refine fork_tt ?_ | refine fork_ff ?_
    | (refine fork_e (c := true) (by decide) ?_; refine fork_tt ?_) | (refine fork_e (c := false) (by decide) ?_; refine fork_ff ?_)
    | refine fork_t (by omega) ?_ | refine fork_f (by omega) ?_ | (refine fork_d ?_ ?_ <;> intro hc) | refine fork_n ?_ | (refine fork_b ?_ ?_ <;> intro hc)
    | refine fz_all (by omega) ?_ | (refine smk ?_ ?_; constructor))
      all_goals first
      | exact ⟨ret_e rfl⟩
      | exact ⟨again (k + 1) ⟨by omega, by omega⟩ (by omega) ⟨rfl, rfl, rfl, rfl, rfl, trivial⟩ ⟨_, rfl⟩ ⟨_, rfl⟩⟩
      | exact ⟨by omega, by omega⟩
  · skip
    refine FC.intro (X := XX) tok Tryz.func9 rfl Tryz.ntmps9 (by rw [Tryz.results9]) (by kernel_rfl) rfl ?_; intro F hG hO
    rw [← hG] at  aw n1 n2 pu pv q1 q2 m1 m2 t1 t2
    repeat' ((try (conv => whnf)); first
  | ((with_reducible refine cg ?_); first | refine ceq aw rfl ?_ | refine ceq n1 rfl ?_ | refine ceq n2 rfl ?_ | refine ceq pu rfl ?_ | refine ceq pv rfl ?_ | refine ceq q1 rfl ?_ | refine ceq q2 rfl ?_ | refine ceq m1 rfl ?_ | refine ceq m2 rfl ?_ | refine ceq t1 rfl ?_ | refine ceq t2 rfl ?_)
  
  | (with_reducible refine draw_g (id := 18) [[], [4, 0, 2, 1, 3, 5], [6], [7], [8], [9, 10]] tok mixed (by kernel_rfl) ?_)
  | (with_reducible refine draw_g (id := 20) [[], [4, 0, 2, 1, 3, 5], [6], [7], [8], [9, 10]] tok mixed (by kernel_rfl) ?_)
  | (with_reducible refine draw_g (id := 22) [[], [4, 0, 2, 1, 3, 5], [6], [7], [8], [9, 10]] tok mixed (by kernel_rfl) ?_)
  | (with_reducible refine draw_g (id := 26) [[], [4, 0, 2, 1, 3, 5], [6], [7], [8], [9, 10]] tok mixed (by kernel_rfl) ?_)
  | with_reducible first
    | refine wrap_g (by dsimp only [inR]; omega) ?_
    | refine BothG.mk ?_ ?_ | refine fork_tt ?_ | refine fork_ff ?_
    | (refine fork_e (c := true) (by decide) ?_; refine fork_tt ?_) | (refine fork_e (c := false) (by decide) ?_; refine fork_ff ?_)
    | refine fork_t (by omega) ?_ | refine fork_f (by omega) ?_ | (refine fork_d ?_ ?_ <;> intro hc) | refine fork_n ?_ | (refine fork_b ?_ ?_ <;> intro hc)
    | refine fz_all (by omega) ?_ | (refine smk ?_ ?_; constructor))
    all_goals exact ⟨ret_e rfl⟩
theorem l_spanSnug {g : List (Nat × List Value)} (hD : (0, debT.map (Value.int .u8)) ∈ g) (b1 : Bool) (l1 : List Int) (e1 : Int) (b2 : Bool) (l2 : List Int) (e2 : Int) (p : Int) (o1 : OKM l1) (o2 : OKM l2) (hp0 : inR .i64 p) : FC Tryz.prog g 9 [Dy b1 l1 e1, Dy b2 l2 e2, .val (.int .i64 p)] (· = .val (.bool true)) := by
  have aw := s_awake hD
  have n1 := s_number (G := g) b1 l1 e1 o1
  have n2 := s_number (G := g) b2 l2 e2 o2
  have q1 := q_formX (G := g) b1 l1 e1 b1 l1 e1 o1.1 o1.1
  have q2 := q_formX (G := g) b2 l2 e2 b2 l2 e2 o2.1 o2.1
  rw [spF_same] at q1 q2
  cases h1 : dyF b1 l1 e1 with
  | false =>
    have pu := p_pointX (G := g) b1 l1 e1 o1.1 h1
    rw [h1] at q1
    cases h2 : dyF b2 l2 e2 with
    | false =>
      have pv := p_pointX (G := g) b2 l2 e2 o2.1 h2
      rw [h2] at q2
      clear h1 h2
      refine FC.intro (X := XX) tok Tryz.func9 rfl Tryz.ntmps9 (by rw [Tryz.results9]) (by kernel_rfl) rfl ?_; intro F hG hO
      rw [← hG] at aw n1 n2 pu pv q1 q2
      repeat' ((try (conv => whnf)); first
  | ((with_reducible refine cg ?_); first | refine ceq aw rfl ?_ | refine ceq n1 rfl ?_ | refine ceq n2 rfl ?_ | refine ceq pu rfl ?_ | refine ceq pv rfl ?_ | refine ceq q1 rfl ?_ | refine ceq q2 rfl ?_)
  
  | (with_reducible refine draw_g (id := 18) [[], [4, 0, 2, 1, 3, 5], [6], [7], [8], [9, 10]] tok mixed (by kernel_rfl) ?_)
  | (with_reducible refine draw_g (id := 20) [[], [4, 0, 2, 1, 3, 5], [6], [7], [8], [9, 10]] tok mixed (by kernel_rfl) ?_)
  | (with_reducible refine draw_g (id := 22) [[], [4, 0, 2, 1, 3, 5], [6], [7], [8], [9, 10]] tok mixed (by kernel_rfl) ?_)
  | (with_reducible refine draw_g (id := 26) [[], [4, 0, 2, 1, 3, 5], [6], [7], [8], [9, 10]] tok mixed (by kernel_rfl) ?_)
  | with_reducible first
    | refine wrap_g (by dsimp only [inR]; omega) ?_
    | refine BothG.mk ?_ ?_ | refine fork_tt ?_ | refine fork_ff ?_
    | (refine fork_e (c := true) (by decide) ?_; refine fork_tt ?_) | (refine fork_e (c := false) (by decide) ?_; refine fork_ff ?_)
    | refine fork_t (by omega) ?_ | refine fork_f (by omega) ?_ | (refine fork_d ?_ ?_ <;> intro hc) | refine fork_n ?_ | (refine fork_b ?_ ?_ <;> intro hc)
    | refine fz_all (by omega) ?_ | (refine smk ?_ ?_; constructor))
      all_goals exact ⟨ret_e rfl⟩
    | true =>
      obtain ⟨m, gm, hb, hl, _⟩ := dyF_ex2 o2.1 h2
      subst hb hl
      have pv := p_point (G := g) (a := (m, e2)) gm
      rw [h2] at q2
      clear h1 h2
      refine FC.intro (X := XX) tok Tryz.func9 rfl Tryz.ntmps9 (by rw [Tryz.results9]) (by kernel_rfl) rfl ?_; intro F hG hO
      rw [← hG] at aw n1 n2 pu pv q1 q2
      repeat' ((try (conv => whnf)); first
  | ((with_reducible refine cg ?_); first | refine ceq aw rfl ?_ | refine ceq n1 rfl ?_ | refine ceq n2 rfl ?_ | refine ceq pu rfl ?_ | refine ceq pv rfl ?_ | refine ceq q1 rfl ?_ | refine ceq q2 rfl ?_)
  
  | (with_reducible refine draw_g (id := 18) [[], [4, 0, 2, 1, 3, 5], [6], [7], [8], [9, 10]] tok mixed (by kernel_rfl) ?_)
  | (with_reducible refine draw_g (id := 20) [[], [4, 0, 2, 1, 3, 5], [6], [7], [8], [9, 10]] tok mixed (by kernel_rfl) ?_)
  | (with_reducible refine draw_g (id := 22) [[], [4, 0, 2, 1, 3, 5], [6], [7], [8], [9, 10]] tok mixed (by kernel_rfl) ?_)
  | (with_reducible refine draw_g (id := 26) [[], [4, 0, 2, 1, 3, 5], [6], [7], [8], [9, 10]] tok mixed (by kernel_rfl) ?_)
  | with_reducible first
    | refine wrap_g (by dsimp only [inR]; omega) ?_
    | refine BothG.mk ?_ ?_ | refine fork_tt ?_ | refine fork_ff ?_
    | (refine fork_e (c := true) (by decide) ?_; refine fork_tt ?_) | (refine fork_e (c := false) (by decide) ?_; refine fork_ff ?_)
    | refine fork_t (by omega) ?_ | refine fork_f (by omega) ?_ | (refine fork_d ?_ ?_ <;> intro hc) | refine fork_n ?_ | (refine fork_b ?_ ?_ <;> intro hc)
    | refine fz_all (by omega) ?_ | (refine smk ?_ ?_; constructor))
      all_goals exact ⟨ret_e rfl⟩
  | true =>
    obtain ⟨m, gm, hb, hl, _⟩ := dyF_ex2 o1.1 h1
    subst hb hl
    cases h2 : dyF b2 l2 e2 with
    | false =>
      have pu := p_point (G := g) (a := (m, e1)) gm
      have pv := p_pointX (G := g) b2 l2 e2 o2.1 h2
      rw [h1] at q1
      rw [h2] at q2
      clear h1 h2
      refine FC.intro (X := XX) tok Tryz.func9 rfl Tryz.ntmps9 (by rw [Tryz.results9]) (by kernel_rfl) rfl ?_; intro F hG hO
      rw [← hG] at aw n1 n2 pu pv q1 q2
      repeat' ((try (conv => whnf)); first
  | ((with_reducible refine cg ?_); first | refine ceq aw rfl ?_ | refine ceq n1 rfl ?_ | refine ceq n2 rfl ?_ | refine ceq pu rfl ?_ | refine ceq pv rfl ?_ | refine ceq q1 rfl ?_ | refine ceq q2 rfl ?_)
  
  | (with_reducible refine draw_g (id := 18) [[], [4, 0, 2, 1, 3, 5], [6], [7], [8], [9, 10]] tok mixed (by kernel_rfl) ?_)
  | (with_reducible refine draw_g (id := 20) [[], [4, 0, 2, 1, 3, 5], [6], [7], [8], [9, 10]] tok mixed (by kernel_rfl) ?_)
  | (with_reducible refine draw_g (id := 22) [[], [4, 0, 2, 1, 3, 5], [6], [7], [8], [9, 10]] tok mixed (by kernel_rfl) ?_)
  | (with_reducible refine draw_g (id := 26) [[], [4, 0, 2, 1, 3, 5], [6], [7], [8], [9, 10]] tok mixed (by kernel_rfl) ?_)
  | with_reducible first
    | refine wrap_g (by dsimp only [inR]; omega) ?_
    | refine BothG.mk ?_ ?_ | refine fork_tt ?_ | refine fork_ff ?_
    | (refine fork_e (c := true) (by decide) ?_; refine fork_tt ?_) | (refine fork_e (c := false) (by decide) ?_; refine fork_ff ?_)
    | refine fork_t (by omega) ?_ | refine fork_f (by omega) ?_ | (refine fork_d ?_ ?_ <;> intro hc) | refine fork_n ?_ | (refine fork_b ?_ ?_ <;> intro hc)
    | refine fz_all (by omega) ?_ | (refine smk ?_ ?_; constructor))
      all_goals exact ⟨ret_e rfl⟩
    | true =>
      obtain ⟨m', gm', hb, hl, _⟩ := dyF_ex2 o2.1 h2
      subst hb hl
      exact l_snug1 hD (u := (m, e1)) (v := (m', e2)) gm gm' p o1 o2 hp0
end Go.Proofs.YtpjbgmafnheomaaGreatDoor.Sim
namespace Go.Proofs.YtpjbgmafnheomaaGreatDoor.Sim
open Go.RowKit Go.ChangeShapes Go.WideShapes
section
variable {H : Type} {enc : TypeId × Value → H} {P : Program}
/-- 'post' where nothing has turned below. -/
theorem post_below2 {f : Func} {s : ChangeSpec} {apart fresh handsOn again : Bool} {W W' : World} {args : Array Value} {v : Value} {ds gs : List (DataW H)} {before pa pv : List MemPlace}
    (hW : DataW.Whole enc P f.params.toList s.vars apart W args.toList ds gs before)
    (hres : ∀ (b : Nat) (sp : Nat → Bool) (hd : Bool), DataW.TrodAll enc P W' b sp hd f.resultTypes.toList (v.resultList f.resultTypes.size) (s.fn H (ds ++ gs)).results [])
    (hargs : ∀ sp : Nat → Bool, (∀ p ∈ before, sp p.block = true) → DataW.TrodAll enc P W' 0 sp true f.params.toList args.toList (s.fn H (ds ++ gs)).args pa)
    (hvars : ∀ sp : Nat → Bool, (∀ p ∈ before, sp p.block = true) → DataW.TrodVars enc P W' sp s.vars (s.fn H (ds ++ gs)).vars pv)
    (hps : before = pa ++ pv) (hb : Below W.heap.size W W')
    (hok : ∀ (j : Nat) (t : TypeId) (r : Value), f.resultTypes[j]? = some t → (v.resultList f.resultTypes.size)[j]? = some r → Value.okWide P W' .any 0 t r) :
    s.post enc P f apart fresh handsOn again W args v W' := by
  have hold : ∀ p ∈ before, (fun b => decide (b < W.heap.size)) p.block = true := fun p hp => by simpa using hW.lt p hp
  have hlt := hW.lt
  refine ⟨ds, gs, before, [], pa, pv, hW, hres _ _ _, hargs _ hold, hvars _ hold, hb.frame _, fun _ => ?_⟩
  obtain ⟨_, _, _, _, _, hz, hn⟩ := hW
  refine ⟨hok, _, _, ([] ++ pa) ++ pv, ⟨[] ++ pa, pv, trodAll_append (hargs _ (fun _ _ => rfl)) (hres _ _ _), hvars _ (fun _ _ => rfl), rfl, ?_, ?_⟩, ?_⟩
  · intro b off hp
    have hm : MemPlace.cell b off ∈ before := by rw [hps]; simpa using hp
    rw [hb.frozen (p := ⟨b, off, none⟩) (hlt _ hm)]
    exact hz b off hm
  · intro ha
    have := hn ha
    rw [hps] at this
    simpa using this
  · intro p hp _
    rw [hps]
    simpa using hp
end
end Go.Proofs.YtpjbgmafnheomaaGreatDoor.Sim
