/-
  What the statement SpanGrowsCardSaid leans on, part 12: the logic of walks, digits, contracts of the functions, the plain law. Conditions stand in each theorem.
-/
import Derived.Test.YtpjbgmafnheomaaGreatDoorPkSpanGrowsCardSaidK
namespace Go.Proofs.YtpjbgmafnheomaaGreatDoor.Sim
open Go.RowKit
set_option linter.unusedVariables false
set_option linter.unusedSimpArgs false
set_option maxRecDepth 10000
set_option maxHeartbeats 8000000
variable {G : List (Nat × List Value)}
theorem good_len {n e : Int} (h : Good n e) : (d64 n.natAbs).length ≤ 17592186044415 := by
  have : (d64 n.natAbs).length = L64 n.natAbs := rfl
  have := h.1
  omega
theorem p_twin {a : D2} (h : a.good) : FC Tryz.prog G 112 [DY a.1 a.2] (· = DY a.1 a.2) := by
  have f1 := s_clone (G := G) (d64 a.1.natAbs) (good_len h)
  refine FC.intro (X := XX) tok Tryz.func112 rfl Tryz.ntmps112 (by rw [Tryz.results112]) (by kernel_rfl) rfl ?_; intro F hG hO
  rw [← hG] at f1
  repeat' ((try (conv => whnf)); first
  | ((with_reducible refine cg ?_); first | refine ceq f1 rfl ?_)
  
  | with_reducible first
    | refine Chk.mk' (by first | omega | exact trivial | (simp only [List.length_append, List.length_set, List.length_replicate, List.length_take, List.length_drop, List.length_cons, List.length_nil, List.length_map]; omega)) ?_
    | refine wrap_g (by dsimp only [inR]; omega) ?_
    | refine idx_g (by omega) ?_ | refine idx_l _ rfl (by decide) ?_ | refine BothG.mk ?_ ?_ | refine fork_tt ?_ | refine fork_ff ?_
    | (refine fork_e (c := true) (by decide) ?_; refine fork_tt ?_) | (refine fork_e (c := false) (by decide) ?_; refine fork_ff ?_)
    | refine fork_t (by omega) ?_ | refine fork_f (by omega) ?_ | (refine fork_d ?_ ?_ <;> intro hc) | refine fork_n ?_ | (refine fork_b ?_ ?_ <;> intro hc)
    | refine SlcG.mk (by omega) ?_ | refine MakG.mk (by dsimp only; omega) ?_
    | refine AppG.mk (by first | omega | (simp only [List.length_append, List.length_set, List.length_replicate, List.length_take, List.length_drop, List.length_cons, List.length_nil, List.length_map]; omega)) (by dsimp only [List.length_cons, List.length_nil]; omega) (by omega) ?_
    | refine div_g (by omega) (by omega) (by dsimp only [inR]; omega) ?_ | refine mod_g (by omega) (by omega) ?_
    | refine mask_g (m := 4294967296) 32 rfl rfl (by decide) (by omega) ?_ | refine shr_g (m := 4294967296) 32 rfl (by decide) (by omega) rfl ?_
    | refine fz_all (by omega) ?_ | (refine smk ?_ ?_; constructor))
  exact ⟨ret_e rfl⟩
theorem p_twins {a b : D2} (h : a.good) (g : b.good) : FC Tryz.prog G 71 [SP a b] (· = SP a b) := by
  have f1 := p_twin (G := G) h
  have f2 := p_twin (G := G) g
  refine FC.intro (X := XX) tok Tryz.func71 rfl Tryz.ntmps71 (by rw [Tryz.results71]) (by kernel_rfl) rfl ?_; intro F hG hO
  rw [← hG] at f1 f2
  repeat' ((try (conv => whnf)); first
  | ((with_reducible refine cg ?_); first | refine ceq f1 rfl ?_ | refine ceq f2 rfl ?_)
  
  | (with_reducible refine draw_g (id := 1) [[0, 1, 3, 4, 2, 5, 6], [7]] tok mixed (by kernel_rfl) ?_)
  | with_reducible first
    | refine Chk.mk' (by first | omega | exact trivial | (simp only [List.length_append, List.length_set, List.length_replicate, List.length_take, List.length_drop, List.length_cons, List.length_nil, List.length_map]; omega)) ?_
    | refine wrap_g (by dsimp only [inR]; omega) ?_
    | refine idx_g (by omega) ?_ | refine idx_l _ rfl (by decide) ?_ | refine BothG.mk ?_ ?_ | refine fork_tt ?_ | refine fork_ff ?_
    | (refine fork_e (c := true) (by decide) ?_; refine fork_tt ?_) | (refine fork_e (c := false) (by decide) ?_; refine fork_ff ?_)
    | refine fork_t (by omega) ?_ | refine fork_f (by omega) ?_ | (refine fork_d ?_ ?_ <;> intro hc) | refine fork_n ?_ | (refine fork_b ?_ ?_ <;> intro hc)
    | refine SlcG.mk (by omega) ?_ | refine MakG.mk (by dsimp only; omega) ?_
    | refine AppG.mk (by first | omega | (simp only [List.length_append, List.length_set, List.length_replicate, List.length_take, List.length_drop, List.length_cons, List.length_nil, List.length_map]; omega)) (by dsimp only [List.length_cons, List.length_nil]; omega) (by omega) ?_
    | refine div_g (by omega) (by omega) (by dsimp only [inR]; omega) ?_ | refine mod_g (by omega) (by omega) ?_
    | refine mask_g (m := 4294967296) 32 rfl rfl (by decide) (by omega) ?_ | refine shr_g (m := 4294967296) 32 rfl (by decide) (by omega) rfl ?_
    | refine fz_all (by omega) ?_ | (refine smk ?_ ?_; constructor))
  exact ⟨ret_e rfl⟩
theorem bothA_ok {a b : An} (h : a.c = 0) (g : b.c = 0) : bothA a b = spR a.d b.d := if_neg (by omega)
theorem bothA_no {a b : An} (h : a.c ≠ 0 ∨ b.c ≠ 0) : bothA a b = spE 5 := if_pos h
theorem p_both (u v : An) (hu : u.c = 0 ∨ u.c = 5) (hv : v.c = 0 ∨ v.c = 5) : FC Tryz.prog G 58 [DY u.x u.y, .val (.int .i64 u.c), DY v.x v.y, .val (.int .i64 v.c)] (· = bothA u v) := by
  obtain ⟨x, y, c⟩ := u
  obtain ⟨z, w, d⟩ := v
  simp only at hu hv
  show FC Tryz.prog G 58 [DY x y, .val (.int .i64 c), DY z w, .val (.int .i64 d)] (· = bothA ⟨x, y, c⟩ ⟨z, w, d⟩)
  rcases hu with rfl | rfl
  · rcases hv with rfl | rfl
    · rw [bothA_ok rfl rfl]
      refine FC.intro (X := XX) tok Tryz.func58 rfl Tryz.ntmps58 (by rw [Tryz.results58]) (by kernel_rfl) rfl ?_; intro F hG hO
      repeat' ((try (conv => whnf)); first
  
  | with_reducible first
    | refine Chk.mk' (by first | omega | exact trivial | (simp only [List.length_append, List.length_set, List.length_replicate, List.length_take, List.length_drop, List.length_cons, List.length_nil, List.length_map]; omega)) ?_
    | refine wrap_g (by dsimp only [inR]; omega) ?_
    | refine idx_g (by omega) ?_ | refine idx_l _ rfl (by decide) ?_ | refine BothG.mk ?_ ?_ | refine fork_tt ?_ | refine fork_ff ?_
    | (refine fork_e (c := true) (by decide) ?_; refine fork_tt ?_) | (refine fork_e (c := false) (by decide) ?_; refine fork_ff ?_)
    | refine fork_t (by omega) ?_ | refine fork_f (by omega) ?_ | (refine fork_d ?_ ?_ <;> intro hc) | refine fork_n ?_ | (refine fork_b ?_ ?_ <;> intro hc)
    | refine SlcG.mk (by omega) ?_ | refine MakG.mk (by dsimp only; omega) ?_
    | refine AppG.mk (by first | omega | (simp only [List.length_append, List.length_set, List.length_replicate, List.length_take, List.length_drop, List.length_cons, List.length_nil, List.length_map]; omega)) (by dsimp only [List.length_cons, List.length_nil]; omega) (by omega) ?_
    | refine div_g (by omega) (by omega) (by dsimp only [inR]; omega) ?_ | refine mod_g (by omega) (by omega) ?_
    | refine mask_g (m := 4294967296) 32 rfl rfl (by decide) (by omega) ?_ | refine shr_g (m := 4294967296) 32 rfl (by decide) (by omega) rfl ?_
    | refine fz_all (by omega) ?_ | (refine smk ?_ ?_; constructor))
      exact ⟨ret_e rfl⟩
    · rw [bothA_no (.inr (show (5 : Int) ≠ 0 by decide))]
      refine FC.intro (X := XX) tok Tryz.func58 rfl Tryz.ntmps58 (by rw [Tryz.results58]) (by kernel_rfl) rfl ?_; intro F hG hO
      repeat' ((try (conv => whnf)); first
  
  | with_reducible first
    | refine Chk.mk' (by first | omega | exact trivial | (simp only [List.length_append, List.length_set, List.length_replicate, List.length_take, List.length_drop, List.length_cons, List.length_nil, List.length_map]; omega)) ?_
    | refine wrap_g (by dsimp only [inR]; omega) ?_
    | refine idx_g (by omega) ?_ | refine idx_l _ rfl (by decide) ?_ | refine BothG.mk ?_ ?_ | refine fork_tt ?_ | refine fork_ff ?_
    | (refine fork_e (c := true) (by decide) ?_; refine fork_tt ?_) | (refine fork_e (c := false) (by decide) ?_; refine fork_ff ?_)
    | refine fork_t (by omega) ?_ | refine fork_f (by omega) ?_ | (refine fork_d ?_ ?_ <;> intro hc) | refine fork_n ?_ | (refine fork_b ?_ ?_ <;> intro hc)
    | refine SlcG.mk (by omega) ?_ | refine MakG.mk (by dsimp only; omega) ?_
    | refine AppG.mk (by first | omega | (simp only [List.length_append, List.length_set, List.length_replicate, List.length_take, List.length_drop, List.length_cons, List.length_nil, List.length_map]; omega)) (by dsimp only [List.length_cons, List.length_nil]; omega) (by omega) ?_
    | refine div_g (by omega) (by omega) (by dsimp only [inR]; omega) ?_ | refine mod_g (by omega) (by omega) ?_
    | refine mask_g (m := 4294967296) 32 rfl rfl (by decide) (by omega) ?_ | refine shr_g (m := 4294967296) 32 rfl (by decide) (by omega) rfl ?_
    | refine fz_all (by omega) ?_ | (refine smk ?_ ?_; constructor))
      exact ⟨ret_l _ (lp_spE 5) rfl⟩
  · rcases hv with rfl | rfl
    · rw [bothA_no (.inl (show (5 : Int) ≠ 0 by decide))]
      refine FC.intro (X := XX) tok Tryz.func58 rfl Tryz.ntmps58 (by rw [Tryz.results58]) (by kernel_rfl) rfl ?_; intro F hG hO
      repeat' ((try (conv => whnf)); first
  
  | with_reducible first
    | refine Chk.mk' (by first | omega | exact trivial | (simp only [List.length_append, List.length_set, List.length_replicate, List.length_take, List.length_drop, List.length_cons, List.length_nil, List.length_map]; omega)) ?_
    | refine wrap_g (by dsimp only [inR]; omega) ?_
    | refine idx_g (by omega) ?_ | refine idx_l _ rfl (by decide) ?_ | refine BothG.mk ?_ ?_ | refine fork_tt ?_ | refine fork_ff ?_
    | (refine fork_e (c := true) (by decide) ?_; refine fork_tt ?_) | (refine fork_e (c := false) (by decide) ?_; refine fork_ff ?_)
    | refine fork_t (by omega) ?_ | refine fork_f (by omega) ?_ | (refine fork_d ?_ ?_ <;> intro hc) | refine fork_n ?_ | (refine fork_b ?_ ?_ <;> intro hc)
    | refine SlcG.mk (by omega) ?_ | refine MakG.mk (by dsimp only; omega) ?_
    | refine AppG.mk (by first | omega | (simp only [List.length_append, List.length_set, List.length_replicate, List.length_take, List.length_drop, List.length_cons, List.length_nil, List.length_map]; omega)) (by dsimp only [List.length_cons, List.length_nil]; omega) (by omega) ?_
    | refine div_g (by omega) (by omega) (by dsimp only [inR]; omega) ?_ | refine mod_g (by omega) (by omega) ?_
    | refine mask_g (m := 4294967296) 32 rfl rfl (by decide) (by omega) ?_ | refine shr_g (m := 4294967296) 32 rfl (by decide) (by omega) rfl ?_
    | refine fz_all (by omega) ?_ | (refine smk ?_ ?_; constructor))
      exact ⟨ret_l _ (lp_spE 5) rfl⟩
    · rw [bothA_no (.inl (show (5 : Int) ≠ 0 by decide))]
      refine FC.intro (X := XX) tok Tryz.func58 rfl Tryz.ntmps58 (by rw [Tryz.results58]) (by kernel_rfl) rfl ?_; intro F hG hO
      repeat' ((try (conv => whnf)); first
  
  | with_reducible first
    | refine Chk.mk' (by first | omega | exact trivial | (simp only [List.length_append, List.length_set, List.length_replicate, List.length_take, List.length_drop, List.length_cons, List.length_nil, List.length_map]; omega)) ?_
    | refine wrap_g (by dsimp only [inR]; omega) ?_
    | refine idx_g (by omega) ?_ | refine idx_l _ rfl (by decide) ?_ | refine BothG.mk ?_ ?_ | refine fork_tt ?_ | refine fork_ff ?_
    | (refine fork_e (c := true) (by decide) ?_; refine fork_tt ?_) | (refine fork_e (c := false) (by decide) ?_; refine fork_ff ?_)
    | refine fork_t (by omega) ?_ | refine fork_f (by omega) ?_ | (refine fork_d ?_ ?_ <;> intro hc) | refine fork_n ?_ | (refine fork_b ?_ ?_ <;> intro hc)
    | refine SlcG.mk (by omega) ?_ | refine MakG.mk (by dsimp only; omega) ?_
    | refine AppG.mk (by first | omega | (simp only [List.length_append, List.length_set, List.length_replicate, List.length_take, List.length_drop, List.length_cons, List.length_nil, List.length_map]; omega)) (by dsimp only [List.length_cons, List.length_nil]; omega) (by omega) ?_
    | refine div_g (by omega) (by omega) (by dsimp only [inR]; omega) ?_ | refine mod_g (by omega) (by omega) ?_
    | refine mask_g (m := 4294967296) 32 rfl rfl (by decide) (by omega) ?_ | refine shr_g (m := 4294967296) 32 rfl (by decide) (by omega) rfl ?_
    | refine fz_all (by omega) ?_ | (refine smk ?_ ?_; constructor))
      exact ⟨ret_l _ (lp_spE 5) rfl⟩
theorem tup_eta {P : Program} {f : FuncId} {args : List PV} {p : PV} (h : FC P G f args (· = p)) (hp : Ans p) : FC P G f args (· = .tup [DY (toAn p).x (toAn p).y, .val (.int .i64 (toAn p).c)]) := by
  have := hp.eq.1
  rw [this] at h
  rw [An.pv] at h
  exact h
theorem bothA_form (u v : An) : ∃ x y c, bothA u v = .tup [SP x y, .val (.int .i64 c)] := by
  unfold bothA
  split
  · exact ⟨(0, 0), (0, 0), 5, rfl⟩
  · exact ⟨u.d, v.d, 0, rfl⟩
theorem p_outward {g : List (Nat × List Value)} (hD : (0, debT.map (Value.int .u8)) ∈ g) {a b : D2} (h : a.good) (k : b.good) (p : Int) (hp : 1 ≤ p ∧ p ≤ 70000) : FC Tryz.prog g 59 [DY a.1 a.2, DY b.1 b.2, .val (.int .i64 p)] (· = outP a b p) := by
  have f1 := tup_eta (y_down hD p h) (cuts_ans a hp false)
  have f2 := tup_eta (y_up hD p k) (cuts_ans b hp true)
  have c1 := (cuts_ans a hp false).eq.2.2
  have c2 := (cuts_ans b hp true).eq.2.2
  unfold outP
  obtain ⟨u, hu⟩ : ∃ u, u = toAn (cutsS a.1 a.2 p false) := ⟨_, rfl⟩
  obtain ⟨v, hv⟩ : ∃ v, v = toAn (cutsS b.1 b.2 p true) := ⟨_, rfl⟩
  rw [← hu] at f1 c1 ⊢
  rw [← hv] at f2 c2 ⊢
  have f3 := p_both (G := g) u v c1 c2
  obtain ⟨x, y, c, hr⟩ := bothA_form u v
  rw [hr] at f3 ⊢
  clear hu hv hr
  refine FC.intro (X := XX) tok Tryz.func59 rfl Tryz.ntmps59 (by rw [Tryz.results59]) (by kernel_rfl) rfl ?_; intro F hG hO
  rw [← hG] at f1 f2 f3
  repeat' ((try (conv => whnf)); first
  | ((with_reducible refine cg ?_); first | refine ceq f1 rfl ?_ | refine ceq f2 rfl ?_ | refine ceq f3 rfl ?_)
  
  | with_reducible first
    | refine Chk.mk' (by first | omega | exact trivial | (simp only [List.length_append, List.length_set, List.length_replicate, List.length_take, List.length_drop, List.length_cons, List.length_nil, List.length_map]; omega)) ?_
    | refine wrap_g (by dsimp only [inR]; omega) ?_
    | refine idx_g (by omega) ?_ | refine idx_l _ rfl (by decide) ?_ | refine BothG.mk ?_ ?_ | refine fork_tt ?_ | refine fork_ff ?_
    | (refine fork_e (c := true) (by decide) ?_; refine fork_tt ?_) | (refine fork_e (c := false) (by decide) ?_; refine fork_ff ?_)
    | refine fork_t (by omega) ?_ | refine fork_f (by omega) ?_ | (refine fork_d ?_ ?_ <;> intro hc) | refine fork_n ?_ | (refine fork_b ?_ ?_ <;> intro hc)
    | refine SlcG.mk (by omega) ?_ | refine MakG.mk (by dsimp only; omega) ?_
    | refine AppG.mk (by first | omega | (simp only [List.length_append, List.length_set, List.length_replicate, List.length_take, List.length_drop, List.length_cons, List.length_nil, List.length_map]; omega)) (by dsimp only [List.length_cons, List.length_nil]; omega) (by omega) ?_
    | refine div_g (by omega) (by omega) (by dsimp only [inR]; omega) ?_ | refine mod_g (by omega) (by omega) ?_
    | refine mask_g (m := 4294967296) 32 rfl rfl (by decide) (by omega) ?_ | refine shr_g (m := 4294967296) 32 rfl (by decide) (by omega) rfl ?_
    | refine fz_all (by omega) ?_ | (refine smk ?_ ?_; constructor))
  exact ⟨ret_e rfl⟩
theorem least4_v (a b c d : D2) : (least4 a b c d).v = min (min (min a.v b.v) c.v) d.v := by unfold least4; rw [lst2_v, lst2_v, lst2_v]
theorem least4_good {a b c d : D2} (h1 : a.good) (h2 : b.good) (h3 : c.good) (h4 : d.good) : (least4 a b c d).good := lst2_good (lst2_good (lst2_good h1 h2) h3) h4
theorem p_leastf {a b : D2} (h : a.good) (g : b.good) : FC Tryz.prog G 103 [DY a.1 a.2, DY b.1 b.2] (· = .val (.bool (decide (a.v < b.v)))) := by
  have f1 := p_cmp (G := G) h g
  have hc := cmpV_neg (n := a.1) (e := a.2) (m := b.1) (f := b.2)
  refine FC.intro (X := XX) tok Tryz.func103 rfl Tryz.ntmps103 (by rw [Tryz.results103]) (by kernel_rfl) rfl ?_; intro F hG hO
  rw [← hG] at f1
  repeat' ((try (conv => whnf)); first
  | ((with_reducible refine cg ?_); first | refine ceq f1 rfl ?_)
  
  | with_reducible first
    | refine Chk.mk' (by first | omega | exact trivial | (simp only [List.length_append, List.length_set, List.length_replicate, List.length_take, List.length_drop, List.length_cons, List.length_nil, List.length_map]; omega)) ?_
    | refine wrap_g (by dsimp only [inR]; omega) ?_
    | refine idx_g (by omega) ?_ | refine idx_l _ rfl (by decide) ?_ | refine BothG.mk ?_ ?_ | refine fork_tt ?_ | refine fork_ff ?_
    | (refine fork_e (c := true) (by decide) ?_; refine fork_tt ?_) | (refine fork_e (c := false) (by decide) ?_; refine fork_ff ?_)
    | refine fork_t (by omega) ?_ | refine fork_f (by omega) ?_ | (refine fork_d ?_ ?_ <;> intro hc) | refine fork_n ?_ | (refine fork_b ?_ ?_ <;> intro hc)
    | refine SlcG.mk (by omega) ?_ | refine MakG.mk (by dsimp only; omega) ?_
    | refine AppG.mk (by first | omega | (simp only [List.length_append, List.length_set, List.length_replicate, List.length_take, List.length_drop, List.length_cons, List.length_nil, List.length_map]; omega)) (by dsimp only [List.length_cons, List.length_nil]; omega) (by omega) ?_
    | refine div_g (by omega) (by omega) (by dsimp only [inR]; omega) ?_ | refine mod_g (by omega) (by omega) ?_
    | refine mask_g (m := 4294967296) 32 rfl rfl (by decide) (by omega) ?_ | refine shr_g (m := 4294967296) 32 rfl (by decide) (by omega) rfl ?_
    | refine fz_all (by omega) ?_ | (refine smk ?_ ?_; constructor))
  exact ⟨ret_e (bv_eq (decide_eq_decide.2 hc))⟩
theorem p_firstl2 {a b : D2} (ka : a.good) (kb : b.good) : FC Tryz.prog G 102 [.sl 3 [.val (.bool (decide (a.1 < 0))), .ws .u64 (d64 a.1.natAbs), .val (.int .i64 a.2), .val (.bool (decide (b.1 < 0))), .ws .u64 (d64 b.1.natAbs), .val (.int .i64 b.2)], .val (.func (.func 103) #[] #[])] (· = DY (lst2 a b).1 (lst2 a b).2) := by
  have fba := p_leastf (G := G) kb ka
  refine FC.intro (X := XX) tok Tryz.func102 rfl Tryz.ntmps102 (by rw [Tryz.results102]) (by kernel_rfl) rfl ?_; intro F hG hO
  rw [← hG] at fba
  repeat' ((try (conv => whnf)); first
  | ((with_reducible refine cg ?_); first | refine ceq fba rfl ?_)
  | ((with_reducible refine ilg ?_); refine idx_l 0 (by decide) (by simp) ?_)
  | ((with_reducible refine ilg ?_); refine idx_l 1 (by decide) (by simp) ?_)
  | ((with_reducible refine ilg ?_); refine idx_l 2 (by decide) (by simp) ?_)
  | ((with_reducible refine ilg ?_); refine idx_l 3 (by decide) (by simp) ?_)
  | (with_reducible refine Chk.mk' (by simp) ?_)
  | ((with_reducible refine lg ?_); refine rounds_g 2 tok ?_)
  
  | with_reducible first
    | refine Chk.mk' (by first | omega | exact trivial | (simp only [List.length_append, List.length_set, List.length_replicate, List.length_take, List.length_drop, List.length_cons, List.length_nil, List.length_map]; omega)) ?_
    | refine wrap_g (by dsimp only [inR]; omega) ?_
    | refine idx_g (by omega) ?_ | refine idx_l _ rfl (by decide) ?_ | refine BothG.mk ?_ ?_ | refine fork_tt ?_ | refine fork_ff ?_
    | (refine fork_e (c := true) (by decide) ?_; refine fork_tt ?_) | (refine fork_e (c := false) (by decide) ?_; refine fork_ff ?_)
    | refine fork_t (by omega) ?_ | refine fork_f (by omega) ?_ | (refine fork_d ?_ ?_ <;> intro hc) | refine fork_n ?_ | (refine fork_b ?_ ?_ <;> intro hc)
    | refine SlcG.mk (by omega) ?_ | refine MakG.mk (by dsimp only; omega) ?_
    | refine AppG.mk (by first | omega | (simp only [List.length_append, List.length_set, List.length_replicate, List.length_take, List.length_drop, List.length_cons, List.length_nil, List.length_map]; omega)) (by dsimp only [List.length_cons, List.length_nil]; omega) (by omega) ?_
    | refine div_g (by omega) (by omega) (by dsimp only [inR]; omega) ?_ | refine mod_g (by omega) (by omega) ?_
    | refine mask_g (m := 4294967296) 32 rfl rfl (by decide) (by omega) ?_ | refine shr_g (m := 4294967296) 32 rfl (by decide) (by omega) rfl ?_
    | refine fz_all (by omega) ?_ | (refine smk ?_ ?_; constructor))
  all_goals (refine ⟨ret_e ?_⟩; first
    | exact congrArg D2.pv (D2.eq ka (lst2_good ka kb) (by rw [lst2_v]; omega))
    | exact congrArg D2.pv (D2.eq kb (lst2_good ka kb) (by rw [lst2_v]; omega)))
theorem p_least2 {a b : D2} (ka : a.good) (kb : b.good) : FC Tryz.prog G 62 [.sl 3 [.val (.bool (decide (a.1 < 0))), .ws .u64 (d64 a.1.natAbs), .val (.int .i64 a.2), .val (.bool (decide (b.1 < 0))), .ws .u64 (d64 b.1.natAbs), .val (.int .i64 b.2)]] (· = DY (lst2 a b).1 (lst2 a b).2) := by
  have f1 := p_firstl2 (G := G) ka kb
  obtain ⟨r, hr⟩ : ∃ r, r = lst2 a b := ⟨_, rfl⟩
  rw [← hr] at f1 ⊢
  clear hr
  refine FC.intro (X := XX) tok Tryz.func62 rfl Tryz.ntmps62 (by rw [Tryz.results62]) (by kernel_rfl) rfl ?_; intro F hG hO
  rw [← hG] at f1
  repeat' ((try (conv => whnf)); first
  | ((with_reducible refine cg ?_); first | refine ceq f1 rfl ?_)
  
  | with_reducible first
    | refine Chk.mk' (by first | omega | exact trivial | (simp only [List.length_append, List.length_set, List.length_replicate, List.length_take, List.length_drop, List.length_cons, List.length_nil, List.length_map]; omega)) ?_
    | refine wrap_g (by dsimp only [inR]; omega) ?_
    | refine idx_g (by omega) ?_ | refine idx_l _ rfl (by decide) ?_ | refine BothG.mk ?_ ?_ | refine fork_tt ?_ | refine fork_ff ?_
    | (refine fork_e (c := true) (by decide) ?_; refine fork_tt ?_) | (refine fork_e (c := false) (by decide) ?_; refine fork_ff ?_)
    | refine fork_t (by omega) ?_ | refine fork_f (by omega) ?_ | (refine fork_d ?_ ?_ <;> intro hc) | refine fork_n ?_ | (refine fork_b ?_ ?_ <;> intro hc)
    | refine SlcG.mk (by omega) ?_ | refine MakG.mk (by dsimp only; omega) ?_
    | refine AppG.mk (by first | omega | (simp only [List.length_append, List.length_set, List.length_replicate, List.length_take, List.length_drop, List.length_cons, List.length_nil, List.length_map]; omega)) (by dsimp only [List.length_cons, List.length_nil]; omega) (by omega) ?_
    | refine div_g (by omega) (by omega) (by dsimp only [inR]; omega) ?_ | refine mod_g (by omega) (by omega) ?_
    | refine mask_g (m := 4294967296) 32 rfl rfl (by decide) (by omega) ?_ | refine shr_g (m := 4294967296) 32 rfl (by decide) (by omega) rfl ?_
    | refine fz_all (by omega) ?_ | (refine smk ?_ ?_; constructor))
  exact ⟨ret_e rfl⟩
theorem p_firstl4 {a b c d : D2} (ka : a.good) (kb : b.good) (kc : c.good) (kd : d.good) : FC Tryz.prog G 102 [.sl 3 [.val (.bool (decide (a.1 < 0))), .ws .u64 (d64 a.1.natAbs), .val (.int .i64 a.2), .val (.bool (decide (b.1 < 0))), .ws .u64 (d64 b.1.natAbs), .val (.int .i64 b.2), .val (.bool (decide (c.1 < 0))), .ws .u64 (d64 c.1.natAbs), .val (.int .i64 c.2), .val (.bool (decide (d.1 < 0))), .ws .u64 (d64 d.1.natAbs), .val (.int .i64 d.2)], .val (.func (.func 103) #[] #[])] (· = DY (least4 a b c d).1 (least4 a b c d).2) := by
  have fba := p_leastf (G := G) kb ka
  have fca := p_leastf (G := G) kc ka
  have fcb := p_leastf (G := G) kc kb
  have fda := p_leastf (G := G) kd ka
  have fdb := p_leastf (G := G) kd kb
  have fdc := p_leastf (G := G) kd kc
  refine FC.intro (X := XX) tok Tryz.func102 rfl Tryz.ntmps102 (by rw [Tryz.results102]) (by kernel_rfl) rfl ?_; intro F hG hO
  rw [← hG] at fba fca fcb fda fdb fdc
  repeat' ((try (conv => whnf)); first
  | ((with_reducible refine cg ?_); first | refine ceq fba rfl ?_ | refine ceq fca rfl ?_ | refine ceq fcb rfl ?_ | refine ceq fda rfl ?_ | refine ceq fdb rfl ?_ | refine ceq fdc rfl ?_)
  | ((with_reducible refine ilg ?_); refine idx_l 0 (by decide) (by simp) ?_)
  | ((with_reducible refine ilg ?_); refine idx_l 1 (by decide) (by simp) ?_)
  | ((with_reducible refine ilg ?_); refine idx_l 2 (by decide) (by simp) ?_)
  | ((with_reducible refine ilg ?_); refine idx_l 3 (by decide) (by simp) ?_)
  | (with_reducible refine Chk.mk' (by simp) ?_)
  | ((with_reducible refine lg ?_); refine rounds_g 4 tok ?_)
  
  | with_reducible first
    | refine Chk.mk' (by first | omega | exact trivial | (simp only [List.length_append, List.length_set, List.length_replicate, List.length_take, List.length_drop, List.length_cons, List.length_nil, List.length_map]; omega)) ?_
    | refine wrap_g (by dsimp only [inR]; omega) ?_
    | refine idx_g (by omega) ?_ | refine idx_l _ rfl (by decide) ?_ | refine BothG.mk ?_ ?_ | refine fork_tt ?_ | refine fork_ff ?_
    | (refine fork_e (c := true) (by decide) ?_; refine fork_tt ?_) | (refine fork_e (c := false) (by decide) ?_; refine fork_ff ?_)
    | refine fork_t (by omega) ?_ | refine fork_f (by omega) ?_ | (refine fork_d ?_ ?_ <;> intro hc) | refine fork_n ?_ | (refine fork_b ?_ ?_ <;> intro hc)
    | refine SlcG.mk (by omega) ?_ | refine MakG.mk (by dsimp only; omega) ?_
    | refine AppG.mk (by first | omega | (simp only [List.length_append, List.length_set, List.length_replicate, List.length_take, List.length_drop, List.length_cons, List.length_nil, List.length_map]; omega)) (by dsimp only [List.length_cons, List.length_nil]; omega) (by omega) ?_
    | refine div_g (by omega) (by omega) (by dsimp only [inR]; omega) ?_ | refine mod_g (by omega) (by omega) ?_
    | refine mask_g (m := 4294967296) 32 rfl rfl (by decide) (by omega) ?_ | refine shr_g (m := 4294967296) 32 rfl (by decide) (by omega) rfl ?_
    | refine fz_all (by omega) ?_ | (refine smk ?_ ?_; constructor))
  all_goals (refine ⟨ret_e ?_⟩; first
    | exact congrArg D2.pv (D2.eq ka (least4_good ka kb kc kd) (by rw [least4_v]; omega))
    | exact congrArg D2.pv (D2.eq kb (least4_good ka kb kc kd) (by rw [least4_v]; omega))
    | exact congrArg D2.pv (D2.eq kc (least4_good ka kb kc kd) (by rw [least4_v]; omega))
    | exact congrArg D2.pv (D2.eq kd (least4_good ka kb kc kd) (by rw [least4_v]; omega)))
theorem p_least4 {a b c d : D2} (ka : a.good) (kb : b.good) (kc : c.good) (kd : d.good) : FC Tryz.prog G 62 [.sl 3 [.val (.bool (decide (a.1 < 0))), .ws .u64 (d64 a.1.natAbs), .val (.int .i64 a.2), .val (.bool (decide (b.1 < 0))), .ws .u64 (d64 b.1.natAbs), .val (.int .i64 b.2), .val (.bool (decide (c.1 < 0))), .ws .u64 (d64 c.1.natAbs), .val (.int .i64 c.2), .val (.bool (decide (d.1 < 0))), .ws .u64 (d64 d.1.natAbs), .val (.int .i64 d.2)]] (· = DY (least4 a b c d).1 (least4 a b c d).2) := by
  have f1 := p_firstl4 (G := G) ka kb kc kd
  obtain ⟨r, hr⟩ : ∃ r, r = least4 a b c d := ⟨_, rfl⟩
  rw [← hr] at f1 ⊢
  clear hr
  refine FC.intro (X := XX) tok Tryz.func62 rfl Tryz.ntmps62 (by rw [Tryz.results62]) (by kernel_rfl) rfl ?_; intro F hG hO
  rw [← hG] at f1
  repeat' ((try (conv => whnf)); first
  | ((with_reducible refine cg ?_); first | refine ceq f1 rfl ?_)
  
  | with_reducible first
    | refine Chk.mk' (by first | omega | exact trivial | (simp only [List.length_append, List.length_set, List.length_replicate, List.length_take, List.length_drop, List.length_cons, List.length_nil, List.length_map]; omega)) ?_
    | refine wrap_g (by dsimp only [inR]; omega) ?_
    | refine idx_g (by omega) ?_ | refine idx_l _ rfl (by decide) ?_ | refine BothG.mk ?_ ?_ | refine fork_tt ?_ | refine fork_ff ?_
    | (refine fork_e (c := true) (by decide) ?_; refine fork_tt ?_) | (refine fork_e (c := false) (by decide) ?_; refine fork_ff ?_)
    | refine fork_t (by omega) ?_ | refine fork_f (by omega) ?_ | (refine fork_d ?_ ?_ <;> intro hc) | refine fork_n ?_ | (refine fork_b ?_ ?_ <;> intro hc)
    | refine SlcG.mk (by omega) ?_ | refine MakG.mk (by dsimp only; omega) ?_
    | refine AppG.mk (by first | omega | (simp only [List.length_append, List.length_set, List.length_replicate, List.length_take, List.length_drop, List.length_cons, List.length_nil, List.length_map]; omega)) (by dsimp only [List.length_cons, List.length_nil]; omega) (by omega) ?_
    | refine div_g (by omega) (by omega) (by dsimp only [inR]; omega) ?_ | refine mod_g (by omega) (by omega) ?_
    | refine mask_g (m := 4294967296) 32 rfl rfl (by decide) (by omega) ?_ | refine shr_g (m := 4294967296) 32 rfl (by decide) (by omega) rfl ?_
    | refine fz_all (by omega) ?_ | (refine smk ?_ ?_; constructor))
  exact ⟨ret_e rfl⟩
theorem great4_v (a b c d : D2) : (great4 a b c d).v = max (max (max a.v b.v) c.v) d.v := by unfold great4; rw [gst2_v, gst2_v, gst2_v]
theorem great4_good {a b c d : D2} (h1 : a.good) (h2 : b.good) (h3 : c.good) (h4 : d.good) : (great4 a b c d).good := gst2_good (gst2_good (gst2_good h1 h2) h3) h4
theorem p_greatestf {a b : D2} (h : a.good) (g : b.good) : FC Tryz.prog G 104 [DY a.1 a.2, DY b.1 b.2] (· = .val (.bool (decide (b.v < a.v)))) := by
  have f1 := p_cmp (G := G) h g
  have hc := cmpV_pos (n := a.1) (e := a.2) (m := b.1) (f := b.2)
  refine FC.intro (X := XX) tok Tryz.func104 rfl Tryz.ntmps104 (by rw [Tryz.results104]) (by kernel_rfl) rfl ?_; intro F hG hO
  rw [← hG] at f1
  repeat' ((try (conv => whnf)); first
  | ((with_reducible refine cg ?_); first | refine ceq f1 rfl ?_)
  
  | with_reducible first
    | refine Chk.mk' (by first | omega | exact trivial | (simp only [List.length_append, List.length_set, List.length_replicate, List.length_take, List.length_drop, List.length_cons, List.length_nil, List.length_map]; omega)) ?_
    | refine wrap_g (by dsimp only [inR]; omega) ?_
    | refine idx_g (by omega) ?_ | refine idx_l _ rfl (by decide) ?_ | refine BothG.mk ?_ ?_ | refine fork_tt ?_ | refine fork_ff ?_
    | (refine fork_e (c := true) (by decide) ?_; refine fork_tt ?_) | (refine fork_e (c := false) (by decide) ?_; refine fork_ff ?_)
    | refine fork_t (by omega) ?_ | refine fork_f (by omega) ?_ | (refine fork_d ?_ ?_ <;> intro hc) | refine fork_n ?_ | (refine fork_b ?_ ?_ <;> intro hc)
    | refine SlcG.mk (by omega) ?_ | refine MakG.mk (by dsimp only; omega) ?_
    | refine AppG.mk (by first | omega | (simp only [List.length_append, List.length_set, List.length_replicate, List.length_take, List.length_drop, List.length_cons, List.length_nil, List.length_map]; omega)) (by dsimp only [List.length_cons, List.length_nil]; omega) (by omega) ?_
    | refine div_g (by omega) (by omega) (by dsimp only [inR]; omega) ?_ | refine mod_g (by omega) (by omega) ?_
    | refine mask_g (m := 4294967296) 32 rfl rfl (by decide) (by omega) ?_ | refine shr_g (m := 4294967296) 32 rfl (by decide) (by omega) rfl ?_
    | refine fz_all (by omega) ?_ | (refine smk ?_ ?_; constructor))
  exact ⟨ret_e (bv_eq (decide_eq_decide.2 hc))⟩
theorem p_firstg2 {a b : D2} (ka : a.good) (kb : b.good) : FC Tryz.prog G 102 [.sl 3 [.val (.bool (decide (a.1 < 0))), .ws .u64 (d64 a.1.natAbs), .val (.int .i64 a.2), .val (.bool (decide (b.1 < 0))), .ws .u64 (d64 b.1.natAbs), .val (.int .i64 b.2)], .val (.func (.func 104) #[] #[])] (· = DY (gst2 a b).1 (gst2 a b).2) := by
  have fba := p_greatestf (G := G) kb ka
  refine FC.intro (X := XX) tok Tryz.func102 rfl Tryz.ntmps102 (by rw [Tryz.results102]) (by kernel_rfl) rfl ?_; intro F hG hO
  rw [← hG] at fba
  repeat' ((try (conv => whnf)); first
  | ((with_reducible refine cg ?_); first | refine ceq fba rfl ?_)
  | ((with_reducible refine ilg ?_); refine idx_l 0 (by decide) (by simp) ?_)
  | ((with_reducible refine ilg ?_); refine idx_l 1 (by decide) (by simp) ?_)
  | ((with_reducible refine ilg ?_); refine idx_l 2 (by decide) (by simp) ?_)
  | ((with_reducible refine ilg ?_); refine idx_l 3 (by decide) (by simp) ?_)
  | (with_reducible refine Chk.mk' (by simp) ?_)
  | ((with_reducible refine lg ?_); refine rounds_g 2 tok ?_)
  
  | with_reducible first
    | refine Chk.mk' (by first | omega | exact trivial | (simp only [List.length_append, List.length_set, List.length_replicate, List.length_take, List.length_drop, List.length_cons, List.length_nil, List.length_map]; omega)) ?_
    | refine wrap_g (by dsimp only [inR]; omega) ?_
    | refine idx_g (by omega) ?_ | refine idx_l _ rfl (by decide) ?_ | refine BothG.mk ?_ ?_ | refine fork_tt ?_ | refine fork_ff ?_
    | (refine fork_e (c := true) (by decide) ?_; refine fork_tt ?_) | (refine fork_e (c := false) (by decide) ?_; refine fork_ff ?_)
    | refine fork_t (by omega) ?_ | refine fork_f (by omega) ?_ | (refine fork_d ?_ ?_ <;> intro hc) | refine fork_n ?_ | (refine fork_b ?_ ?_ <;> intro hc)
    | refine SlcG.mk (by omega) ?_ | refine MakG.mk (by dsimp only; omega) ?_
    | refine AppG.mk (by first | omega | (simp only [List.length_append, List.length_set, List.length_replicate, List.length_take, List.length_drop, List.length_cons, List.length_nil, List.length_map]; omega)) (by dsimp only [List.length_cons, List.length_nil]; omega) (by omega) ?_
    | refine div_g (by omega) (by omega) (by dsimp only [inR]; omega) ?_ | refine mod_g (by omega) (by omega) ?_
    | refine mask_g (m := 4294967296) 32 rfl rfl (by decide) (by omega) ?_ | refine shr_g (m := 4294967296) 32 rfl (by decide) (by omega) rfl ?_
    | refine fz_all (by omega) ?_ | (refine smk ?_ ?_; constructor))
  all_goals (refine ⟨ret_e ?_⟩; first
    | exact congrArg D2.pv (D2.eq ka (gst2_good ka kb) (by rw [gst2_v]; omega))
    | exact congrArg D2.pv (D2.eq kb (gst2_good ka kb) (by rw [gst2_v]; omega)))
theorem p_greatest2 {a b : D2} (ka : a.good) (kb : b.good) : FC Tryz.prog G 63 [.sl 3 [.val (.bool (decide (a.1 < 0))), .ws .u64 (d64 a.1.natAbs), .val (.int .i64 a.2), .val (.bool (decide (b.1 < 0))), .ws .u64 (d64 b.1.natAbs), .val (.int .i64 b.2)]] (· = DY (gst2 a b).1 (gst2 a b).2) := by
  have f1 := p_firstg2 (G := G) ka kb
  obtain ⟨r, hr⟩ : ∃ r, r = gst2 a b := ⟨_, rfl⟩
  rw [← hr] at f1 ⊢
  clear hr
  refine FC.intro (X := XX) tok Tryz.func63 rfl Tryz.ntmps63 (by rw [Tryz.results63]) (by kernel_rfl) rfl ?_; intro F hG hO
  rw [← hG] at f1
  repeat' ((try (conv => whnf)); first
  | ((with_reducible refine cg ?_); first | refine ceq f1 rfl ?_)
  
  | with_reducible first
    | refine Chk.mk' (by first | omega | exact trivial | (simp only [List.length_append, List.length_set, List.length_replicate, List.length_take, List.length_drop, List.length_cons, List.length_nil, List.length_map]; omega)) ?_
    | refine wrap_g (by dsimp only [inR]; omega) ?_
    | refine idx_g (by omega) ?_ | refine idx_l _ rfl (by decide) ?_ | refine BothG.mk ?_ ?_ | refine fork_tt ?_ | refine fork_ff ?_
    | (refine fork_e (c := true) (by decide) ?_; refine fork_tt ?_) | (refine fork_e (c := false) (by decide) ?_; refine fork_ff ?_)
    | refine fork_t (by omega) ?_ | refine fork_f (by omega) ?_ | (refine fork_d ?_ ?_ <;> intro hc) | refine fork_n ?_ | (refine fork_b ?_ ?_ <;> intro hc)
    | refine SlcG.mk (by omega) ?_ | refine MakG.mk (by dsimp only; omega) ?_
    | refine AppG.mk (by first | omega | (simp only [List.length_append, List.length_set, List.length_replicate, List.length_take, List.length_drop, List.length_cons, List.length_nil, List.length_map]; omega)) (by dsimp only [List.length_cons, List.length_nil]; omega) (by omega) ?_
    | refine div_g (by omega) (by omega) (by dsimp only [inR]; omega) ?_ | refine mod_g (by omega) (by omega) ?_
    | refine mask_g (m := 4294967296) 32 rfl rfl (by decide) (by omega) ?_ | refine shr_g (m := 4294967296) 32 rfl (by decide) (by omega) rfl ?_
    | refine fz_all (by omega) ?_ | (refine smk ?_ ?_; constructor))
  exact ⟨ret_e rfl⟩
theorem p_firstg4 {a b c d : D2} (ka : a.good) (kb : b.good) (kc : c.good) (kd : d.good) : FC Tryz.prog G 102 [.sl 3 [.val (.bool (decide (a.1 < 0))), .ws .u64 (d64 a.1.natAbs), .val (.int .i64 a.2), .val (.bool (decide (b.1 < 0))), .ws .u64 (d64 b.1.natAbs), .val (.int .i64 b.2), .val (.bool (decide (c.1 < 0))), .ws .u64 (d64 c.1.natAbs), .val (.int .i64 c.2), .val (.bool (decide (d.1 < 0))), .ws .u64 (d64 d.1.natAbs), .val (.int .i64 d.2)], .val (.func (.func 104) #[] #[])] (· = DY (great4 a b c d).1 (great4 a b c d).2) := by
  have fba := p_greatestf (G := G) kb ka
  have fca := p_greatestf (G := G) kc ka
  have fcb := p_greatestf (G := G) kc kb
  have fda := p_greatestf (G := G) kd ka
  have fdb := p_greatestf (G := G) kd kb
  have fdc := p_greatestf (G := G) kd kc
  refine FC.intro (X := XX) tok Tryz.func102 rfl Tryz.ntmps102 (by rw [Tryz.results102]) (by kernel_rfl) rfl ?_; intro F hG hO
  rw [← hG] at fba fca fcb fda fdb fdc
  repeat' ((try (conv => whnf)); first
  | ((with_reducible refine cg ?_); first | refine ceq fba rfl ?_ | refine ceq fca rfl ?_ | refine ceq fcb rfl ?_ | refine ceq fda rfl ?_ | refine ceq fdb rfl ?_ | refine ceq fdc rfl ?_)
  | ((with_reducible refine ilg ?_); refine idx_l 0 (by decide) (by simp) ?_)
  | ((with_reducible refine ilg ?_); refine idx_l 1 (by decide) (by simp) ?_)
  | ((with_reducible refine ilg ?_); refine idx_l 2 (by decide) (by simp) ?_)
  | ((with_reducible refine ilg ?_); refine idx_l 3 (by decide) (by simp) ?_)
  | (with_reducible refine Chk.mk' (by simp) ?_)
  | ((with_reducible refine lg ?_); refine rounds_g 4 tok ?_)
  
  | with_reducible first
    | refine Chk.mk' (by first | omega | exact trivial | (simp only [List.length_append, List.length_set, List.length_replicate, List.length_take, List.length_drop, List.length_cons, List.length_nil, List.length_map]; omega)) ?_
    | refine wrap_g (by dsimp only [inR]; omega) ?_
    | refine idx_g (by omega) ?_ | refine idx_l _ rfl (by decide) ?_ | refine BothG.mk ?_ ?_ | refine fork_tt ?_ | refine fork_ff ?_
    | (refine fork_e (c := true) (by decide) ?_; refine fork_tt ?_) | (refine fork_e (c := false) (by decide) ?_; refine fork_ff ?_)
    | refine fork_t (by omega) ?_ | refine fork_f (by omega) ?_ | (refine fork_d ?_ ?_ <;> intro hc) | refine fork_n ?_ | (refine fork_b ?_ ?_ <;> intro hc)
    | refine SlcG.mk (by omega) ?_ | refine MakG.mk (by dsimp only; omega) ?_
    | refine AppG.mk (by first | omega | (simp only [List.length_append, List.length_set, List.length_replicate, List.length_take, List.length_drop, List.length_cons, List.length_nil, List.length_map]; omega)) (by dsimp only [List.length_cons, List.length_nil]; omega) (by omega) ?_
    | refine div_g (by omega) (by omega) (by dsimp only [inR]; omega) ?_ | refine mod_g (by omega) (by omega) ?_
    | refine mask_g (m := 4294967296) 32 rfl rfl (by decide) (by omega) ?_ | refine shr_g (m := 4294967296) 32 rfl (by decide) (by omega) rfl ?_
    | refine fz_all (by omega) ?_ | (refine smk ?_ ?_; constructor))
  all_goals (refine ⟨ret_e ?_⟩; first
    | exact congrArg D2.pv (D2.eq ka (great4_good ka kb kc kd) (by rw [great4_v]; omega))
    | exact congrArg D2.pv (D2.eq kb (great4_good ka kb kc kd) (by rw [great4_v]; omega))
    | exact congrArg D2.pv (D2.eq kc (great4_good ka kb kc kd) (by rw [great4_v]; omega))
    | exact congrArg D2.pv (D2.eq kd (great4_good ka kb kc kd) (by rw [great4_v]; omega)))
theorem p_greatest4 {a b c d : D2} (ka : a.good) (kb : b.good) (kc : c.good) (kd : d.good) : FC Tryz.prog G 63 [.sl 3 [.val (.bool (decide (a.1 < 0))), .ws .u64 (d64 a.1.natAbs), .val (.int .i64 a.2), .val (.bool (decide (b.1 < 0))), .ws .u64 (d64 b.1.natAbs), .val (.int .i64 b.2), .val (.bool (decide (c.1 < 0))), .ws .u64 (d64 c.1.natAbs), .val (.int .i64 c.2), .val (.bool (decide (d.1 < 0))), .ws .u64 (d64 d.1.natAbs), .val (.int .i64 d.2)]] (· = DY (great4 a b c d).1 (great4 a b c d).2) := by
  have f1 := p_firstg4 (G := G) ka kb kc kd
  obtain ⟨r, hr⟩ : ∃ r, r = great4 a b c d := ⟨_, rfl⟩
  rw [← hr] at f1 ⊢
  clear hr
  refine FC.intro (X := XX) tok Tryz.func63 rfl Tryz.ntmps63 (by rw [Tryz.results63]) (by kernel_rfl) rfl ?_; intro F hG hO
  rw [← hG] at f1
  repeat' ((try (conv => whnf)); first
  | ((with_reducible refine cg ?_); first | refine ceq f1 rfl ?_)
  
  | with_reducible first
    | refine Chk.mk' (by first | omega | exact trivial | (simp only [List.length_append, List.length_set, List.length_replicate, List.length_take, List.length_drop, List.length_cons, List.length_nil, List.length_map]; omega)) ?_
    | refine wrap_g (by dsimp only [inR]; omega) ?_
    | refine idx_g (by omega) ?_ | refine idx_l _ rfl (by decide) ?_ | refine BothG.mk ?_ ?_ | refine fork_tt ?_ | refine fork_ff ?_
    | (refine fork_e (c := true) (by decide) ?_; refine fork_tt ?_) | (refine fork_e (c := false) (by decide) ?_; refine fork_ff ?_)
    | refine fork_t (by omega) ?_ | refine fork_f (by omega) ?_ | (refine fork_d ?_ ?_ <;> intro hc) | refine fork_n ?_ | (refine fork_b ?_ ?_ <;> intro hc)
    | refine SlcG.mk (by omega) ?_ | refine MakG.mk (by dsimp only; omega) ?_
    | refine AppG.mk (by first | omega | (simp only [List.length_append, List.length_set, List.length_replicate, List.length_take, List.length_drop, List.length_cons, List.length_nil, List.length_map]; omega)) (by dsimp only [List.length_cons, List.length_nil]; omega) (by omega) ?_
    | refine div_g (by omega) (by omega) (by dsimp only [inR]; omega) ?_ | refine mod_g (by omega) (by omega) ?_
    | refine mask_g (m := 4294967296) 32 rfl rfl (by decide) (by omega) ?_ | refine shr_g (m := 4294967296) 32 rfl (by decide) (by omega) rfl ?_
    | refine fz_all (by omega) ?_ | (refine smk ?_ ?_; constructor))
  exact ⟨ret_e rfl⟩
end Go.Proofs.YtpjbgmafnheomaaGreatDoor.Sim
namespace Go.Proofs.YtpjbgmafnheomaaGreatDoor.Sim
open Go.RowKit
set_option linter.unusedVariables false
set_option linter.unusedSimpArgs false
set_option maxRecDepth 10000
set_option maxHeartbeats 8000000
variable {G : List (Nat × List Value)}
theorem spF_SP {a b : D2} (h : GoodS a b) : spF (decide (a.1 < 0)) (d64 a.1.natAbs) a.2 (decide (b.1 < 0)) (d64 b.1.natAbs) b.2 = true := by
  obtain ⟨h1, h2, h3⟩ := h
  unfold spF
  rw [dyF_DY _ _ h1, dyF_DY _ _ h2]
  have e : ∀ n : Int, sgv (decide (n < 0)) (d64 n.natAbs) = n := fun n => by unfold sgv; rw [vl_d64, sg_of]
  rw [e, e]
  simp only [Bool.true_and]
  exact decide_eq_true h3
theorem chkE_ok {p : Int} (hp : 1 ≤ p ∧ p ≤ 70000) : chkE p true = 0 := by unfold chkE; rw [if_neg (by omega)]; rfl
theorem okD64 (n : Nat) : okD 18446744073709551616 (d64 n) := (d64_ok n).1
theorem outP_form (a b : D2) (p : Int) : ∃ x y c, outP a b p = .tup [SP x y, .val (.int .i64 c)] := bothA_form _ _
theorem p_check1g {a b : D2} (h : GoodS a b) {p : Int} (hp : 1 ≤ p ∧ p ≤ 70000) : FC Tryz.prog G 53 [.val (.int .i64 p), .sl 6 [.val (.bool (decide (a.1 < 0))), .ws .u64 (d64 a.1.natAbs), .val (.int .i64 a.2), .val (.bool (decide (b.1 < 0))), .ws .u64 (d64 b.1.natAbs), .val (.int .i64 b.2)]] (· = .val (.int .i64 0)) := by
  have f := p_check1 (G := G) p (decide (a.1 < 0)) (d64 a.1.natAbs) a.2 (decide (b.1 < 0)) (d64 b.1.natAbs) b.2 (okD64 a.1.natAbs) (okD64 b.1.natAbs)
  rw [spF_SP h, chkE_ok hp] at f
  exact f
theorem p_check2g {a b c d : D2} (h : GoodS a b) (k : GoodS c d) {p : Int} (hp : 1 ≤ p ∧ p ≤ 70000) : FC Tryz.prog G 53 [.val (.int .i64 p), .sl 6 [.val (.bool (decide (a.1 < 0))), .ws .u64 (d64 a.1.natAbs), .val (.int .i64 a.2), .val (.bool (decide (b.1 < 0))), .ws .u64 (d64 b.1.natAbs), .val (.int .i64 b.2), .val (.bool (decide (c.1 < 0))), .ws .u64 (d64 c.1.natAbs), .val (.int .i64 c.2), .val (.bool (decide (d.1 < 0))), .ws .u64 (d64 d.1.natAbs), .val (.int .i64 d.2)]] (· = .val (.int .i64 0)) := by
  have f := p_check2 (G := G) p (decide (a.1 < 0)) (d64 a.1.natAbs) a.2 (decide (b.1 < 0)) (d64 b.1.natAbs) b.2 (decide (c.1 < 0)) (d64 c.1.natAbs) c.2 (decide (d.1 < 0)) (d64 d.1.natAbs) d.2 (okD64 a.1.natAbs) (okD64 b.1.natAbs) (okD64 c.1.natAbs) (okD64 d.1.natAbs)
  rw [spF_SP h, spF_SP k, Bool.and_self, chkE_ok hp] at f
  exact f
theorem p_Sign {a b : D2} (h : GoodS a b) : FC Tryz.prog G 54 [SP a b] (· = .tup [.val (.int .i64 (if b.1 < 0 then -1 else if 0 < a.1 then 1 else 0)), .val (.int .i64 0)]) := by
  have f0 := p_form (G := G) h
  have f1 := p_sign (G := G) h.1
  have f2 := p_sign (G := G) h.2.1
  by_cases hb : b.1 < 0
  · rw [if_pos hb]
    rw [Int.sign_eq_neg_one_of_neg hb] at f2
    refine FC.intro (X := XX) tok Tryz.func54 rfl Tryz.ntmps54 (by rw [Tryz.results54]) (by kernel_rfl) rfl ?_; intro F hG hO
    rw [← hG] at f0 f2
    repeat' ((try (conv => whnf)); first
  | ((with_reducible refine cg ?_); first | refine ceq f0 rfl ?_ | refine ceq f2 rfl ?_)
  
  | with_reducible first
    | refine Chk.mk' (by first | omega | exact trivial | (simp only [List.length_append, List.length_set, List.length_replicate, List.length_take, List.length_drop, List.length_cons, List.length_nil, List.length_map]; omega)) ?_
    | refine wrap_g (by dsimp only [inR]; omega) ?_
    | refine idx_g (by omega) ?_ | refine idx_l _ rfl (by decide) ?_ | refine BothG.mk ?_ ?_ | refine fork_tt ?_ | refine fork_ff ?_
    | (refine fork_e (c := true) (by decide) ?_; refine fork_tt ?_) | (refine fork_e (c := false) (by decide) ?_; refine fork_ff ?_)
    | refine fork_t (by omega) ?_ | refine fork_f (by omega) ?_ | (refine fork_d ?_ ?_ <;> intro hc) | refine fork_n ?_ | (refine fork_b ?_ ?_ <;> intro hc)
    | refine SlcG.mk (by omega) ?_ | refine MakG.mk (by dsimp only; omega) ?_
    | refine AppG.mk (by first | omega | (simp only [List.length_append, List.length_set, List.length_replicate, List.length_take, List.length_drop, List.length_cons, List.length_nil, List.length_map]; omega)) (by dsimp only [List.length_cons, List.length_nil]; omega) (by omega) ?_
    | refine div_g (by omega) (by omega) (by dsimp only [inR]; omega) ?_ | refine mod_g (by omega) (by omega) ?_
    | refine mask_g (m := 4294967296) 32 rfl rfl (by decide) (by omega) ?_ | refine shr_g (m := 4294967296) 32 rfl (by decide) (by omega) rfl ?_
    | refine fz_all (by omega) ?_ | (refine smk ?_ ?_; constructor))
    all_goals exact ⟨ret_e rfl⟩
  · rw [if_neg hb]
    have s2 : 0 ≤ b.1.sign := by rcases Int.lt_trichotomy b.1 0 with h | h | h <;> first | omega | (rw [h]; decide) | (rw [Int.sign_eq_one_of_pos h]; decide)
    obtain ⟨t, ht⟩ : ∃ t, t = b.1.sign := ⟨_, rfl⟩
    rw [← ht] at f2 s2
    clear ht
    by_cases ha : 0 < a.1
    · rw [if_pos ha]
      rw [Int.sign_eq_one_of_pos ha] at f1
      refine FC.intro (X := XX) tok Tryz.func54 rfl Tryz.ntmps54 (by rw [Tryz.results54]) (by kernel_rfl) rfl ?_; intro F hG hO
      rw [← hG] at f0 f1 f2
      repeat' ((try (conv => whnf)); first
  | ((with_reducible refine cg ?_); first | refine ceq f0 rfl ?_ | refine ceq f1 rfl ?_ | refine ceq f2 rfl ?_)
  
  | with_reducible first
    | refine Chk.mk' (by first | omega | exact trivial | (simp only [List.length_append, List.length_set, List.length_replicate, List.length_take, List.length_drop, List.length_cons, List.length_nil, List.length_map]; omega)) ?_
    | refine wrap_g (by dsimp only [inR]; omega) ?_
    | refine idx_g (by omega) ?_ | refine idx_l _ rfl (by decide) ?_ | refine BothG.mk ?_ ?_ | refine fork_tt ?_ | refine fork_ff ?_
    | (refine fork_e (c := true) (by decide) ?_; refine fork_tt ?_) | (refine fork_e (c := false) (by decide) ?_; refine fork_ff ?_)
    | refine fork_t (by omega) ?_ | refine fork_f (by omega) ?_ | (refine fork_d ?_ ?_ <;> intro hc) | refine fork_n ?_ | (refine fork_b ?_ ?_ <;> intro hc)
    | refine SlcG.mk (by omega) ?_ | refine MakG.mk (by dsimp only; omega) ?_
    | refine AppG.mk (by first | omega | (simp only [List.length_append, List.length_set, List.length_replicate, List.length_take, List.length_drop, List.length_cons, List.length_nil, List.length_map]; omega)) (by dsimp only [List.length_cons, List.length_nil]; omega) (by omega) ?_
    | refine div_g (by omega) (by omega) (by dsimp only [inR]; omega) ?_ | refine mod_g (by omega) (by omega) ?_
    | refine mask_g (m := 4294967296) 32 rfl rfl (by decide) (by omega) ?_ | refine shr_g (m := 4294967296) 32 rfl (by decide) (by omega) rfl ?_
    | refine fz_all (by omega) ?_ | (refine smk ?_ ?_; constructor))
      all_goals exact ⟨ret_e rfl⟩
    · rw [if_neg ha]
      have s1 : a.1.sign ≤ 0 := by rcases Int.lt_trichotomy a.1 0 with h | h | h <;> first | omega | (rw [Int.sign_eq_neg_one_of_neg h]; decide) | (rw [h]; decide)
      obtain ⟨u, hu⟩ : ∃ t, t = a.1.sign := ⟨_, rfl⟩
      rw [← hu] at f1 s1
      clear hu
      refine FC.intro (X := XX) tok Tryz.func54 rfl Tryz.ntmps54 (by rw [Tryz.results54]) (by kernel_rfl) rfl ?_; intro F hG hO
      rw [← hG] at f0 f1 f2
      repeat' ((try (conv => whnf)); first
  | ((with_reducible refine cg ?_); first | refine ceq f0 rfl ?_ | refine ceq f1 rfl ?_ | refine ceq f2 rfl ?_)
  
  | with_reducible first
    | refine Chk.mk' (by first | omega | exact trivial | (simp only [List.length_append, List.length_set, List.length_replicate, List.length_take, List.length_drop, List.length_cons, List.length_nil, List.length_map]; omega)) ?_
    | refine wrap_g (by dsimp only [inR]; omega) ?_
    | refine idx_g (by omega) ?_ | refine idx_l _ rfl (by decide) ?_ | refine BothG.mk ?_ ?_ | refine fork_tt ?_ | refine fork_ff ?_
    | (refine fork_e (c := true) (by decide) ?_; refine fork_tt ?_) | (refine fork_e (c := false) (by decide) ?_; refine fork_ff ?_)
    | refine fork_t (by omega) ?_ | refine fork_f (by omega) ?_ | (refine fork_d ?_ ?_ <;> intro hc) | refine fork_n ?_ | (refine fork_b ?_ ?_ <;> intro hc)
    | refine SlcG.mk (by omega) ?_ | refine MakG.mk (by dsimp only; omega) ?_
    | refine AppG.mk (by first | omega | (simp only [List.length_append, List.length_set, List.length_replicate, List.length_take, List.length_drop, List.length_cons, List.length_nil, List.length_map]; omega)) (by dsimp only [List.length_cons, List.length_nil]; omega) (by omega) ?_
    | refine div_g (by omega) (by omega) (by dsimp only [inR]; omega) ?_ | refine mod_g (by omega) (by omega) ?_
    | refine mask_g (m := 4294967296) 32 rfl rfl (by decide) (by omega) ?_ | refine shr_g (m := 4294967296) 32 rfl (by decide) (by omega) rfl ?_
    | refine fz_all (by omega) ?_ | (refine smk ?_ ?_; constructor))
      all_goals exact ⟨ret_e rfl⟩
theorem GoodS.neg {a b : D2} (h : GoodS a b) : GoodS b.neg a.neg := ⟨D2.neg_good h.2.1, D2.neg_good h.1, by rw [D2.neg_v, D2.neg_v]; have := h.2.2; omega⟩
theorem p_neg {a b : D2} (h : GoodS a b) : FC Tryz.prog G 22 [SP a b] (· = spR b.neg a.neg) := by
  have f0 := p_form (G := G) h
  have f1 : FC Tryz.prog G 67 [DY a.1 a.2] (· = dyR a.neg.1 a.neg.2) := y_neg (G := G) h.1
  have f2 : FC Tryz.prog G 67 [DY b.1 b.2] (· = dyR b.neg.1 b.neg.2) := y_neg (G := G) h.2.1
  obtain ⟨u, hu⟩ : ∃ u, u = a.neg := ⟨_, rfl⟩
  obtain ⟨v, hv⟩ : ∃ v, v = b.neg := ⟨_, rfl⟩
  rw [← hu] at f1 ⊢
  rw [← hv] at f2 ⊢
  clear hu hv
  refine FC.intro (X := XX) tok Tryz.func22 rfl Tryz.ntmps22 (by rw [Tryz.results22]) (by kernel_rfl) rfl ?_; intro F hG hO
  rw [← hG] at f0 f1 f2
  repeat' ((try (conv => whnf)); first
  | ((with_reducible refine cg ?_); first | refine ceq f0 rfl ?_ | refine ceq f1 rfl ?_ | refine ceq f2 rfl ?_)
  
  | with_reducible first
    | refine Chk.mk' (by first | omega | exact trivial | (simp only [List.length_append, List.length_set, List.length_replicate, List.length_take, List.length_drop, List.length_cons, List.length_nil, List.length_map]; omega)) ?_
    | refine wrap_g (by dsimp only [inR]; omega) ?_
    | refine idx_g (by omega) ?_ | refine idx_l _ rfl (by decide) ?_ | refine BothG.mk ?_ ?_ | refine fork_tt ?_ | refine fork_ff ?_
    | (refine fork_e (c := true) (by decide) ?_; refine fork_tt ?_) | (refine fork_e (c := false) (by decide) ?_; refine fork_ff ?_)
    | refine fork_t (by omega) ?_ | refine fork_f (by omega) ?_ | (refine fork_d ?_ ?_ <;> intro hc) | refine fork_n ?_ | (refine fork_b ?_ ?_ <;> intro hc)
    | refine SlcG.mk (by omega) ?_ | refine MakG.mk (by dsimp only; omega) ?_
    | refine AppG.mk (by first | omega | (simp only [List.length_append, List.length_set, List.length_replicate, List.length_take, List.length_drop, List.length_cons, List.length_nil, List.length_map]; omega)) (by dsimp only [List.length_cons, List.length_nil]; omega) (by omega) ?_
    | refine div_g (by omega) (by omega) (by dsimp only [inR]; omega) ?_ | refine mod_g (by omega) (by omega) ?_
    | refine mask_g (m := 4294967296) 32 rfl rfl (by decide) (by omega) ?_ | refine shr_g (m := 4294967296) 32 rfl (by decide) (by omega) rfl ?_
    | refine fz_all (by omega) ?_ | (refine smk ?_ ?_; constructor))
  exact ⟨ret_e rfl⟩
theorem y_addP {g : List (Nat × List Value)} (hD : (0, debT.map (Value.int .u8)) ∈ g) {a c : D2} (h : a.good) (k : c.good) : FC Tryz.prog g 69 [DY a.1 a.2, DY c.1 c.2] (· = .tup [DY (toAn (addP a c)).x (toAn (addP a c)).y, .val (.int .i64 (toAn (addP a c)).c)]) := tup_eta (y_add hD h k) (add_ans h k)
theorem y_subP {g : List (Nat × List Value)} (hD : (0, debT.map (Value.int .u8)) ∈ g) {a c : D2} (h : a.good) (k : c.good) : FC Tryz.prog g 68 [DY a.1 a.2, DY c.1 c.2] (· = .tup [DY (toAn (addP a c.neg)).x (toAn (addP a c.neg)).y, .val (.int .i64 (toAn (addP a c.neg)).c)]) := tup_eta (y_sub hD h k) (add_ans h (D2.neg_good k))
theorem y_mulP {g : List (Nat × List Value)} (hD : (0, debT.map (Value.int .u8)) ∈ g) {a c : D2} (h : a.good) (k : c.good) : FC Tryz.prog g 61 [DY a.1 a.2, DY c.1 c.2] (· = .tup [DY (toAn (mulP a c)).x (toAn (mulP a c)).y, .val (.int .i64 (toAn (mulP a c)).c)]) := tup_eta (y_mul hD h k) (mul_ans a c)
theorem y_quoP {g : List (Nat × List Value)} (hD : (0, debT.map (Value.int .u8)) ∈ g) {a c : D2} (h : a.good) (k : c.good) {p : Int} (hp : 1 ≤ p ∧ p ≤ 70000) (h0 : c.1 ≠ 0) : FC Tryz.prog g 56 [DY a.1 a.2, DY c.1 c.2, .val (.int .i64 p)] (· = .tup [DY (toAn (quoP a c p false)).x (toAn (quoP a c p false)).y, .val (.int .i64 (toAn (quoP a c p false)).c)])
    ∧ FC Tryz.prog g 57 [DY a.1 a.2, DY c.1 c.2, .val (.int .i64 p)] (· = .tup [DY (toAn (quoP a c p true)).x (toAn (quoP a c p true)).y, .val (.int .i64 (toAn (quoP a c p true)).c)]) :=
  ⟨tup_eta (y_quodown hD p h k (by dsimp only [inR]; omega)) (quo_ans hp h0 false), tup_eta (y_quoup hD p h k (by dsimp only [inR]; omega)) (quo_ans hp h0 true)⟩
theorem p_add {g : List (Nat × List Value)} (hD : (0, debT.map (Value.int .u8)) ∈ g) {a b c d : D2} (h : GoodS a b) (k : GoodS c d) {p : Int} (hp : 1 ≤ p ∧ p ≤ 70000) : FC Tryz.prog g 24 [SP a b, SP c d, .val (.int .i64 p)] (· = sumP a b c d p) := by
  have f0 := p_check2g (G := g) h k hp
  have f1 := y_addP hD h.1 k.1
  have f2 := y_addP hD h.2.1 k.2.1
  obtain ⟨_, g1, c1⟩ := (add_ans h.1 k.1).eq
  obtain ⟨_, g2, c2⟩ := (add_ans h.2.1 k.2.1).eq
  unfold sumP
  obtain ⟨u, hu⟩ : ∃ u, u = toAn (addP a c) := ⟨_, rfl⟩
  obtain ⟨v, hv⟩ : ∃ v, v = toAn (addP b d) := ⟨_, rfl⟩
  rw [← hu] at f1 g1 c1 ⊢
  rw [← hv] at f2 g2 c2 ⊢
  clear hu hv
  by_cases z1 : u.c = 0
  · by_cases z2 : v.c = 0
    · rw [if_neg (by omega)]
      have f3 := p_outward hD (a := u.d) (b := v.d) g1 g2 p hp
      obtain ⟨x, y, c, hr⟩ := outP_form u.d v.d p
      rw [hr] at f3 ⊢
      rw [z1] at f1
      rw [z2] at f2
      clear hr c1 c2
      refine FC.intro (X := XX) tok Tryz.func24 rfl Tryz.ntmps24 (by rw [Tryz.results24]) (by kernel_rfl) rfl ?_; intro F hG hO
      rw [← hG] at f0 f1 f2 f3
      repeat' ((try (conv => whnf)); first
  | ((with_reducible refine cg ?_); first | refine ceq f0 rfl ?_ | refine ceq f1 rfl ?_ | refine ceq f2 rfl ?_ | refine ceq f3 rfl ?_)
  
  | with_reducible first
    | refine Chk.mk' (by first | omega | exact trivial | (simp only [List.length_append, List.length_set, List.length_replicate, List.length_take, List.length_drop, List.length_cons, List.length_nil, List.length_map]; omega)) ?_
    | refine wrap_g (by dsimp only [inR]; omega) ?_
    | refine idx_g (by omega) ?_ | refine idx_l _ rfl (by decide) ?_ | refine BothG.mk ?_ ?_ | refine fork_tt ?_ | refine fork_ff ?_
    | (refine fork_e (c := true) (by decide) ?_; refine fork_tt ?_) | (refine fork_e (c := false) (by decide) ?_; refine fork_ff ?_)
    | refine fork_t (by omega) ?_ | refine fork_f (by omega) ?_ | (refine fork_d ?_ ?_ <;> intro hc) | refine fork_n ?_ | (refine fork_b ?_ ?_ <;> intro hc)
    | refine SlcG.mk (by omega) ?_ | refine MakG.mk (by dsimp only; omega) ?_
    | refine AppG.mk (by first | omega | (simp only [List.length_append, List.length_set, List.length_replicate, List.length_take, List.length_drop, List.length_cons, List.length_nil, List.length_map]; omega)) (by dsimp only [List.length_cons, List.length_nil]; omega) (by omega) ?_
    | refine div_g (by omega) (by omega) (by dsimp only [inR]; omega) ?_ | refine mod_g (by omega) (by omega) ?_
    | refine mask_g (m := 4294967296) 32 rfl rfl (by decide) (by omega) ?_ | refine shr_g (m := 4294967296) 32 rfl (by decide) (by omega) rfl ?_
    | refine fz_all (by omega) ?_ | (refine smk ?_ ?_; constructor))
      exact ⟨ret_e rfl⟩
    · rw [if_pos (by omega)]
      rw [z1] at f1
      rw [show v.c = 5 by omega] at f2
      clear c1 c2
      refine FC.intro (X := XX) tok Tryz.func24 rfl Tryz.ntmps24 (by rw [Tryz.results24]) (by kernel_rfl) rfl ?_; intro F hG hO
      rw [← hG] at f0 f1 f2
      repeat' ((try (conv => whnf)); first
  | ((with_reducible refine cg ?_); first | refine ceq f0 rfl ?_ | refine ceq f1 rfl ?_ | refine ceq f2 rfl ?_)
  
  | with_reducible first
    | refine Chk.mk' (by first | omega | exact trivial | (simp only [List.length_append, List.length_set, List.length_replicate, List.length_take, List.length_drop, List.length_cons, List.length_nil, List.length_map]; omega)) ?_
    | refine wrap_g (by dsimp only [inR]; omega) ?_
    | refine idx_g (by omega) ?_ | refine idx_l _ rfl (by decide) ?_ | refine BothG.mk ?_ ?_ | refine fork_tt ?_ | refine fork_ff ?_
    | (refine fork_e (c := true) (by decide) ?_; refine fork_tt ?_) | (refine fork_e (c := false) (by decide) ?_; refine fork_ff ?_)
    | refine fork_t (by omega) ?_ | refine fork_f (by omega) ?_ | (refine fork_d ?_ ?_ <;> intro hc) | refine fork_n ?_ | (refine fork_b ?_ ?_ <;> intro hc)
    | refine SlcG.mk (by omega) ?_ | refine MakG.mk (by dsimp only; omega) ?_
    | refine AppG.mk (by first | omega | (simp only [List.length_append, List.length_set, List.length_replicate, List.length_take, List.length_drop, List.length_cons, List.length_nil, List.length_map]; omega)) (by dsimp only [List.length_cons, List.length_nil]; omega) (by omega) ?_
    | refine div_g (by omega) (by omega) (by dsimp only [inR]; omega) ?_ | refine mod_g (by omega) (by omega) ?_
    | refine mask_g (m := 4294967296) 32 rfl rfl (by decide) (by omega) ?_ | refine shr_g (m := 4294967296) 32 rfl (by decide) (by omega) rfl ?_
    | refine fz_all (by omega) ?_ | (refine smk ?_ ?_; constructor))
      exact ⟨ret_l _ (lp_spE 5) rfl⟩
  · rw [if_pos (by omega)]
    rw [show u.c = 5 by omega] at f1
    rcases c2 with c2 | c2
    · rw [c2] at f2
      clear c1
      refine FC.intro (X := XX) tok Tryz.func24 rfl Tryz.ntmps24 (by rw [Tryz.results24]) (by kernel_rfl) rfl ?_; intro F hG hO
      rw [← hG] at f0 f1 f2
      repeat' ((try (conv => whnf)); first
  | ((with_reducible refine cg ?_); first | refine ceq f0 rfl ?_ | refine ceq f1 rfl ?_ | refine ceq f2 rfl ?_)
  
  | with_reducible first
    | refine Chk.mk' (by first | omega | exact trivial | (simp only [List.length_append, List.length_set, List.length_replicate, List.length_take, List.length_drop, List.length_cons, List.length_nil, List.length_map]; omega)) ?_
    | refine wrap_g (by dsimp only [inR]; omega) ?_
    | refine idx_g (by omega) ?_ | refine idx_l _ rfl (by decide) ?_ | refine BothG.mk ?_ ?_ | refine fork_tt ?_ | refine fork_ff ?_
    | (refine fork_e (c := true) (by decide) ?_; refine fork_tt ?_) | (refine fork_e (c := false) (by decide) ?_; refine fork_ff ?_)
    | refine fork_t (by omega) ?_ | refine fork_f (by omega) ?_ | (refine fork_d ?_ ?_ <;> intro hc) | refine fork_n ?_ | (refine fork_b ?_ ?_ <;> intro hc)
    | refine SlcG.mk (by omega) ?_ | refine MakG.mk (by dsimp only; omega) ?_
    | refine AppG.mk (by first | omega | (simp only [List.length_append, List.length_set, List.length_replicate, List.length_take, List.length_drop, List.length_cons, List.length_nil, List.length_map]; omega)) (by dsimp only [List.length_cons, List.length_nil]; omega) (by omega) ?_
    | refine div_g (by omega) (by omega) (by dsimp only [inR]; omega) ?_ | refine mod_g (by omega) (by omega) ?_
    | refine mask_g (m := 4294967296) 32 rfl rfl (by decide) (by omega) ?_ | refine shr_g (m := 4294967296) 32 rfl (by decide) (by omega) rfl ?_
    | refine fz_all (by omega) ?_ | (refine smk ?_ ?_; constructor))
      exact ⟨ret_l _ (lp_spE 5) rfl⟩
    · rw [c2] at f2
      clear c1
      refine FC.intro (X := XX) tok Tryz.func24 rfl Tryz.ntmps24 (by rw [Tryz.results24]) (by kernel_rfl) rfl ?_; intro F hG hO
      rw [← hG] at f0 f1 f2
      repeat' ((try (conv => whnf)); first
  | ((with_reducible refine cg ?_); first | refine ceq f0 rfl ?_ | refine ceq f1 rfl ?_ | refine ceq f2 rfl ?_)
  
  | with_reducible first
    | refine Chk.mk' (by first | omega | exact trivial | (simp only [List.length_append, List.length_set, List.length_replicate, List.length_take, List.length_drop, List.length_cons, List.length_nil, List.length_map]; omega)) ?_
    | refine wrap_g (by dsimp only [inR]; omega) ?_
    | refine idx_g (by omega) ?_ | refine idx_l _ rfl (by decide) ?_ | refine BothG.mk ?_ ?_ | refine fork_tt ?_ | refine fork_ff ?_
    | (refine fork_e (c := true) (by decide) ?_; refine fork_tt ?_) | (refine fork_e (c := false) (by decide) ?_; refine fork_ff ?_)
    | refine fork_t (by omega) ?_ | refine fork_f (by omega) ?_ | (refine fork_d ?_ ?_ <;> intro hc) | refine fork_n ?_ | (refine fork_b ?_ ?_ <;> intro hc)
    | refine SlcG.mk (by omega) ?_ | refine MakG.mk (by dsimp only; omega) ?_
    | refine AppG.mk (by first | omega | (simp only [List.length_append, List.length_set, List.length_replicate, List.length_take, List.length_drop, List.length_cons, List.length_nil, List.length_map]; omega)) (by dsimp only [List.length_cons, List.length_nil]; omega) (by omega) ?_
    | refine div_g (by omega) (by omega) (by dsimp only [inR]; omega) ?_ | refine mod_g (by omega) (by omega) ?_
    | refine mask_g (m := 4294967296) 32 rfl rfl (by decide) (by omega) ?_ | refine shr_g (m := 4294967296) 32 rfl (by decide) (by omega) rfl ?_
    | refine fz_all (by omega) ?_ | (refine smk ?_ ?_; constructor))
      exact ⟨ret_l _ (lp_spE 5) rfl⟩
theorem p_sub {g : List (Nat × List Value)} (hD : (0, debT.map (Value.int .u8)) ∈ g) {a b c d : D2} (h : GoodS a b) (k : GoodS c d) {p : Int} (hp : 1 ≤ p ∧ p ≤ 70000) : FC Tryz.prog g 23 [SP a b, SP c d, .val (.int .i64 p)] (· = sumP a b d.neg c.neg p) := by
  have f0 := p_check2g (G := g) h k hp
  have f1 := y_subP hD h.1 k.2.1
  have f2 := y_subP hD h.2.1 k.1
  obtain ⟨_, g1, c1⟩ := (add_ans h.1 (D2.neg_good k.2.1)).eq
  obtain ⟨_, g2, c2⟩ := (add_ans h.2.1 (D2.neg_good k.1)).eq
  unfold sumP
  obtain ⟨u, hu⟩ : ∃ u, u = toAn (addP a d.neg) := ⟨_, rfl⟩
  obtain ⟨v, hv⟩ : ∃ v, v = toAn (addP b c.neg) := ⟨_, rfl⟩
  rw [← hu] at f1 g1 c1 ⊢
  rw [← hv] at f2 g2 c2 ⊢
  clear hu hv
  by_cases z1 : u.c = 0
  · by_cases z2 : v.c = 0
    · rw [if_neg (by omega)]
      have f3 := p_outward hD (a := u.d) (b := v.d) g1 g2 p hp
      obtain ⟨x, y, c, hr⟩ := outP_form u.d v.d p
      rw [hr] at f3 ⊢
      rw [z1] at f1
      rw [z2] at f2
      clear hr c1 c2
      refine FC.intro (X := XX) tok Tryz.func23 rfl Tryz.ntmps23 (by rw [Tryz.results23]) (by kernel_rfl) rfl ?_; intro F hG hO
      rw [← hG] at f0 f1 f2 f3
      repeat' ((try (conv => whnf)); first
  | ((with_reducible refine cg ?_); first | refine ceq f0 rfl ?_ | refine ceq f1 rfl ?_ | refine ceq f2 rfl ?_ | refine ceq f3 rfl ?_)
  
  | with_reducible first
    | refine Chk.mk' (by first | omega | exact trivial | (simp only [List.length_append, List.length_set, List.length_replicate, List.length_take, List.length_drop, List.length_cons, List.length_nil, List.length_map]; omega)) ?_
    | refine wrap_g (by dsimp only [inR]; omega) ?_
    | refine idx_g (by omega) ?_ | refine idx_l _ rfl (by decide) ?_ | refine BothG.mk ?_ ?_ | refine fork_tt ?_ | refine fork_ff ?_
    | (refine fork_e (c := true) (by decide) ?_; refine fork_tt ?_) | (refine fork_e (c := false) (by decide) ?_; refine fork_ff ?_)
    | refine fork_t (by omega) ?_ | refine fork_f (by omega) ?_ | (refine fork_d ?_ ?_ <;> intro hc) | refine fork_n ?_ | (refine fork_b ?_ ?_ <;> intro hc)
    | refine SlcG.mk (by omega) ?_ | refine MakG.mk (by dsimp only; omega) ?_
    | refine AppG.mk (by first | omega | (simp only [List.length_append, List.length_set, List.length_replicate, List.length_take, List.length_drop, List.length_cons, List.length_nil, List.length_map]; omega)) (by dsimp only [List.length_cons, List.length_nil]; omega) (by omega) ?_
    | refine div_g (by omega) (by omega) (by dsimp only [inR]; omega) ?_ | refine mod_g (by omega) (by omega) ?_
    | refine mask_g (m := 4294967296) 32 rfl rfl (by decide) (by omega) ?_ | refine shr_g (m := 4294967296) 32 rfl (by decide) (by omega) rfl ?_
    | refine fz_all (by omega) ?_ | (refine smk ?_ ?_; constructor))
      exact ⟨ret_e rfl⟩
    · rw [if_pos (by omega)]
      rw [z1] at f1
      rw [show v.c = 5 by omega] at f2
      clear c1 c2
      refine FC.intro (X := XX) tok Tryz.func23 rfl Tryz.ntmps23 (by rw [Tryz.results23]) (by kernel_rfl) rfl ?_; intro F hG hO
      rw [← hG] at f0 f1 f2
      repeat' ((try (conv => whnf)); first
  | ((with_reducible refine cg ?_); first | refine ceq f0 rfl ?_ | refine ceq f1 rfl ?_ | refine ceq f2 rfl ?_)
  
  | with_reducible first
    | refine Chk.mk' (by first | omega | exact trivial | (simp only [List.length_append, List.length_set, List.length_replicate, List.length_take, List.length_drop, List.length_cons, List.length_nil, List.length_map]; omega)) ?_
    | refine wrap_g (by dsimp only [inR]; omega) ?_
    | refine idx_g (by omega) ?_ | refine idx_l _ rfl (by decide) ?_ | refine BothG.mk ?_ ?_ | refine fork_tt ?_ | refine fork_ff ?_
    | (refine fork_e (c := true) (by decide) ?_; refine fork_tt ?_) | (refine fork_e (c := false) (by decide) ?_; refine fork_ff ?_)
    | refine fork_t (by omega) ?_ | refine fork_f (by omega) ?_ | (refine fork_d ?_ ?_ <;> intro hc) | refine fork_n ?_ | (refine fork_b ?_ ?_ <;> intro hc)
    | refine SlcG.mk (by omega) ?_ | refine MakG.mk (by dsimp only; omega) ?_
    | refine AppG.mk (by first | omega | (simp only [List.length_append, List.length_set, List.length_replicate, List.length_take, List.length_drop, List.length_cons, List.length_nil, List.length_map]; omega)) (by dsimp only [List.length_cons, List.length_nil]; omega) (by omega) ?_
    | refine div_g (by omega) (by omega) (by dsimp only [inR]; omega) ?_ | refine mod_g (by omega) (by omega) ?_
    | refine mask_g (m := 4294967296) 32 rfl rfl (by decide) (by omega) ?_ | refine shr_g (m := 4294967296) 32 rfl (by decide) (by omega) rfl ?_
    | refine fz_all (by omega) ?_ | (refine smk ?_ ?_; constructor))
      exact ⟨ret_l _ (lp_spE 5) rfl⟩
  · rw [if_pos (by omega)]
    rw [show u.c = 5 by omega] at f1
    rcases c2 with c2 | c2
    · rw [c2] at f2
      clear c1
      refine FC.intro (X := XX) tok Tryz.func23 rfl Tryz.ntmps23 (by rw [Tryz.results23]) (by kernel_rfl) rfl ?_; intro F hG hO
      rw [← hG] at f0 f1 f2
      repeat' ((try (conv => whnf)); first
  | ((with_reducible refine cg ?_); first | refine ceq f0 rfl ?_ | refine ceq f1 rfl ?_ | refine ceq f2 rfl ?_)
  
  | with_reducible first
    | refine Chk.mk' (by first | omega | exact trivial | (simp only [List.length_append, List.length_set, List.length_replicate, List.length_take, List.length_drop, List.length_cons, List.length_nil, List.length_map]; omega)) ?_
    | refine wrap_g (by dsimp only [inR]; omega) ?_
    | refine idx_g (by omega) ?_ | refine idx_l _ rfl (by decide) ?_ | refine BothG.mk ?_ ?_ | refine fork_tt ?_ | refine fork_ff ?_
    | (refine fork_e (c := true) (by decide) ?_; refine fork_tt ?_) | (refine fork_e (c := false) (by decide) ?_; refine fork_ff ?_)
    | refine fork_t (by omega) ?_ | refine fork_f (by omega) ?_ | (refine fork_d ?_ ?_ <;> intro hc) | refine fork_n ?_ | (refine fork_b ?_ ?_ <;> intro hc)
    | refine SlcG.mk (by omega) ?_ | refine MakG.mk (by dsimp only; omega) ?_
    | refine AppG.mk (by first | omega | (simp only [List.length_append, List.length_set, List.length_replicate, List.length_take, List.length_drop, List.length_cons, List.length_nil, List.length_map]; omega)) (by dsimp only [List.length_cons, List.length_nil]; omega) (by omega) ?_
    | refine div_g (by omega) (by omega) (by dsimp only [inR]; omega) ?_ | refine mod_g (by omega) (by omega) ?_
    | refine mask_g (m := 4294967296) 32 rfl rfl (by decide) (by omega) ?_ | refine shr_g (m := 4294967296) 32 rfl (by decide) (by omega) rfl ?_
    | refine fz_all (by omega) ?_ | (refine smk ?_ ?_; constructor))
      exact ⟨ret_l _ (lp_spE 5) rfl⟩
    · rw [c2] at f2
      clear c1
      refine FC.intro (X := XX) tok Tryz.func23 rfl Tryz.ntmps23 (by rw [Tryz.results23]) (by kernel_rfl) rfl ?_; intro F hG hO
      rw [← hG] at f0 f1 f2
      repeat' ((try (conv => whnf)); first
  | ((with_reducible refine cg ?_); first | refine ceq f0 rfl ?_ | refine ceq f1 rfl ?_ | refine ceq f2 rfl ?_)
  
  | with_reducible first
    | refine Chk.mk' (by first | omega | exact trivial | (simp only [List.length_append, List.length_set, List.length_replicate, List.length_take, List.length_drop, List.length_cons, List.length_nil, List.length_map]; omega)) ?_
    | refine wrap_g (by dsimp only [inR]; omega) ?_
    | refine idx_g (by omega) ?_ | refine idx_l _ rfl (by decide) ?_ | refine BothG.mk ?_ ?_ | refine fork_tt ?_ | refine fork_ff ?_
    | (refine fork_e (c := true) (by decide) ?_; refine fork_tt ?_) | (refine fork_e (c := false) (by decide) ?_; refine fork_ff ?_)
    | refine fork_t (by omega) ?_ | refine fork_f (by omega) ?_ | (refine fork_d ?_ ?_ <;> intro hc) | refine fork_n ?_ | (refine fork_b ?_ ?_ <;> intro hc)
    | refine SlcG.mk (by omega) ?_ | refine MakG.mk (by dsimp only; omega) ?_
    | refine AppG.mk (by first | omega | (simp only [List.length_append, List.length_set, List.length_replicate, List.length_take, List.length_drop, List.length_cons, List.length_nil, List.length_map]; omega)) (by dsimp only [List.length_cons, List.length_nil]; omega) (by omega) ?_
    | refine div_g (by omega) (by omega) (by dsimp only [inR]; omega) ?_ | refine mod_g (by omega) (by omega) ?_
    | refine mask_g (m := 4294967296) 32 rfl rfl (by decide) (by omega) ?_ | refine shr_g (m := 4294967296) 32 rfl (by decide) (by omega) rfl ?_
    | refine fz_all (by omega) ?_ | (refine smk ?_ ?_; constructor))
      exact ⟨ret_l _ (lp_spE 5) rfl⟩
end Go.Proofs.YtpjbgmafnheomaaGreatDoor.Sim
namespace Go.Proofs.YtpjbgmafnheomaaGreatDoor.Sim
open Go.RowKit
set_option linter.unusedVariables false
set_option linter.unusedSimpArgs false
set_option maxRecDepth 10000
set_option maxHeartbeats 8000000
variable {G : List (Nat × List Value)}
theorem elDy : elT Tryz.prog 94 = some (26, 3) := by kernel_rfl
theorem zeDy : zeroT Tryz.prog 26 = some [.val (.bool false), .nil, .val (.int .i64 0)] := by kernel_rfl
theorem sign3 (n : Int) : (n.sign = -1 ∧ n < 0) ∨ (n.sign = 0 ∧ n = 0) ∨ (n.sign = 1 ∧ 0 < n) := by
  rcases Int.lt_trichotomy n 0 with h | h | h
  · exact .inl ⟨Int.sign_eq_neg_one_of_neg h, h⟩
  · exact .inr (.inl ⟨by rw [h]; rfl, h⟩)
  · exact .inr (.inr ⟨Int.sign_eq_one_of_pos h, h⟩)
theorem byDy : byT Tryz.prog 26 = some 40 := by kernel_rfl
theorem p_mul {g : List (Nat × List Value)} (hD : (0, debT.map (Value.int .u8)) ∈ g) {a b c d : D2} (h : GoodS a b) (k : GoodS c d) {p : Int} (hp : 1 ≤ p ∧ p ≤ 70000) : FC Tryz.prog g 19 [SP a b, SP c d, .val (.int .i64 p)] (· = spMul a b c d p) := by
  have f0 := p_check2g (G := g) h k hp
  have f1 := y_mulP hD h.1 k.1
  obtain ⟨_, g1, c1⟩ := (mul_ans a c).eq
  have f2 := y_mulP hD h.1 k.2.1
  obtain ⟨_, g2, c2⟩ := (mul_ans a d).eq
  have f3 := y_mulP hD h.2.1 k.1
  obtain ⟨_, g3, c3⟩ := (mul_ans b c).eq
  have f4 := y_mulP hD h.2.1 k.2.1
  obtain ⟨_, g4, c4⟩ := (mul_ans b d).eq
  unfold spMul
  obtain ⟨u1, hu1⟩ : ∃ u, u = toAn (mulP a c) := ⟨_, rfl⟩
  rw [← hu1] at f1 g1 c1 ⊢
  clear hu1
  obtain ⟨u2, hu2⟩ : ∃ u, u = toAn (mulP a d) := ⟨_, rfl⟩
  rw [← hu2] at f2 g2 c2 ⊢
  clear hu2
  obtain ⟨u3, hu3⟩ : ∃ u, u = toAn (mulP b c) := ⟨_, rfl⟩
  rw [← hu3] at f3 g3 c3 ⊢
  clear hu3
  obtain ⟨u4, hu4⟩ : ∃ u, u = toAn (mulP b d) := ⟨_, rfl⟩
  rw [← hu4] at f4 g4 c4 ⊢
  clear hu4
  by_cases z1 : u1.c = 0
  · skip
    by_cases z2 : u2.c = 0
    · skip
      by_cases z3 : u3.c = 0
      · skip
        by_cases z4 : u4.c = 0
        · skip
          rw [if_neg (by omega)]
          have e1 := p_least4 (G := g) (a := u1.d) (b := u2.d) (c := u3.d) (d := u4.d) g1 g2 g3 g4
          have e2 := p_greatest4 (G := g) (a := u1.d) (b := u2.d) (c := u3.d) (d := u4.d) g1 g2 g3 g4
          have gl := least4_good (a := u1.d) (b := u2.d) (c := u3.d) (d := u4.d) g1 g2 g3 g4
          have gg := great4_good (a := u1.d) (b := u2.d) (c := u3.d) (d := u4.d) g1 g2 g3 g4
          obtain ⟨lo, hlo⟩ : ∃ r, r = least4 u1.d u2.d u3.d u4.d := ⟨_, rfl⟩
          obtain ⟨hi, hhi⟩ : ∃ r, r = great4 u1.d u2.d u3.d u4.d := ⟨_, rfl⟩
          rw [← hlo] at e1 gl ⊢
          rw [← hhi] at e2 gg ⊢
          have e3 := p_outward hD gl gg p hp
          obtain ⟨x, y, c, hr⟩ := outP_form lo hi p
          rw [hr] at e3 ⊢
          rw [z1] at f1
          rw [z2] at f2
          rw [z3] at f3
          rw [z4] at f4
          clear hr hlo hhi c1 c2 c3 c4
          refine FC.intro (X := XX) tok Tryz.func19 rfl Tryz.ntmps19 (by rw [Tryz.results19]) (by kernel_rfl) rfl ?_; intro F hG hO
          rw [← hG] at f0 f1 f2 f3 f4 e1 e2 e3
          repeat' ((try (conv => whnf)); first
  | ((with_reducible refine cg ?_); first | refine ceq f0 rfl ?_ | refine ceq f1 rfl ?_ | refine ceq f2 rfl ?_ | refine ceq f3 rfl ?_ | refine ceq f4 rfl ?_)
  | ((with_reducible refine cg ?_); refine call_frz 0 (z := 3) rfl (by decide) (by rw [hO]; exact Nat.zero_le _) ?_; refine call_eq e1 (LpL.refl _) rfl ?_)
  | ((with_reducible refine cg ?_); first | refine ceq e2 rfl ?_ | refine ceq e3 rfl ?_)
  | (refine RawG.mk ?_; refine Sem.wr rfl (Does.appN (z := 3) (m := 1) rfl rfl rfl elDy zeDy rfl byDy rfl (by decide) (by decide) rfl rfl ?_))
  | (refine RawG.mk ?_; refine Sem.wr rfl (Does.appG (z := 3) (m := 1) rfl rfl rfl rfl elDy zeDy rfl byDy rfl rfl (by decide) rfl (by decide) (by rw [hO]; exact Nat.zero_le _) rfl rfl ?_))
  | ((with_reducible refine ilg ?_); refine idx_l 0 (by decide) (by simp [repZ]) ?_)
  | ((with_reducible refine ilg ?_); refine idx_l 1 (by decide) (by simp [repZ]) ?_)
  | ((with_reducible refine ilg ?_); refine idx_l 2 (by decide) (by simp [repZ]) ?_)
  | ((with_reducible refine ilg ?_); refine idx_l 3 (by decide) (by simp [repZ]) ?_)
  | (with_reducible refine Chk.mk' (by simp [repZ]) ?_)
  | ((with_reducible refine lg ?_); refine rounds_g 3 tok ?_)
  
  | with_reducible first
    | refine Chk.mk' (by first | omega | exact trivial | (simp only [List.length_append, List.length_set, List.length_replicate, List.length_take, List.length_drop, List.length_cons, List.length_nil, List.length_map]; omega)) ?_
    | refine wrap_g (by dsimp only [inR]; omega) ?_
    | refine idx_g (by omega) ?_ | refine idx_l _ rfl (by decide) ?_ | refine BothG.mk ?_ ?_ | refine fork_tt ?_ | refine fork_ff ?_
    | (refine fork_e (c := true) (by decide) ?_; refine fork_tt ?_) | (refine fork_e (c := false) (by decide) ?_; refine fork_ff ?_)
    | refine fork_t (by omega) ?_ | refine fork_f (by omega) ?_ | (refine fork_d ?_ ?_ <;> intro hc) | refine fork_n ?_ | (refine fork_b ?_ ?_ <;> intro hc)
    | refine SlcG.mk (by omega) ?_ | refine MakG.mk (by dsimp only; omega) ?_
    | refine AppG.mk (by first | omega | (simp only [List.length_append, List.length_set, List.length_replicate, List.length_take, List.length_drop, List.length_cons, List.length_nil, List.length_map]; omega)) (by dsimp only [List.length_cons, List.length_nil]; omega) (by omega) ?_
    | refine div_g (by omega) (by omega) (by dsimp only [inR]; omega) ?_ | refine mod_g (by omega) (by omega) ?_
    | refine mask_g (m := 4294967296) 32 rfl rfl (by decide) (by omega) ?_ | refine shr_g (m := 4294967296) 32 rfl (by decide) (by omega) rfl ?_
    | refine fz_all (by omega) ?_ | (refine smk ?_ ?_; constructor))
          all_goals exact ⟨ret_e rfl⟩
        · rw [if_pos (by omega)]
          rw [z1] at f1
          rw [z2] at f2
          rw [z3] at f3
          rw [show u4.c = 5 by omega] at f4
          clear c1 c2 c3 c4
          refine FC.intro (X := XX) tok Tryz.func19 rfl Tryz.ntmps19 (by rw [Tryz.results19]) (by kernel_rfl) rfl ?_; intro F hG hO
          rw [← hG] at f0 f1 f2 f3 f4
          repeat' ((try (conv => whnf)); first
  | ((with_reducible refine cg ?_); first | refine ceq f0 rfl ?_ | refine ceq f1 rfl ?_ | refine ceq f2 rfl ?_ | refine ceq f3 rfl ?_ | refine ceq f4 rfl ?_)
  | (refine RawG.mk ?_; refine Sem.wr rfl (Does.appN (z := 3) (m := 1) rfl rfl rfl elDy zeDy rfl byDy rfl (by decide) (by decide) rfl rfl ?_))
  | (refine RawG.mk ?_; refine Sem.wr rfl (Does.appG (z := 3) (m := 1) rfl rfl rfl rfl elDy zeDy rfl byDy rfl rfl (by decide) rfl (by decide) (by rw [hO]; exact Nat.zero_le _) rfl rfl ?_))
  | ((with_reducible refine ilg ?_); refine idx_l 0 (by decide) (by simp [repZ]) ?_)
  | ((with_reducible refine ilg ?_); refine idx_l 1 (by decide) (by simp [repZ]) ?_)
  | ((with_reducible refine ilg ?_); refine idx_l 2 (by decide) (by simp [repZ]) ?_)
  | ((with_reducible refine ilg ?_); refine idx_l 3 (by decide) (by simp [repZ]) ?_)
  | (with_reducible refine Chk.mk' (by simp [repZ]) ?_)
  | ((with_reducible refine lg ?_); refine rounds_g 3 tok ?_)
  
  | with_reducible first
    | refine Chk.mk' (by first | omega | exact trivial | (simp only [List.length_append, List.length_set, List.length_replicate, List.length_take, List.length_drop, List.length_cons, List.length_nil, List.length_map]; omega)) ?_
    | refine wrap_g (by dsimp only [inR]; omega) ?_
    | refine idx_g (by omega) ?_ | refine idx_l _ rfl (by decide) ?_ | refine BothG.mk ?_ ?_ | refine fork_tt ?_ | refine fork_ff ?_
    | (refine fork_e (c := true) (by decide) ?_; refine fork_tt ?_) | (refine fork_e (c := false) (by decide) ?_; refine fork_ff ?_)
    | refine fork_t (by omega) ?_ | refine fork_f (by omega) ?_ | (refine fork_d ?_ ?_ <;> intro hc) | refine fork_n ?_ | (refine fork_b ?_ ?_ <;> intro hc)
    | refine SlcG.mk (by omega) ?_ | refine MakG.mk (by dsimp only; omega) ?_
    | refine AppG.mk (by first | omega | (simp only [List.length_append, List.length_set, List.length_replicate, List.length_take, List.length_drop, List.length_cons, List.length_nil, List.length_map]; omega)) (by dsimp only [List.length_cons, List.length_nil]; omega) (by omega) ?_
    | refine div_g (by omega) (by omega) (by dsimp only [inR]; omega) ?_ | refine mod_g (by omega) (by omega) ?_
    | refine mask_g (m := 4294967296) 32 rfl rfl (by decide) (by omega) ?_ | refine shr_g (m := 4294967296) 32 rfl (by decide) (by omega) rfl ?_
    | refine fz_all (by omega) ?_ | (refine smk ?_ ?_; constructor))
          all_goals exact ⟨ret_l _ (lp_spE 5) rfl⟩
      · rw [if_pos (by omega)]
        rw [z1] at f1
        rw [z2] at f2
        rw [show u3.c = 5 by omega] at f3
        clear c1 c2 c3 c4
        refine FC.intro (X := XX) tok Tryz.func19 rfl Tryz.ntmps19 (by rw [Tryz.results19]) (by kernel_rfl) rfl ?_; intro F hG hO
        rw [← hG] at f0 f1 f2 f3
        repeat' ((try (conv => whnf)); first
  | ((with_reducible refine cg ?_); first | refine ceq f0 rfl ?_ | refine ceq f1 rfl ?_ | refine ceq f2 rfl ?_ | refine ceq f3 rfl ?_)
  | (refine RawG.mk ?_; refine Sem.wr rfl (Does.appN (z := 3) (m := 1) rfl rfl rfl elDy zeDy rfl byDy rfl (by decide) (by decide) rfl rfl ?_))
  | (refine RawG.mk ?_; refine Sem.wr rfl (Does.appG (z := 3) (m := 1) rfl rfl rfl rfl elDy zeDy rfl byDy rfl rfl (by decide) rfl (by decide) (by rw [hO]; exact Nat.zero_le _) rfl rfl ?_))
  | ((with_reducible refine ilg ?_); refine idx_l 0 (by decide) (by simp [repZ]) ?_)
  | ((with_reducible refine ilg ?_); refine idx_l 1 (by decide) (by simp [repZ]) ?_)
  | ((with_reducible refine ilg ?_); refine idx_l 2 (by decide) (by simp [repZ]) ?_)
  | ((with_reducible refine ilg ?_); refine idx_l 3 (by decide) (by simp [repZ]) ?_)
  | (with_reducible refine Chk.mk' (by simp [repZ]) ?_)
  | ((with_reducible refine lg ?_); refine rounds_g 3 tok ?_)
  
  | with_reducible first
    | refine Chk.mk' (by first | omega | exact trivial | (simp only [List.length_append, List.length_set, List.length_replicate, List.length_take, List.length_drop, List.length_cons, List.length_nil, List.length_map]; omega)) ?_
    | refine wrap_g (by dsimp only [inR]; omega) ?_
    | refine idx_g (by omega) ?_ | refine idx_l _ rfl (by decide) ?_ | refine BothG.mk ?_ ?_ | refine fork_tt ?_ | refine fork_ff ?_
    | (refine fork_e (c := true) (by decide) ?_; refine fork_tt ?_) | (refine fork_e (c := false) (by decide) ?_; refine fork_ff ?_)
    | refine fork_t (by omega) ?_ | refine fork_f (by omega) ?_ | (refine fork_d ?_ ?_ <;> intro hc) | refine fork_n ?_ | (refine fork_b ?_ ?_ <;> intro hc)
    | refine SlcG.mk (by omega) ?_ | refine MakG.mk (by dsimp only; omega) ?_
    | refine AppG.mk (by first | omega | (simp only [List.length_append, List.length_set, List.length_replicate, List.length_take, List.length_drop, List.length_cons, List.length_nil, List.length_map]; omega)) (by dsimp only [List.length_cons, List.length_nil]; omega) (by omega) ?_
    | refine div_g (by omega) (by omega) (by dsimp only [inR]; omega) ?_ | refine mod_g (by omega) (by omega) ?_
    | refine mask_g (m := 4294967296) 32 rfl rfl (by decide) (by omega) ?_ | refine shr_g (m := 4294967296) 32 rfl (by decide) (by omega) rfl ?_
    | refine fz_all (by omega) ?_ | (refine smk ?_ ?_; constructor))
        all_goals exact ⟨ret_l _ (lp_spE 5) rfl⟩
    · rw [if_pos (by omega)]
      rw [z1] at f1
      rw [show u2.c = 5 by omega] at f2
      clear c1 c2 c3 c4
      refine FC.intro (X := XX) tok Tryz.func19 rfl Tryz.ntmps19 (by rw [Tryz.results19]) (by kernel_rfl) rfl ?_; intro F hG hO
      rw [← hG] at f0 f1 f2
      repeat' ((try (conv => whnf)); first
  | ((with_reducible refine cg ?_); first | refine ceq f0 rfl ?_ | refine ceq f1 rfl ?_ | refine ceq f2 rfl ?_)
  | (refine RawG.mk ?_; refine Sem.wr rfl (Does.appN (z := 3) (m := 1) rfl rfl rfl elDy zeDy rfl byDy rfl (by decide) (by decide) rfl rfl ?_))
  | (refine RawG.mk ?_; refine Sem.wr rfl (Does.appG (z := 3) (m := 1) rfl rfl rfl rfl elDy zeDy rfl byDy rfl rfl (by decide) rfl (by decide) (by rw [hO]; exact Nat.zero_le _) rfl rfl ?_))
  | ((with_reducible refine ilg ?_); refine idx_l 0 (by decide) (by simp [repZ]) ?_)
  | ((with_reducible refine ilg ?_); refine idx_l 1 (by decide) (by simp [repZ]) ?_)
  | ((with_reducible refine ilg ?_); refine idx_l 2 (by decide) (by simp [repZ]) ?_)
  | ((with_reducible refine ilg ?_); refine idx_l 3 (by decide) (by simp [repZ]) ?_)
  | (with_reducible refine Chk.mk' (by simp [repZ]) ?_)
  | ((with_reducible refine lg ?_); refine rounds_g 3 tok ?_)
  
  | with_reducible first
    | refine Chk.mk' (by first | omega | exact trivial | (simp only [List.length_append, List.length_set, List.length_replicate, List.length_take, List.length_drop, List.length_cons, List.length_nil, List.length_map]; omega)) ?_
    | refine wrap_g (by dsimp only [inR]; omega) ?_
    | refine idx_g (by omega) ?_ | refine idx_l _ rfl (by decide) ?_ | refine BothG.mk ?_ ?_ | refine fork_tt ?_ | refine fork_ff ?_
    | (refine fork_e (c := true) (by decide) ?_; refine fork_tt ?_) | (refine fork_e (c := false) (by decide) ?_; refine fork_ff ?_)
    | refine fork_t (by omega) ?_ | refine fork_f (by omega) ?_ | (refine fork_d ?_ ?_ <;> intro hc) | refine fork_n ?_ | (refine fork_b ?_ ?_ <;> intro hc)
    | refine SlcG.mk (by omega) ?_ | refine MakG.mk (by dsimp only; omega) ?_
    | refine AppG.mk (by first | omega | (simp only [List.length_append, List.length_set, List.length_replicate, List.length_take, List.length_drop, List.length_cons, List.length_nil, List.length_map]; omega)) (by dsimp only [List.length_cons, List.length_nil]; omega) (by omega) ?_
    | refine div_g (by omega) (by omega) (by dsimp only [inR]; omega) ?_ | refine mod_g (by omega) (by omega) ?_
    | refine mask_g (m := 4294967296) 32 rfl rfl (by decide) (by omega) ?_ | refine shr_g (m := 4294967296) 32 rfl (by decide) (by omega) rfl ?_
    | refine fz_all (by omega) ?_ | (refine smk ?_ ?_; constructor))
      all_goals exact ⟨ret_l _ (lp_spE 5) rfl⟩
  · rw [if_pos (by omega)]
    rw [show u1.c = 5 by omega] at f1
    clear c1 c2 c3 c4
    refine FC.intro (X := XX) tok Tryz.func19 rfl Tryz.ntmps19 (by rw [Tryz.results19]) (by kernel_rfl) rfl ?_; intro F hG hO
    rw [← hG] at f0 f1
    repeat' ((try (conv => whnf)); first
  | ((with_reducible refine cg ?_); first | refine ceq f0 rfl ?_ | refine ceq f1 rfl ?_)
  | (refine RawG.mk ?_; refine Sem.wr rfl (Does.appN (z := 3) (m := 1) rfl rfl rfl elDy zeDy rfl byDy rfl (by decide) (by decide) rfl rfl ?_))
  | (refine RawG.mk ?_; refine Sem.wr rfl (Does.appG (z := 3) (m := 1) rfl rfl rfl rfl elDy zeDy rfl byDy rfl rfl (by decide) rfl (by decide) (by rw [hO]; exact Nat.zero_le _) rfl rfl ?_))
  | ((with_reducible refine ilg ?_); refine idx_l 0 (by decide) (by simp [repZ]) ?_)
  | ((with_reducible refine ilg ?_); refine idx_l 1 (by decide) (by simp [repZ]) ?_)
  | ((with_reducible refine ilg ?_); refine idx_l 2 (by decide) (by simp [repZ]) ?_)
  | ((with_reducible refine ilg ?_); refine idx_l 3 (by decide) (by simp [repZ]) ?_)
  | (with_reducible refine Chk.mk' (by simp [repZ]) ?_)
  | ((with_reducible refine lg ?_); refine rounds_g 3 tok ?_)
  
  | with_reducible first
    | refine Chk.mk' (by first | omega | exact trivial | (simp only [List.length_append, List.length_set, List.length_replicate, List.length_take, List.length_drop, List.length_cons, List.length_nil, List.length_map]; omega)) ?_
    | refine wrap_g (by dsimp only [inR]; omega) ?_
    | refine idx_g (by omega) ?_ | refine idx_l _ rfl (by decide) ?_ | refine BothG.mk ?_ ?_ | refine fork_tt ?_ | refine fork_ff ?_
    | (refine fork_e (c := true) (by decide) ?_; refine fork_tt ?_) | (refine fork_e (c := false) (by decide) ?_; refine fork_ff ?_)
    | refine fork_t (by omega) ?_ | refine fork_f (by omega) ?_ | (refine fork_d ?_ ?_ <;> intro hc) | refine fork_n ?_ | (refine fork_b ?_ ?_ <;> intro hc)
    | refine SlcG.mk (by omega) ?_ | refine MakG.mk (by dsimp only; omega) ?_
    | refine AppG.mk (by first | omega | (simp only [List.length_append, List.length_set, List.length_replicate, List.length_take, List.length_drop, List.length_cons, List.length_nil, List.length_map]; omega)) (by dsimp only [List.length_cons, List.length_nil]; omega) (by omega) ?_
    | refine div_g (by omega) (by omega) (by dsimp only [inR]; omega) ?_ | refine mod_g (by omega) (by omega) ?_
    | refine mask_g (m := 4294967296) 32 rfl rfl (by decide) (by omega) ?_ | refine shr_g (m := 4294967296) 32 rfl (by decide) (by omega) rfl ?_
    | refine fz_all (by omega) ?_ | (refine smk ?_ ?_; constructor))
    all_goals exact ⟨ret_l _ (lp_spE 5) rfl⟩
theorem p_sqr {g : List (Nat × List Value)} (hD : (0, debT.map (Value.int .u8)) ∈ g) {a b : D2} (h : GoodS a b) {p : Int} (hp : 1 ≤ p ∧ p ≤ 70000) : FC Tryz.prog g 36 [SP a b, .val (.int .i64 p)] (· = spSqr a b p) := by
  have f0 := p_check1g (G := g) h hp
  have f1 := y_mulP hD h.1 h.1
  obtain ⟨_, g1, c1⟩ := (mul_ans a a).eq
  have f2 := y_mulP hD h.2.1 h.2.1
  obtain ⟨_, g2, c2⟩ := (mul_ans b b).eq
  have s1 := p_sign (G := g) h.1
  have s2 := p_sign (G := g) h.2.1
  have sa := sign3 a.1
  have sb := sign3 b.1
  unfold spSqr
  obtain ⟨u1, hu1⟩ : ∃ u, u = toAn (mulP a a) := ⟨_, rfl⟩
  rw [← hu1] at f1 g1 c1 ⊢
  clear hu1
  obtain ⟨u2, hu2⟩ : ∃ u, u = toAn (mulP b b) := ⟨_, rfl⟩
  rw [← hu2] at f2 g2 c2 ⊢
  clear hu2
  obtain ⟨t1, ht1⟩ : ∃ t, t = a.1.sign := ⟨_, rfl⟩
  obtain ⟨t2, ht2⟩ : ∃ t, t = b.1.sign := ⟨_, rfl⟩
  rw [← ht1] at s1 sa
  rw [← ht2] at s2 sb
  clear ht1 ht2
  have e1 := p_least2 (G := g) (a := u1.d) (b := u2.d) g1 g2
  have e2 := p_greatest2 (G := g) (a := u1.d) (b := u2.d) g1 g2
  have gl := lst2_good (a := u1.d) (b := u2.d) g1 g2
  have gg := gst2_good (a := u1.d) (b := u2.d) g1 g2
  obtain ⟨lo, hlo⟩ : ∃ r, r = lst2 u1.d u2.d := ⟨_, rfl⟩
  obtain ⟨hi, hhi⟩ : ∃ r, r = gst2 u1.d u2.d := ⟨_, rfl⟩
  rw [← hlo] at e1 gl ⊢
  rw [← hhi] at e2 gg ⊢
  clear hlo hhi
  by_cases z1 : u1.c = 0
  · by_cases z2 : u2.c = 0
    · rw [if_neg (by omega)]
      rw [z1] at f1
      rw [z2] at f2
      clear c1 c2
      by_cases hz : a.1 ≤ 0 ∧ 0 ≤ b.1
      · rw [if_pos hz]
        have q1 : t1 ≤ 0 := by omega
        have q2 : 0 ≤ t2 := by omega
        have e3 := p_outward hD (a := (0, 0)) Good.zero gg p hp
        obtain ⟨x, y, c, hr⟩ := outP_form (0, 0) hi p
        rw [hr] at e3 ⊢
        clear hr hz sa sb
        refine FC.intro (X := XX) tok Tryz.func36 rfl Tryz.ntmps36 (by rw [Tryz.results36]) (by kernel_rfl) rfl ?_; intro F hG hO
        rw [← hG] at f0 f1 f2 s1 s2 e1 e2 e3
        repeat' ((try (conv => whnf)); first
  | ((with_reducible refine cg ?_); first | refine ceq f0 rfl ?_ | refine ceq f1 rfl ?_ | refine ceq f2 rfl ?_ | refine ceq s1 rfl ?_ | refine ceq s2 rfl ?_ | refine ceq e1 rfl ?_ | refine ceq e2 rfl ?_)
  | ((with_reducible refine cg ?_); refine call_eq e3 (.cons lp_dy0 (.cons (.refl _) (.cons (.refl _) .nil))) rfl ?_)
  
  | (with_reducible refine draw_g (id := 11) [[0, 1, 2, 5, 3, 4, 6, 7, 8], [9, 10]] tok mixed (by kernel_rfl) ?_)
  | with_reducible first
    | refine Chk.mk' (by first | omega | exact trivial | (simp only [List.length_append, List.length_set, List.length_replicate, List.length_take, List.length_drop, List.length_cons, List.length_nil, List.length_map]; omega)) ?_
    | refine wrap_g (by dsimp only [inR]; omega) ?_
    | refine idx_g (by omega) ?_ | refine idx_l _ rfl (by decide) ?_ | refine BothG.mk ?_ ?_ | refine fork_tt ?_ | refine fork_ff ?_
    | (refine fork_e (c := true) (by decide) ?_; refine fork_tt ?_) | (refine fork_e (c := false) (by decide) ?_; refine fork_ff ?_)
    | refine fork_t (by omega) ?_ | refine fork_f (by omega) ?_ | (refine fork_d ?_ ?_ <;> intro hc) | refine fork_n ?_ | (refine fork_b ?_ ?_ <;> intro hc)
    | refine SlcG.mk (by omega) ?_ | refine MakG.mk (by dsimp only; omega) ?_
    | refine AppG.mk (by first | omega | (simp only [List.length_append, List.length_set, List.length_replicate, List.length_take, List.length_drop, List.length_cons, List.length_nil, List.length_map]; omega)) (by dsimp only [List.length_cons, List.length_nil]; omega) (by omega) ?_
    | refine div_g (by omega) (by omega) (by dsimp only [inR]; omega) ?_ | refine mod_g (by omega) (by omega) ?_
    | refine mask_g (m := 4294967296) 32 rfl rfl (by decide) (by omega) ?_ | refine shr_g (m := 4294967296) 32 rfl (by decide) (by omega) rfl ?_
    | refine fz_all (by omega) ?_ | (refine smk ?_ ?_; constructor))
        all_goals exact ⟨ret_e rfl⟩
      · rw [if_neg hz]
        have e3 := p_outward hD gl gg p hp
        obtain ⟨x, y, c, hr⟩ := outP_form lo hi p
        rw [hr] at e3 ⊢
        by_cases q1 : t1 ≤ 0
        · have q2 : t2 < 0 := by omega
          clear hr hz sa sb
          refine FC.intro (X := XX) tok Tryz.func36 rfl Tryz.ntmps36 (by rw [Tryz.results36]) (by kernel_rfl) rfl ?_; intro F hG hO
          rw [← hG] at f0 f1 f2 s1 s2 e1 e2 e3
          repeat' ((try (conv => whnf)); first
  | ((with_reducible refine cg ?_); first | refine ceq f0 rfl ?_ | refine ceq f1 rfl ?_ | refine ceq f2 rfl ?_ | refine ceq s1 rfl ?_ | refine ceq s2 rfl ?_ | refine ceq e1 rfl ?_ | refine ceq e2 rfl ?_ | refine ceq e3 rfl ?_)
  
  | (with_reducible refine draw_g (id := 11) [[0, 1, 2, 5, 3, 4, 6, 7, 8], [9, 10]] tok mixed (by kernel_rfl) ?_)
  | with_reducible first
    | refine Chk.mk' (by first | omega | exact trivial | (simp only [List.length_append, List.length_set, List.length_replicate, List.length_take, List.length_drop, List.length_cons, List.length_nil, List.length_map]; omega)) ?_
    | refine wrap_g (by dsimp only [inR]; omega) ?_
    | refine idx_g (by omega) ?_ | refine idx_l _ rfl (by decide) ?_ | refine BothG.mk ?_ ?_ | refine fork_tt ?_ | refine fork_ff ?_
    | (refine fork_e (c := true) (by decide) ?_; refine fork_tt ?_) | (refine fork_e (c := false) (by decide) ?_; refine fork_ff ?_)
    | refine fork_t (by omega) ?_ | refine fork_f (by omega) ?_ | (refine fork_d ?_ ?_ <;> intro hc) | refine fork_n ?_ | (refine fork_b ?_ ?_ <;> intro hc)
    | refine SlcG.mk (by omega) ?_ | refine MakG.mk (by dsimp only; omega) ?_
    | refine AppG.mk (by first | omega | (simp only [List.length_append, List.length_set, List.length_replicate, List.length_take, List.length_drop, List.length_cons, List.length_nil, List.length_map]; omega)) (by dsimp only [List.length_cons, List.length_nil]; omega) (by omega) ?_
    | refine div_g (by omega) (by omega) (by dsimp only [inR]; omega) ?_ | refine mod_g (by omega) (by omega) ?_
    | refine mask_g (m := 4294967296) 32 rfl rfl (by decide) (by omega) ?_ | refine shr_g (m := 4294967296) 32 rfl (by decide) (by omega) rfl ?_
    | refine fz_all (by omega) ?_ | (refine smk ?_ ?_; constructor))
          all_goals exact ⟨ret_e rfl⟩
        · clear hr hz sa sb
          refine FC.intro (X := XX) tok Tryz.func36 rfl Tryz.ntmps36 (by rw [Tryz.results36]) (by kernel_rfl) rfl ?_; intro F hG hO
          rw [← hG] at f0 f1 f2 s1 s2 e1 e2 e3
          repeat' ((try (conv => whnf)); first
  | ((with_reducible refine cg ?_); first | refine ceq f0 rfl ?_ | refine ceq f1 rfl ?_ | refine ceq f2 rfl ?_ | refine ceq s1 rfl ?_ | refine ceq s2 rfl ?_ | refine ceq e1 rfl ?_ | refine ceq e2 rfl ?_ | refine ceq e3 rfl ?_)
  
  | (with_reducible refine draw_g (id := 11) [[0, 1, 2, 5, 3, 4, 6, 7, 8], [9, 10]] tok mixed (by kernel_rfl) ?_)
  | with_reducible first
    | refine Chk.mk' (by first | omega | exact trivial | (simp only [List.length_append, List.length_set, List.length_replicate, List.length_take, List.length_drop, List.length_cons, List.length_nil, List.length_map]; omega)) ?_
    | refine wrap_g (by dsimp only [inR]; omega) ?_
    | refine idx_g (by omega) ?_ | refine idx_l _ rfl (by decide) ?_ | refine BothG.mk ?_ ?_ | refine fork_tt ?_ | refine fork_ff ?_
    | (refine fork_e (c := true) (by decide) ?_; refine fork_tt ?_) | (refine fork_e (c := false) (by decide) ?_; refine fork_ff ?_)
    | refine fork_t (by omega) ?_ | refine fork_f (by omega) ?_ | (refine fork_d ?_ ?_ <;> intro hc) | refine fork_n ?_ | (refine fork_b ?_ ?_ <;> intro hc)
    | refine SlcG.mk (by omega) ?_ | refine MakG.mk (by dsimp only; omega) ?_
    | refine AppG.mk (by first | omega | (simp only [List.length_append, List.length_set, List.length_replicate, List.length_take, List.length_drop, List.length_cons, List.length_nil, List.length_map]; omega)) (by dsimp only [List.length_cons, List.length_nil]; omega) (by omega) ?_
    | refine div_g (by omega) (by omega) (by dsimp only [inR]; omega) ?_ | refine mod_g (by omega) (by omega) ?_
    | refine mask_g (m := 4294967296) 32 rfl rfl (by decide) (by omega) ?_ | refine shr_g (m := 4294967296) 32 rfl (by decide) (by omega) rfl ?_
    | refine fz_all (by omega) ?_ | (refine smk ?_ ?_; constructor))
          all_goals exact ⟨ret_e rfl⟩
    · rw [if_pos (by omega)]
      rw [z1] at f1
      rw [show u2.c = 5 by omega] at f2
      clear c1 c2 sa sb
      refine FC.intro (X := XX) tok Tryz.func36 rfl Tryz.ntmps36 (by rw [Tryz.results36]) (by kernel_rfl) rfl ?_; intro F hG hO
      rw [← hG] at f0 f1 f2
      repeat' ((try (conv => whnf)); first
  | ((with_reducible refine cg ?_); first | refine ceq f0 rfl ?_ | refine ceq f1 rfl ?_ | refine ceq f2 rfl ?_)
  
  | (with_reducible refine draw_g (id := 11) [[0, 1, 2, 5, 3, 4, 6, 7, 8], [9, 10]] tok mixed (by kernel_rfl) ?_)
  | with_reducible first
    | refine Chk.mk' (by first | omega | exact trivial | (simp only [List.length_append, List.length_set, List.length_replicate, List.length_take, List.length_drop, List.length_cons, List.length_nil, List.length_map]; omega)) ?_
    | refine wrap_g (by dsimp only [inR]; omega) ?_
    | refine idx_g (by omega) ?_ | refine idx_l _ rfl (by decide) ?_ | refine BothG.mk ?_ ?_ | refine fork_tt ?_ | refine fork_ff ?_
    | (refine fork_e (c := true) (by decide) ?_; refine fork_tt ?_) | (refine fork_e (c := false) (by decide) ?_; refine fork_ff ?_)
    | refine fork_t (by omega) ?_ | refine fork_f (by omega) ?_ | (refine fork_d ?_ ?_ <;> intro hc) | refine fork_n ?_ | (refine fork_b ?_ ?_ <;> intro hc)
    | refine SlcG.mk (by omega) ?_ | refine MakG.mk (by dsimp only; omega) ?_
    | refine AppG.mk (by first | omega | (simp only [List.length_append, List.length_set, List.length_replicate, List.length_take, List.length_drop, List.length_cons, List.length_nil, List.length_map]; omega)) (by dsimp only [List.length_cons, List.length_nil]; omega) (by omega) ?_
    | refine div_g (by omega) (by omega) (by dsimp only [inR]; omega) ?_ | refine mod_g (by omega) (by omega) ?_
    | refine mask_g (m := 4294967296) 32 rfl rfl (by decide) (by omega) ?_ | refine shr_g (m := 4294967296) 32 rfl (by decide) (by omega) rfl ?_
    | refine fz_all (by omega) ?_ | (refine smk ?_ ?_; constructor))
      all_goals exact ⟨ret_l _ (lp_spE 5) rfl⟩
  · rw [if_pos (by omega)]
    rw [show u1.c = 5 by omega] at f1
    rcases c2 with c2 | c2
    · rw [c2] at f2
      clear c1 sa sb
      refine FC.intro (X := XX) tok Tryz.func36 rfl Tryz.ntmps36 (by rw [Tryz.results36]) (by kernel_rfl) rfl ?_; intro F hG hO
      rw [← hG] at f0 f1 f2
      repeat' ((try (conv => whnf)); first
  | ((with_reducible refine cg ?_); first | refine ceq f0 rfl ?_ | refine ceq f1 rfl ?_ | refine ceq f2 rfl ?_)
  
  | (with_reducible refine draw_g (id := 11) [[0, 1, 2, 5, 3, 4, 6, 7, 8], [9, 10]] tok mixed (by kernel_rfl) ?_)
  | with_reducible first
    | refine Chk.mk' (by first | omega | exact trivial | (simp only [List.length_append, List.length_set, List.length_replicate, List.length_take, List.length_drop, List.length_cons, List.length_nil, List.length_map]; omega)) ?_
    | refine wrap_g (by dsimp only [inR]; omega) ?_
    | refine idx_g (by omega) ?_ | refine idx_l _ rfl (by decide) ?_ | refine BothG.mk ?_ ?_ | refine fork_tt ?_ | refine fork_ff ?_
    | (refine fork_e (c := true) (by decide) ?_; refine fork_tt ?_) | (refine fork_e (c := false) (by decide) ?_; refine fork_ff ?_)
    | refine fork_t (by omega) ?_ | refine fork_f (by omega) ?_ | (refine fork_d ?_ ?_ <;> intro hc) | refine fork_n ?_ | (refine fork_b ?_ ?_ <;> intro hc)
    | refine SlcG.mk (by omega) ?_ | refine MakG.mk (by dsimp only; omega) ?_
    | refine AppG.mk (by first | omega | (simp only [List.length_append, List.length_set, List.length_replicate, List.length_take, List.length_drop, List.length_cons, List.length_nil, List.length_map]; omega)) (by dsimp only [List.length_cons, List.length_nil]; omega) (by omega) ?_
    | refine div_g (by omega) (by omega) (by dsimp only [inR]; omega) ?_ | refine mod_g (by omega) (by omega) ?_
    | refine mask_g (m := 4294967296) 32 rfl rfl (by decide) (by omega) ?_ | refine shr_g (m := 4294967296) 32 rfl (by decide) (by omega) rfl ?_
    | refine fz_all (by omega) ?_ | (refine smk ?_ ?_; constructor))
      all_goals exact ⟨ret_l _ (lp_spE 5) rfl⟩
    · rw [c2] at f2
      clear c1 sa sb
      refine FC.intro (X := XX) tok Tryz.func36 rfl Tryz.ntmps36 (by rw [Tryz.results36]) (by kernel_rfl) rfl ?_; intro F hG hO
      rw [← hG] at f0 f1 f2
      repeat' ((try (conv => whnf)); first
  | ((with_reducible refine cg ?_); first | refine ceq f0 rfl ?_ | refine ceq f1 rfl ?_ | refine ceq f2 rfl ?_)
  
  | (with_reducible refine draw_g (id := 11) [[0, 1, 2, 5, 3, 4, 6, 7, 8], [9, 10]] tok mixed (by kernel_rfl) ?_)
  | with_reducible first
    | refine Chk.mk' (by first | omega | exact trivial | (simp only [List.length_append, List.length_set, List.length_replicate, List.length_take, List.length_drop, List.length_cons, List.length_nil, List.length_map]; omega)) ?_
    | refine wrap_g (by dsimp only [inR]; omega) ?_
    | refine idx_g (by omega) ?_ | refine idx_l _ rfl (by decide) ?_ | refine BothG.mk ?_ ?_ | refine fork_tt ?_ | refine fork_ff ?_
    | (refine fork_e (c := true) (by decide) ?_; refine fork_tt ?_) | (refine fork_e (c := false) (by decide) ?_; refine fork_ff ?_)
    | refine fork_t (by omega) ?_ | refine fork_f (by omega) ?_ | (refine fork_d ?_ ?_ <;> intro hc) | refine fork_n ?_ | (refine fork_b ?_ ?_ <;> intro hc)
    | refine SlcG.mk (by omega) ?_ | refine MakG.mk (by dsimp only; omega) ?_
    | refine AppG.mk (by first | omega | (simp only [List.length_append, List.length_set, List.length_replicate, List.length_take, List.length_drop, List.length_cons, List.length_nil, List.length_map]; omega)) (by dsimp only [List.length_cons, List.length_nil]; omega) (by omega) ?_
    | refine div_g (by omega) (by omega) (by dsimp only [inR]; omega) ?_ | refine mod_g (by omega) (by omega) ?_
    | refine mask_g (m := 4294967296) 32 rfl rfl (by decide) (by omega) ?_ | refine shr_g (m := 4294967296) 32 rfl (by decide) (by omega) rfl ?_
    | refine fz_all (by omega) ?_ | (refine smk ?_ ?_; constructor))
      all_goals exact ⟨ret_l _ (lp_spE 5) rfl⟩
theorem p_quo {g : List (Nat × List Value)} (hD : (0, debT.map (Value.int .u8)) ∈ g) {a b c d : D2} (h : GoodS a b) (k : GoodS c d) {p : Int} (hp : 1 ≤ p ∧ p ≤ 70000) : FC Tryz.prog g 14 [SP a b, SP c d, .val (.int .i64 p)] (· = spQuo a b c d p) := by
  have f0 := p_check2g (G := g) h k hp
  have f1 := p_Sign (G := g) k
  have hcd : ∀ z : Int, (z = 1 → 0 < c.1 → ¬ d.1 < 0) := fun z _ hh hd => by
    have e1 := VV_pos (e := c.2) hh
    have e2 := VV_negs (e := d.2) hd
    have e3 := k.2.2
    unfold D2.v at e3
    omega
  unfold spQuo
  by_cases hc : 0 < c.1
  · have hd0 : ¬ d.1 < 0 := hcd 1 rfl hc
    have hdp : 0 < d.1 := by
      have e1 := VV_pos (e := c.2) hc
      have e2 := k.2.2
      have e3 := VV_sign (n := d.1) (e := d.2)
      unfold D2.v at e2
      exact e3.1.1 (by omega)
    clear hcd
    rw [if_pos hc]
    rw [if_neg hd0, if_pos hc] at f1
    have s1 := p_sign (G := g) h.1
    have s2 := p_sign (G := g) h.2.1
    have sa := sign3 a.1
    have sb := sign3 b.1
    obtain ⟨t1, ht1⟩ : ∃ t, t = a.1.sign := ⟨_, rfl⟩
    obtain ⟨t2, ht2⟩ : ∃ t, t = b.1.sign := ⟨_, rfl⟩
    rw [← ht1] at s1 sa
    rw [← ht2] at s2 sb
    clear ht1 ht2
    by_cases ha : a.1 < 0
    · by_cases hb : b.1 < 0
      · skip
        have w1 := (y_quoP hD h.1 k.1 hp (show c.1 ≠ 0 by omega)).1
        have w2 := (y_quoP hD h.2.1 k.2.1 hp (show d.1 ≠ 0 by omega)).2
        have c1 := (quo_ans (a := a) (b := c) hp (show c.1 ≠ 0 by omega) false).eq.2.2
        have c2' := (quo_ans (a := b) (b := d) hp (show d.1 ≠ 0 by omega) true).eq.2.2
        unfold spQuoPos
        rw [if_pos ha, if_pos hb]
        obtain ⟨u, hu⟩ : ∃ u, u = toAn (quoP a c p false) := ⟨_, rfl⟩
        obtain ⟨v, hv⟩ : ∃ v, v = toAn (quoP b d p true) := ⟨_, rfl⟩
        rw [← hu] at w1 c1 ⊢
        rw [← hv] at w2 c2' ⊢
        have w3 := p_both (G := g) u v c1 c2'
        obtain ⟨x, y, c0, hr⟩ := bothA_form u v
        rw [hr] at w3 ⊢
        clear hu hv hr c1 c2'
        have q1 : t1 < 0 := by omega
        have q2 : t2 < 0 := by omega
        clear sa sb
        refine FC.intro (X := XX) tok Tryz.func14 rfl Tryz.ntmps14 (by rw [Tryz.results14]) (by kernel_rfl) rfl ?_; intro F hG hO
        rw [← hG] at f0 f1 s1 s2 w1 w2 w3
        repeat' ((try (conv => whnf)); first
  | ((with_reducible refine cg ?_); first | refine ceq f0 rfl ?_ | refine ceq f1 rfl ?_ | refine ceq s1 rfl ?_ | refine ceq s2 rfl ?_ | refine ceq w1 rfl ?_ | refine ceq w2 rfl ?_ | refine ceq w3 rfl ?_)
  | ((with_reducible refine dg ?_); refine draw_j (A := Bool) (id := 11) (N := 86) (fun x => [(2, .val (.int .i64 p)), (3, .ptr 0 0), (4, .ptr 1 0), (6, .ptr 2 0), (7, .val (.int .i64 0)), (11, .ptr (cond x 3 4) 0), (12, .ptr (cond x 4 3) 0)]) (fun x => [[.val (.bool (decide (a.1 < 0))), .ws .u64 (d64 a.1.natAbs), .val (.int .i64 a.2), .val (.bool (decide (b.1 < 0))), .ws .u64 (d64 b.1.natAbs), .val (.int .i64 b.2)], [.val (.bool (decide (c.1 < 0))), .ws .u64 (d64 c.1.natAbs), .val (.int .i64 c.2), .val (.bool (decide (d.1 < 0))), .ws .u64 (d64 d.1.natAbs), .val (.int .i64 d.2)], [.val (.bool false), .nil, .val (.int .i64 0), .val (.bool false), .nil, .val (.int .i64 0)], [.val (.bool (decide ((cond x d c).1 < 0))), .ws .u64 (d64 (cond x d c).1.natAbs), .val (.int .i64 (cond x d c).2)], [.val (.bool (decide ((cond x c d).1 < 0))), .ws .u64 (d64 (cond x c d).1.natAbs), .val (.int .i64 (cond x c d).2)]]) (fun _ => []) (.take 0 (.take 2 (.alt 1 (.alt 3 (.alt 4 (.alt 5 (.alt 6 (.alt 7 (.fin) (.non)) (.non)) (.non)) (.alt 5 (.alt 4 (.alt 6 (.alt 7 (.fin) (.non)) (.non)) (.non)) (.non))) (.alt 4 (.alt 3 (.alt 5 (.alt 6 (.alt 7 (.fin) (.non)) (.non)) (.non)) (.alt 5 (.alt 3 (.alt 6 (.alt 7 (.fin) (.non)) (.non)) (.alt 6 (.alt 3 (.alt 7 (.fin) (.non)) (.non)) (.non))) (.non))) (.alt 5 (.alt 3 (.alt 4 (.alt 6 (.alt 7 (.fin) (.non)) (.non)) (.non)) (.alt 4 (.alt 3 (.alt 6 (.alt 7 (.fin) (.non)) (.non)) (.alt 6 (.alt 3 (.alt 7 (.fin) (.non)) (.non)) (.non))) (.non))) (.non)))) (.alt 3 (.alt 1 (.alt 4 (.alt 5 (.alt 6 (.alt 7 (.fin) (.non)) (.non)) (.non)) (.alt 5 (.alt 4 (.alt 6 (.alt 7 (.fin) (.non)) (.non)) (.non)) (.non))) (.alt 4 (.alt 1 (.alt 5 (.alt 6 (.alt 7 (.fin) (.non)) (.non)) (.non)) (.alt 5 (.alt 1 (.alt 6 (.alt 7 (.fin) (.non)) (.non)) (.non)) (.non))) (.alt 5 (.alt 1 (.alt 4 (.alt 6 (.alt 7 (.fin) (.non)) (.non)) (.non)) (.alt 4 (.alt 1 (.alt 6 (.alt 7 (.fin) (.non)) (.non)) (.non)) (.non))) (.non)))) (.alt 4 (.alt 1 (.alt 3 (.alt 5 (.alt 6 (.alt 7 (.fin) (.non)) (.non)) (.non)) (.alt 5 (.alt 3 (.alt 6 (.alt 7 (.fin) (.non)) (.non)) (.alt 6 (.alt 3 (.alt 7 (.fin) (.non)) (.non)) (.non))) (.non))) (.alt 3 (.alt 1 (.alt 5 (.alt 6 (.alt 7 (.fin) (.non)) (.non)) (.non)) (.alt 5 (.alt 1 (.alt 6 (.alt 7 (.fin) (.non)) (.non)) (.non)) (.non))) (.alt 5 (.alt 1 (.alt 3 (.alt 6 (.alt 7 (.fin) (.non)) (.non)) (.alt 6 (.alt 3 (.alt 7 (.fin) (.non)) (.non)) (.non))) (.alt 3 (.alt 1 (.alt 6 (.alt 7 (.fin) (.non)) (.non)) (.non)) (.non))) (.non)))) (.alt 5 (.alt 1 (.alt 3 (.alt 4 (.alt 6 (.alt 7 (.fin) (.non)) (.non)) (.non)) (.alt 4 (.alt 3 (.alt 6 (.alt 7 (.fin) (.non)) (.non)) (.alt 6 (.alt 3 (.alt 7 (.fin) (.non)) (.non)) (.non))) (.non))) (.alt 3 (.alt 1 (.alt 4 (.alt 6 (.alt 7 (.fin) (.non)) (.non)) (.non)) (.alt 4 (.alt 1 (.alt 6 (.alt 7 (.fin) (.non)) (.non)) (.non)) (.non))) (.alt 4 (.alt 1 (.alt 3 (.alt 6 (.alt 7 (.fin) (.non)) (.non)) (.alt 6 (.alt 3 (.alt 7 (.fin) (.non)) (.non)) (.non))) (.alt 3 (.alt 1 (.alt 6 (.alt 7 (.fin) (.non)) (.non)) (.non)) (.non))) (.non)))) (.non))))))) tok mixed (by kernel_rfl) (by kernel_rfl) (by intro x; cases x <;> (refine ⟨?_, ?_, ?_⟩ <;> simp [inS, inBB, inBL, inB, hO])) ?_ ?_; rotate_left; intro x; cases x)
  | exact join true ⟨rfl, rfl, rfl, rfl, rfl, rfl, rfl, trivial⟩ ⟨[], rfl⟩ ⟨[], rfl⟩
  | exact join false ⟨rfl, rfl, rfl, rfl, rfl, rfl, rfl, trivial⟩ ⟨[], rfl⟩ ⟨[], rfl⟩
  
  | (with_reducible refine draw_t (id := 11) (.one 0 (.one 1 (.one 2 (.one 3 (.two (.one 4 (.one 5 (.st (.one 6 (.st (.one 7 (.fin))))))) (.one 5 (.one 4 (.st (.one 6 (.st (.one 7 (.fin)))))))))))) tok mixed (by kernel_rfl) (by kernel_rfl) ?_)
  | with_reducible first
    | refine Chk.mk' (by first | omega | exact trivial | (simp only [List.length_append, List.length_set, List.length_replicate, List.length_take, List.length_drop, List.length_cons, List.length_nil, List.length_map]; omega)) ?_
    | refine wrap_g (by dsimp only [inR]; omega) ?_
    | refine idx_g (by omega) ?_ | refine idx_l _ rfl (by decide) ?_ | refine BothG.mk ?_ ?_ | refine fork_tt ?_ | refine fork_ff ?_
    | (refine fork_e (c := true) (by decide) ?_; refine fork_tt ?_) | (refine fork_e (c := false) (by decide) ?_; refine fork_ff ?_)
    | refine fork_t (by omega) ?_ | refine fork_f (by omega) ?_ | (refine fork_d ?_ ?_ <;> intro hc) | refine fork_n ?_ | (refine fork_b ?_ ?_ <;> intro hc)
    | refine SlcG.mk (by omega) ?_ | refine MakG.mk (by dsimp only; omega) ?_
    | refine AppG.mk (by first | omega | (simp only [List.length_append, List.length_set, List.length_replicate, List.length_take, List.length_drop, List.length_cons, List.length_nil, List.length_map]; omega)) (by dsimp only [List.length_cons, List.length_nil]; omega) (by omega) ?_
    | refine div_g (by omega) (by omega) (by dsimp only [inR]; omega) ?_ | refine mod_g (by omega) (by omega) ?_
    | refine mask_g (m := 4294967296) 32 rfl rfl (by decide) (by omega) ?_ | refine shr_g (m := 4294967296) 32 rfl (by decide) (by omega) rfl ?_
    | refine fz_all (by omega) ?_ | (refine smk ?_ ?_; constructor))
        all_goals exact ⟨ret_e rfl⟩
      · skip
        have w1 := (y_quoP hD h.1 k.1 hp (show c.1 ≠ 0 by omega)).1
        have w2 := (y_quoP hD h.2.1 k.1 hp (show c.1 ≠ 0 by omega)).2
        have c1 := (quo_ans (a := a) (b := c) hp (show c.1 ≠ 0 by omega) false).eq.2.2
        have c2' := (quo_ans (a := b) (b := c) hp (show c.1 ≠ 0 by omega) true).eq.2.2
        unfold spQuoPos
        rw [if_pos ha, if_neg hb]
        obtain ⟨u, hu⟩ : ∃ u, u = toAn (quoP a c p false) := ⟨_, rfl⟩
        obtain ⟨v, hv⟩ : ∃ v, v = toAn (quoP b c p true) := ⟨_, rfl⟩
        rw [← hu] at w1 c1 ⊢
        rw [← hv] at w2 c2' ⊢
        have w3 := p_both (G := g) u v c1 c2'
        obtain ⟨x, y, c0, hr⟩ := bothA_form u v
        rw [hr] at w3 ⊢
        clear hu hv hr c1 c2'
        have q1 : t1 < 0 := by omega
        have q2 : ¬ t2 < 0 := by omega
        clear sa sb
        refine FC.intro (X := XX) tok Tryz.func14 rfl Tryz.ntmps14 (by rw [Tryz.results14]) (by kernel_rfl) rfl ?_; intro F hG hO
        rw [← hG] at f0 f1 s1 s2 w1 w2 w3
        repeat' ((try (conv => whnf)); first
  | ((with_reducible refine cg ?_); first | refine ceq f0 rfl ?_ | refine ceq f1 rfl ?_ | refine ceq s1 rfl ?_ | refine ceq s2 rfl ?_ | refine ceq w1 rfl ?_ | refine ceq w2 rfl ?_ | refine ceq w3 rfl ?_)
  | ((with_reducible refine dg ?_); refine draw_j (A := Bool) (id := 11) (N := 86) (fun x => [(2, .val (.int .i64 p)), (3, .ptr 0 0), (4, .ptr 1 0), (6, .ptr 2 0), (7, .val (.int .i64 0)), (11, .ptr (cond x 3 4) 0), (12, .ptr (cond x 4 3) 0)]) (fun x => [[.val (.bool (decide (a.1 < 0))), .ws .u64 (d64 a.1.natAbs), .val (.int .i64 a.2), .val (.bool (decide (b.1 < 0))), .ws .u64 (d64 b.1.natAbs), .val (.int .i64 b.2)], [.val (.bool (decide (c.1 < 0))), .ws .u64 (d64 c.1.natAbs), .val (.int .i64 c.2), .val (.bool (decide (d.1 < 0))), .ws .u64 (d64 d.1.natAbs), .val (.int .i64 d.2)], [.val (.bool false), .nil, .val (.int .i64 0), .val (.bool false), .nil, .val (.int .i64 0)], [.val (.bool (decide ((cond x d c).1 < 0))), .ws .u64 (d64 (cond x d c).1.natAbs), .val (.int .i64 (cond x d c).2)], [.val (.bool (decide ((cond x c d).1 < 0))), .ws .u64 (d64 (cond x c d).1.natAbs), .val (.int .i64 (cond x c d).2)]]) (fun _ => []) (.take 0 (.take 2 (.alt 1 (.alt 3 (.alt 4 (.alt 5 (.alt 6 (.alt 7 (.fin) (.non)) (.non)) (.non)) (.alt 5 (.alt 4 (.alt 6 (.alt 7 (.fin) (.non)) (.non)) (.non)) (.non))) (.alt 4 (.alt 3 (.alt 5 (.alt 6 (.alt 7 (.fin) (.non)) (.non)) (.non)) (.alt 5 (.alt 3 (.alt 6 (.alt 7 (.fin) (.non)) (.non)) (.alt 6 (.alt 3 (.alt 7 (.fin) (.non)) (.non)) (.non))) (.non))) (.alt 5 (.alt 3 (.alt 4 (.alt 6 (.alt 7 (.fin) (.non)) (.non)) (.non)) (.alt 4 (.alt 3 (.alt 6 (.alt 7 (.fin) (.non)) (.non)) (.alt 6 (.alt 3 (.alt 7 (.fin) (.non)) (.non)) (.non))) (.non))) (.non)))) (.alt 3 (.alt 1 (.alt 4 (.alt 5 (.alt 6 (.alt 7 (.fin) (.non)) (.non)) (.non)) (.alt 5 (.alt 4 (.alt 6 (.alt 7 (.fin) (.non)) (.non)) (.non)) (.non))) (.alt 4 (.alt 1 (.alt 5 (.alt 6 (.alt 7 (.fin) (.non)) (.non)) (.non)) (.alt 5 (.alt 1 (.alt 6 (.alt 7 (.fin) (.non)) (.non)) (.non)) (.non))) (.alt 5 (.alt 1 (.alt 4 (.alt 6 (.alt 7 (.fin) (.non)) (.non)) (.non)) (.alt 4 (.alt 1 (.alt 6 (.alt 7 (.fin) (.non)) (.non)) (.non)) (.non))) (.non)))) (.alt 4 (.alt 1 (.alt 3 (.alt 5 (.alt 6 (.alt 7 (.fin) (.non)) (.non)) (.non)) (.alt 5 (.alt 3 (.alt 6 (.alt 7 (.fin) (.non)) (.non)) (.alt 6 (.alt 3 (.alt 7 (.fin) (.non)) (.non)) (.non))) (.non))) (.alt 3 (.alt 1 (.alt 5 (.alt 6 (.alt 7 (.fin) (.non)) (.non)) (.non)) (.alt 5 (.alt 1 (.alt 6 (.alt 7 (.fin) (.non)) (.non)) (.non)) (.non))) (.alt 5 (.alt 1 (.alt 3 (.alt 6 (.alt 7 (.fin) (.non)) (.non)) (.alt 6 (.alt 3 (.alt 7 (.fin) (.non)) (.non)) (.non))) (.alt 3 (.alt 1 (.alt 6 (.alt 7 (.fin) (.non)) (.non)) (.non)) (.non))) (.non)))) (.alt 5 (.alt 1 (.alt 3 (.alt 4 (.alt 6 (.alt 7 (.fin) (.non)) (.non)) (.non)) (.alt 4 (.alt 3 (.alt 6 (.alt 7 (.fin) (.non)) (.non)) (.alt 6 (.alt 3 (.alt 7 (.fin) (.non)) (.non)) (.non))) (.non))) (.alt 3 (.alt 1 (.alt 4 (.alt 6 (.alt 7 (.fin) (.non)) (.non)) (.non)) (.alt 4 (.alt 1 (.alt 6 (.alt 7 (.fin) (.non)) (.non)) (.non)) (.non))) (.alt 4 (.alt 1 (.alt 3 (.alt 6 (.alt 7 (.fin) (.non)) (.non)) (.alt 6 (.alt 3 (.alt 7 (.fin) (.non)) (.non)) (.non))) (.alt 3 (.alt 1 (.alt 6 (.alt 7 (.fin) (.non)) (.non)) (.non)) (.non))) (.non)))) (.non))))))) tok mixed (by kernel_rfl) (by kernel_rfl) (by intro x; cases x <;> (refine ⟨?_, ?_, ?_⟩ <;> simp [inS, inBB, inBL, inB, hO])) ?_ ?_; rotate_left; intro x; cases x)
  | exact join true ⟨rfl, rfl, rfl, rfl, rfl, rfl, rfl, trivial⟩ ⟨[], rfl⟩ ⟨[], rfl⟩
  | exact join false ⟨rfl, rfl, rfl, rfl, rfl, rfl, rfl, trivial⟩ ⟨[], rfl⟩ ⟨[], rfl⟩
  
  | (with_reducible refine draw_t (id := 11) (.one 0 (.one 1 (.one 2 (.one 3 (.two (.one 4 (.one 5 (.st (.one 6 (.st (.one 7 (.fin))))))) (.one 5 (.one 4 (.st (.one 6 (.st (.one 7 (.fin)))))))))))) tok mixed (by kernel_rfl) (by kernel_rfl) ?_)
  | with_reducible first
    | refine Chk.mk' (by first | omega | exact trivial | (simp only [List.length_append, List.length_set, List.length_replicate, List.length_take, List.length_drop, List.length_cons, List.length_nil, List.length_map]; omega)) ?_
    | refine wrap_g (by dsimp only [inR]; omega) ?_
    | refine idx_g (by omega) ?_ | refine idx_l _ rfl (by decide) ?_ | refine BothG.mk ?_ ?_ | refine fork_tt ?_ | refine fork_ff ?_
    | (refine fork_e (c := true) (by decide) ?_; refine fork_tt ?_) | (refine fork_e (c := false) (by decide) ?_; refine fork_ff ?_)
    | refine fork_t (by omega) ?_ | refine fork_f (by omega) ?_ | (refine fork_d ?_ ?_ <;> intro hc) | refine fork_n ?_ | (refine fork_b ?_ ?_ <;> intro hc)
    | refine SlcG.mk (by omega) ?_ | refine MakG.mk (by dsimp only; omega) ?_
    | refine AppG.mk (by first | omega | (simp only [List.length_append, List.length_set, List.length_replicate, List.length_take, List.length_drop, List.length_cons, List.length_nil, List.length_map]; omega)) (by dsimp only [List.length_cons, List.length_nil]; omega) (by omega) ?_
    | refine div_g (by omega) (by omega) (by dsimp only [inR]; omega) ?_ | refine mod_g (by omega) (by omega) ?_
    | refine mask_g (m := 4294967296) 32 rfl rfl (by decide) (by omega) ?_ | refine shr_g (m := 4294967296) 32 rfl (by decide) (by omega) rfl ?_
    | refine fz_all (by omega) ?_ | (refine smk ?_ ?_; constructor))
        all_goals exact ⟨ret_e rfl⟩
    · have hb : ¬ b.1 < 0 := fun hh => by have := VV_negs (e := b.2) hh; have := VV_sign (n := a.1) (e := a.2); have := h.2.2; unfold D2.v at this; omega
      have w1 := (y_quoP hD h.1 k.2.1 hp (show d.1 ≠ 0 by omega)).1
      have w2 := (y_quoP hD h.2.1 k.1 hp (show c.1 ≠ 0 by omega)).2
      have c1 := (quo_ans (a := a) (b := d) hp (show d.1 ≠ 0 by omega) false).eq.2.2
      have c2' := (quo_ans (a := b) (b := c) hp (show c.1 ≠ 0 by omega) true).eq.2.2
      unfold spQuoPos
      rw [if_neg ha, if_neg hb]
      obtain ⟨u, hu⟩ : ∃ u, u = toAn (quoP a d p false) := ⟨_, rfl⟩
      obtain ⟨v, hv⟩ : ∃ v, v = toAn (quoP b c p true) := ⟨_, rfl⟩
      rw [← hu] at w1 c1 ⊢
      rw [← hv] at w2 c2' ⊢
      have w3 := p_both (G := g) u v c1 c2'
      obtain ⟨x, y, c0, hr⟩ := bothA_form u v
      rw [hr] at w3 ⊢
      clear hu hv hr c1 c2'
      have q1 : ¬ t1 < 0 := by omega
      have q2 : ¬ t2 < 0 := by omega
      clear sa sb
      refine FC.intro (X := XX) tok Tryz.func14 rfl Tryz.ntmps14 (by rw [Tryz.results14]) (by kernel_rfl) rfl ?_; intro F hG hO
      rw [← hG] at f0 f1 s1 s2 w1 w2 w3
      repeat' ((try (conv => whnf)); first
  | ((with_reducible refine cg ?_); first | refine ceq f0 rfl ?_ | refine ceq f1 rfl ?_ | refine ceq s1 rfl ?_ | refine ceq s2 rfl ?_ | refine ceq w1 rfl ?_ | refine ceq w2 rfl ?_ | refine ceq w3 rfl ?_)
  | ((with_reducible refine dg ?_); refine draw_j (A := Bool) (id := 11) (N := 86) (fun x => [(2, .val (.int .i64 p)), (3, .ptr 0 0), (4, .ptr 1 0), (6, .ptr 2 0), (7, .val (.int .i64 0)), (11, .ptr (cond x 3 4) 0), (12, .ptr (cond x 4 3) 0)]) (fun x => [[.val (.bool (decide (a.1 < 0))), .ws .u64 (d64 a.1.natAbs), .val (.int .i64 a.2), .val (.bool (decide (b.1 < 0))), .ws .u64 (d64 b.1.natAbs), .val (.int .i64 b.2)], [.val (.bool (decide (c.1 < 0))), .ws .u64 (d64 c.1.natAbs), .val (.int .i64 c.2), .val (.bool (decide (d.1 < 0))), .ws .u64 (d64 d.1.natAbs), .val (.int .i64 d.2)], [.val (.bool false), .nil, .val (.int .i64 0), .val (.bool false), .nil, .val (.int .i64 0)], [.val (.bool (decide ((cond x d c).1 < 0))), .ws .u64 (d64 (cond x d c).1.natAbs), .val (.int .i64 (cond x d c).2)], [.val (.bool (decide ((cond x c d).1 < 0))), .ws .u64 (d64 (cond x c d).1.natAbs), .val (.int .i64 (cond x c d).2)]]) (fun _ => []) (.take 0 (.take 2 (.alt 1 (.alt 3 (.alt 4 (.alt 5 (.alt 6 (.alt 7 (.fin) (.non)) (.non)) (.non)) (.alt 5 (.alt 4 (.alt 6 (.alt 7 (.fin) (.non)) (.non)) (.non)) (.non))) (.alt 4 (.alt 3 (.alt 5 (.alt 6 (.alt 7 (.fin) (.non)) (.non)) (.non)) (.alt 5 (.alt 3 (.alt 6 (.alt 7 (.fin) (.non)) (.non)) (.alt 6 (.alt 3 (.alt 7 (.fin) (.non)) (.non)) (.non))) (.non))) (.alt 5 (.alt 3 (.alt 4 (.alt 6 (.alt 7 (.fin) (.non)) (.non)) (.non)) (.alt 4 (.alt 3 (.alt 6 (.alt 7 (.fin) (.non)) (.non)) (.alt 6 (.alt 3 (.alt 7 (.fin) (.non)) (.non)) (.non))) (.non))) (.non)))) (.alt 3 (.alt 1 (.alt 4 (.alt 5 (.alt 6 (.alt 7 (.fin) (.non)) (.non)) (.non)) (.alt 5 (.alt 4 (.alt 6 (.alt 7 (.fin) (.non)) (.non)) (.non)) (.non))) (.alt 4 (.alt 1 (.alt 5 (.alt 6 (.alt 7 (.fin) (.non)) (.non)) (.non)) (.alt 5 (.alt 1 (.alt 6 (.alt 7 (.fin) (.non)) (.non)) (.non)) (.non))) (.alt 5 (.alt 1 (.alt 4 (.alt 6 (.alt 7 (.fin) (.non)) (.non)) (.non)) (.alt 4 (.alt 1 (.alt 6 (.alt 7 (.fin) (.non)) (.non)) (.non)) (.non))) (.non)))) (.alt 4 (.alt 1 (.alt 3 (.alt 5 (.alt 6 (.alt 7 (.fin) (.non)) (.non)) (.non)) (.alt 5 (.alt 3 (.alt 6 (.alt 7 (.fin) (.non)) (.non)) (.alt 6 (.alt 3 (.alt 7 (.fin) (.non)) (.non)) (.non))) (.non))) (.alt 3 (.alt 1 (.alt 5 (.alt 6 (.alt 7 (.fin) (.non)) (.non)) (.non)) (.alt 5 (.alt 1 (.alt 6 (.alt 7 (.fin) (.non)) (.non)) (.non)) (.non))) (.alt 5 (.alt 1 (.alt 3 (.alt 6 (.alt 7 (.fin) (.non)) (.non)) (.alt 6 (.alt 3 (.alt 7 (.fin) (.non)) (.non)) (.non))) (.alt 3 (.alt 1 (.alt 6 (.alt 7 (.fin) (.non)) (.non)) (.non)) (.non))) (.non)))) (.alt 5 (.alt 1 (.alt 3 (.alt 4 (.alt 6 (.alt 7 (.fin) (.non)) (.non)) (.non)) (.alt 4 (.alt 3 (.alt 6 (.alt 7 (.fin) (.non)) (.non)) (.alt 6 (.alt 3 (.alt 7 (.fin) (.non)) (.non)) (.non))) (.non))) (.alt 3 (.alt 1 (.alt 4 (.alt 6 (.alt 7 (.fin) (.non)) (.non)) (.non)) (.alt 4 (.alt 1 (.alt 6 (.alt 7 (.fin) (.non)) (.non)) (.non)) (.non))) (.alt 4 (.alt 1 (.alt 3 (.alt 6 (.alt 7 (.fin) (.non)) (.non)) (.alt 6 (.alt 3 (.alt 7 (.fin) (.non)) (.non)) (.non))) (.alt 3 (.alt 1 (.alt 6 (.alt 7 (.fin) (.non)) (.non)) (.non)) (.non))) (.non)))) (.non))))))) tok mixed (by kernel_rfl) (by kernel_rfl) (by intro x; cases x <;> (refine ⟨?_, ?_, ?_⟩ <;> simp [inS, inBB, inBL, inB, hO])) ?_ ?_; rotate_left; intro x; cases x)
  | exact join true ⟨rfl, rfl, rfl, rfl, rfl, rfl, rfl, trivial⟩ ⟨[], rfl⟩ ⟨[], rfl⟩
  | exact join false ⟨rfl, rfl, rfl, rfl, rfl, rfl, rfl, trivial⟩ ⟨[], rfl⟩ ⟨[], rfl⟩
  
  | (with_reducible refine draw_t (id := 11) (.one 0 (.one 1 (.one 2 (.one 3 (.two (.one 4 (.one 5 (.st (.one 6 (.st (.one 7 (.fin))))))) (.one 5 (.one 4 (.st (.one 6 (.st (.one 7 (.fin)))))))))))) tok mixed (by kernel_rfl) (by kernel_rfl) ?_)
  | with_reducible first
    | refine Chk.mk' (by first | omega | exact trivial | (simp only [List.length_append, List.length_set, List.length_replicate, List.length_take, List.length_drop, List.length_cons, List.length_nil, List.length_map]; omega)) ?_
    | refine wrap_g (by dsimp only [inR]; omega) ?_
    | refine idx_g (by omega) ?_ | refine idx_l _ rfl (by decide) ?_ | refine BothG.mk ?_ ?_ | refine fork_tt ?_ | refine fork_ff ?_
    | (refine fork_e (c := true) (by decide) ?_; refine fork_tt ?_) | (refine fork_e (c := false) (by decide) ?_; refine fork_ff ?_)
    | refine fork_t (by omega) ?_ | refine fork_f (by omega) ?_ | (refine fork_d ?_ ?_ <;> intro hc) | refine fork_n ?_ | (refine fork_b ?_ ?_ <;> intro hc)
    | refine SlcG.mk (by omega) ?_ | refine MakG.mk (by dsimp only; omega) ?_
    | refine AppG.mk (by first | omega | (simp only [List.length_append, List.length_set, List.length_replicate, List.length_take, List.length_drop, List.length_cons, List.length_nil, List.length_map]; omega)) (by dsimp only [List.length_cons, List.length_nil]; omega) (by omega) ?_
    | refine div_g (by omega) (by omega) (by dsimp only [inR]; omega) ?_ | refine mod_g (by omega) (by omega) ?_
    | refine mask_g (m := 4294967296) 32 rfl rfl (by decide) (by omega) ?_ | refine shr_g (m := 4294967296) 32 rfl (by decide) (by omega) rfl ?_
    | refine fz_all (by omega) ?_ | (refine smk ?_ ?_; constructor))
      all_goals exact ⟨ret_e rfl⟩
  · rw [if_neg hc]
    clear hcd
    by_cases hdn : d.1 < 0
    · rw [if_pos hdn]
      rw [if_pos hdn] at f1
      have hcn : c.1 < 0 := by
        have e1 := VV_negs (e := d.2) hdn
        have e2 := k.2.2
        have e3 := VV_sign (n := c.1) (e := c.2)
        unfold D2.v at e2
        exact e3.2.1 (by omega)
      have n1 := p_neg (G := g) h
      have n2 := p_neg (G := g) k
      have h2 := h.neg
      have k2 := k.neg
      have hc2 : 0 < d.neg.1 := by show 0 < -d.1; omega
      have hd2 : 0 < c.neg.1 := by show 0 < -c.1; omega
      obtain ⟨a2, ha2⟩ : ∃ r, r = b.neg := ⟨_, rfl⟩
      obtain ⟨b2, hb2⟩ : ∃ r, r = a.neg := ⟨_, rfl⟩
      obtain ⟨c2, hc2e⟩ : ∃ r, r = d.neg := ⟨_, rfl⟩
      obtain ⟨d2, hd2e⟩ : ∃ r, r = c.neg := ⟨_, rfl⟩
      rw [← ha2, ← hb2] at n1 h2 ⊢
      rw [← hc2e, ← hd2e] at n2 k2 ⊢
      rw [← hc2e] at hc2
      rw [← hd2e] at hd2
      clear ha2 hb2 hc2e hd2e
      have s1 := p_sign (G := g) h2.1
      have s2 := p_sign (G := g) h2.2.1
      have sa := sign3 a2.1
      have sb := sign3 b2.1
      obtain ⟨t1, ht1⟩ : ∃ t, t = a2.1.sign := ⟨_, rfl⟩
      obtain ⟨t2, ht2⟩ : ∃ t, t = b2.1.sign := ⟨_, rfl⟩
      rw [← ht1] at s1 sa
      rw [← ht2] at s2 sb
      clear ht1 ht2
      by_cases ha : a2.1 < 0
      · by_cases hb : b2.1 < 0
        · skip
          have w1 := (y_quoP hD h2.1 k2.1 hp (show c2.1 ≠ 0 by omega)).1
          have w2 := (y_quoP hD h2.2.1 k2.2.1 hp (show d2.1 ≠ 0 by omega)).2
          have c1 := (quo_ans (a := a2) (b := c2) hp (show c2.1 ≠ 0 by omega) false).eq.2.2
          have c2' := (quo_ans (a := b2) (b := d2) hp (show d2.1 ≠ 0 by omega) true).eq.2.2
          unfold spQuoPos
          rw [if_pos ha, if_pos hb]
          obtain ⟨u, hu⟩ : ∃ u, u = toAn (quoP a2 c2 p false) := ⟨_, rfl⟩
          obtain ⟨v, hv⟩ : ∃ v, v = toAn (quoP b2 d2 p true) := ⟨_, rfl⟩
          rw [← hu] at w1 c1 ⊢
          rw [← hv] at w2 c2' ⊢
          have w3 := p_both (G := g) u v c1 c2'
          obtain ⟨x, y, c0, hr⟩ := bothA_form u v
          rw [hr] at w3 ⊢
          clear hu hv hr c1 c2'
          have q1 : t1 < 0 := by omega
          have q2 : t2 < 0 := by omega
          clear sa sb
          refine FC.intro (X := XX) tok Tryz.func14 rfl Tryz.ntmps14 (by rw [Tryz.results14]) (by kernel_rfl) rfl ?_; intro F hG hO
          rw [← hG] at f0 f1 n1 n2 s1 s2 w1 w2 w3
          repeat' ((try (conv => whnf)); first
  | ((with_reducible refine cg ?_); first | refine ceq f0 rfl ?_ | refine ceq f1 rfl ?_ | refine ceq n1 rfl ?_ | refine ceq n2 rfl ?_ | refine ceq s1 rfl ?_ | refine ceq s2 rfl ?_ | refine ceq w1 rfl ?_ | refine ceq w2 rfl ?_ | refine ceq w3 rfl ?_)
  | ((with_reducible refine dg ?_); refine draw_j (A := Bool) (id := 11) (N := 86) (fun x => [(2, .val (.int .i64 p)), (3, .ptr 0 0), (4, .ptr 1 0), (6, .ptr 2 0), (7, .val (.int .i64 0)), (11, .ptr (cond x 3 4) 0), (12, .ptr (cond x 4 3) 0)]) (fun x => [[.val (.bool (decide (a2.1 < 0))), .ws .u64 (d64 a2.1.natAbs), .val (.int .i64 a2.2), .val (.bool (decide (b2.1 < 0))), .ws .u64 (d64 b2.1.natAbs), .val (.int .i64 b2.2)], [.val (.bool (decide (c2.1 < 0))), .ws .u64 (d64 c2.1.natAbs), .val (.int .i64 c2.2), .val (.bool (decide (d2.1 < 0))), .ws .u64 (d64 d2.1.natAbs), .val (.int .i64 d2.2)], [.val (.bool false), .nil, .val (.int .i64 0), .val (.bool false), .nil, .val (.int .i64 0)], [.val (.bool (decide ((cond x d2 c2).1 < 0))), .ws .u64 (d64 (cond x d2 c2).1.natAbs), .val (.int .i64 (cond x d2 c2).2)], [.val (.bool (decide ((cond x c2 d2).1 < 0))), .ws .u64 (d64 (cond x c2 d2).1.natAbs), .val (.int .i64 (cond x c2 d2).2)]]) (fun _ => []) (.take 0 (.take 2 (.alt 1 (.alt 3 (.alt 4 (.alt 5 (.alt 6 (.alt 7 (.fin) (.non)) (.non)) (.non)) (.alt 5 (.alt 4 (.alt 6 (.alt 7 (.fin) (.non)) (.non)) (.non)) (.non))) (.alt 4 (.alt 3 (.alt 5 (.alt 6 (.alt 7 (.fin) (.non)) (.non)) (.non)) (.alt 5 (.alt 3 (.alt 6 (.alt 7 (.fin) (.non)) (.non)) (.alt 6 (.alt 3 (.alt 7 (.fin) (.non)) (.non)) (.non))) (.non))) (.alt 5 (.alt 3 (.alt 4 (.alt 6 (.alt 7 (.fin) (.non)) (.non)) (.non)) (.alt 4 (.alt 3 (.alt 6 (.alt 7 (.fin) (.non)) (.non)) (.alt 6 (.alt 3 (.alt 7 (.fin) (.non)) (.non)) (.non))) (.non))) (.non)))) (.alt 3 (.alt 1 (.alt 4 (.alt 5 (.alt 6 (.alt 7 (.fin) (.non)) (.non)) (.non)) (.alt 5 (.alt 4 (.alt 6 (.alt 7 (.fin) (.non)) (.non)) (.non)) (.non))) (.alt 4 (.alt 1 (.alt 5 (.alt 6 (.alt 7 (.fin) (.non)) (.non)) (.non)) (.alt 5 (.alt 1 (.alt 6 (.alt 7 (.fin) (.non)) (.non)) (.non)) (.non))) (.alt 5 (.alt 1 (.alt 4 (.alt 6 (.alt 7 (.fin) (.non)) (.non)) (.non)) (.alt 4 (.alt 1 (.alt 6 (.alt 7 (.fin) (.non)) (.non)) (.non)) (.non))) (.non)))) (.alt 4 (.alt 1 (.alt 3 (.alt 5 (.alt 6 (.alt 7 (.fin) (.non)) (.non)) (.non)) (.alt 5 (.alt 3 (.alt 6 (.alt 7 (.fin) (.non)) (.non)) (.alt 6 (.alt 3 (.alt 7 (.fin) (.non)) (.non)) (.non))) (.non))) (.alt 3 (.alt 1 (.alt 5 (.alt 6 (.alt 7 (.fin) (.non)) (.non)) (.non)) (.alt 5 (.alt 1 (.alt 6 (.alt 7 (.fin) (.non)) (.non)) (.non)) (.non))) (.alt 5 (.alt 1 (.alt 3 (.alt 6 (.alt 7 (.fin) (.non)) (.non)) (.alt 6 (.alt 3 (.alt 7 (.fin) (.non)) (.non)) (.non))) (.alt 3 (.alt 1 (.alt 6 (.alt 7 (.fin) (.non)) (.non)) (.non)) (.non))) (.non)))) (.alt 5 (.alt 1 (.alt 3 (.alt 4 (.alt 6 (.alt 7 (.fin) (.non)) (.non)) (.non)) (.alt 4 (.alt 3 (.alt 6 (.alt 7 (.fin) (.non)) (.non)) (.alt 6 (.alt 3 (.alt 7 (.fin) (.non)) (.non)) (.non))) (.non))) (.alt 3 (.alt 1 (.alt 4 (.alt 6 (.alt 7 (.fin) (.non)) (.non)) (.non)) (.alt 4 (.alt 1 (.alt 6 (.alt 7 (.fin) (.non)) (.non)) (.non)) (.non))) (.alt 4 (.alt 1 (.alt 3 (.alt 6 (.alt 7 (.fin) (.non)) (.non)) (.alt 6 (.alt 3 (.alt 7 (.fin) (.non)) (.non)) (.non))) (.alt 3 (.alt 1 (.alt 6 (.alt 7 (.fin) (.non)) (.non)) (.non)) (.non))) (.non)))) (.non))))))) tok mixed (by kernel_rfl) (by kernel_rfl) (by intro x; cases x <;> (refine ⟨?_, ?_, ?_⟩ <;> simp [inS, inBB, inBL, inB, hO])) ?_ ?_; rotate_left; intro x; cases x)
  | exact join true ⟨rfl, rfl, rfl, rfl, rfl, rfl, rfl, trivial⟩ ⟨[], rfl⟩ ⟨[], rfl⟩
  | exact join false ⟨rfl, rfl, rfl, rfl, rfl, rfl, rfl, trivial⟩ ⟨[], rfl⟩ ⟨[], rfl⟩
  
  | (with_reducible refine draw_t (id := 11) (.one 0 (.one 1 (.one 2 (.one 3 (.two (.one 4 (.one 5 (.st (.one 6 (.st (.one 7 (.fin))))))) (.one 5 (.one 4 (.st (.one 6 (.st (.one 7 (.fin)))))))))))) tok mixed (by kernel_rfl) (by kernel_rfl) ?_)
  | with_reducible first
    | refine Chk.mk' (by first | omega | exact trivial | (simp only [List.length_append, List.length_set, List.length_replicate, List.length_take, List.length_drop, List.length_cons, List.length_nil, List.length_map]; omega)) ?_
    | refine wrap_g (by dsimp only [inR]; omega) ?_
    | refine idx_g (by omega) ?_ | refine idx_l _ rfl (by decide) ?_ | refine BothG.mk ?_ ?_ | refine fork_tt ?_ | refine fork_ff ?_
    | (refine fork_e (c := true) (by decide) ?_; refine fork_tt ?_) | (refine fork_e (c := false) (by decide) ?_; refine fork_ff ?_)
    | refine fork_t (by omega) ?_ | refine fork_f (by omega) ?_ | (refine fork_d ?_ ?_ <;> intro hc) | refine fork_n ?_ | (refine fork_b ?_ ?_ <;> intro hc)
    | refine SlcG.mk (by omega) ?_ | refine MakG.mk (by dsimp only; omega) ?_
    | refine AppG.mk (by first | omega | (simp only [List.length_append, List.length_set, List.length_replicate, List.length_take, List.length_drop, List.length_cons, List.length_nil, List.length_map]; omega)) (by dsimp only [List.length_cons, List.length_nil]; omega) (by omega) ?_
    | refine div_g (by omega) (by omega) (by dsimp only [inR]; omega) ?_ | refine mod_g (by omega) (by omega) ?_
    | refine mask_g (m := 4294967296) 32 rfl rfl (by decide) (by omega) ?_ | refine shr_g (m := 4294967296) 32 rfl (by decide) (by omega) rfl ?_
    | refine fz_all (by omega) ?_ | (refine smk ?_ ?_; constructor))
          all_goals exact ⟨ret_e rfl⟩
        · skip
          have w1 := (y_quoP hD h2.1 k2.1 hp (show c2.1 ≠ 0 by omega)).1
          have w2 := (y_quoP hD h2.2.1 k2.1 hp (show c2.1 ≠ 0 by omega)).2
          have c1 := (quo_ans (a := a2) (b := c2) hp (show c2.1 ≠ 0 by omega) false).eq.2.2
          have c2' := (quo_ans (a := b2) (b := c2) hp (show c2.1 ≠ 0 by omega) true).eq.2.2
          unfold spQuoPos
          rw [if_pos ha, if_neg hb]
          obtain ⟨u, hu⟩ : ∃ u, u = toAn (quoP a2 c2 p false) := ⟨_, rfl⟩
          obtain ⟨v, hv⟩ : ∃ v, v = toAn (quoP b2 c2 p true) := ⟨_, rfl⟩
          rw [← hu] at w1 c1 ⊢
          rw [← hv] at w2 c2' ⊢
          have w3 := p_both (G := g) u v c1 c2'
          obtain ⟨x, y, c0, hr⟩ := bothA_form u v
          rw [hr] at w3 ⊢
          clear hu hv hr c1 c2'
          have q1 : t1 < 0 := by omega
          have q2 : ¬ t2 < 0 := by omega
          clear sa sb
          refine FC.intro (X := XX) tok Tryz.func14 rfl Tryz.ntmps14 (by rw [Tryz.results14]) (by kernel_rfl) rfl ?_; intro F hG hO
          rw [← hG] at f0 f1 n1 n2 s1 s2 w1 w2 w3
          repeat' ((try (conv => whnf)); first
  | ((with_reducible refine cg ?_); first | refine ceq f0 rfl ?_ | refine ceq f1 rfl ?_ | refine ceq n1 rfl ?_ | refine ceq n2 rfl ?_ | refine ceq s1 rfl ?_ | refine ceq s2 rfl ?_ | refine ceq w1 rfl ?_ | refine ceq w2 rfl ?_ | refine ceq w3 rfl ?_)
  | ((with_reducible refine dg ?_); refine draw_j (A := Bool) (id := 11) (N := 86) (fun x => [(2, .val (.int .i64 p)), (3, .ptr 0 0), (4, .ptr 1 0), (6, .ptr 2 0), (7, .val (.int .i64 0)), (11, .ptr (cond x 3 4) 0), (12, .ptr (cond x 4 3) 0)]) (fun x => [[.val (.bool (decide (a2.1 < 0))), .ws .u64 (d64 a2.1.natAbs), .val (.int .i64 a2.2), .val (.bool (decide (b2.1 < 0))), .ws .u64 (d64 b2.1.natAbs), .val (.int .i64 b2.2)], [.val (.bool (decide (c2.1 < 0))), .ws .u64 (d64 c2.1.natAbs), .val (.int .i64 c2.2), .val (.bool (decide (d2.1 < 0))), .ws .u64 (d64 d2.1.natAbs), .val (.int .i64 d2.2)], [.val (.bool false), .nil, .val (.int .i64 0), .val (.bool false), .nil, .val (.int .i64 0)], [.val (.bool (decide ((cond x d2 c2).1 < 0))), .ws .u64 (d64 (cond x d2 c2).1.natAbs), .val (.int .i64 (cond x d2 c2).2)], [.val (.bool (decide ((cond x c2 d2).1 < 0))), .ws .u64 (d64 (cond x c2 d2).1.natAbs), .val (.int .i64 (cond x c2 d2).2)]]) (fun _ => []) (.take 0 (.take 2 (.alt 1 (.alt 3 (.alt 4 (.alt 5 (.alt 6 (.alt 7 (.fin) (.non)) (.non)) (.non)) (.alt 5 (.alt 4 (.alt 6 (.alt 7 (.fin) (.non)) (.non)) (.non)) (.non))) (.alt 4 (.alt 3 (.alt 5 (.alt 6 (.alt 7 (.fin) (.non)) (.non)) (.non)) (.alt 5 (.alt 3 (.alt 6 (.alt 7 (.fin) (.non)) (.non)) (.alt 6 (.alt 3 (.alt 7 (.fin) (.non)) (.non)) (.non))) (.non))) (.alt 5 (.alt 3 (.alt 4 (.alt 6 (.alt 7 (.fin) (.non)) (.non)) (.non)) (.alt 4 (.alt 3 (.alt 6 (.alt 7 (.fin) (.non)) (.non)) (.alt 6 (.alt 3 (.alt 7 (.fin) (.non)) (.non)) (.non))) (.non))) (.non)))) (.alt 3 (.alt 1 (.alt 4 (.alt 5 (.alt 6 (.alt 7 (.fin) (.non)) (.non)) (.non)) (.alt 5 (.alt 4 (.alt 6 (.alt 7 (.fin) (.non)) (.non)) (.non)) (.non))) (.alt 4 (.alt 1 (.alt 5 (.alt 6 (.alt 7 (.fin) (.non)) (.non)) (.non)) (.alt 5 (.alt 1 (.alt 6 (.alt 7 (.fin) (.non)) (.non)) (.non)) (.non))) (.alt 5 (.alt 1 (.alt 4 (.alt 6 (.alt 7 (.fin) (.non)) (.non)) (.non)) (.alt 4 (.alt 1 (.alt 6 (.alt 7 (.fin) (.non)) (.non)) (.non)) (.non))) (.non)))) (.alt 4 (.alt 1 (.alt 3 (.alt 5 (.alt 6 (.alt 7 (.fin) (.non)) (.non)) (.non)) (.alt 5 (.alt 3 (.alt 6 (.alt 7 (.fin) (.non)) (.non)) (.alt 6 (.alt 3 (.alt 7 (.fin) (.non)) (.non)) (.non))) (.non))) (.alt 3 (.alt 1 (.alt 5 (.alt 6 (.alt 7 (.fin) (.non)) (.non)) (.non)) (.alt 5 (.alt 1 (.alt 6 (.alt 7 (.fin) (.non)) (.non)) (.non)) (.non))) (.alt 5 (.alt 1 (.alt 3 (.alt 6 (.alt 7 (.fin) (.non)) (.non)) (.alt 6 (.alt 3 (.alt 7 (.fin) (.non)) (.non)) (.non))) (.alt 3 (.alt 1 (.alt 6 (.alt 7 (.fin) (.non)) (.non)) (.non)) (.non))) (.non)))) (.alt 5 (.alt 1 (.alt 3 (.alt 4 (.alt 6 (.alt 7 (.fin) (.non)) (.non)) (.non)) (.alt 4 (.alt 3 (.alt 6 (.alt 7 (.fin) (.non)) (.non)) (.alt 6 (.alt 3 (.alt 7 (.fin) (.non)) (.non)) (.non))) (.non))) (.alt 3 (.alt 1 (.alt 4 (.alt 6 (.alt 7 (.fin) (.non)) (.non)) (.non)) (.alt 4 (.alt 1 (.alt 6 (.alt 7 (.fin) (.non)) (.non)) (.non)) (.non))) (.alt 4 (.alt 1 (.alt 3 (.alt 6 (.alt 7 (.fin) (.non)) (.non)) (.alt 6 (.alt 3 (.alt 7 (.fin) (.non)) (.non)) (.non))) (.alt 3 (.alt 1 (.alt 6 (.alt 7 (.fin) (.non)) (.non)) (.non)) (.non))) (.non)))) (.non))))))) tok mixed (by kernel_rfl) (by kernel_rfl) (by intro x; cases x <;> (refine ⟨?_, ?_, ?_⟩ <;> simp [inS, inBB, inBL, inB, hO])) ?_ ?_; rotate_left; intro x; cases x)
  | exact join true ⟨rfl, rfl, rfl, rfl, rfl, rfl, rfl, trivial⟩ ⟨[], rfl⟩ ⟨[], rfl⟩
  | exact join false ⟨rfl, rfl, rfl, rfl, rfl, rfl, rfl, trivial⟩ ⟨[], rfl⟩ ⟨[], rfl⟩
  
  | (with_reducible refine draw_t (id := 11) (.one 0 (.one 1 (.one 2 (.one 3 (.two (.one 4 (.one 5 (.st (.one 6 (.st (.one 7 (.fin))))))) (.one 5 (.one 4 (.st (.one 6 (.st (.one 7 (.fin)))))))))))) tok mixed (by kernel_rfl) (by kernel_rfl) ?_)
  | with_reducible first
    | refine Chk.mk' (by first | omega | exact trivial | (simp only [List.length_append, List.length_set, List.length_replicate, List.length_take, List.length_drop, List.length_cons, List.length_nil, List.length_map]; omega)) ?_
    | refine wrap_g (by dsimp only [inR]; omega) ?_
    | refine idx_g (by omega) ?_ | refine idx_l _ rfl (by decide) ?_ | refine BothG.mk ?_ ?_ | refine fork_tt ?_ | refine fork_ff ?_
    | (refine fork_e (c := true) (by decide) ?_; refine fork_tt ?_) | (refine fork_e (c := false) (by decide) ?_; refine fork_ff ?_)
    | refine fork_t (by omega) ?_ | refine fork_f (by omega) ?_ | (refine fork_d ?_ ?_ <;> intro hc) | refine fork_n ?_ | (refine fork_b ?_ ?_ <;> intro hc)
    | refine SlcG.mk (by omega) ?_ | refine MakG.mk (by dsimp only; omega) ?_
    | refine AppG.mk (by first | omega | (simp only [List.length_append, List.length_set, List.length_replicate, List.length_take, List.length_drop, List.length_cons, List.length_nil, List.length_map]; omega)) (by dsimp only [List.length_cons, List.length_nil]; omega) (by omega) ?_
    | refine div_g (by omega) (by omega) (by dsimp only [inR]; omega) ?_ | refine mod_g (by omega) (by omega) ?_
    | refine mask_g (m := 4294967296) 32 rfl rfl (by decide) (by omega) ?_ | refine shr_g (m := 4294967296) 32 rfl (by decide) (by omega) rfl ?_
    | refine fz_all (by omega) ?_ | (refine smk ?_ ?_; constructor))
          all_goals exact ⟨ret_e rfl⟩
      · have hb : ¬ b2.1 < 0 := fun hh => by have := VV_negs (e := b2.2) hh; have := VV_sign (n := a2.1) (e := a2.2); have := h2.2.2; unfold D2.v at this; omega
        have w1 := (y_quoP hD h2.1 k2.2.1 hp (show d2.1 ≠ 0 by omega)).1
        have w2 := (y_quoP hD h2.2.1 k2.1 hp (show c2.1 ≠ 0 by omega)).2
        have c1 := (quo_ans (a := a2) (b := d2) hp (show d2.1 ≠ 0 by omega) false).eq.2.2
        have c2' := (quo_ans (a := b2) (b := c2) hp (show c2.1 ≠ 0 by omega) true).eq.2.2
        unfold spQuoPos
        rw [if_neg ha, if_neg hb]
        obtain ⟨u, hu⟩ : ∃ u, u = toAn (quoP a2 d2 p false) := ⟨_, rfl⟩
        obtain ⟨v, hv⟩ : ∃ v, v = toAn (quoP b2 c2 p true) := ⟨_, rfl⟩
        rw [← hu] at w1 c1 ⊢
        rw [← hv] at w2 c2' ⊢
        have w3 := p_both (G := g) u v c1 c2'
        obtain ⟨x, y, c0, hr⟩ := bothA_form u v
        rw [hr] at w3 ⊢
        clear hu hv hr c1 c2'
        have q1 : ¬ t1 < 0 := by omega
        have q2 : ¬ t2 < 0 := by omega
        clear sa sb
        refine FC.intro (X := XX) tok Tryz.func14 rfl Tryz.ntmps14 (by rw [Tryz.results14]) (by kernel_rfl) rfl ?_; intro F hG hO
        rw [← hG] at f0 f1 n1 n2 s1 s2 w1 w2 w3
        repeat' ((try (conv => whnf)); first
  | ((with_reducible refine cg ?_); first | refine ceq f0 rfl ?_ | refine ceq f1 rfl ?_ | refine ceq n1 rfl ?_ | refine ceq n2 rfl ?_ | refine ceq s1 rfl ?_ | refine ceq s2 rfl ?_ | refine ceq w1 rfl ?_ | refine ceq w2 rfl ?_ | refine ceq w3 rfl ?_)
  | ((with_reducible refine dg ?_); refine draw_j (A := Bool) (id := 11) (N := 86) (fun x => [(2, .val (.int .i64 p)), (3, .ptr 0 0), (4, .ptr 1 0), (6, .ptr 2 0), (7, .val (.int .i64 0)), (11, .ptr (cond x 3 4) 0), (12, .ptr (cond x 4 3) 0)]) (fun x => [[.val (.bool (decide (a2.1 < 0))), .ws .u64 (d64 a2.1.natAbs), .val (.int .i64 a2.2), .val (.bool (decide (b2.1 < 0))), .ws .u64 (d64 b2.1.natAbs), .val (.int .i64 b2.2)], [.val (.bool (decide (c2.1 < 0))), .ws .u64 (d64 c2.1.natAbs), .val (.int .i64 c2.2), .val (.bool (decide (d2.1 < 0))), .ws .u64 (d64 d2.1.natAbs), .val (.int .i64 d2.2)], [.val (.bool false), .nil, .val (.int .i64 0), .val (.bool false), .nil, .val (.int .i64 0)], [.val (.bool (decide ((cond x d2 c2).1 < 0))), .ws .u64 (d64 (cond x d2 c2).1.natAbs), .val (.int .i64 (cond x d2 c2).2)], [.val (.bool (decide ((cond x c2 d2).1 < 0))), .ws .u64 (d64 (cond x c2 d2).1.natAbs), .val (.int .i64 (cond x c2 d2).2)]]) (fun _ => []) (.take 0 (.take 2 (.alt 1 (.alt 3 (.alt 4 (.alt 5 (.alt 6 (.alt 7 (.fin) (.non)) (.non)) (.non)) (.alt 5 (.alt 4 (.alt 6 (.alt 7 (.fin) (.non)) (.non)) (.non)) (.non))) (.alt 4 (.alt 3 (.alt 5 (.alt 6 (.alt 7 (.fin) (.non)) (.non)) (.non)) (.alt 5 (.alt 3 (.alt 6 (.alt 7 (.fin) (.non)) (.non)) (.alt 6 (.alt 3 (.alt 7 (.fin) (.non)) (.non)) (.non))) (.non))) (.alt 5 (.alt 3 (.alt 4 (.alt 6 (.alt 7 (.fin) (.non)) (.non)) (.non)) (.alt 4 (.alt 3 (.alt 6 (.alt 7 (.fin) (.non)) (.non)) (.alt 6 (.alt 3 (.alt 7 (.fin) (.non)) (.non)) (.non))) (.non))) (.non)))) (.alt 3 (.alt 1 (.alt 4 (.alt 5 (.alt 6 (.alt 7 (.fin) (.non)) (.non)) (.non)) (.alt 5 (.alt 4 (.alt 6 (.alt 7 (.fin) (.non)) (.non)) (.non)) (.non))) (.alt 4 (.alt 1 (.alt 5 (.alt 6 (.alt 7 (.fin) (.non)) (.non)) (.non)) (.alt 5 (.alt 1 (.alt 6 (.alt 7 (.fin) (.non)) (.non)) (.non)) (.non))) (.alt 5 (.alt 1 (.alt 4 (.alt 6 (.alt 7 (.fin) (.non)) (.non)) (.non)) (.alt 4 (.alt 1 (.alt 6 (.alt 7 (.fin) (.non)) (.non)) (.non)) (.non))) (.non)))) (.alt 4 (.alt 1 (.alt 3 (.alt 5 (.alt 6 (.alt 7 (.fin) (.non)) (.non)) (.non)) (.alt 5 (.alt 3 (.alt 6 (.alt 7 (.fin) (.non)) (.non)) (.alt 6 (.alt 3 (.alt 7 (.fin) (.non)) (.non)) (.non))) (.non))) (.alt 3 (.alt 1 (.alt 5 (.alt 6 (.alt 7 (.fin) (.non)) (.non)) (.non)) (.alt 5 (.alt 1 (.alt 6 (.alt 7 (.fin) (.non)) (.non)) (.non)) (.non))) (.alt 5 (.alt 1 (.alt 3 (.alt 6 (.alt 7 (.fin) (.non)) (.non)) (.alt 6 (.alt 3 (.alt 7 (.fin) (.non)) (.non)) (.non))) (.alt 3 (.alt 1 (.alt 6 (.alt 7 (.fin) (.non)) (.non)) (.non)) (.non))) (.non)))) (.alt 5 (.alt 1 (.alt 3 (.alt 4 (.alt 6 (.alt 7 (.fin) (.non)) (.non)) (.non)) (.alt 4 (.alt 3 (.alt 6 (.alt 7 (.fin) (.non)) (.non)) (.alt 6 (.alt 3 (.alt 7 (.fin) (.non)) (.non)) (.non))) (.non))) (.alt 3 (.alt 1 (.alt 4 (.alt 6 (.alt 7 (.fin) (.non)) (.non)) (.non)) (.alt 4 (.alt 1 (.alt 6 (.alt 7 (.fin) (.non)) (.non)) (.non)) (.non))) (.alt 4 (.alt 1 (.alt 3 (.alt 6 (.alt 7 (.fin) (.non)) (.non)) (.alt 6 (.alt 3 (.alt 7 (.fin) (.non)) (.non)) (.non))) (.alt 3 (.alt 1 (.alt 6 (.alt 7 (.fin) (.non)) (.non)) (.non)) (.non))) (.non)))) (.non))))))) tok mixed (by kernel_rfl) (by kernel_rfl) (by intro x; cases x <;> (refine ⟨?_, ?_, ?_⟩ <;> simp [inS, inBB, inBL, inB, hO])) ?_ ?_; rotate_left; intro x; cases x)
  | exact join true ⟨rfl, rfl, rfl, rfl, rfl, rfl, rfl, trivial⟩ ⟨[], rfl⟩ ⟨[], rfl⟩
  | exact join false ⟨rfl, rfl, rfl, rfl, rfl, rfl, rfl, trivial⟩ ⟨[], rfl⟩ ⟨[], rfl⟩
  
  | (with_reducible refine draw_t (id := 11) (.one 0 (.one 1 (.one 2 (.one 3 (.two (.one 4 (.one 5 (.st (.one 6 (.st (.one 7 (.fin))))))) (.one 5 (.one 4 (.st (.one 6 (.st (.one 7 (.fin)))))))))))) tok mixed (by kernel_rfl) (by kernel_rfl) ?_)
  | with_reducible first
    | refine Chk.mk' (by first | omega | exact trivial | (simp only [List.length_append, List.length_set, List.length_replicate, List.length_take, List.length_drop, List.length_cons, List.length_nil, List.length_map]; omega)) ?_
    | refine wrap_g (by dsimp only [inR]; omega) ?_
    | refine idx_g (by omega) ?_ | refine idx_l _ rfl (by decide) ?_ | refine BothG.mk ?_ ?_ | refine fork_tt ?_ | refine fork_ff ?_
    | (refine fork_e (c := true) (by decide) ?_; refine fork_tt ?_) | (refine fork_e (c := false) (by decide) ?_; refine fork_ff ?_)
    | refine fork_t (by omega) ?_ | refine fork_f (by omega) ?_ | (refine fork_d ?_ ?_ <;> intro hc) | refine fork_n ?_ | (refine fork_b ?_ ?_ <;> intro hc)
    | refine SlcG.mk (by omega) ?_ | refine MakG.mk (by dsimp only; omega) ?_
    | refine AppG.mk (by first | omega | (simp only [List.length_append, List.length_set, List.length_replicate, List.length_take, List.length_drop, List.length_cons, List.length_nil, List.length_map]; omega)) (by dsimp only [List.length_cons, List.length_nil]; omega) (by omega) ?_
    | refine div_g (by omega) (by omega) (by dsimp only [inR]; omega) ?_ | refine mod_g (by omega) (by omega) ?_
    | refine mask_g (m := 4294967296) 32 rfl rfl (by decide) (by omega) ?_ | refine shr_g (m := 4294967296) 32 rfl (by decide) (by omega) rfl ?_
    | refine fz_all (by omega) ?_ | (refine smk ?_ ?_; constructor))
        all_goals exact ⟨ret_e rfl⟩
    · rw [if_neg hdn]
      rw [if_neg hdn, if_neg hc] at f1
      refine FC.intro (X := XX) tok Tryz.func14 rfl Tryz.ntmps14 (by rw [Tryz.results14]) (by kernel_rfl) rfl ?_; intro F hG hO
      rw [← hG] at f0 f1
      repeat' ((try (conv => whnf)); first
  | ((with_reducible refine cg ?_); first | refine ceq f0 rfl ?_ | refine ceq f1 rfl ?_)
  
  | (with_reducible refine draw_t (id := 11) (.one 0 (.one 1 (.one 2 (.one 3 (.two (.one 4 (.one 5 (.st (.one 6 (.st (.one 7 (.fin))))))) (.one 5 (.one 4 (.st (.one 6 (.st (.one 7 (.fin)))))))))))) tok mixed (by kernel_rfl) (by kernel_rfl) ?_)
  | with_reducible first
    | refine Chk.mk' (by first | omega | exact trivial | (simp only [List.length_append, List.length_set, List.length_replicate, List.length_take, List.length_drop, List.length_cons, List.length_nil, List.length_map]; omega)) ?_
    | refine wrap_g (by dsimp only [inR]; omega) ?_
    | refine idx_g (by omega) ?_ | refine idx_l _ rfl (by decide) ?_ | refine BothG.mk ?_ ?_ | refine fork_tt ?_ | refine fork_ff ?_
    | (refine fork_e (c := true) (by decide) ?_; refine fork_tt ?_) | (refine fork_e (c := false) (by decide) ?_; refine fork_ff ?_)
    | refine fork_t (by omega) ?_ | refine fork_f (by omega) ?_ | (refine fork_d ?_ ?_ <;> intro hc) | refine fork_n ?_ | (refine fork_b ?_ ?_ <;> intro hc)
    | refine SlcG.mk (by omega) ?_ | refine MakG.mk (by dsimp only; omega) ?_
    | refine AppG.mk (by first | omega | (simp only [List.length_append, List.length_set, List.length_replicate, List.length_take, List.length_drop, List.length_cons, List.length_nil, List.length_map]; omega)) (by dsimp only [List.length_cons, List.length_nil]; omega) (by omega) ?_
    | refine div_g (by omega) (by omega) (by dsimp only [inR]; omega) ?_ | refine mod_g (by omega) (by omega) ?_
    | refine mask_g (m := 4294967296) 32 rfl rfl (by decide) (by omega) ?_ | refine shr_g (m := 4294967296) 32 rfl (by decide) (by omega) rfl ?_
    | refine fz_all (by omega) ?_ | (refine smk ?_ ?_; constructor))
      exact ⟨ret_l _ (lp_spE 4) rfl⟩
end Go.Proofs.YtpjbgmafnheomaaGreatDoor.Sim
namespace Go.Proofs.YtpjbgmafnheomaaGreatDoor.Sim
open Go.RowKit
set_option linter.unusedVariables false
set_option linter.unusedSimpArgs false
set_option maxRecDepth 10000
set_option maxHeartbeats 8000000
variable {G : List (Nat × List Value)}
theorem GoodS.hull {a b c d : D2} (h : GoodS a b) (k : GoodS c d) : GoodS (lst2 a c) (gst2 b d) := ⟨lst2_good h.1 k.1, gst2_good h.2.1 k.2.1, by rw [lst2_v, gst2_v]; have := h.2.2; omega⟩
theorem p_hull {a b c d : D2} (h : GoodS a b) (k : GoodS c d) : FC Tryz.prog G 26 [SP a b, SP c d] (· = spR (lst2 a c) (gst2 b d)) := by
  have f0 := p_form (G := G) h
  have f1 := p_form (G := G) k
  have f2 := p_least2 (G := G) h.1 k.1
  have f3 := p_greatest2 (G := G) h.2.1 k.2.1
  have f4 := p_twins (G := G) (h.hull k).1 (h.hull k).2.1
  obtain ⟨u, hu⟩ : ∃ u, u = lst2 a c := ⟨_, rfl⟩
  obtain ⟨v, hv⟩ : ∃ v, v = gst2 b d := ⟨_, rfl⟩
  rw [← hu] at f2 f4 ⊢
  rw [← hv] at f3 f4 ⊢
  clear hu hv
  refine FC.intro (X := XX) tok Tryz.func26 rfl Tryz.ntmps26 (by rw [Tryz.results26]) (by kernel_rfl) rfl ?_; intro F hG hO
  rw [← hG] at f0 f1 f2 f3 f4
  repeat' ((try (conv => whnf)); first
  | ((with_reducible refine cg ?_); first | refine ceq f0 rfl ?_ | refine ceq f1 rfl ?_ | refine ceq f2 rfl ?_ | refine ceq f3 rfl ?_ | refine ceq f4 rfl ?_)
  
  | (with_reducible refine draw_t (id := 3) (.one 0 (.one 1 (.one 2 (.one 3 (.one 6 (.one 7 (.one 8 (.one 9 (.two (.one 4 (.two (.one 5 (.one 10 (.one 11 (.one 12 (.one 13 (.st (.one 14 (.one 15 (.fin))))))))) (.one 10 (.one 5 (.one 11 (.one 12 (.one 13 (.st (.one 14 (.one 15 (.fin))))))))))) (.one 10 (.one 4 (.one 5 (.one 11 (.one 12 (.one 13 (.st (.one 14 (.one 15 (.fin))))))))))))))))))) tok mixed (by kernel_rfl) (by kernel_rfl) ?_)
  | with_reducible first
    | refine Chk.mk' (by first | omega | exact trivial | (simp only [List.length_append, List.length_set, List.length_replicate, List.length_take, List.length_drop, List.length_cons, List.length_nil, List.length_map]; omega)) ?_
    | refine wrap_g (by dsimp only [inR]; omega) ?_
    | refine idx_g (by omega) ?_ | refine idx_l _ rfl (by decide) ?_ | refine BothG.mk ?_ ?_ | refine fork_tt ?_ | refine fork_ff ?_
    | (refine fork_e (c := true) (by decide) ?_; refine fork_tt ?_) | (refine fork_e (c := false) (by decide) ?_; refine fork_ff ?_)
    | refine fork_t (by omega) ?_ | refine fork_f (by omega) ?_ | (refine fork_d ?_ ?_ <;> intro hc) | refine fork_n ?_ | (refine fork_b ?_ ?_ <;> intro hc)
    | refine SlcG.mk (by omega) ?_ | refine MakG.mk (by dsimp only; omega) ?_
    | refine AppG.mk (by first | omega | (simp only [List.length_append, List.length_set, List.length_replicate, List.length_take, List.length_drop, List.length_cons, List.length_nil, List.length_map]; omega)) (by dsimp only [List.length_cons, List.length_nil]; omega) (by omega) ?_
    | refine div_g (by omega) (by omega) (by dsimp only [inR]; omega) ?_ | refine mod_g (by omega) (by omega) ?_
    | refine mask_g (m := 4294967296) 32 rfl rfl (by decide) (by omega) ?_ | refine shr_g (m := 4294967296) 32 rfl (by decide) (by omega) rfl ?_
    | refine fz_all (by omega) ?_ | (refine smk ?_ ?_; constructor))
  all_goals exact ⟨ret_e rfl⟩
def hasV (a b d : D2) : Bool := decide (a.v ≤ d.v) && decide (d.v ≤ b.v)
end Go.Proofs.YtpjbgmafnheomaaGreatDoor.Sim
