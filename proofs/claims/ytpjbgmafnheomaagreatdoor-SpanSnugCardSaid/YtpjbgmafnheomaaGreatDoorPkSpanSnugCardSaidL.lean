/-
  What the statement SpanSnugCardSaid leans on, part 12: the logic of walks, digits, contracts of the functions, the plain law. Conditions stand in each theorem.
-/
import Derived.Test.YtpjbgmafnheomaaGreatDoorPkSpanSnugCardSaidK
namespace Go.Proofs.YtpjbgmafnheomaaGreatDoor.Sim
open Go.RowKit
set_option linter.unusedVariables false
set_option linter.unusedSimpArgs false
set_option maxRecDepth 10000
set_option maxHeartbeats 8000000
variable {G : List (Nat × List Value)}
theorem elDy : elT Tryz.prog 94 = some (26, 3) := by kernel_rfl
theorem zeDy : zeroT Tryz.prog 26 = some [.val (.bool false), .nil, .val (.int .i64 0)] := by kernel_rfl
theorem sign3 (n : Int) : (n.sign = -1 ∧ n < 0) ∨ (n.sign = 0 ∧ n = 0) ∨ (n.sign = 1 ∧ 0 < n) := by
  rcases Int.lt_trichotomy n 0 with h | h | h
  · exact .inl ⟨Int.sign_eq_neg_one_of_neg h, h⟩
  · exact .inr (.inl ⟨by rw [h]; rfl, h⟩)
  · exact .inr (.inr ⟨Int.sign_eq_one_of_pos h, h⟩)
theorem byDy : byT Tryz.prog 26 = some 40 := by kernel_rfl
theorem p_mul {g : List (Nat × List Value)} (hD : (0, debT.map (Value.int .u8)) ∈ g) {a b c d : D2} (h : GoodS a b) (k : GoodS c d) {p : Int} (hp : 1 ≤ p ∧ p ≤ 70000) : FC Tryz.prog g 19 [SP a b, SP c d, .val (.int .i64 p)] (· = spMul a b c d p) := by
  have f0 := p_check2g (G := g) h k hp
  have f1 := y_mulP hD h.1 k.1
  obtain ⟨_, g1, c1⟩ := (mul_ans a c).eq
  have f2 := y_mulP hD h.1 k.2.1
  obtain ⟨_, g2, c2⟩ := (mul_ans a d).eq
  have f3 := y_mulP hD h.2.1 k.1
  obtain ⟨_, g3, c3⟩ := (mul_ans b c).eq
  have f4 := y_mulP hD h.2.1 k.2.1
  obtain ⟨_, g4, c4⟩ := (mul_ans b d).eq
  unfold spMul
  obtain ⟨u1, hu1⟩ : ∃ u, u = toAn (mulP a c) := ⟨_, rfl⟩
  rw [← hu1] at f1 g1 c1 ⊢
  clear hu1
  obtain ⟨u2, hu2⟩ : ∃ u, u = toAn (mulP a d) := ⟨_, rfl⟩
  rw [← hu2] at f2 g2 c2 ⊢
  clear hu2
  obtain ⟨u3, hu3⟩ : ∃ u, u = toAn (mulP b c) := ⟨_, rfl⟩
  rw [← hu3] at f3 g3 c3 ⊢
  clear hu3
  obtain ⟨u4, hu4⟩ : ∃ u, u = toAn (mulP b d) := ⟨_, rfl⟩
  rw [← hu4] at f4 g4 c4 ⊢
  clear hu4
  by_cases z1 : u1.c = 0
  · skip
    by_cases z2 : u2.c = 0
    · skip
      by_cases z3 : u3.c = 0
      · skip
        by_cases z4 : u4.c = 0
        · skip
          rw [if_neg (by omega)]
          have e1 := p_least4 (G := g) (a := u1.d) (b := u2.d) (c := u3.d) (d := u4.d) g1 g2 g3 g4
          have e2 := p_greatest4 (G := g) (a := u1.d) (b := u2.d) (c := u3.d) (d := u4.d) g1 g2 g3 g4
          have gl := least4_good (a := u1.d) (b := u2.d) (c := u3.d) (d := u4.d) g1 g2 g3 g4
          have gg := great4_good (a := u1.d) (b := u2.d) (c := u3.d) (d := u4.d) g1 g2 g3 g4
          obtain ⟨lo, hlo⟩ : ∃ r, r = least4 u1.d u2.d u3.d u4.d := ⟨_, rfl⟩
          obtain ⟨hi, hhi⟩ : ∃ r, r = great4 u1.d u2.d u3.d u4.d := ⟨_, rfl⟩
          rw [← hlo] at e1 gl ⊢
          rw [← hhi] at e2 gg ⊢
          have e3 := p_outward hD gl gg p hp
          obtain ⟨x, y, c, hr⟩ := outP_form lo hi p
          rw [hr] at e3 ⊢
          rw [z1] at f1
          rw [z2] at f2
          rw [z3] at f3
          rw [z4] at f4
          clear hr hlo hhi c1 c2 c3 c4
          refine FC.intro (X := XX) tok Tryz.func19 rfl Tryz.ntmps19 (by rw [Tryz.results19]) (by kernel_rfl) rfl ?_; intro F hG hO
          rw [← hG] at f0 f1 f2 f3 f4 e1 e2 e3
          repeat' ((try (conv => whnf)); first
  | ((with_reducible refine cg ?_); first | refine ceq f0 rfl ?_ | refine ceq f1 rfl ?_ | refine ceq f2 rfl ?_ | refine ceq f3 rfl ?_ | refine ceq f4 rfl ?_)
  | ((with_reducible refine cg ?_); refine call_frz 0 (z := 3) rfl (by decide) (by rw [hO]; exact Nat.zero_le _) ?_; refine call_eq e1 (LpL.refl _) rfl ?_)
  | ((with_reducible refine cg ?_); first | refine ceq e2 rfl ?_ | refine ceq e3 rfl ?_)
  | (refine RawG.mk ?_; refine Sem.wr rfl (Does.appN (z := 3) (m := 1) rfl rfl rfl elDy zeDy rfl byDy rfl (by decide) (by decide) rfl rfl ?_))
  | (refine RawG.mk ?_; refine Sem.wr rfl (Does.appG (z := 3) (m := 1) rfl rfl rfl rfl elDy zeDy rfl byDy rfl rfl (by decide) rfl (by decide) (by rw [hO]; exact Nat.zero_le _) rfl rfl ?_))
  | ((with_reducible refine ilg ?_); refine idx_l 0 (by decide) (by simp [repZ]) ?_)
  | ((with_reducible refine ilg ?_); refine idx_l 1 (by decide) (by simp [repZ]) ?_)
  | ((with_reducible refine ilg ?_); refine idx_l 2 (by decide) (by simp [repZ]) ?_)
  | ((with_reducible refine ilg ?_); refine idx_l 3 (by decide) (by simp [repZ]) ?_)
  | (with_reducible refine Chk.mk' (by simp [repZ]) ?_)
  | ((with_reducible refine lg ?_); refine rounds_g 3 tok ?_)
  
  | with_reducible first
    | refine Chk.mk' (by first | omega | exact trivial | (simp only [List.length_append, List.length_set, List.length_replicate, List.length_take, List.length_drop, List.length_cons, List.length_nil, List.length_map]; omega)) ?_
    | refine wrap_g (by dsimp only [inR]; omega) ?_
    | refine idx_g (by omega) ?_ | refine idx_l _ rfl (by decide) ?_ | refine BothG.mk ?_ ?_ | refine fork_tt ?_ | refine fork_ff ?_
    | (refine fork_e (c := true) (by decide) ?_; refine fork_tt ?_) | (refine fork_e (c := false) (by decide) ?_; refine fork_ff ?_)
    | refine fork_t (by omega) ?_ | refine fork_f (by omega) ?_ | (refine fork_d ?_ ?_ <;> intro hc) | refine fork_n ?_ | (refine fork_b ?_ ?_ <;> intro hc)
    | refine AppG.mk (by first | omega | (simp only [List.length_append, List.length_set, List.length_replicate, List.length_take, List.length_drop, List.length_cons, List.length_nil, List.length_map]; omega)) (by dsimp only [List.length_cons, List.length_nil]; omega) (by omega) ?_
    | refine fz_all (by omega) ?_ | (refine smk ?_ ?_; constructor))
          all_goals exact ⟨ret_e rfl⟩
        · rw [if_pos (by omega)]
          rw [z1] at f1
          rw [z2] at f2
          rw [z3] at f3
          rw [show u4.c = 5 by omega] at f4
          clear c1 c2 c3 c4
          refine FC.intro (X := XX) tok Tryz.func19 rfl Tryz.ntmps19 (by rw [Tryz.results19]) (by kernel_rfl) rfl ?_; intro F hG hO
          rw [← hG] at f0 f1 f2 f3 f4
          repeat' ((try (conv => whnf)); first
  | ((with_reducible refine cg ?_); first | refine ceq f0 rfl ?_ | refine ceq f1 rfl ?_ | refine ceq f2 rfl ?_ | refine ceq f3 rfl ?_ | refine ceq f4 rfl ?_)
  | (refine RawG.mk ?_; refine Sem.wr rfl (Does.appN (z := 3) (m := 1) rfl rfl rfl elDy zeDy rfl byDy rfl (by decide) (by decide) rfl rfl ?_))
  | (refine RawG.mk ?_; refine Sem.wr rfl (Does.appG (z := 3) (m := 1) rfl rfl rfl rfl elDy zeDy rfl byDy rfl rfl (by decide) rfl (by decide) (by rw [hO]; exact Nat.zero_le _) rfl rfl ?_))
  | ((with_reducible refine ilg ?_); refine idx_l 0 (by decide) (by simp [repZ]) ?_)
  | ((with_reducible refine ilg ?_); refine idx_l 1 (by decide) (by simp [repZ]) ?_)
  | ((with_reducible refine ilg ?_); refine idx_l 2 (by decide) (by simp [repZ]) ?_)
  | ((with_reducible refine ilg ?_); refine idx_l 3 (by decide) (by simp [repZ]) ?_)
  | (with_reducible refine Chk.mk' (by simp [repZ]) ?_)
  | ((with_reducible refine lg ?_); refine rounds_g 3 tok ?_)
  
  | with_reducible first
    | refine Chk.mk' (by first | omega | exact trivial | (simp only [List.length_append, List.length_set, List.length_replicate, List.length_take, List.length_drop, List.length_cons, List.length_nil, List.length_map]; omega)) ?_
    | refine wrap_g (by dsimp only [inR]; omega) ?_
    | refine idx_g (by omega) ?_ | refine idx_l _ rfl (by decide) ?_ | refine BothG.mk ?_ ?_ | refine fork_tt ?_ | refine fork_ff ?_
    | (refine fork_e (c := true) (by decide) ?_; refine fork_tt ?_) | (refine fork_e (c := false) (by decide) ?_; refine fork_ff ?_)
    | refine fork_t (by omega) ?_ | refine fork_f (by omega) ?_ | (refine fork_d ?_ ?_ <;> intro hc) | refine fork_n ?_ | (refine fork_b ?_ ?_ <;> intro hc)
    | refine AppG.mk (by first | omega | (simp only [List.length_append, List.length_set, List.length_replicate, List.length_take, List.length_drop, List.length_cons, List.length_nil, List.length_map]; omega)) (by dsimp only [List.length_cons, List.length_nil]; omega) (by omega) ?_
    | refine fz_all (by omega) ?_ | (refine smk ?_ ?_; constructor))
          all_goals exact ⟨ret_l _ (lp_spE 5) rfl⟩
      · rw [if_pos (by omega)]
        rw [z1] at f1
        rw [z2] at f2
        rw [show u3.c = 5 by omega] at f3
        clear c1 c2 c3 c4
        refine FC.intro (X := XX) tok Tryz.func19 rfl Tryz.ntmps19 (by rw [Tryz.results19]) (by kernel_rfl) rfl ?_; intro F hG hO
        rw [← hG] at f0 f1 f2 f3
        repeat' ((try (conv => whnf)); first
  | ((with_reducible refine cg ?_); first | refine ceq f0 rfl ?_ | refine ceq f1 rfl ?_ | refine ceq f2 rfl ?_ | refine ceq f3 rfl ?_)
  | (refine RawG.mk ?_; refine Sem.wr rfl (Does.appN (z := 3) (m := 1) rfl rfl rfl elDy zeDy rfl byDy rfl (by decide) (by decide) rfl rfl ?_))
  | (refine RawG.mk ?_; refine Sem.wr rfl (Does.appG (z := 3) (m := 1) rfl rfl rfl rfl elDy zeDy rfl byDy rfl rfl (by decide) rfl (by decide) (by rw [hO]; exact Nat.zero_le _) rfl rfl ?_))
  | ((with_reducible refine ilg ?_); refine idx_l 0 (by decide) (by simp [repZ]) ?_)
  | ((with_reducible refine ilg ?_); refine idx_l 1 (by decide) (by simp [repZ]) ?_)
  | ((with_reducible refine ilg ?_); refine idx_l 2 (by decide) (by simp [repZ]) ?_)
  | ((with_reducible refine ilg ?_); refine idx_l 3 (by decide) (by simp [repZ]) ?_)
  | (with_reducible refine Chk.mk' (by simp [repZ]) ?_)
  | ((with_reducible refine lg ?_); refine rounds_g 3 tok ?_)
  
  | with_reducible first
    | refine Chk.mk' (by first | omega | exact trivial | (simp only [List.length_append, List.length_set, List.length_replicate, List.length_take, List.length_drop, List.length_cons, List.length_nil, List.length_map]; omega)) ?_
    | refine wrap_g (by dsimp only [inR]; omega) ?_
    | refine idx_g (by omega) ?_ | refine idx_l _ rfl (by decide) ?_ | refine BothG.mk ?_ ?_ | refine fork_tt ?_ | refine fork_ff ?_
    | (refine fork_e (c := true) (by decide) ?_; refine fork_tt ?_) | (refine fork_e (c := false) (by decide) ?_; refine fork_ff ?_)
    | refine fork_t (by omega) ?_ | refine fork_f (by omega) ?_ | (refine fork_d ?_ ?_ <;> intro hc) | refine fork_n ?_ | (refine fork_b ?_ ?_ <;> intro hc)
    | refine AppG.mk (by first | omega | (simp only [List.length_append, List.length_set, List.length_replicate, List.length_take, List.length_drop, List.length_cons, List.length_nil, List.length_map]; omega)) (by dsimp only [List.length_cons, List.length_nil]; omega) (by omega) ?_
    | refine fz_all (by omega) ?_ | (refine smk ?_ ?_; constructor))
        all_goals exact ⟨ret_l _ (lp_spE 5) rfl⟩
    · rw [if_pos (by omega)]
      rw [z1] at f1
      rw [show u2.c = 5 by omega] at f2
      clear c1 c2 c3 c4
      refine FC.intro (X := XX) tok Tryz.func19 rfl Tryz.ntmps19 (by rw [Tryz.results19]) (by kernel_rfl) rfl ?_; intro F hG hO
      rw [← hG] at f0 f1 f2
      repeat' ((try (conv => whnf)); first
  | ((with_reducible refine cg ?_); first | refine ceq f0 rfl ?_ | refine ceq f1 rfl ?_ | refine ceq f2 rfl ?_)
  | (refine RawG.mk ?_; refine Sem.wr rfl (Does.appN (z := 3) (m := 1) rfl rfl rfl elDy zeDy rfl byDy rfl (by decide) (by decide) rfl rfl ?_))
  | (refine RawG.mk ?_; refine Sem.wr rfl (Does.appG (z := 3) (m := 1) rfl rfl rfl rfl elDy zeDy rfl byDy rfl rfl (by decide) rfl (by decide) (by rw [hO]; exact Nat.zero_le _) rfl rfl ?_))
  | ((with_reducible refine ilg ?_); refine idx_l 0 (by decide) (by simp [repZ]) ?_)
  | ((with_reducible refine ilg ?_); refine idx_l 1 (by decide) (by simp [repZ]) ?_)
  | ((with_reducible refine ilg ?_); refine idx_l 2 (by decide) (by simp [repZ]) ?_)
  | ((with_reducible refine ilg ?_); refine idx_l 3 (by decide) (by simp [repZ]) ?_)
  | (with_reducible refine Chk.mk' (by simp [repZ]) ?_)
  | ((with_reducible refine lg ?_); refine rounds_g 3 tok ?_)
  
  | with_reducible first
    | refine Chk.mk' (by first | omega | exact trivial | (simp only [List.length_append, List.length_set, List.length_replicate, List.length_take, List.length_drop, List.length_cons, List.length_nil, List.length_map]; omega)) ?_
    | refine wrap_g (by dsimp only [inR]; omega) ?_
    | refine idx_g (by omega) ?_ | refine idx_l _ rfl (by decide) ?_ | refine BothG.mk ?_ ?_ | refine fork_tt ?_ | refine fork_ff ?_
    | (refine fork_e (c := true) (by decide) ?_; refine fork_tt ?_) | (refine fork_e (c := false) (by decide) ?_; refine fork_ff ?_)
    | refine fork_t (by omega) ?_ | refine fork_f (by omega) ?_ | (refine fork_d ?_ ?_ <;> intro hc) | refine fork_n ?_ | (refine fork_b ?_ ?_ <;> intro hc)
    | refine AppG.mk (by first | omega | (simp only [List.length_append, List.length_set, List.length_replicate, List.length_take, List.length_drop, List.length_cons, List.length_nil, List.length_map]; omega)) (by dsimp only [List.length_cons, List.length_nil]; omega) (by omega) ?_
    | refine fz_all (by omega) ?_ | (refine smk ?_ ?_; constructor))
      all_goals exact ⟨ret_l _ (lp_spE 5) rfl⟩
  · rw [if_pos (by omega)]
    rw [show u1.c = 5 by omega] at f1
    clear c1 c2 c3 c4
    refine FC.intro (X := XX) tok Tryz.func19 rfl Tryz.ntmps19 (by rw [Tryz.results19]) (by kernel_rfl) rfl ?_; intro F hG hO
    rw [← hG] at f0 f1
    repeat' ((try (conv => whnf)); first
  | ((with_reducible refine cg ?_); first | refine ceq f0 rfl ?_ | refine ceq f1 rfl ?_)
  | (refine RawG.mk ?_; refine Sem.wr rfl (Does.appN (z := 3) (m := 1) rfl rfl rfl elDy zeDy rfl byDy rfl (by decide) (by decide) rfl rfl ?_))
  | (refine RawG.mk ?_; refine Sem.wr rfl (Does.appG (z := 3) (m := 1) rfl rfl rfl rfl elDy zeDy rfl byDy rfl rfl (by decide) rfl (by decide) (by rw [hO]; exact Nat.zero_le _) rfl rfl ?_))
  | ((with_reducible refine ilg ?_); refine idx_l 0 (by decide) (by simp [repZ]) ?_)
  | ((with_reducible refine ilg ?_); refine idx_l 1 (by decide) (by simp [repZ]) ?_)
  | ((with_reducible refine ilg ?_); refine idx_l 2 (by decide) (by simp [repZ]) ?_)
  | ((with_reducible refine ilg ?_); refine idx_l 3 (by decide) (by simp [repZ]) ?_)
  | (with_reducible refine Chk.mk' (by simp [repZ]) ?_)
  | ((with_reducible refine lg ?_); refine rounds_g 3 tok ?_)
  
  | with_reducible first
    | refine Chk.mk' (by first | omega | exact trivial | (simp only [List.length_append, List.length_set, List.length_replicate, List.length_take, List.length_drop, List.length_cons, List.length_nil, List.length_map]; omega)) ?_
    | refine wrap_g (by dsimp only [inR]; omega) ?_
    | refine idx_g (by omega) ?_ | refine idx_l _ rfl (by decide) ?_ | refine BothG.mk ?_ ?_ | refine fork_tt ?_ | refine fork_ff ?_
    | (refine fork_e (c := true) (by decide) ?_; refine fork_tt ?_) | (refine fork_e (c := false) (by decide) ?_; refine fork_ff ?_)
    | refine fork_t (by omega) ?_ | refine fork_f (by omega) ?_ | (refine fork_d ?_ ?_ <;> intro hc) | refine fork_n ?_ | (refine fork_b ?_ ?_ <;> intro hc)
    | refine AppG.mk (by first | omega | (simp only [List.length_append, List.length_set, List.length_replicate, List.length_take, List.length_drop, List.length_cons, List.length_nil, List.length_map]; omega)) (by dsimp only [List.length_cons, List.length_nil]; omega) (by omega) ?_
    | refine fz_all (by omega) ?_ | (refine smk ?_ ?_; constructor))
    all_goals exact ⟨ret_l _ (lp_spE 5) rfl⟩
theorem p_sqr {g : List (Nat × List Value)} (hD : (0, debT.map (Value.int .u8)) ∈ g) {a b : D2} (h : GoodS a b) {p : Int} (hp : 1 ≤ p ∧ p ≤ 70000) : FC Tryz.prog g 36 [SP a b, .val (.int .i64 p)] (· = spSqr a b p) := by
  have f0 := p_check1g (G := g) h hp
  have f1 := y_mulP hD h.1 h.1
  obtain ⟨_, g1, c1⟩ := (mul_ans a a).eq
  have f2 := y_mulP hD h.2.1 h.2.1
  obtain ⟨_, g2, c2⟩ := (mul_ans b b).eq
  have s1 := p_sign (G := g) h.1
  have s2 := p_sign (G := g) h.2.1
  have sa := sign3 a.1
  have sb := sign3 b.1
  unfold spSqr
  obtain ⟨u1, hu1⟩ : ∃ u, u = toAn (mulP a a) := ⟨_, rfl⟩
  rw [← hu1] at f1 g1 c1 ⊢
  clear hu1
  obtain ⟨u2, hu2⟩ : ∃ u, u = toAn (mulP b b) := ⟨_, rfl⟩
  rw [← hu2] at f2 g2 c2 ⊢
  clear hu2
  obtain ⟨t1, ht1⟩ : ∃ t, t = a.1.sign := ⟨_, rfl⟩
  obtain ⟨t2, ht2⟩ : ∃ t, t = b.1.sign := ⟨_, rfl⟩
  rw [← ht1] at s1 sa
  rw [← ht2] at s2 sb
  clear ht1 ht2
  have e1 := p_least2 (G := g) (a := u1.d) (b := u2.d) g1 g2
  have e2 := p_greatest2 (G := g) (a := u1.d) (b := u2.d) g1 g2
  have gl := lst2_good (a := u1.d) (b := u2.d) g1 g2
  have gg := gst2_good (a := u1.d) (b := u2.d) g1 g2
  obtain ⟨lo, hlo⟩ : ∃ r, r = lst2 u1.d u2.d := ⟨_, rfl⟩
  obtain ⟨hi, hhi⟩ : ∃ r, r = gst2 u1.d u2.d := ⟨_, rfl⟩
  rw [← hlo] at e1 gl ⊢
  rw [← hhi] at e2 gg ⊢
  clear hlo hhi
  by_cases z1 : u1.c = 0
  · by_cases z2 : u2.c = 0
    · rw [if_neg (by omega)]
      rw [z1] at f1
      rw [z2] at f2
      clear c1 c2
      by_cases hz : a.1 ≤ 0 ∧ 0 ≤ b.1
      · rw [if_pos hz]
        have q1 : t1 ≤ 0 := by omega
        have q2 : 0 ≤ t2 := by omega
        have e3 := p_outward hD (a := (0, 0)) Good.zero gg p hp
        obtain ⟨x, y, c, hr⟩ := outP_form (0, 0) hi p
        rw [hr] at e3 ⊢
        clear hr hz sa sb
        refine FC.intro (X := XX) tok Tryz.func36 rfl Tryz.ntmps36 (by rw [Tryz.results36]) (by kernel_rfl) rfl ?_; intro F hG hO
        rw [← hG] at f0 f1 f2 s1 s2 e1 e2 e3
        repeat' ((try (conv => whnf)); first
  | ((with_reducible refine cg ?_); first | refine ceq f0 rfl ?_ | refine ceq f1 rfl ?_ | refine ceq f2 rfl ?_ | refine ceq s1 rfl ?_ | refine ceq s2 rfl ?_ | refine ceq e1 rfl ?_ | refine ceq e2 rfl ?_)
  | ((with_reducible refine cg ?_); refine call_eq e3 (.cons lp_dy0 (.cons (.refl _) (.cons (.refl _) .nil))) rfl ?_)
  
  | (with_reducible refine draw_g (id := 11) [[0, 1, 2, 5, 3, 4, 6, 7, 8], [9, 10]] tok mixed (by kernel_rfl) ?_)
  | with_reducible first
    | refine Chk.mk' (by first | omega | exact trivial | (simp only [List.length_append, List.length_set, List.length_replicate, List.length_take, List.length_drop, List.length_cons, List.length_nil, List.length_map]; omega)) ?_
    | refine idx_g (by omega) ?_ | refine idx_l _ rfl (by decide) ?_ | refine BothG.mk ?_ ?_ | refine fork_tt ?_ | refine fork_ff ?_
    | (refine fork_e (c := true) (by decide) ?_; refine fork_tt ?_) | (refine fork_e (c := false) (by decide) ?_; refine fork_ff ?_)
    | refine fork_t (by omega) ?_ | refine fork_f (by omega) ?_ | (refine fork_d ?_ ?_ <;> intro hc) | refine fork_n ?_ | (refine fork_b ?_ ?_ <;> intro hc)
    | refine AppG.mk (by first | omega | (simp only [List.length_append, List.length_set, List.length_replicate, List.length_take, List.length_drop, List.length_cons, List.length_nil, List.length_map]; omega)) (by dsimp only [List.length_cons, List.length_nil]; omega) (by omega) ?_
    | refine fz_all (by omega) ?_ | (refine smk ?_ ?_; constructor))
        all_goals exact ⟨ret_e rfl⟩
      · rw [if_neg hz]
        have e3 := p_outward hD gl gg p hp
        obtain ⟨x, y, c, hr⟩ := outP_form lo hi p
        rw [hr] at e3 ⊢
        by_cases q1 : t1 ≤ 0
        · have q2 : t2 < 0 := by omega
          clear hr hz sa sb
          refine FC.intro (X := XX) tok Tryz.func36 rfl Tryz.ntmps36 (by rw [Tryz.results36]) (by kernel_rfl) rfl ?_; intro F hG hO
          rw [← hG] at f0 f1 f2 s1 s2 e1 e2 e3
          repeat' ((try (conv => whnf)); first
  | ((with_reducible refine cg ?_); first | refine ceq f0 rfl ?_ | refine ceq f1 rfl ?_ | refine ceq f2 rfl ?_ | refine ceq s1 rfl ?_ | refine ceq s2 rfl ?_ | refine ceq e1 rfl ?_ | refine ceq e2 rfl ?_ | refine ceq e3 rfl ?_)
  
  | (with_reducible refine draw_g (id := 11) [[0, 1, 2, 5, 3, 4, 6, 7, 8], [9, 10]] tok mixed (by kernel_rfl) ?_)
  | with_reducible first
    | refine Chk.mk' (by first | omega | exact trivial | (simp only [List.length_append, List.length_set, List.length_replicate, List.length_take, List.length_drop, List.length_cons, List.length_nil, List.length_map]; omega)) ?_
    | refine idx_g (by omega) ?_ | refine idx_l _ rfl (by decide) ?_ | refine BothG.mk ?_ ?_ | refine fork_tt ?_ | refine fork_ff ?_
    | (refine fork_e (c := true) (by decide) ?_; refine fork_tt ?_) | (refine fork_e (c := false) (by decide) ?_; refine fork_ff ?_)
    | refine fork_t (by omega) ?_ | refine fork_f (by omega) ?_ | (refine fork_d ?_ ?_ <;> intro hc) | refine fork_n ?_ | (refine fork_b ?_ ?_ <;> intro hc)
    | refine AppG.mk (by first | omega | (simp only [List.length_append, List.length_set, List.length_replicate, List.length_take, List.length_drop, List.length_cons, List.length_nil, List.length_map]; omega)) (by dsimp only [List.length_cons, List.length_nil]; omega) (by omega) ?_
    | refine fz_all (by omega) ?_ | (refine smk ?_ ?_; constructor))
          all_goals exact ⟨ret_e rfl⟩
        · clear hr hz sa sb
          refine FC.intro (X := XX) tok Tryz.func36 rfl Tryz.ntmps36 (by rw [Tryz.results36]) (by kernel_rfl) rfl ?_; intro F hG hO
          rw [← hG] at f0 f1 f2 s1 s2 e1 e2 e3
          repeat' ((try (conv => whnf)); first
  | ((with_reducible refine cg ?_); first | refine ceq f0 rfl ?_ | refine ceq f1 rfl ?_ | refine ceq f2 rfl ?_ | refine ceq s1 rfl ?_ | refine ceq s2 rfl ?_ | refine ceq e1 rfl ?_ | refine ceq e2 rfl ?_ | refine ceq e3 rfl ?_)
  
  | (with_reducible refine draw_g (id := 11) [[0, 1, 2, 5, 3, 4, 6, 7, 8], [9, 10]] tok mixed (by kernel_rfl) ?_)
  | with_reducible first
    | refine Chk.mk' (by first | omega | exact trivial | (simp only [List.length_append, List.length_set, List.length_replicate, List.length_take, List.length_drop, List.length_cons, List.length_nil, List.length_map]; omega)) ?_
    | refine idx_g (by omega) ?_ | refine idx_l _ rfl (by decide) ?_ | refine BothG.mk ?_ ?_ | refine fork_tt ?_ | refine fork_ff ?_
    | (refine fork_e (c := true) (by decide) ?_; refine fork_tt ?_) | (refine fork_e (c := false) (by decide) ?_; refine fork_ff ?_)
    | refine fork_t (by omega) ?_ | refine fork_f (by omega) ?_ | (refine fork_d ?_ ?_ <;> intro hc) | refine fork_n ?_ | (refine fork_b ?_ ?_ <;> intro hc)
    | refine AppG.mk (by first | omega | (simp only [List.length_append, List.length_set, List.length_replicate, List.length_take, List.length_drop, List.length_cons, List.length_nil, List.length_map]; omega)) (by dsimp only [List.length_cons, List.length_nil]; omega) (by omega) ?_
    | refine fz_all (by omega) ?_ | (refine smk ?_ ?_; constructor))
          all_goals exact ⟨ret_e rfl⟩
    · rw [if_pos (by omega)]
      rw [z1] at f1
      rw [show u2.c = 5 by omega] at f2
      clear c1 c2 sa sb
      refine FC.intro (X := XX) tok Tryz.func36 rfl Tryz.ntmps36 (by rw [Tryz.results36]) (by kernel_rfl) rfl ?_; intro F hG hO
      rw [← hG] at f0 f1 f2
      repeat' ((try (conv => whnf)); first
  | ((with_reducible refine cg ?_); first | refine ceq f0 rfl ?_ | refine ceq f1 rfl ?_ | refine ceq f2 rfl ?_)
  
  | (with_reducible refine draw_g (id := 11) [[0, 1, 2, 5, 3, 4, 6, 7, 8], [9, 10]] tok mixed (by kernel_rfl) ?_)
  | with_reducible first
    | refine Chk.mk' (by first | omega | exact trivial | (simp only [List.length_append, List.length_set, List.length_replicate, List.length_take, List.length_drop, List.length_cons, List.length_nil, List.length_map]; omega)) ?_
    | refine idx_g (by omega) ?_ | refine idx_l _ rfl (by decide) ?_ | refine BothG.mk ?_ ?_ | refine fork_tt ?_ | refine fork_ff ?_
    | (refine fork_e (c := true) (by decide) ?_; refine fork_tt ?_) | (refine fork_e (c := false) (by decide) ?_; refine fork_ff ?_)
    | refine fork_t (by omega) ?_ | refine fork_f (by omega) ?_ | (refine fork_d ?_ ?_ <;> intro hc) | refine fork_n ?_ | (refine fork_b ?_ ?_ <;> intro hc)
    | refine AppG.mk (by first | omega | (simp only [List.length_append, List.length_set, List.length_replicate, List.length_take, List.length_drop, List.length_cons, List.length_nil, List.length_map]; omega)) (by dsimp only [List.length_cons, List.length_nil]; omega) (by omega) ?_
    | refine fz_all (by omega) ?_ | (refine smk ?_ ?_; constructor))
      all_goals exact ⟨ret_l _ (lp_spE 5) rfl⟩
  · rw [if_pos (by omega)]
    rw [show u1.c = 5 by omega] at f1
    rcases c2 with c2 | c2
    · rw [c2] at f2
      clear c1 sa sb
      refine FC.intro (X := XX) tok Tryz.func36 rfl Tryz.ntmps36 (by rw [Tryz.results36]) (by kernel_rfl) rfl ?_; intro F hG hO
      rw [← hG] at f0 f1 f2
      repeat' ((try (conv => whnf)); first
  | ((with_reducible refine cg ?_); first | refine ceq f0 rfl ?_ | refine ceq f1 rfl ?_ | refine ceq f2 rfl ?_)
  
  | (with_reducible refine draw_g (id := 11) [[0, 1, 2, 5, 3, 4, 6, 7, 8], [9, 10]] tok mixed (by kernel_rfl) ?_)
  | with_reducible first
    | refine Chk.mk' (by first | omega | exact trivial | (simp only [List.length_append, List.length_set, List.length_replicate, List.length_take, List.length_drop, List.length_cons, List.length_nil, List.length_map]; omega)) ?_
    | refine idx_g (by omega) ?_ | refine idx_l _ rfl (by decide) ?_ | refine BothG.mk ?_ ?_ | refine fork_tt ?_ | refine fork_ff ?_
    | (refine fork_e (c := true) (by decide) ?_; refine fork_tt ?_) | (refine fork_e (c := false) (by decide) ?_; refine fork_ff ?_)
    | refine fork_t (by omega) ?_ | refine fork_f (by omega) ?_ | (refine fork_d ?_ ?_ <;> intro hc) | refine fork_n ?_ | (refine fork_b ?_ ?_ <;> intro hc)
    | refine AppG.mk (by first | omega | (simp only [List.length_append, List.length_set, List.length_replicate, List.length_take, List.length_drop, List.length_cons, List.length_nil, List.length_map]; omega)) (by dsimp only [List.length_cons, List.length_nil]; omega) (by omega) ?_
    | refine fz_all (by omega) ?_ | (refine smk ?_ ?_; constructor))
      all_goals exact ⟨ret_l _ (lp_spE 5) rfl⟩
    · rw [c2] at f2
      clear c1 sa sb
      refine FC.intro (X := XX) tok Tryz.func36 rfl Tryz.ntmps36 (by rw [Tryz.results36]) (by kernel_rfl) rfl ?_; intro F hG hO
      rw [← hG] at f0 f1 f2
      repeat' ((try (conv => whnf)); first
  | ((with_reducible refine cg ?_); first | refine ceq f0 rfl ?_ | refine ceq f1 rfl ?_ | refine ceq f2 rfl ?_)
  
  | (with_reducible refine draw_g (id := 11) [[0, 1, 2, 5, 3, 4, 6, 7, 8], [9, 10]] tok mixed (by kernel_rfl) ?_)
  | with_reducible first
    | refine Chk.mk' (by first | omega | exact trivial | (simp only [List.length_append, List.length_set, List.length_replicate, List.length_take, List.length_drop, List.length_cons, List.length_nil, List.length_map]; omega)) ?_
    | refine idx_g (by omega) ?_ | refine idx_l _ rfl (by decide) ?_ | refine BothG.mk ?_ ?_ | refine fork_tt ?_ | refine fork_ff ?_
    | (refine fork_e (c := true) (by decide) ?_; refine fork_tt ?_) | (refine fork_e (c := false) (by decide) ?_; refine fork_ff ?_)
    | refine fork_t (by omega) ?_ | refine fork_f (by omega) ?_ | (refine fork_d ?_ ?_ <;> intro hc) | refine fork_n ?_ | (refine fork_b ?_ ?_ <;> intro hc)
    | refine AppG.mk (by first | omega | (simp only [List.length_append, List.length_set, List.length_replicate, List.length_take, List.length_drop, List.length_cons, List.length_nil, List.length_map]; omega)) (by dsimp only [List.length_cons, List.length_nil]; omega) (by omega) ?_
    | refine fz_all (by omega) ?_ | (refine smk ?_ ?_; constructor))
      all_goals exact ⟨ret_l _ (lp_spE 5) rfl⟩
theorem p_quo {g : List (Nat × List Value)} (hD : (0, debT.map (Value.int .u8)) ∈ g) {a b c d : D2} (h : GoodS a b) (k : GoodS c d) {p : Int} (hp : 1 ≤ p ∧ p ≤ 70000) : FC Tryz.prog g 14 [SP a b, SP c d, .val (.int .i64 p)] (· = spQuo a b c d p) := by
  have f0 := p_check2g (G := g) h k hp
  have f1 := p_Sign (G := g) k
  have hcd : ∀ z : Int, (z = 1 → 0 < c.1 → ¬ d.1 < 0) := fun z _ hh hd => by
    have e1 := VV_pos (e := c.2) hh
    have e2 := VV_negs (e := d.2) hd
    have e3 := k.2.2
    unfold D2.v at e3
    omega
  unfold spQuo
  by_cases hc : 0 < c.1
  · have hd0 : ¬ d.1 < 0 := hcd 1 rfl hc
    have hdp : 0 < d.1 := by
      have e1 := VV_pos (e := c.2) hc
      have e2 := k.2.2
      have e3 := VV_sign (n := d.1) (e := d.2)
      unfold D2.v at e2
      exact e3.1.1 (by omega)
    clear hcd
    rw [if_pos hc]
    rw [if_neg hd0, if_pos hc] at f1
    have s1 := p_sign (G := g) h.1
    have s2 := p_sign (G := g) h.2.1
    have sa := sign3 a.1
    have sb := sign3 b.1
    obtain ⟨t1, ht1⟩ : ∃ t, t = a.1.sign := ⟨_, rfl⟩
    obtain ⟨t2, ht2⟩ : ∃ t, t = b.1.sign := ⟨_, rfl⟩
    rw [← ht1] at s1 sa
    rw [← ht2] at s2 sb
    clear ht1 ht2
    by_cases ha : a.1 < 0
    · by_cases hb : b.1 < 0
      · skip
        have w1 := (y_quoP hD h.1 k.1 hp (show c.1 ≠ 0 by omega)).1
        have w2 := (y_quoP hD h.2.1 k.2.1 hp (show d.1 ≠ 0 by omega)).2
        have c1 := (quo_ans (a := a) (b := c) hp (show c.1 ≠ 0 by omega) false).eq.2.2
        have c2' := (quo_ans (a := b) (b := d) hp (show d.1 ≠ 0 by omega) true).eq.2.2
        unfold spQuoPos
        rw [if_pos ha, if_pos hb]
        obtain ⟨u, hu⟩ : ∃ u, u = toAn (quoP a c p false) := ⟨_, rfl⟩
        obtain ⟨v, hv⟩ : ∃ v, v = toAn (quoP b d p true) := ⟨_, rfl⟩
        rw [← hu] at w1 c1 ⊢
        rw [← hv] at w2 c2' ⊢
        have w3 := p_both (G := g) u v c1 c2'
        obtain ⟨x, y, c0, hr⟩ := bothA_form u v
        rw [hr] at w3 ⊢
        clear hu hv hr c1 c2'
        have q1 : t1 < 0 := by omega
        have q2 : t2 < 0 := by omega
        clear sa sb
        refine FC.intro (X := XX) tok Tryz.func14 rfl Tryz.ntmps14 (by rw [Tryz.results14]) (by kernel_rfl) rfl ?_; intro F hG hO
        rw [← hG] at f0 f1 s1 s2 w1 w2 w3
        repeat' ((try (conv => whnf)); first
  | ((with_reducible refine cg ?_); first | refine ceq f0 rfl ?_ | refine ceq f1 rfl ?_ | refine ceq s1 rfl ?_ | refine ceq s2 rfl ?_ | refine ceq w1 rfl ?_ | refine ceq w2 rfl ?_ | refine ceq w3 rfl ?_)
  | ((with_reducible refine dg ?_); refine draw_j (A := Bool) (id := 11) (N := 86) (fun x => [(2, .val (.int .i64 p)), (3, .ptr 0 0), (4, .ptr 1 0), (6, .ptr 2 0), (7, .val (.int .i64 0)), (11, .ptr (cond x 3 4) 0), (12, .ptr (cond x 4 3) 0)]) (fun x => [[.val (.bool (decide (a.1 < 0))), .ws .u64 (d64 a.1.natAbs), .val (.int .i64 a.2), .val (.bool (decide (b.1 < 0))), .ws .u64 (d64 b.1.natAbs), .val (.int .i64 b.2)], [.val (.bool (decide (c.1 < 0))), .ws .u64 (d64 c.1.natAbs), .val (.int .i64 c.2), .val (.bool (decide (d.1 < 0))), .ws .u64 (d64 d.1.natAbs), .val (.int .i64 d.2)], [.val (.bool false), .nil, .val (.int .i64 0), .val (.bool false), .nil, .val (.int .i64 0)], [.val (.bool (decide ((cond x d c).1 < 0))), .ws .u64 (d64 (cond x d c).1.natAbs), .val (.int .i64 (cond x d c).2)], [.val (.bool (decide ((cond x c d).1 < 0))), .ws .u64 (d64 (cond x c d).1.natAbs), .val (.int .i64 (cond x c d).2)]]) (fun _ => []) (.take 0 (.take 2 (.alt 1 (.alt 3 (.alt 4 (.alt 5 (.alt 6 (.alt 7 (.fin) (.non)) (.non)) (.non)) (.alt 5 (.alt 4 (.alt 6 (.alt 7 (.fin) (.non)) (.non)) (.non)) (.non))) (.alt 4 (.alt 3 (.alt 5 (.alt 6 (.alt 7 (.fin) (.non)) (.non)) (.non)) (.alt 5 (.alt 3 (.alt 6 (.alt 7 (.fin) (.non)) (.non)) (.alt 6 (.alt 3 (.alt 7 (.fin) (.non)) (.non)) (.non))) (.non))) (.alt 5 (.alt 3 (.alt 4 (.alt 6 (.alt 7 (.fin) (.non)) (.non)) (.non)) (.alt 4 (.alt 3 (.alt 6 (.alt 7 (.fin) (.non)) (.non)) (.alt 6 (.alt 3 (.alt 7 (.fin) (.non)) (.non)) (.non))) (.non))) (.non)))) (.alt 3 (.alt 1 (.alt 4 (.alt 5 (.alt 6 (.alt 7 (.fin) (.non)) (.non)) (.non)) (.alt 5 (.alt 4 (.alt 6 (.alt 7 (.fin) (.non)) (.non)) (.non)) (.non))) (.alt 4 (.alt 1 (.alt 5 (.alt 6 (.alt 7 (.fin) (.non)) (.non)) (.non)) (.alt 5 (.alt 1 (.alt 6 (.alt 7 (.fin) (.non)) (.non)) (.non)) (.non))) (.alt 5 (.alt 1 (.alt 4 (.alt 6 (.alt 7 (.fin) (.non)) (.non)) (.non)) (.alt 4 (.alt 1 (.alt 6 (.alt 7 (.fin) (.non)) (.non)) (.non)) (.non))) (.non)))) (.alt 4 (.alt 1 (.alt 3 (.alt 5 (.alt 6 (.alt 7 (.fin) (.non)) (.non)) (.non)) (.alt 5 (.alt 3 (.alt 6 (.alt 7 (.fin) (.non)) (.non)) (.alt 6 (.alt 3 (.alt 7 (.fin) (.non)) (.non)) (.non))) (.non))) (.alt 3 (.alt 1 (.alt 5 (.alt 6 (.alt 7 (.fin) (.non)) (.non)) (.non)) (.alt 5 (.alt 1 (.alt 6 (.alt 7 (.fin) (.non)) (.non)) (.non)) (.non))) (.alt 5 (.alt 1 (.alt 3 (.alt 6 (.alt 7 (.fin) (.non)) (.non)) (.alt 6 (.alt 3 (.alt 7 (.fin) (.non)) (.non)) (.non))) (.alt 3 (.alt 1 (.alt 6 (.alt 7 (.fin) (.non)) (.non)) (.non)) (.non))) (.non)))) (.alt 5 (.alt 1 (.alt 3 (.alt 4 (.alt 6 (.alt 7 (.fin) (.non)) (.non)) (.non)) (.alt 4 (.alt 3 (.alt 6 (.alt 7 (.fin) (.non)) (.non)) (.alt 6 (.alt 3 (.alt 7 (.fin) (.non)) (.non)) (.non))) (.non))) (.alt 3 (.alt 1 (.alt 4 (.alt 6 (.alt 7 (.fin) (.non)) (.non)) (.non)) (.alt 4 (.alt 1 (.alt 6 (.alt 7 (.fin) (.non)) (.non)) (.non)) (.non))) (.alt 4 (.alt 1 (.alt 3 (.alt 6 (.alt 7 (.fin) (.non)) (.non)) (.alt 6 (.alt 3 (.alt 7 (.fin) (.non)) (.non)) (.non))) (.alt 3 (.alt 1 (.alt 6 (.alt 7 (.fin) (.non)) (.non)) (.non)) (.non))) (.non)))) (.non))))))) tok mixed (by kernel_rfl) (by kernel_rfl) (by intro x; cases x <;> (refine ⟨?_, ?_, ?_⟩ <;> simp [inS, inBB, inBL, inB, hO])) ?_ ?_; rotate_left; intro x; cases x)
  | exact join true ⟨rfl, rfl, rfl, rfl, rfl, rfl, rfl, trivial⟩ ⟨[], rfl⟩ ⟨[], rfl⟩
  | exact join false ⟨rfl, rfl, rfl, rfl, rfl, rfl, rfl, trivial⟩ ⟨[], rfl⟩ ⟨[], rfl⟩
  
  | (with_reducible refine draw_t (id := 11) (.one 0 (.one 1 (.one 2 (.one 3 (.two (.one 4 (.one 5 (.st (.one 6 (.st (.one 7 (.fin))))))) (.one 5 (.one 4 (.st (.one 6 (.st (.one 7 (.fin)))))))))))) tok mixed (by kernel_rfl) (by kernel_rfl) ?_)
  | with_reducible first
    | refine Chk.mk' (by first | omega | exact trivial | (simp only [List.length_append, List.length_set, List.length_replicate, List.length_take, List.length_drop, List.length_cons, List.length_nil, List.length_map]; omega)) ?_
    | refine idx_g (by omega) ?_ | refine idx_l _ rfl (by decide) ?_ | refine BothG.mk ?_ ?_ | refine fork_tt ?_ | refine fork_ff ?_
    | (refine fork_e (c := true) (by decide) ?_; refine fork_tt ?_) | (refine fork_e (c := false) (by decide) ?_; refine fork_ff ?_)
    | refine fork_t (by omega) ?_ | refine fork_f (by omega) ?_ | (refine fork_d ?_ ?_ <;> intro hc) | refine fork_n ?_ | (refine fork_b ?_ ?_ <;> intro hc)
    | refine AppG.mk (by first | omega | (simp only [List.length_append, List.length_set, List.length_replicate, List.length_take, List.length_drop, List.length_cons, List.length_nil, List.length_map]; omega)) (by dsimp only [List.length_cons, List.length_nil]; omega) (by omega) ?_
    | refine fz_all (by omega) ?_ | (refine smk ?_ ?_; constructor))
        all_goals exact ⟨ret_e rfl⟩
      · skip
        have w1 := (y_quoP hD h.1 k.1 hp (show c.1 ≠ 0 by omega)).1
        have w2 := (y_quoP hD h.2.1 k.1 hp (show c.1 ≠ 0 by omega)).2
        have c1 := (quo_ans (a := a) (b := c) hp (show c.1 ≠ 0 by omega) false).eq.2.2
        have c2' := (quo_ans (a := b) (b := c) hp (show c.1 ≠ 0 by omega) true).eq.2.2
        unfold spQuoPos
        rw [if_pos ha, if_neg hb]
        obtain ⟨u, hu⟩ : ∃ u, u = toAn (quoP a c p false) := ⟨_, rfl⟩
        obtain ⟨v, hv⟩ : ∃ v, v = toAn (quoP b c p true) := ⟨_, rfl⟩
        rw [← hu] at w1 c1 ⊢
        rw [← hv] at w2 c2' ⊢
        have w3 := p_both (G := g) u v c1 c2'
        obtain ⟨x, y, c0, hr⟩ := bothA_form u v
        rw [hr] at w3 ⊢
        clear hu hv hr c1 c2'
        have q1 : t1 < 0 := by omega
        have q2 : ¬ t2 < 0 := by omega
        clear sa sb
        refine FC.intro (X := XX) tok Tryz.func14 rfl Tryz.ntmps14 (by rw [Tryz.results14]) (by kernel_rfl) rfl ?_; intro F hG hO
        rw [← hG] at f0 f1 s1 s2 w1 w2 w3
        repeat' ((try (conv => whnf)); first
  | ((with_reducible refine cg ?_); first | refine ceq f0 rfl ?_ | refine ceq f1 rfl ?_ | refine ceq s1 rfl ?_ | refine ceq s2 rfl ?_ | refine ceq w1 rfl ?_ | refine ceq w2 rfl ?_ | refine ceq w3 rfl ?_)
  | ((with_reducible refine dg ?_); refine draw_j (A := Bool) (id := 11) (N := 86) (fun x => [(2, .val (.int .i64 p)), (3, .ptr 0 0), (4, .ptr 1 0), (6, .ptr 2 0), (7, .val (.int .i64 0)), (11, .ptr (cond x 3 4) 0), (12, .ptr (cond x 4 3) 0)]) (fun x => [[.val (.bool (decide (a.1 < 0))), .ws .u64 (d64 a.1.natAbs), .val (.int .i64 a.2), .val (.bool (decide (b.1 < 0))), .ws .u64 (d64 b.1.natAbs), .val (.int .i64 b.2)], [.val (.bool (decide (c.1 < 0))), .ws .u64 (d64 c.1.natAbs), .val (.int .i64 c.2), .val (.bool (decide (d.1 < 0))), .ws .u64 (d64 d.1.natAbs), .val (.int .i64 d.2)], [.val (.bool false), .nil, .val (.int .i64 0), .val (.bool false), .nil, .val (.int .i64 0)], [.val (.bool (decide ((cond x d c).1 < 0))), .ws .u64 (d64 (cond x d c).1.natAbs), .val (.int .i64 (cond x d c).2)], [.val (.bool (decide ((cond x c d).1 < 0))), .ws .u64 (d64 (cond x c d).1.natAbs), .val (.int .i64 (cond x c d).2)]]) (fun _ => []) (.take 0 (.take 2 (.alt 1 (.alt 3 (.alt 4 (.alt 5 (.alt 6 (.alt 7 (.fin) (.non)) (.non)) (.non)) (.alt 5 (.alt 4 (.alt 6 (.alt 7 (.fin) (.non)) (.non)) (.non)) (.non))) (.alt 4 (.alt 3 (.alt 5 (.alt 6 (.alt 7 (.fin) (.non)) (.non)) (.non)) (.alt 5 (.alt 3 (.alt 6 (.alt 7 (.fin) (.non)) (.non)) (.alt 6 (.alt 3 (.alt 7 (.fin) (.non)) (.non)) (.non))) (.non))) (.alt 5 (.alt 3 (.alt 4 (.alt 6 (.alt 7 (.fin) (.non)) (.non)) (.non)) (.alt 4 (.alt 3 (.alt 6 (.alt 7 (.fin) (.non)) (.non)) (.alt 6 (.alt 3 (.alt 7 (.fin) (.non)) (.non)) (.non))) (.non))) (.non)))) (.alt 3 (.alt 1 (.alt 4 (.alt 5 (.alt 6 (.alt 7 (.fin) (.non)) (.non)) (.non)) (.alt 5 (.alt 4 (.alt 6 (.alt 7 (.fin) (.non)) (.non)) (.non)) (.non))) (.alt 4 (.alt 1 (.alt 5 (.alt 6 (.alt 7 (.fin) (.non)) (.non)) (.non)) (.alt 5 (.alt 1 (.alt 6 (.alt 7 (.fin) (.non)) (.non)) (.non)) (.non))) (.alt 5 (.alt 1 (.alt 4 (.alt 6 (.alt 7 (.fin) (.non)) (.non)) (.non)) (.alt 4 (.alt 1 (.alt 6 (.alt 7 (.fin) (.non)) (.non)) (.non)) (.non))) (.non)))) (.alt 4 (.alt 1 (.alt 3 (.alt 5 (.alt 6 (.alt 7 (.fin) (.non)) (.non)) (.non)) (.alt 5 (.alt 3 (.alt 6 (.alt 7 (.fin) (.non)) (.non)) (.alt 6 (.alt 3 (.alt 7 (.fin) (.non)) (.non)) (.non))) (.non))) (.alt 3 (.alt 1 (.alt 5 (.alt 6 (.alt 7 (.fin) (.non)) (.non)) (.non)) (.alt 5 (.alt 1 (.alt 6 (.alt 7 (.fin) (.non)) (.non)) (.non)) (.non))) (.alt 5 (.alt 1 (.alt 3 (.alt 6 (.alt 7 (.fin) (.non)) (.non)) (.alt 6 (.alt 3 (.alt 7 (.fin) (.non)) (.non)) (.non))) (.alt 3 (.alt 1 (.alt 6 (.alt 7 (.fin) (.non)) (.non)) (.non)) (.non))) (.non)))) (.alt 5 (.alt 1 (.alt 3 (.alt 4 (.alt 6 (.alt 7 (.fin) (.non)) (.non)) (.non)) (.alt 4 (.alt 3 (.alt 6 (.alt 7 (.fin) (.non)) (.non)) (.alt 6 (.alt 3 (.alt 7 (.fin) (.non)) (.non)) (.non))) (.non))) (.alt 3 (.alt 1 (.alt 4 (.alt 6 (.alt 7 (.fin) (.non)) (.non)) (.non)) (.alt 4 (.alt 1 (.alt 6 (.alt 7 (.fin) (.non)) (.non)) (.non)) (.non))) (.alt 4 (.alt 1 (.alt 3 (.alt 6 (.alt 7 (.fin) (.non)) (.non)) (.alt 6 (.alt 3 (.alt 7 (.fin) (.non)) (.non)) (.non))) (.alt 3 (.alt 1 (.alt 6 (.alt 7 (.fin) (.non)) (.non)) (.non)) (.non))) (.non)))) (.non))))))) tok mixed (by kernel_rfl) (by kernel_rfl) (by intro x; cases x <;> (refine ⟨?_, ?_, ?_⟩ <;> simp [inS, inBB, inBL, inB, hO])) ?_ ?_; rotate_left; intro x; cases x)
  | exact join true ⟨rfl, rfl, rfl, rfl, rfl, rfl, rfl, trivial⟩ ⟨[], rfl⟩ ⟨[], rfl⟩
  | exact join false ⟨rfl, rfl, rfl, rfl, rfl, rfl, rfl, trivial⟩ ⟨[], rfl⟩ ⟨[], rfl⟩
  
  | (with_reducible refine draw_t (id := 11) (.one 0 (.one 1 (.one 2 (.one 3 (.two (.one 4 (.one 5 (.st (.one 6 (.st (.one 7 (.fin))))))) (.one 5 (.one 4 (.st (.one 6 (.st (.one 7 (.fin)))))))))))) tok mixed (by kernel_rfl) (by kernel_rfl) ?_)
  | with_reducible first
    | refine Chk.mk' (by first | omega | exact trivial | (simp only [List.length_append, List.length_set, List.length_replicate, List.length_take, List.length_drop, List.length_cons, List.length_nil, List.length_map]; omega)) ?_
    | refine idx_g (by omega) ?_ | refine idx_l _ rfl (by decide) ?_ | refine BothG.mk ?_ ?_ | refine fork_tt ?_ | refine fork_ff ?_
    | (refine fork_e (c := true) (by decide) ?_; refine fork_tt ?_) | (refine fork_e (c := false) (by decide) ?_; refine fork_ff ?_)
    | refine fork_t (by omega) ?_ | refine fork_f (by omega) ?_ | (refine fork_d ?_ ?_ <;> intro hc) | refine fork_n ?_ | (refine fork_b ?_ ?_ <;> intro hc)
    | refine AppG.mk (by first | omega | (simp only [List.length_append, List.length_set, List.length_replicate, List.length_take, List.length_drop, List.length_cons, List.length_nil, List.length_map]; omega)) (by dsimp only [List.length_cons, List.length_nil]; omega) (by omega) ?_
    | refine fz_all (by omega) ?_ | (refine smk ?_ ?_; constructor))
        all_goals exact ⟨ret_e rfl⟩
    · have hb : ¬ b.1 < 0 := fun hh => by have := VV_negs (e := b.2) hh; have := VV_sign (n := a.1) (e := a.2); have := h.2.2; unfold D2.v at this; omega
      have w1 := (y_quoP hD h.1 k.2.1 hp (show d.1 ≠ 0 by omega)).1
      have w2 := (y_quoP hD h.2.1 k.1 hp (show c.1 ≠ 0 by omega)).2
      have c1 := (quo_ans (a := a) (b := d) hp (show d.1 ≠ 0 by omega) false).eq.2.2
      have c2' := (quo_ans (a := b) (b := c) hp (show c.1 ≠ 0 by omega) true).eq.2.2
      unfold spQuoPos
      rw [if_neg ha, if_neg hb]
      obtain ⟨u, hu⟩ : ∃ u, u = toAn (quoP a d p false) := ⟨_, rfl⟩
      obtain ⟨v, hv⟩ : ∃ v, v = toAn (quoP b c p true) := ⟨_, rfl⟩
      rw [← hu] at w1 c1 ⊢
      rw [← hv] at w2 c2' ⊢
      have w3 := p_both (G := g) u v c1 c2'
      obtain ⟨x, y, c0, hr⟩ := bothA_form u v
      rw [hr] at w3 ⊢
      clear hu hv hr c1 c2'
      have q1 : ¬ t1 < 0 := by omega
      have q2 : ¬ t2 < 0 := by omega
      clear sa sb
      refine FC.intro (X := XX) tok Tryz.func14 rfl Tryz.ntmps14 (by rw [Tryz.results14]) (by kernel_rfl) rfl ?_; intro F hG hO
      rw [← hG] at f0 f1 s1 s2 w1 w2 w3
      repeat' ((try (conv => whnf)); first
  | ((with_reducible refine cg ?_); first | refine ceq f0 rfl ?_ | refine ceq f1 rfl ?_ | refine ceq s1 rfl ?_ | refine ceq s2 rfl ?_ | refine ceq w1 rfl ?_ | refine ceq w2 rfl ?_ | refine ceq w3 rfl ?_)
  | ((with_reducible refine dg ?_); refine draw_j (A := Bool) (id := 11) (N := 86) (fun x => [(2, .val (.int .i64 p)), (3, .ptr 0 0), (4, .ptr 1 0), (6, .ptr 2 0), (7, .val (.int .i64 0)), (11, .ptr (cond x 3 4) 0), (12, .ptr (cond x 4 3) 0)]) (fun x => [[.val (.bool (decide (a.1 < 0))), .ws .u64 (d64 a.1.natAbs), .val (.int .i64 a.2), .val (.bool (decide (b.1 < 0))), .ws .u64 (d64 b.1.natAbs), .val (.int .i64 b.2)], [.val (.bool (decide (c.1 < 0))), .ws .u64 (d64 c.1.natAbs), .val (.int .i64 c.2), .val (.bool (decide (d.1 < 0))), .ws .u64 (d64 d.1.natAbs), .val (.int .i64 d.2)], [.val (.bool false), .nil, .val (.int .i64 0), .val (.bool false), .nil, .val (.int .i64 0)], [.val (.bool (decide ((cond x d c).1 < 0))), .ws .u64 (d64 (cond x d c).1.natAbs), .val (.int .i64 (cond x d c).2)], [.val (.bool (decide ((cond x c d).1 < 0))), .ws .u64 (d64 (cond x c d).1.natAbs), .val (.int .i64 (cond x c d).2)]]) (fun _ => []) (.take 0 (.take 2 (.alt 1 (.alt 3 (.alt 4 (.alt 5 (.alt 6 (.alt 7 (.fin) (.non)) (.non)) (.non)) (.alt 5 (.alt 4 (.alt 6 (.alt 7 (.fin) (.non)) (.non)) (.non)) (.non))) (.alt 4 (.alt 3 (.alt 5 (.alt 6 (.alt 7 (.fin) (.non)) (.non)) (.non)) (.alt 5 (.alt 3 (.alt 6 (.alt 7 (.fin) (.non)) (.non)) (.alt 6 (.alt 3 (.alt 7 (.fin) (.non)) (.non)) (.non))) (.non))) (.alt 5 (.alt 3 (.alt 4 (.alt 6 (.alt 7 (.fin) (.non)) (.non)) (.non)) (.alt 4 (.alt 3 (.alt 6 (.alt 7 (.fin) (.non)) (.non)) (.alt 6 (.alt 3 (.alt 7 (.fin) (.non)) (.non)) (.non))) (.non))) (.non)))) (.alt 3 (.alt 1 (.alt 4 (.alt 5 (.alt 6 (.alt 7 (.fin) (.non)) (.non)) (.non)) (.alt 5 (.alt 4 (.alt 6 (.alt 7 (.fin) (.non)) (.non)) (.non)) (.non))) (.alt 4 (.alt 1 (.alt 5 (.alt 6 (.alt 7 (.fin) (.non)) (.non)) (.non)) (.alt 5 (.alt 1 (.alt 6 (.alt 7 (.fin) (.non)) (.non)) (.non)) (.non))) (.alt 5 (.alt 1 (.alt 4 (.alt 6 (.alt 7 (.fin) (.non)) (.non)) (.non)) (.alt 4 (.alt 1 (.alt 6 (.alt 7 (.fin) (.non)) (.non)) (.non)) (.non))) (.non)))) (.alt 4 (.alt 1 (.alt 3 (.alt 5 (.alt 6 (.alt 7 (.fin) (.non)) (.non)) (.non)) (.alt 5 (.alt 3 (.alt 6 (.alt 7 (.fin) (.non)) (.non)) (.alt 6 (.alt 3 (.alt 7 (.fin) (.non)) (.non)) (.non))) (.non))) (.alt 3 (.alt 1 (.alt 5 (.alt 6 (.alt 7 (.fin) (.non)) (.non)) (.non)) (.alt 5 (.alt 1 (.alt 6 (.alt 7 (.fin) (.non)) (.non)) (.non)) (.non))) (.alt 5 (.alt 1 (.alt 3 (.alt 6 (.alt 7 (.fin) (.non)) (.non)) (.alt 6 (.alt 3 (.alt 7 (.fin) (.non)) (.non)) (.non))) (.alt 3 (.alt 1 (.alt 6 (.alt 7 (.fin) (.non)) (.non)) (.non)) (.non))) (.non)))) (.alt 5 (.alt 1 (.alt 3 (.alt 4 (.alt 6 (.alt 7 (.fin) (.non)) (.non)) (.non)) (.alt 4 (.alt 3 (.alt 6 (.alt 7 (.fin) (.non)) (.non)) (.alt 6 (.alt 3 (.alt 7 (.fin) (.non)) (.non)) (.non))) (.non))) (.alt 3 (.alt 1 (.alt 4 (.alt 6 (.alt 7 (.fin) (.non)) (.non)) (.non)) (.alt 4 (.alt 1 (.alt 6 (.alt 7 (.fin) (.non)) (.non)) (.non)) (.non))) (.alt 4 (.alt 1 (.alt 3 (.alt 6 (.alt 7 (.fin) (.non)) (.non)) (.alt 6 (.alt 3 (.alt 7 (.fin) (.non)) (.non)) (.non))) (.alt 3 (.alt 1 (.alt 6 (.alt 7 (.fin) (.non)) (.non)) (.non)) (.non))) (.non)))) (.non))))))) tok mixed (by kernel_rfl) (by kernel_rfl) (by intro x; cases x <;> (refine ⟨?_, ?_, ?_⟩ <;> simp [inS, inBB, inBL, inB, hO])) ?_ ?_; rotate_left; intro x; cases x)
  | exact join true ⟨rfl, rfl, rfl, rfl, rfl, rfl, rfl, trivial⟩ ⟨[], rfl⟩ ⟨[], rfl⟩
  | exact join false ⟨rfl, rfl, rfl, rfl, rfl, rfl, rfl, trivial⟩ ⟨[], rfl⟩ ⟨[], rfl⟩
  
  | (with_reducible refine draw_t (id := 11) (.one 0 (.one 1 (.one 2 (.one 3 (.two (.one 4 (.one 5 (.st (.one 6 (.st (.one 7 (.fin))))))) (.one 5 (.one 4 (.st (.one 6 (.st (.one 7 (.fin)))))))))))) tok mixed (by kernel_rfl) (by kernel_rfl) ?_)
  | with_reducible first
    | refine Chk.mk' (by first | omega | exact trivial | (simp only [List.length_append, List.length_set, List.length_replicate, List.length_take, List.length_drop, List.length_cons, List.length_nil, List.length_map]; omega)) ?_
    | refine idx_g (by omega) ?_ | refine idx_l _ rfl (by decide) ?_ | refine BothG.mk ?_ ?_ | refine fork_tt ?_ | refine fork_ff ?_
    | (refine fork_e (c := true) (by decide) ?_; refine fork_tt ?_) | (refine fork_e (c := false) (by decide) ?_; refine fork_ff ?_)
    | refine fork_t (by omega) ?_ | refine fork_f (by omega) ?_ | (refine fork_d ?_ ?_ <;> intro hc) | refine fork_n ?_ | (refine fork_b ?_ ?_ <;> intro hc)
    | refine AppG.mk (by first | omega | (simp only [List.length_append, List.length_set, List.length_replicate, List.length_take, List.length_drop, List.length_cons, List.length_nil, List.length_map]; omega)) (by dsimp only [List.length_cons, List.length_nil]; omega) (by omega) ?_
    | refine fz_all (by omega) ?_ | (refine smk ?_ ?_; constructor))
      all_goals exact ⟨ret_e rfl⟩
  · rw [if_neg hc]
    clear hcd
    by_cases hdn : d.1 < 0
    · rw [if_pos hdn]
      rw [if_pos hdn] at f1
      have hcn : c.1 < 0 := by
        have e1 := VV_negs (e := d.2) hdn
        have e2 := k.2.2
        have e3 := VV_sign (n := c.1) (e := c.2)
        unfold D2.v at e2
        exact e3.2.1 (by omega)
      have n1 := p_neg (G := g) h
      have n2 := p_neg (G := g) k
      have h2 := h.neg
      have k2 := k.neg
      have hc2 : 0 < d.neg.1 := by show 0 < -d.1; omega
      have hd2 : 0 < c.neg.1 := by show 0 < -c.1; omega
      obtain ⟨a2, ha2⟩ : ∃ r, r = b.neg := ⟨_, rfl⟩
      obtain ⟨b2, hb2⟩ : ∃ r, r = a.neg := ⟨_, rfl⟩
      obtain ⟨c2, hc2e⟩ : ∃ r, r = d.neg := ⟨_, rfl⟩
      obtain ⟨d2, hd2e⟩ : ∃ r, r = c.neg := ⟨_, rfl⟩
      rw [← ha2, ← hb2] at n1 h2 ⊢
      rw [← hc2e, ← hd2e] at n2 k2 ⊢
      rw [← hc2e] at hc2
      rw [← hd2e] at hd2
      clear ha2 hb2 hc2e hd2e
      have s1 := p_sign (G := g) h2.1
      have s2 := p_sign (G := g) h2.2.1
      have sa := sign3 a2.1
      have sb := sign3 b2.1
      obtain ⟨t1, ht1⟩ : ∃ t, t = a2.1.sign := ⟨_, rfl⟩
      obtain ⟨t2, ht2⟩ : ∃ t, t = b2.1.sign := ⟨_, rfl⟩
      rw [← ht1] at s1 sa
      rw [← ht2] at s2 sb
      clear ht1 ht2
      by_cases ha : a2.1 < 0
      · by_cases hb : b2.1 < 0
        · skip
          have w1 := (y_quoP hD h2.1 k2.1 hp (show c2.1 ≠ 0 by omega)).1
          have w2 := (y_quoP hD h2.2.1 k2.2.1 hp (show d2.1 ≠ 0 by omega)).2
          have c1 := (quo_ans (a := a2) (b := c2) hp (show c2.1 ≠ 0 by omega) false).eq.2.2
          have c2' := (quo_ans (a := b2) (b := d2) hp (show d2.1 ≠ 0 by omega) true).eq.2.2
          unfold spQuoPos
          rw [if_pos ha, if_pos hb]
          obtain ⟨u, hu⟩ : ∃ u, u = toAn (quoP a2 c2 p false) := ⟨_, rfl⟩
          obtain ⟨v, hv⟩ : ∃ v, v = toAn (quoP b2 d2 p true) := ⟨_, rfl⟩
          rw [← hu] at w1 c1 ⊢
          rw [← hv] at w2 c2' ⊢
          have w3 := p_both (G := g) u v c1 c2'
          obtain ⟨x, y, c0, hr⟩ := bothA_form u v
          rw [hr] at w3 ⊢
          clear hu hv hr c1 c2'
          have q1 : t1 < 0 := by omega
          have q2 : t2 < 0 := by omega
          clear sa sb
          refine FC.intro (X := XX) tok Tryz.func14 rfl Tryz.ntmps14 (by rw [Tryz.results14]) (by kernel_rfl) rfl ?_; intro F hG hO
          rw [← hG] at f0 f1 n1 n2 s1 s2 w1 w2 w3
          repeat' ((try (conv => whnf)); first
  | ((with_reducible refine cg ?_); first | refine ceq f0 rfl ?_ | refine ceq f1 rfl ?_ | refine ceq n1 rfl ?_ | refine ceq n2 rfl ?_ | refine ceq s1 rfl ?_ | refine ceq s2 rfl ?_ | refine ceq w1 rfl ?_ | refine ceq w2 rfl ?_ | refine ceq w3 rfl ?_)
  | ((with_reducible refine dg ?_); refine draw_j (A := Bool) (id := 11) (N := 86) (fun x => [(2, .val (.int .i64 p)), (3, .ptr 0 0), (4, .ptr 1 0), (6, .ptr 2 0), (7, .val (.int .i64 0)), (11, .ptr (cond x 3 4) 0), (12, .ptr (cond x 4 3) 0)]) (fun x => [[.val (.bool (decide (a2.1 < 0))), .ws .u64 (d64 a2.1.natAbs), .val (.int .i64 a2.2), .val (.bool (decide (b2.1 < 0))), .ws .u64 (d64 b2.1.natAbs), .val (.int .i64 b2.2)], [.val (.bool (decide (c2.1 < 0))), .ws .u64 (d64 c2.1.natAbs), .val (.int .i64 c2.2), .val (.bool (decide (d2.1 < 0))), .ws .u64 (d64 d2.1.natAbs), .val (.int .i64 d2.2)], [.val (.bool false), .nil, .val (.int .i64 0), .val (.bool false), .nil, .val (.int .i64 0)], [.val (.bool (decide ((cond x d2 c2).1 < 0))), .ws .u64 (d64 (cond x d2 c2).1.natAbs), .val (.int .i64 (cond x d2 c2).2)], [.val (.bool (decide ((cond x c2 d2).1 < 0))), .ws .u64 (d64 (cond x c2 d2).1.natAbs), .val (.int .i64 (cond x c2 d2).2)]]) (fun _ => []) (.take 0 (.take 2 (.alt 1 (.alt 3 (.alt 4 (.alt 5 (.alt 6 (.alt 7 (.fin) (.non)) (.non)) (.non)) (.alt 5 (.alt 4 (.alt 6 (.alt 7 (.fin) (.non)) (.non)) (.non)) (.non))) (.alt 4 (.alt 3 (.alt 5 (.alt 6 (.alt 7 (.fin) (.non)) (.non)) (.non)) (.alt 5 (.alt 3 (.alt 6 (.alt 7 (.fin) (.non)) (.non)) (.alt 6 (.alt 3 (.alt 7 (.fin) (.non)) (.non)) (.non))) (.non))) (.alt 5 (.alt 3 (.alt 4 (.alt 6 (.alt 7 (.fin) (.non)) (.non)) (.non)) (.alt 4 (.alt 3 (.alt 6 (.alt 7 (.fin) (.non)) (.non)) (.alt 6 (.alt 3 (.alt 7 (.fin) (.non)) (.non)) (.non))) (.non))) (.non)))) (.alt 3 (.alt 1 (.alt 4 (.alt 5 (.alt 6 (.alt 7 (.fin) (.non)) (.non)) (.non)) (.alt 5 (.alt 4 (.alt 6 (.alt 7 (.fin) (.non)) (.non)) (.non)) (.non))) (.alt 4 (.alt 1 (.alt 5 (.alt 6 (.alt 7 (.fin) (.non)) (.non)) (.non)) (.alt 5 (.alt 1 (.alt 6 (.alt 7 (.fin) (.non)) (.non)) (.non)) (.non))) (.alt 5 (.alt 1 (.alt 4 (.alt 6 (.alt 7 (.fin) (.non)) (.non)) (.non)) (.alt 4 (.alt 1 (.alt 6 (.alt 7 (.fin) (.non)) (.non)) (.non)) (.non))) (.non)))) (.alt 4 (.alt 1 (.alt 3 (.alt 5 (.alt 6 (.alt 7 (.fin) (.non)) (.non)) (.non)) (.alt 5 (.alt 3 (.alt 6 (.alt 7 (.fin) (.non)) (.non)) (.alt 6 (.alt 3 (.alt 7 (.fin) (.non)) (.non)) (.non))) (.non))) (.alt 3 (.alt 1 (.alt 5 (.alt 6 (.alt 7 (.fin) (.non)) (.non)) (.non)) (.alt 5 (.alt 1 (.alt 6 (.alt 7 (.fin) (.non)) (.non)) (.non)) (.non))) (.alt 5 (.alt 1 (.alt 3 (.alt 6 (.alt 7 (.fin) (.non)) (.non)) (.alt 6 (.alt 3 (.alt 7 (.fin) (.non)) (.non)) (.non))) (.alt 3 (.alt 1 (.alt 6 (.alt 7 (.fin) (.non)) (.non)) (.non)) (.non))) (.non)))) (.alt 5 (.alt 1 (.alt 3 (.alt 4 (.alt 6 (.alt 7 (.fin) (.non)) (.non)) (.non)) (.alt 4 (.alt 3 (.alt 6 (.alt 7 (.fin) (.non)) (.non)) (.alt 6 (.alt 3 (.alt 7 (.fin) (.non)) (.non)) (.non))) (.non))) (.alt 3 (.alt 1 (.alt 4 (.alt 6 (.alt 7 (.fin) (.non)) (.non)) (.non)) (.alt 4 (.alt 1 (.alt 6 (.alt 7 (.fin) (.non)) (.non)) (.non)) (.non))) (.alt 4 (.alt 1 (.alt 3 (.alt 6 (.alt 7 (.fin) (.non)) (.non)) (.alt 6 (.alt 3 (.alt 7 (.fin) (.non)) (.non)) (.non))) (.alt 3 (.alt 1 (.alt 6 (.alt 7 (.fin) (.non)) (.non)) (.non)) (.non))) (.non)))) (.non))))))) tok mixed (by kernel_rfl) (by kernel_rfl) (by intro x; cases x <;> (refine ⟨?_, ?_, ?_⟩ <;> simp [inS, inBB, inBL, inB, hO])) ?_ ?_; rotate_left; intro x; cases x)
  | exact join true ⟨rfl, rfl, rfl, rfl, rfl, rfl, rfl, trivial⟩ ⟨[], rfl⟩ ⟨[], rfl⟩
  | exact join false ⟨rfl, rfl, rfl, rfl, rfl, rfl, rfl, trivial⟩ ⟨[], rfl⟩ ⟨[], rfl⟩
  
  | (with_reducible refine draw_t (id := 11) (.one 0 (.one 1 (.one 2 (.one 3 (.two (.one 4 (.one 5 (.st (.one 6 (.st (.one 7 (.fin))))))) (.one 5 (.one 4 (.st (.one 6 (.st (.one 7 (.fin)))))))))))) tok mixed (by kernel_rfl) (by kernel_rfl) ?_)
  | with_reducible first
    | refine Chk.mk' (by first | omega | exact trivial | (simp only [List.length_append, List.length_set, List.length_replicate, List.length_take, List.length_drop, List.length_cons, List.length_nil, List.length_map]; omega)) ?_
    | refine idx_g (by omega) ?_ | refine idx_l _ rfl (by decide) ?_ | refine BothG.mk ?_ ?_ | refine fork_tt ?_ | refine fork_ff ?_
    | (refine fork_e (c := true) (by decide) ?_; refine fork_tt ?_) | (refine fork_e (c := false) (by decide) ?_; refine fork_ff ?_)
    | refine fork_t (by omega) ?_ | refine fork_f (by omega) ?_ | (refine fork_d ?_ ?_ <;> intro hc) | refine fork_n ?_ | (refine fork_b ?_ ?_ <;> intro hc)
    | refine AppG.mk (by first | omega | (simp only [List.length_append, List.length_set, List.length_replicate, List.length_take, List.length_drop, List.length_cons, List.length_nil, List.length_map]; omega)) (by dsimp only [List.length_cons, List.length_nil]; omega) (by omega) ?_
    | refine fz_all (by omega) ?_ | (refine smk ?_ ?_; constructor))
          all_goals exact ⟨ret_e rfl⟩
        · skip
          have w1 := (y_quoP hD h2.1 k2.1 hp (show c2.1 ≠ 0 by omega)).1
          have w2 := (y_quoP hD h2.2.1 k2.1 hp (show c2.1 ≠ 0 by omega)).2
          have c1 := (quo_ans (a := a2) (b := c2) hp (show c2.1 ≠ 0 by omega) false).eq.2.2
          have c2' := (quo_ans (a := b2) (b := c2) hp (show c2.1 ≠ 0 by omega) true).eq.2.2
          unfold spQuoPos
          rw [if_pos ha, if_neg hb]
          obtain ⟨u, hu⟩ : ∃ u, u = toAn (quoP a2 c2 p false) := ⟨_, rfl⟩
          obtain ⟨v, hv⟩ : ∃ v, v = toAn (quoP b2 c2 p true) := ⟨_, rfl⟩
          rw [← hu] at w1 c1 ⊢
          rw [← hv] at w2 c2' ⊢
          have w3 := p_both (G := g) u v c1 c2'
          obtain ⟨x, y, c0, hr⟩ := bothA_form u v
          rw [hr] at w3 ⊢
          clear hu hv hr c1 c2'
          have q1 : t1 < 0 := by omega
          have q2 : ¬ t2 < 0 := by omega
          clear sa sb
          refine FC.intro (X := XX) tok Tryz.func14 rfl Tryz.ntmps14 (by rw [Tryz.results14]) (by kernel_rfl) rfl ?_; intro F hG hO
          rw [← hG] at f0 f1 n1 n2 s1 s2 w1 w2 w3
          repeat' ((try (conv => whnf)); first
  | ((with_reducible refine cg ?_); first | refine ceq f0 rfl ?_ | refine ceq f1 rfl ?_ | refine ceq n1 rfl ?_ | refine ceq n2 rfl ?_ | refine ceq s1 rfl ?_ | refine ceq s2 rfl ?_ | refine ceq w1 rfl ?_ | refine ceq w2 rfl ?_ | refine ceq w3 rfl ?_)
  | ((with_reducible refine dg ?_); refine draw_j (A := Bool) (id := 11) (N := 86) (fun x => [(2, .val (.int .i64 p)), (3, .ptr 0 0), (4, .ptr 1 0), (6, .ptr 2 0), (7, .val (.int .i64 0)), (11, .ptr (cond x 3 4) 0), (12, .ptr (cond x 4 3) 0)]) (fun x => [[.val (.bool (decide (a2.1 < 0))), .ws .u64 (d64 a2.1.natAbs), .val (.int .i64 a2.2), .val (.bool (decide (b2.1 < 0))), .ws .u64 (d64 b2.1.natAbs), .val (.int .i64 b2.2)], [.val (.bool (decide (c2.1 < 0))), .ws .u64 (d64 c2.1.natAbs), .val (.int .i64 c2.2), .val (.bool (decide (d2.1 < 0))), .ws .u64 (d64 d2.1.natAbs), .val (.int .i64 d2.2)], [.val (.bool false), .nil, .val (.int .i64 0), .val (.bool false), .nil, .val (.int .i64 0)], [.val (.bool (decide ((cond x d2 c2).1 < 0))), .ws .u64 (d64 (cond x d2 c2).1.natAbs), .val (.int .i64 (cond x d2 c2).2)], [.val (.bool (decide ((cond x c2 d2).1 < 0))), .ws .u64 (d64 (cond x c2 d2).1.natAbs), .val (.int .i64 (cond x c2 d2).2)]]) (fun _ => []) (.take 0 (.take 2 (.alt 1 (.alt 3 (.alt 4 (.alt 5 (.alt 6 (.alt 7 (.fin) (.non)) (.non)) (.non)) (.alt 5 (.alt 4 (.alt 6 (.alt 7 (.fin) (.non)) (.non)) (.non)) (.non))) (.alt 4 (.alt 3 (.alt 5 (.alt 6 (.alt 7 (.fin) (.non)) (.non)) (.non)) (.alt 5 (.alt 3 (.alt 6 (.alt 7 (.fin) (.non)) (.non)) (.alt 6 (.alt 3 (.alt 7 (.fin) (.non)) (.non)) (.non))) (.non))) (.alt 5 (.alt 3 (.alt 4 (.alt 6 (.alt 7 (.fin) (.non)) (.non)) (.non)) (.alt 4 (.alt 3 (.alt 6 (.alt 7 (.fin) (.non)) (.non)) (.alt 6 (.alt 3 (.alt 7 (.fin) (.non)) (.non)) (.non))) (.non))) (.non)))) (.alt 3 (.alt 1 (.alt 4 (.alt 5 (.alt 6 (.alt 7 (.fin) (.non)) (.non)) (.non)) (.alt 5 (.alt 4 (.alt 6 (.alt 7 (.fin) (.non)) (.non)) (.non)) (.non))) (.alt 4 (.alt 1 (.alt 5 (.alt 6 (.alt 7 (.fin) (.non)) (.non)) (.non)) (.alt 5 (.alt 1 (.alt 6 (.alt 7 (.fin) (.non)) (.non)) (.non)) (.non))) (.alt 5 (.alt 1 (.alt 4 (.alt 6 (.alt 7 (.fin) (.non)) (.non)) (.non)) (.alt 4 (.alt 1 (.alt 6 (.alt 7 (.fin) (.non)) (.non)) (.non)) (.non))) (.non)))) (.alt 4 (.alt 1 (.alt 3 (.alt 5 (.alt 6 (.alt 7 (.fin) (.non)) (.non)) (.non)) (.alt 5 (.alt 3 (.alt 6 (.alt 7 (.fin) (.non)) (.non)) (.alt 6 (.alt 3 (.alt 7 (.fin) (.non)) (.non)) (.non))) (.non))) (.alt 3 (.alt 1 (.alt 5 (.alt 6 (.alt 7 (.fin) (.non)) (.non)) (.non)) (.alt 5 (.alt 1 (.alt 6 (.alt 7 (.fin) (.non)) (.non)) (.non)) (.non))) (.alt 5 (.alt 1 (.alt 3 (.alt 6 (.alt 7 (.fin) (.non)) (.non)) (.alt 6 (.alt 3 (.alt 7 (.fin) (.non)) (.non)) (.non))) (.alt 3 (.alt 1 (.alt 6 (.alt 7 (.fin) (.non)) (.non)) (.non)) (.non))) (.non)))) (.alt 5 (.alt 1 (.alt 3 (.alt 4 (.alt 6 (.alt 7 (.fin) (.non)) (.non)) (.non)) (.alt 4 (.alt 3 (.alt 6 (.alt 7 (.fin) (.non)) (.non)) (.alt 6 (.alt 3 (.alt 7 (.fin) (.non)) (.non)) (.non))) (.non))) (.alt 3 (.alt 1 (.alt 4 (.alt 6 (.alt 7 (.fin) (.non)) (.non)) (.non)) (.alt 4 (.alt 1 (.alt 6 (.alt 7 (.fin) (.non)) (.non)) (.non)) (.non))) (.alt 4 (.alt 1 (.alt 3 (.alt 6 (.alt 7 (.fin) (.non)) (.non)) (.alt 6 (.alt 3 (.alt 7 (.fin) (.non)) (.non)) (.non))) (.alt 3 (.alt 1 (.alt 6 (.alt 7 (.fin) (.non)) (.non)) (.non)) (.non))) (.non)))) (.non))))))) tok mixed (by kernel_rfl) (by kernel_rfl) (by intro x; cases x <;> (refine ⟨?_, ?_, ?_⟩ <;> simp [inS, inBB, inBL, inB, hO])) ?_ ?_; rotate_left; intro x; cases x)
  | exact join true ⟨rfl, rfl, rfl, rfl, rfl, rfl, rfl, trivial⟩ ⟨[], rfl⟩ ⟨[], rfl⟩
  | exact join false ⟨rfl, rfl, rfl, rfl, rfl, rfl, rfl, trivial⟩ ⟨[], rfl⟩ ⟨[], rfl⟩
  
  | (with_reducible refine draw_t (id := 11) (.one 0 (.one 1 (.one 2 (.one 3 (.two (.one 4 (.one 5 (.st (.one 6 (.st (.one 7 (.fin))))))) (.one 5 (.one 4 (.st (.one 6 (.st (.one 7 (.fin)))))))))))) tok mixed (by kernel_rfl) (by kernel_rfl) ?_)
  | with_reducible first
    | refine Chk.mk' (by first | omega | exact trivial | (simp only [List.length_append, List.length_set, List.length_replicate, List.length_take, List.length_drop, List.length_cons, List.length_nil, List.length_map]; omega)) ?_
    | refine idx_g (by omega) ?_ | refine idx_l _ rfl (by decide) ?_ | refine BothG.mk ?_ ?_ | refine fork_tt ?_ | refine fork_ff ?_
    | (refine fork_e (c := true) (by decide) ?_; refine fork_tt ?_) | (refine fork_e (c := false) (by decide) ?_; refine fork_ff ?_)
    | refine fork_t (by omega) ?_ | refine fork_f (by omega) ?_ | (refine fork_d ?_ ?_ <;> intro hc) | refine fork_n ?_ | (refine fork_b ?_ ?_ <;> intro hc)
    | refine AppG.mk (by first | omega | (simp only [List.length_append, List.length_set, List.length_replicate, List.length_take, List.length_drop, List.length_cons, List.length_nil, List.length_map]; omega)) (by dsimp only [List.length_cons, List.length_nil]; omega) (by omega) ?_
    | refine fz_all (by omega) ?_ | (refine smk ?_ ?_; constructor))
          all_goals exact ⟨ret_e rfl⟩
      · have hb : ¬ b2.1 < 0 := fun hh => by have := VV_negs (e := b2.2) hh; have := VV_sign (n := a2.1) (e := a2.2); have := h2.2.2; unfold D2.v at this; omega
        have w1 := (y_quoP hD h2.1 k2.2.1 hp (show d2.1 ≠ 0 by omega)).1
        have w2 := (y_quoP hD h2.2.1 k2.1 hp (show c2.1 ≠ 0 by omega)).2
        have c1 := (quo_ans (a := a2) (b := d2) hp (show d2.1 ≠ 0 by omega) false).eq.2.2
        have c2' := (quo_ans (a := b2) (b := c2) hp (show c2.1 ≠ 0 by omega) true).eq.2.2
        unfold spQuoPos
        rw [if_neg ha, if_neg hb]
        obtain ⟨u, hu⟩ : ∃ u, u = toAn (quoP a2 d2 p false) := ⟨_, rfl⟩
        obtain ⟨v, hv⟩ : ∃ v, v = toAn (quoP b2 c2 p true) := ⟨_, rfl⟩
        rw [← hu] at w1 c1 ⊢
        rw [← hv] at w2 c2' ⊢
        have w3 := p_both (G := g) u v c1 c2'
        obtain ⟨x, y, c0, hr⟩ := bothA_form u v
        rw [hr] at w3 ⊢
        clear hu hv hr c1 c2'
        have q1 : ¬ t1 < 0 := by omega
        have q2 : ¬ t2 < 0 := by omega
        clear sa sb
        refine FC.intro (X := XX) tok Tryz.func14 rfl Tryz.ntmps14 (by rw [Tryz.results14]) (by kernel_rfl) rfl ?_; intro F hG hO
        rw [← hG] at f0 f1 n1 n2 s1 s2 w1 w2 w3
        repeat' ((try (conv => whnf)); first
  | ((with_reducible refine cg ?_); first | refine ceq f0 rfl ?_ | refine ceq f1 rfl ?_ | refine ceq n1 rfl ?_ | refine ceq n2 rfl ?_ | refine ceq s1 rfl ?_ | refine ceq s2 rfl ?_ | refine ceq w1 rfl ?_ | refine ceq w2 rfl ?_ | refine ceq w3 rfl ?_)
  | ((with_reducible refine dg ?_); refine draw_j (A := Bool) (id := 11) (N := 86) (fun x => [(2, .val (.int .i64 p)), (3, .ptr 0 0), (4, .ptr 1 0), (6, .ptr 2 0), (7, .val (.int .i64 0)), (11, .ptr (cond x 3 4) 0), (12, .ptr (cond x 4 3) 0)]) (fun x => [[.val (.bool (decide (a2.1 < 0))), .ws .u64 (d64 a2.1.natAbs), .val (.int .i64 a2.2), .val (.bool (decide (b2.1 < 0))), .ws .u64 (d64 b2.1.natAbs), .val (.int .i64 b2.2)], [.val (.bool (decide (c2.1 < 0))), .ws .u64 (d64 c2.1.natAbs), .val (.int .i64 c2.2), .val (.bool (decide (d2.1 < 0))), .ws .u64 (d64 d2.1.natAbs), .val (.int .i64 d2.2)], [.val (.bool false), .nil, .val (.int .i64 0), .val (.bool false), .nil, .val (.int .i64 0)], [.val (.bool (decide ((cond x d2 c2).1 < 0))), .ws .u64 (d64 (cond x d2 c2).1.natAbs), .val (.int .i64 (cond x d2 c2).2)], [.val (.bool (decide ((cond x c2 d2).1 < 0))), .ws .u64 (d64 (cond x c2 d2).1.natAbs), .val (.int .i64 (cond x c2 d2).2)]]) (fun _ => []) (.take 0 (.take 2 (.alt 1 (.alt 3 (.alt 4 (.alt 5 (.alt 6 (.alt 7 (.fin) (.non)) (.non)) (.non)) (.alt 5 (.alt 4 (.alt 6 (.alt 7 (.fin) (.non)) (.non)) (.non)) (.non))) (.alt 4 (.alt 3 (.alt 5 (.alt 6 (.alt 7 (.fin) (.non)) (.non)) (.non)) (.alt 5 (.alt 3 (.alt 6 (.alt 7 (.fin) (.non)) (.non)) (.alt 6 (.alt 3 (.alt 7 (.fin) (.non)) (.non)) (.non))) (.non))) (.alt 5 (.alt 3 (.alt 4 (.alt 6 (.alt 7 (.fin) (.non)) (.non)) (.non)) (.alt 4 (.alt 3 (.alt 6 (.alt 7 (.fin) (.non)) (.non)) (.alt 6 (.alt 3 (.alt 7 (.fin) (.non)) (.non)) (.non))) (.non))) (.non)))) (.alt 3 (.alt 1 (.alt 4 (.alt 5 (.alt 6 (.alt 7 (.fin) (.non)) (.non)) (.non)) (.alt 5 (.alt 4 (.alt 6 (.alt 7 (.fin) (.non)) (.non)) (.non)) (.non))) (.alt 4 (.alt 1 (.alt 5 (.alt 6 (.alt 7 (.fin) (.non)) (.non)) (.non)) (.alt 5 (.alt 1 (.alt 6 (.alt 7 (.fin) (.non)) (.non)) (.non)) (.non))) (.alt 5 (.alt 1 (.alt 4 (.alt 6 (.alt 7 (.fin) (.non)) (.non)) (.non)) (.alt 4 (.alt 1 (.alt 6 (.alt 7 (.fin) (.non)) (.non)) (.non)) (.non))) (.non)))) (.alt 4 (.alt 1 (.alt 3 (.alt 5 (.alt 6 (.alt 7 (.fin) (.non)) (.non)) (.non)) (.alt 5 (.alt 3 (.alt 6 (.alt 7 (.fin) (.non)) (.non)) (.alt 6 (.alt 3 (.alt 7 (.fin) (.non)) (.non)) (.non))) (.non))) (.alt 3 (.alt 1 (.alt 5 (.alt 6 (.alt 7 (.fin) (.non)) (.non)) (.non)) (.alt 5 (.alt 1 (.alt 6 (.alt 7 (.fin) (.non)) (.non)) (.non)) (.non))) (.alt 5 (.alt 1 (.alt 3 (.alt 6 (.alt 7 (.fin) (.non)) (.non)) (.alt 6 (.alt 3 (.alt 7 (.fin) (.non)) (.non)) (.non))) (.alt 3 (.alt 1 (.alt 6 (.alt 7 (.fin) (.non)) (.non)) (.non)) (.non))) (.non)))) (.alt 5 (.alt 1 (.alt 3 (.alt 4 (.alt 6 (.alt 7 (.fin) (.non)) (.non)) (.non)) (.alt 4 (.alt 3 (.alt 6 (.alt 7 (.fin) (.non)) (.non)) (.alt 6 (.alt 3 (.alt 7 (.fin) (.non)) (.non)) (.non))) (.non))) (.alt 3 (.alt 1 (.alt 4 (.alt 6 (.alt 7 (.fin) (.non)) (.non)) (.non)) (.alt 4 (.alt 1 (.alt 6 (.alt 7 (.fin) (.non)) (.non)) (.non)) (.non))) (.alt 4 (.alt 1 (.alt 3 (.alt 6 (.alt 7 (.fin) (.non)) (.non)) (.alt 6 (.alt 3 (.alt 7 (.fin) (.non)) (.non)) (.non))) (.alt 3 (.alt 1 (.alt 6 (.alt 7 (.fin) (.non)) (.non)) (.non)) (.non))) (.non)))) (.non))))))) tok mixed (by kernel_rfl) (by kernel_rfl) (by intro x; cases x <;> (refine ⟨?_, ?_, ?_⟩ <;> simp [inS, inBB, inBL, inB, hO])) ?_ ?_; rotate_left; intro x; cases x)
  | exact join true ⟨rfl, rfl, rfl, rfl, rfl, rfl, rfl, trivial⟩ ⟨[], rfl⟩ ⟨[], rfl⟩
  | exact join false ⟨rfl, rfl, rfl, rfl, rfl, rfl, rfl, trivial⟩ ⟨[], rfl⟩ ⟨[], rfl⟩
  
  | (with_reducible refine draw_t (id := 11) (.one 0 (.one 1 (.one 2 (.one 3 (.two (.one 4 (.one 5 (.st (.one 6 (.st (.one 7 (.fin))))))) (.one 5 (.one 4 (.st (.one 6 (.st (.one 7 (.fin)))))))))))) tok mixed (by kernel_rfl) (by kernel_rfl) ?_)
  | with_reducible first
    | refine Chk.mk' (by first | omega | exact trivial | (simp only [List.length_append, List.length_set, List.length_replicate, List.length_take, List.length_drop, List.length_cons, List.length_nil, List.length_map]; omega)) ?_
    | refine idx_g (by omega) ?_ | refine idx_l _ rfl (by decide) ?_ | refine BothG.mk ?_ ?_ | refine fork_tt ?_ | refine fork_ff ?_
    | (refine fork_e (c := true) (by decide) ?_; refine fork_tt ?_) | (refine fork_e (c := false) (by decide) ?_; refine fork_ff ?_)
    | refine fork_t (by omega) ?_ | refine fork_f (by omega) ?_ | (refine fork_d ?_ ?_ <;> intro hc) | refine fork_n ?_ | (refine fork_b ?_ ?_ <;> intro hc)
    | refine AppG.mk (by first | omega | (simp only [List.length_append, List.length_set, List.length_replicate, List.length_take, List.length_drop, List.length_cons, List.length_nil, List.length_map]; omega)) (by dsimp only [List.length_cons, List.length_nil]; omega) (by omega) ?_
    | refine fz_all (by omega) ?_ | (refine smk ?_ ?_; constructor))
        all_goals exact ⟨ret_e rfl⟩
    · rw [if_neg hdn]
      rw [if_neg hdn, if_neg hc] at f1
      refine FC.intro (X := XX) tok Tryz.func14 rfl Tryz.ntmps14 (by rw [Tryz.results14]) (by kernel_rfl) rfl ?_; intro F hG hO
      rw [← hG] at f0 f1
      repeat' ((try (conv => whnf)); first
  | ((with_reducible refine cg ?_); first | refine ceq f0 rfl ?_ | refine ceq f1 rfl ?_)
  
  | (with_reducible refine draw_t (id := 11) (.one 0 (.one 1 (.one 2 (.one 3 (.two (.one 4 (.one 5 (.st (.one 6 (.st (.one 7 (.fin))))))) (.one 5 (.one 4 (.st (.one 6 (.st (.one 7 (.fin)))))))))))) tok mixed (by kernel_rfl) (by kernel_rfl) ?_)
  | with_reducible first
    | refine Chk.mk' (by first | omega | exact trivial | (simp only [List.length_append, List.length_set, List.length_replicate, List.length_take, List.length_drop, List.length_cons, List.length_nil, List.length_map]; omega)) ?_
    | refine idx_g (by omega) ?_ | refine idx_l _ rfl (by decide) ?_ | refine BothG.mk ?_ ?_ | refine fork_tt ?_ | refine fork_ff ?_
    | (refine fork_e (c := true) (by decide) ?_; refine fork_tt ?_) | (refine fork_e (c := false) (by decide) ?_; refine fork_ff ?_)
    | refine fork_t (by omega) ?_ | refine fork_f (by omega) ?_ | (refine fork_d ?_ ?_ <;> intro hc) | refine fork_n ?_ | (refine fork_b ?_ ?_ <;> intro hc)
    | refine AppG.mk (by first | omega | (simp only [List.length_append, List.length_set, List.length_replicate, List.length_take, List.length_drop, List.length_cons, List.length_nil, List.length_map]; omega)) (by dsimp only [List.length_cons, List.length_nil]; omega) (by omega) ?_
    | refine fz_all (by omega) ?_ | (refine smk ?_ ?_; constructor))
      exact ⟨ret_l _ (lp_spE 4) rfl⟩
end Go.Proofs.YtpjbgmafnheomaaGreatDoor.Sim
namespace Go.Proofs.YtpjbgmafnheomaaGreatDoor.Sim
open Go.RowKit
set_option linter.unusedVariables false
set_option linter.unusedSimpArgs false
set_option maxRecDepth 10000
set_option maxHeartbeats 8000000
variable {G : List (Nat × List Value)}
theorem p_make {a b : D2} (h : GoodS a b) : FC Tryz.prog G 84 [DY a.1 a.2, DY b.1 b.2] (· = spR a b) := by
  have f0 := p_form (G := G) h
  have f1 := p_twins (G := G) h.1 h.2.1
  refine FC.intro (X := XX) tok Tryz.func84 rfl Tryz.ntmps84 (by rw [Tryz.results84]) (by kernel_rfl) rfl ?_; intro F hG hO
  rw [← hG] at f0 f1
  repeat' ((try (conv => whnf)); first
  | ((with_reducible refine cg ?_); first | refine ceq f0 rfl ?_ | refine ceq f1 rfl ?_)
  
  | with_reducible first
    | refine BothG.mk ?_ ?_ | refine fork_tt ?_ | refine fork_ff ?_
    | (refine fork_e (c := true) (by decide) ?_; refine fork_tt ?_) | (refine fork_e (c := false) (by decide) ?_; refine fork_ff ?_)
    | refine fork_t (by omega) ?_ | refine fork_f (by omega) ?_ | (refine fork_d ?_ ?_ <;> intro hc) | refine fork_n ?_ | (refine fork_b ?_ ?_ <;> intro hc)
    | refine fz_all (by omega) ?_ | (refine smk ?_ ?_; constructor))
  exact ⟨ret_e rfl⟩
theorem p_makeX (b1 : Bool) (l1 : List Int) (e1 : Int) (b2 : Bool) (l2 : List Int) (e2 : Int) (o1 : okD 18446744073709551616 l1) (o2 : okD 18446744073709551616 l2) (h : spF b1 l1 e1 b2 l2 e2 = false) : FC Tryz.prog G 84 [Dy b1 l1 e1, Dy b2 l2 e2] (· = spE 2) := by
  have f0 := p_formX (G := G) b1 l1 e1 b2 l2 e2 o1 o2
  rw [h] at f0
  refine FC.intro (X := XX) tok Tryz.func84 rfl Tryz.ntmps84 (by rw [Tryz.results84]) (by kernel_rfl) rfl ?_; intro F hG hO
  rw [← hG] at f0
  repeat' ((try (conv => whnf)); first
  | ((with_reducible refine cg ?_); first | refine ceq f0 rfl ?_)
  
  | with_reducible first
    | refine BothG.mk ?_ ?_ | refine fork_tt ?_ | refine fork_ff ?_
    | (refine fork_e (c := true) (by decide) ?_; refine fork_tt ?_) | (refine fork_e (c := false) (by decide) ?_; refine fork_ff ?_)
    | refine fork_t (by omega) ?_ | refine fork_f (by omega) ?_ | (refine fork_d ?_ ?_ <;> intro hc) | refine fork_n ?_ | (refine fork_b ?_ ?_ <;> intro hc)
    | refine fz_all (by omega) ?_ | (refine smk ?_ ?_; constructor))
  exact ⟨ret_l _ (lp_spE 2) rfl⟩
theorem p_point {a : D2} (h : a.good) : FC Tryz.prog G 41 [DY a.1 a.2] (· = spR a a) := by
  have f0 := p_make (G := G) (a := a) (b := a) ⟨h, h, Int.le_refl _⟩
  refine FC.intro (X := XX) tok Tryz.func41 rfl Tryz.ntmps41 (by rw [Tryz.results41]) (by kernel_rfl) rfl ?_; intro F hG hO
  rw [← hG] at f0
  repeat' ((try (conv => whnf)); first
  | ((with_reducible refine cg ?_); first | refine ceq f0 rfl ?_)
  
  | with_reducible first
    | refine BothG.mk ?_ ?_ | refine fork_tt ?_ | refine fork_ff ?_
    | (refine fork_e (c := true) (by decide) ?_; refine fork_tt ?_) | (refine fork_e (c := false) (by decide) ?_; refine fork_ff ?_)
    | refine fork_t (by omega) ?_ | refine fork_f (by omega) ?_ | (refine fork_d ?_ ?_ <;> intro hc) | refine fork_n ?_ | (refine fork_b ?_ ?_ <;> intro hc)
    | refine fz_all (by omega) ?_ | (refine smk ?_ ?_; constructor))
  exact ⟨ret_e rfl⟩
theorem p_pointX (b : Bool) (l : List Int) (e : Int) (o : okD 18446744073709551616 l) (h : dyF b l e = false) : FC Tryz.prog G 41 [Dy b l e] (· = spE 2) := by
  have f0 := p_makeX (G := G) b l e b l e o o (by unfold spF; rw [h]; rfl)
  have e0 : spE 2 = .tup [SP (0, 0) (0, 0), .val (.int .i64 2)] := rfl
  rw [e0] at f0 ⊢
  refine FC.intro (X := XX) tok Tryz.func41 rfl Tryz.ntmps41 (by rw [Tryz.results41]) (by kernel_rfl) rfl ?_; intro F hG hO
  rw [← hG] at f0
  repeat' ((try (conv => whnf)); first
  | ((with_reducible refine cg ?_); first | refine ceq f0 rfl ?_)
  
  | with_reducible first
    | refine BothG.mk ?_ ?_ | refine fork_tt ?_ | refine fork_ff ?_
    | (refine fork_e (c := true) (by decide) ?_; refine fork_tt ?_) | (refine fork_e (c := false) (by decide) ?_; refine fork_ff ?_)
    | refine fork_t (by omega) ?_ | refine fork_f (by omega) ?_ | (refine fork_d ?_ ?_ <;> intro hc) | refine fork_n ?_ | (refine fork_b ?_ ?_ <;> intro hc)
    | refine fz_all (by omega) ?_ | (refine smk ?_ ?_; constructor))
  exact ⟨ret_e rfl⟩
end Go.Proofs.YtpjbgmafnheomaaGreatDoor.Sim
