/-
  Lemmas of SpanPlaysCardSaid, part 15.
-/
import Derived.Test.YtpjbgmafnheomaaGreatDoorPkSpanPlaysCardSaidN
namespace Go.Proofs.YtpjbgmafnheomaaGreatDoor.Sim
open Go.RowKit
set_option linter.unusedVariables false
set_option linter.unusedSimpArgs false
set_option maxRecDepth 10000
set_option maxHeartbeats 8000000
variable {G : Gs}
theorem sq_nn (x : Int) : 0 ≤ x * x := by
  rcases Int.le_total 0 x with h | h
  · exact Int.mul_nonneg h h
  · have := Int.mul_nonneg (Int.neg_nonneg_of_nonpos h) (Int.neg_nonneg_of_nonpos h)
    rwa [Int.neg_mul_neg] at this
theorem mul_sq_nn {a : D2} (h : a.good) (hc : (toAn (mulP a a)).c = 0) : 0 ≤ (toAn (mulP a a)).d.v := by
  have e := mul_V h h hc
  refine Int.not_lt.1 fun hn => ?_
  exact absurd (sq_nn a.v) (Int.not_le.2 (e ▸ Int.mul_neg_of_neg_of_pos hn (p2_pos 1048576)))
theorem v_nought : D2.v ((0, 0) : D2) = 0 := by unfold D2.v VV; rw [Int.zero_mul]
theorem lst_nought {x y : D2} (gx : x.good) (gy : y.good) (hx : 0 ≤ x.v) (hy : 0 ≤ y.v) : lst2 (lst2 x y) (0, 0) = (0, 0) := by
  have h := lst2_v x y
  have z := v_nought
  by_cases k : D2.v ((0, 0) : D2) < (lst2 x y).v
  · rw [lst2_lt k]
  · rw [lst2_ge k]; exact D2.eq (lst2_good gx gy) Good.zero (by omega)
theorem gst_nought {x y : D2} (hx : 0 ≤ x.v) (hy : 0 ≤ y.v) : gst2 (gst2 x y) (0, 0) = gst2 x y := by
  have h := gst2_v x y
  have z := v_nought
  exact gst2_ge (by omega)
theorem lpz3 : LpL [.val (.bool false), .nil, .val (.int .i64 0)] [.val (.bool (decide ((((0, 0) : D2)).1 < 0))), .ws .u64 (d64 (((0, 0) : D2)).1.natAbs), .val (.int .i64 (((0, 0) : D2)).2)] := by
  have h := lp_dy0
  cases h with
 | agg h => exact h
def pT5 : Tm := .take 0 (.take 1 (.take 2 (.take 4 (.take 5 (.take 6 (.alt 3 (.alt 7 (.alt 8 (.take 9 (.take 10 (.take 11 (.alt 12 (.alt 13 (.alt 14 (.fin) (.non)) (.non)) (.non))))) (.alt 12 (.alt 8 (.take 9 (.take 10 (.take 11 (.alt 13 (.alt 14 (.fin) (.non)) (.non))))) (.non)) (.non))) (.alt 12 (.alt 7 (.alt 8 (.take 9 (.take 10 (.take 11 (.alt 13 (.alt 14 (.fin) (.non)) (.non))))) (.non)) (.non)) (.non))) (.alt 7 (.alt 3 (.alt 8 (.take 9 (.take 10 (.take 11 (.alt 12 (.alt 13 (.alt 14 (.fin) (.non)) (.non)) (.non))))) (.alt 12 (.alt 8 (.take 9 (.take 10 (.take 11 (.alt 13 (.alt 14 (.fin) (.non)) (.non))))) (.non)) (.non))) (.alt 12 (.alt 3 (.alt 8 (.take 9 (.take 10 (.take 11 (.alt 13 (.alt 14 (.fin) (.non)) (.non))))) (.non)) (.non)) (.non))) (.alt 12 (.alt 3 (.alt 7 (.alt 8 (.take 9 (.take 10 (.take 11 (.alt 13 (.alt 14 (.fin) (.non)) (.non))))) (.non)) (.non)) (.alt 7 (.alt 3 (.alt 8 (.take 9 (.take 10 (.take 11 (.alt 13 (.alt 14 (.fin) (.non)) (.non))))) (.non)) (.non)) (.non))) (.non)))))))))
def pX (a b c d : D2) : PV := .sl 3 [.val (.bool (decide (a.1 < 0))), .ws .u64 (d64 a.1.natAbs), .val (.int .i64 a.2), .val (.bool (decide (b.1 < 0))), .ws .u64 (d64 b.1.natAbs), .val (.int .i64 b.2), .val (.bool (decide (c.1 < 0))), .ws .u64 (d64 c.1.natAbs), .val (.int .i64 c.2), .val (.bool (decide (d.1 < 0))), .ws .u64 (d64 d.1.natAbs), .val (.int .i64 d.2)]
def pX2 (a b : D2) : PV := .sl 3 [.val (.bool (decide (a.1 < 0))), .ws .u64 (d64 a.1.natAbs), .val (.int .i64 a.2), .val (.bool (decide (b.1 < 0))), .ws .u64 (d64 b.1.natAbs), .val (.int .i64 b.2)]
theorem q_products4 {a b c d : D2} (ha : a.good) (hb : b.good) (hc : c.good) (hd : d.good) {p : Int} (hp : 1 ≤ p ∧ p ≤ 70000) : FC Tryz.prog G 116 [.sl 3 [.val (.bool (decide (a.1 < 0))), .ws .u64 (d64 a.1.natAbs), .val (.int .i64 a.2), .val (.bool (decide (a.1 < 0))), .ws .u64 (d64 a.1.natAbs), .val (.int .i64 a.2), .val (.bool (decide (b.1 < 0))), .ws .u64 (d64 b.1.natAbs), .val (.int .i64 b.2), .val (.bool (decide (b.1 < 0))), .ws .u64 (d64 b.1.natAbs), .val (.int .i64 b.2)], .sl 3 [.val (.bool (decide (c.1 < 0))), .ws .u64 (d64 c.1.natAbs), .val (.int .i64 c.2), .val (.bool (decide (d.1 < 0))), .ws .u64 (d64 d.1.natAbs), .val (.int .i64 d.2), .val (.bool (decide (c.1 < 0))), .ws .u64 (d64 c.1.natAbs), .val (.int .i64 c.2), .val (.bool (decide (d.1 < 0))), .ws .u64 (d64 d.1.natAbs), .val (.int .i64 d.2)], .val (.bool false), .val (.int .i64 p)] (· = spMul a b c d p) := by
  have f0 := tup_eta (p := mulP a c) (r_docmul (G := G) ha hc) (mul_ans a c)
  obtain ⟨_, g0, c0⟩ := (mul_ans a c).eq
  have f1 := tup_eta (p := mulP a d) (r_docmul (G := G) ha hd) (mul_ans a d)
  obtain ⟨_, g1, c1⟩ := (mul_ans a d).eq
  have f2 := tup_eta (p := mulP b c) (r_docmul (G := G) hb hc) (mul_ans b c)
  obtain ⟨_, g2, c2⟩ := (mul_ans b c).eq
  have f3 := tup_eta (p := mulP b d) (r_docmul (G := G) hb hd) (mul_ans b d)
  obtain ⟨_, g3, c3⟩ := (mul_ans b d).eq
  unfold spMul
  obtain ⟨u0, hu0⟩ : ∃ u, u = toAn (mulP a c) := ⟨_, rfl⟩
  rw [← hu0] at f0 g0 c0 ⊢
  clear hu0
  obtain ⟨u1, hu1⟩ : ∃ u, u = toAn (mulP a d) := ⟨_, rfl⟩
  rw [← hu1] at f1 g1 c1 ⊢
  clear hu1
  obtain ⟨u2, hu2⟩ : ∃ u, u = toAn (mulP b c) := ⟨_, rfl⟩
  rw [← hu2] at f2 g2 c2 ⊢
  clear hu2
  obtain ⟨u3, hu3⟩ : ∃ u, u = toAn (mulP b d) := ⟨_, rfl⟩
  rw [← hu3] at f3 g3 c3 ⊢
  clear hu3
  have e := q_out4 (G := G) (a := u0.d) (b := u1.d) (c := u2.d) (d := u3.d) g0 g1 g2 g3 p hp
  rw [show lst2 (lst2 (lst2 u0.d u1.d) u2.d) u3.d = least4 u0.d u1.d u2.d u3.d from rfl, show gst2 (gst2 (gst2 u0.d u1.d) u2.d) u3.d = great4 u0.d u1.d u2.d u3.d from rfl] at e
  obtain ⟨x, y, c9, hr⟩ := outP_form (least4 u0.d u1.d u2.d u3.d) (great4 u0.d u1.d u2.d u3.d) p
  rw [hr] at e ⊢
  clear hr
  refine ax_i Tryz.func116 Tryz.ntmps116 ?_; intro F hG hO
  rw [← hG] at f0 f1 f2 f3 e
  repeat' ((try (conv => whnf)); first
 | refine ce f0 ?_ | refine ce f1 ?_ | refine ce f2 ?_ | refine ce f3 ?_
 | (refine cg ?_; refine call_frz 0 (z := 3) rfl (by decide) (by rw [hO]; exact Nat.zero_le _) ?_; refine ce e ?_)
 | (refine RawG.mk ?_; refine Sem.wr rfl (Does.appN (z := 3) (m := 1) rfl rfl rfl elDy zeDy rfl byDy rfl (by decide) (by decide) rfl rfl ?_))
 | (refine RawG.mk ?_; refine Sem.wr rfl (Does.appG (z := 3) (m := 1) rfl rfl rfl rfl elDy zeDy rfl byDy rfl rfl (by decide) rfl (by decide) (by rw [hO]; exact Nat.zero_le _) rfl rfl ?_))
 | (refine dg ?_; refine dgat 11 (.val (.int .i64 0)) (by rfl) ?_; refine draw_p (A := Unit) (id := 5) (N := 50) (fun _ => [(0, (pX a a b b)), (1, (pX c d c d)), (2, .val (.bool false)), (3, .val (.int .i64 (p))), (8, .ptr 0 0), (11, .val (.int .i64 0)), (12, .ptr 1 0), (13, .val (.int .i64 u0.c)), (10, .nil)]) (fun _ => [[.val (.bool false), .nil, .val (.int .i64 0), .val (.bool false), .nil, .val (.int .i64 0)], [vB u0.d, vW u0.d, vE u0.d]]) (fun _ => []) pT5 tok mixed (by kernel_rfl) (by kernel_rfl) (by intro ju; simp [hO]) ?_ ?_; rotate_left; intro ju)
 | exact joinp () [(0, []), (1, [])] rfl rfl rfl ⟨_, rfl⟩
 | (refine dg ?_; refine dgat 11 (.val (.int .i64 1)) (by rfl) ?_; refine draw_p (A := Unit) (id := 5) (N := 50) (fun _ => [(0, (pX a a b b)), (1, (pX c d c d)), (2, .val (.bool false)), (3, .val (.int .i64 (p))), (8, .ptr 0 0), (11, .val (.int .i64 1)), (12, .ptr 1 0), (13, .val (.int .i64 u1.c)), (10, .arr 0 0 1)]) (fun _ => [[.val (.bool false), .nil, .val (.int .i64 0), .val (.bool false), .nil, .val (.int .i64 0)], [vB u1.d, vW u1.d, vE u1.d]]) (fun _ => [some ⟨3, 26, .g [vB u0.d, vW u0.d, vE u0.d]⟩]) pT5 tok mixed (by kernel_rfl) (by kernel_rfl) (by intro ju; simp [hO]) ?_ ?_; rotate_left; intro ju)
 | exact joinp () [(0, []), (2, [])] rfl rfl rfl ⟨_, rfl⟩
 | (refine dg ?_; refine dgat 11 (.val (.int .i64 2)) (by rfl) ?_; refine draw_p (A := Unit) (id := 5) (N := 50) (fun _ => [(0, (pX a a b b)), (1, (pX c d c d)), (2, .val (.bool false)), (3, .val (.int .i64 (p))), (8, .ptr 0 0), (11, .val (.int .i64 2)), (12, .ptr 1 0), (13, .val (.int .i64 u2.c)), (10, .arr 0 0 2)]) (fun _ => [[.val (.bool false), .nil, .val (.int .i64 0), .val (.bool false), .nil, .val (.int .i64 0)], [vB u2.d, vW u2.d, vE u2.d]]) (fun _ => [some ⟨3, 26, .g [vB u0.d, vW u0.d, vE u0.d, vB u1.d, vW u1.d, vE u1.d]⟩]) pT5 tok mixed (by kernel_rfl) (by kernel_rfl) (by intro ju; simp [hO]) ?_ ?_; rotate_left; intro ju)
 | exact joinp () [(0, []), (2, [])] rfl rfl rfl ⟨_, rfl⟩
 | (refine dg ?_; refine dgat 11 (.val (.int .i64 3)) (by rfl) ?_; refine draw_p (A := Unit) (id := 5) (N := 50) (fun _ => [(0, (pX a a b b)), (1, (pX c d c d)), (2, .val (.bool false)), (3, .val (.int .i64 (p))), (8, .ptr 0 0), (11, .val (.int .i64 3)), (12, .ptr 1 0), (13, .val (.int .i64 u3.c)), (10, .arr 0 0 3)]) (fun _ => [[.val (.bool false), .nil, .val (.int .i64 0), .val (.bool false), .nil, .val (.int .i64 0)], [vB u3.d, vW u3.d, vE u3.d]]) (fun _ => [some ⟨3, 26, .g [vB u0.d, vW u0.d, vE u0.d, vB u1.d, vW u1.d, vE u1.d, vB u2.d, vW u2.d, vE u2.d]⟩]) pT5 tok mixed (by kernel_rfl) (by kernel_rfl) (by intro ju; simp [hO]) ?_ ?_; rotate_left; intro ju)
 | exact joinp () [(0, []), (2, [])] rfl rfl rfl ⟨_, rfl⟩
 | (refine ax_l ?_)
 | (refine ax_r ?_)
 | (refine lg ?_; refine rnd0 5 tok ?_)
 | (refine rnd1 ?_)
 | with_reducible first | refine ax_s ?_ | (refine ax_f ?_ ?_ <;> try intro hc) | fail)
  all_goals first
    | exact ⟨ret_l _ (lp_spE _) (by rw [if_pos (by omega), show u0.c = 5 by omega])⟩
    | exact ⟨ret_l _ (lp_spE _) (by rw [if_pos (by omega), show u1.c = 5 by omega])⟩
    | exact ⟨ret_l _ (lp_spE _) (by rw [if_pos (by omega), show u2.c = 5 by omega])⟩
    | exact ⟨ret_l _ (lp_spE _) (by rw [if_pos (by omega), show u3.c = 5 by omega])⟩
    | exact ⟨ret_e (if_neg (by omega)).symm⟩
theorem q_products2 {a b : D2} (ha : a.good) (hb : b.good) {p : Int} (hp : 1 ≤ p ∧ p ≤ 70000) (hz : ¬ (a.1 ≤ 0 ∧ 0 ≤ b.1)) : FC Tryz.prog G 116 [.sl 3 [.val (.bool (decide (a.1 < 0))), .ws .u64 (d64 a.1.natAbs), .val (.int .i64 a.2), .val (.bool (decide (b.1 < 0))), .ws .u64 (d64 b.1.natAbs), .val (.int .i64 b.2)], .sl 3 [.val (.bool (decide (a.1 < 0))), .ws .u64 (d64 a.1.natAbs), .val (.int .i64 a.2), .val (.bool (decide (b.1 < 0))), .ws .u64 (d64 b.1.natAbs), .val (.int .i64 b.2)], .val (.bool false), .val (.int .i64 p)] (· = spSqr a b p) := by
  have f0 := tup_eta (p := mulP a a) (r_docmul (G := G) ha ha) (mul_ans a a)
  obtain ⟨_, g0, c0⟩ := (mul_ans a a).eq
  have f1 := tup_eta (p := mulP b b) (r_docmul (G := G) hb hb) (mul_ans b b)
  obtain ⟨_, g1, c1⟩ := (mul_ans b b).eq
  unfold spSqr
  rw [if_neg hz]
  clear hz
  obtain ⟨u0, hu0⟩ : ∃ u, u = toAn (mulP a a) := ⟨_, rfl⟩
  rw [← hu0] at f0 g0 c0 ⊢
  clear hu0
  obtain ⟨u1, hu1⟩ : ∃ u, u = toAn (mulP b b) := ⟨_, rfl⟩
  rw [← hu1] at f1 g1 c1 ⊢
  clear hu1
  have e := q_out2 (G := G) (a := u0.d) (b := u1.d) g0 g1 p hp
  obtain ⟨x, y, c9, hr⟩ := outP_form (lst2 u0.d u1.d) (gst2 u0.d u1.d) p
  rw [hr] at e ⊢
  clear hr
  refine ax_i Tryz.func116 Tryz.ntmps116 ?_; intro F hG hO
  rw [← hG] at f0 f1 e
  repeat' ((try (conv => whnf)); first
 | refine ce f0 ?_ | refine ce f1 ?_
 | (refine cg ?_; refine call_frz 0 (z := 3) rfl (by decide) (by rw [hO]; exact Nat.zero_le _) ?_; refine ce e ?_)
 | (refine RawG.mk ?_; refine Sem.wr rfl (Does.appN (z := 3) (m := 1) rfl rfl rfl elDy zeDy rfl byDy rfl (by decide) (by decide) rfl rfl ?_))
 | (refine RawG.mk ?_; refine Sem.wr rfl (Does.appG (z := 3) (m := 1) rfl rfl rfl rfl elDy zeDy rfl byDy rfl rfl (by decide) rfl (by decide) (by rw [hO]; exact Nat.zero_le _) rfl rfl ?_))
 | (refine dg ?_; refine dgat 11 (.val (.int .i64 0)) (by rfl) ?_; refine draw_p (A := Unit) (id := 5) (N := 50) (fun _ => [(0, (pX2 a b)), (1, (pX2 a b)), (2, .val (.bool false)), (3, .val (.int .i64 (p))), (8, .ptr 0 0), (11, .val (.int .i64 0)), (12, .ptr 1 0), (13, .val (.int .i64 u0.c)), (10, .nil)]) (fun _ => [[.val (.bool false), .nil, .val (.int .i64 0), .val (.bool false), .nil, .val (.int .i64 0)], [vB u0.d, vW u0.d, vE u0.d]]) (fun _ => []) pT5 tok mixed (by kernel_rfl) (by kernel_rfl) (by intro ju; simp [hO]) ?_ ?_; rotate_left; intro ju)
 | exact joinp () [(0, []), (1, [])] rfl rfl rfl ⟨_, rfl⟩
 | (refine dg ?_; refine dgat 11 (.val (.int .i64 1)) (by rfl) ?_; refine draw_p (A := Unit) (id := 5) (N := 50) (fun _ => [(0, (pX2 a b)), (1, (pX2 a b)), (2, .val (.bool false)), (3, .val (.int .i64 (p))), (8, .ptr 0 0), (11, .val (.int .i64 1)), (12, .ptr 1 0), (13, .val (.int .i64 u1.c)), (10, .arr 0 0 1)]) (fun _ => [[.val (.bool false), .nil, .val (.int .i64 0), .val (.bool false), .nil, .val (.int .i64 0)], [vB u1.d, vW u1.d, vE u1.d]]) (fun _ => [some ⟨3, 26, .g [vB u0.d, vW u0.d, vE u0.d]⟩]) pT5 tok mixed (by kernel_rfl) (by kernel_rfl) (by intro ju; simp [hO]) ?_ ?_; rotate_left; intro ju)
 | exact joinp () [(0, []), (2, [])] rfl rfl rfl ⟨_, rfl⟩
 | (refine ax_l ?_)
 | (refine ax_r ?_)
 | (refine lg ?_; refine rnd0 3 tok ?_)
 | (refine rnd1 ?_)
 | with_reducible first | refine ax_s ?_ | (refine ax_f ?_ ?_ <;> try intro hc) | fail)
  all_goals first
    | exact ⟨ret_l _ (lp_spE _) (by rw [if_pos (by omega), show u0.c = 5 by omega])⟩
    | exact ⟨ret_l _ (lp_spE _) (by rw [if_pos (by omega), show u1.c = 5 by omega])⟩
    | exact ⟨ret_e (if_neg (by omega)).symm⟩
theorem q_products3 {a b : D2} (ha : a.good) (hb : b.good) {p : Int} (hp : 1 ≤ p ∧ p ≤ 70000) (hz : a.1 ≤ 0 ∧ 0 ≤ b.1) : FC Tryz.prog G 116 [.sl 3 [.val (.bool (decide (a.1 < 0))), .ws .u64 (d64 a.1.natAbs), .val (.int .i64 a.2), .val (.bool (decide (b.1 < 0))), .ws .u64 (d64 b.1.natAbs), .val (.int .i64 b.2)], .sl 3 [.val (.bool (decide (a.1 < 0))), .ws .u64 (d64 a.1.natAbs), .val (.int .i64 a.2), .val (.bool (decide (b.1 < 0))), .ws .u64 (d64 b.1.natAbs), .val (.int .i64 b.2)], .val (.bool true), .val (.int .i64 p)] (· = spSqr a b p) := by
  have f0 := tup_eta (p := mulP a a) (r_docmul (G := G) ha ha) (mul_ans a a)
  obtain ⟨_, g0, c0⟩ := (mul_ans a a).eq
  have f1 := tup_eta (p := mulP b b) (r_docmul (G := G) hb hb) (mul_ans b b)
  obtain ⟨_, g1, c1⟩ := (mul_ans b b).eq
  unfold spSqr
  rw [if_pos hz]
  clear hz
  have w0 := mul_sq_nn ha
  have w1 := mul_sq_nn hb
  obtain ⟨u0, hu0⟩ : ∃ u, u = toAn (mulP a a) := ⟨_, rfl⟩
  rw [← hu0] at f0 g0 c0 w0 ⊢
  clear hu0
  obtain ⟨u1, hu1⟩ : ∃ u, u = toAn (mulP b b) := ⟨_, rfl⟩
  rw [← hu1] at f1 g1 c1 w1 ⊢
  clear hu1
  by_cases hz : u0.c = 0 ∧ u1.c = 0
  · obtain ⟨z0, z1⟩ := hz
    rw [if_neg (by omega)]
    have e0 := q_out3 (G := G) (a := u0.d) (b := u1.d) (c := (0, 0)) g0 g1 Good.zero p hp
    rw [lst_nought (x := u0.d) (y := u1.d) g0 g1 (w0 z0) (w1 z1), gst_nought (x := u0.d) (y := u1.d) (w0 z0) (w1 z1)] at e0
    have e := e0.sl0 (C := [.val (.bool (decide (u0.d.1 < 0))), .ws .u64 (d64 u0.d.1.natAbs), .val (.int .i64 u0.d.2), .val (.bool (decide (u1.d.1 < 0))), .ws .u64 (d64 u1.d.1.natAbs), .val (.int .i64 u1.d.2), .val (.bool false), .nil, .val (.int .i64 0)]) (.cons (.refl _) (.cons (.refl _) (.cons (.refl _) (.cons (.refl _) (.cons (.refl _) (.cons (.refl _) (lpz3)))))))
    obtain ⟨x, y, c9, hr⟩ := outP_form (0, 0) (gst2 u0.d u1.d) p
    rw [hr] at e ⊢
    clear hr e0 w0 w1
    rw [z0] at f0
    rw [z1] at f1
    refine ax_i Tryz.func116 Tryz.ntmps116 ?_; intro F hG hO
    rw [← hG] at f0 f1 e
    repeat' ((try (conv => whnf)); first
 | refine ce f0 ?_ | refine ce f1 ?_
 | (refine cg ?_; refine call_frz 0 (z := 3) rfl (by decide) (by rw [hO]; exact Nat.zero_le _) ?_; refine ce e ?_)
 | (refine RawG.mk ?_; refine Sem.wr rfl (Does.appN (z := 3) (m := 1) rfl rfl rfl elDy zeDy rfl byDy rfl (by decide) (by decide) rfl rfl ?_))
 | (refine RawG.mk ?_; refine Sem.wr rfl (Does.appG (z := 3) (m := 1) rfl rfl rfl rfl elDy zeDy rfl byDy rfl rfl (by decide) rfl (by decide) (by rw [hO]; exact Nat.zero_le _) rfl rfl ?_))
 | (refine dg ?_; refine dgat 11 (.val (.int .i64 0)) (by rfl) ?_; refine draw_p (A := Unit) (id := 5) (N := 50) (fun _ => [(0, (pX2 a b)), (1, (pX2 a b)), (2, .val (.bool true)), (3, .val (.int .i64 (p))), (8, .ptr 0 0), (11, .val (.int .i64 0)), (12, .ptr 1 0), (13, .val (.int .i64 0)), (10, .nil)]) (fun _ => [[.val (.bool false), .nil, .val (.int .i64 0), .val (.bool false), .nil, .val (.int .i64 0)], [vB u0.d, vW u0.d, vE u0.d]]) (fun _ => []) pT5 tok mixed (by kernel_rfl) (by kernel_rfl) (by intro ju; simp [hO]) ?_ ?_; rotate_left; intro ju)
 | exact joinp () [(0, []), (1, [])] rfl rfl rfl ⟨_, rfl⟩
 | (refine dg ?_; refine dgat 11 (.val (.int .i64 1)) (by rfl) ?_; refine draw_p (A := Unit) (id := 5) (N := 50) (fun _ => [(0, (pX2 a b)), (1, (pX2 a b)), (2, .val (.bool true)), (3, .val (.int .i64 (p))), (8, .ptr 0 0), (11, .val (.int .i64 1)), (12, .ptr 1 0), (13, .val (.int .i64 0)), (10, .arr 0 0 1)]) (fun _ => [[.val (.bool false), .nil, .val (.int .i64 0), .val (.bool false), .nil, .val (.int .i64 0)], [vB u1.d, vW u1.d, vE u1.d]]) (fun _ => [some ⟨3, 26, .g [vB u0.d, vW u0.d, vE u0.d]⟩]) pT5 tok mixed (by kernel_rfl) (by kernel_rfl) (by intro ju; simp [hO]) ?_ ?_; rotate_left; intro ju)
 | exact joinp () [(0, []), (2, [])] rfl rfl rfl ⟨_, rfl⟩
 | (refine ax_l ?_)
 | (refine ax_r ?_)
 | (refine lg ?_; refine rnd0 3 tok ?_)
 | (refine rnd1 ?_)
 | with_reducible first | refine ax_s ?_ | (refine ax_f ?_ ?_ <;> try intro hc) | fail)
    all_goals exact ⟨ret_e rfl⟩
  · clear w0 w1
    refine ax_i Tryz.func116 Tryz.ntmps116 ?_; intro F hG hO
    rw [← hG] at f0 f1
    repeat' ((try (conv => whnf)); first
 | refine ce f0 ?_ | refine ce f1 ?_
 | (refine RawG.mk ?_; refine Sem.wr rfl (Does.appN (z := 3) (m := 1) rfl rfl rfl elDy zeDy rfl byDy rfl (by decide) (by decide) rfl rfl ?_))
 | (refine RawG.mk ?_; refine Sem.wr rfl (Does.appG (z := 3) (m := 1) rfl rfl rfl rfl elDy zeDy rfl byDy rfl rfl (by decide) rfl (by decide) (by rw [hO]; exact Nat.zero_le _) rfl rfl ?_))
 | (refine dg ?_; refine dgat 11 (.val (.int .i64 0)) (by rfl) ?_; refine draw_p (A := Unit) (id := 5) (N := 50) (fun _ => [(0, (pX2 a b)), (1, (pX2 a b)), (2, .val (.bool true)), (3, .val (.int .i64 (p))), (8, .ptr 0 0), (11, .val (.int .i64 0)), (12, .ptr 1 0), (13, .val (.int .i64 u0.c)), (10, .nil)]) (fun _ => [[.val (.bool false), .nil, .val (.int .i64 0), .val (.bool false), .nil, .val (.int .i64 0)], [vB u0.d, vW u0.d, vE u0.d]]) (fun _ => []) pT5 tok mixed (by kernel_rfl) (by kernel_rfl) (by intro ju; simp [hO]) ?_ ?_; rotate_left; intro ju)
 | exact joinp () [(0, []), (1, [])] rfl rfl rfl ⟨_, rfl⟩
 | (refine dg ?_; refine dgat 11 (.val (.int .i64 1)) (by rfl) ?_; refine draw_p (A := Unit) (id := 5) (N := 50) (fun _ => [(0, (pX2 a b)), (1, (pX2 a b)), (2, .val (.bool true)), (3, .val (.int .i64 (p))), (8, .ptr 0 0), (11, .val (.int .i64 1)), (12, .ptr 1 0), (13, .val (.int .i64 u1.c)), (10, .arr 0 0 1)]) (fun _ => [[.val (.bool false), .nil, .val (.int .i64 0), .val (.bool false), .nil, .val (.int .i64 0)], [vB u1.d, vW u1.d, vE u1.d]]) (fun _ => [some ⟨3, 26, .g [vB u0.d, vW u0.d, vE u0.d]⟩]) pT5 tok mixed (by kernel_rfl) (by kernel_rfl) (by intro ju; simp [hO]) ?_ ?_; rotate_left; intro ju)
 | exact joinp () [(0, []), (2, [])] rfl rfl rfl ⟨_, rfl⟩
 | (refine ax_l ?_)
 | (refine ax_r ?_)
 | (refine lg ?_; refine rnd0 3 tok ?_)
 | (refine rnd1 ?_)
 | with_reducible first | refine ax_s ?_ | (refine ax_f ?_ ?_ <;> try intro hc) | fail)
    all_goals first
      | exact ⟨ret_l _ (lp_spE _) (by rw [if_pos (by omega), show u0.c = 5 by omega])⟩
      | exact ⟨ret_l _ (lp_spE _) (by rw [if_pos (by omega), show u1.c = 5 by omega])⟩
end Go.Proofs.YtpjbgmafnheomaaGreatDoor.Sim
