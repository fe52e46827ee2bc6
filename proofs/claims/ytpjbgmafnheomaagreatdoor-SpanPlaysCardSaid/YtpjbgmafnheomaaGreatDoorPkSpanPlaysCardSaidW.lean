/-
  Lemmas of SpanPlaysCardSaid, part 23.
-/
import Derived.Test.YtpjbgmafnheomaaGreatDoorPkSpanPlaysCardSaidV
namespace Go.Proofs.YtpjbgmafnheomaaGreatDoor.Sim
open Go.RowKit
set_option linter.unusedVariables false
set_option linter.unusedSimpArgs false
set_option maxRecDepth 10000
set_option maxHeartbeats 8000000
variable {G : Gs}
theorem lst2_le {a b : D2} (h : GoodS a b) : lst2 a b = a := lst2_ge (by have := h.2.2; omega)
theorem gst2_le {a b : D2} (h : GoodS a b) : gst2 a b = b := by
  unfold gst2
  split
  · rfl
  · exact D2.eq h.1 h.2.1 (by have := h.2.2; omega)
theorem bothA_any {u v : An} (hu : u.d.good) (hv : v.d.good) : ∃ (x y : D2) (c : Int), bothA u v = .tup [SP x y, .val (.int .i64 c)] ∧ x.good ∧ y.good := by
  unfold bothA
  split
  · exact ⟨(0, 0), (0, 0), 5, rfl, Good.zero, Good.zero⟩
  · exact ⟨u.d, v.d, 0, rfl, hu, hv⟩
theorem q_docout {a b : D2} (h : GoodS a b) {p : Int} (hp : 1 ≤ p ∧ p ≤ 70000) : FC Tryz.prog G 125 [SP a b, .val (.int .i64 p)] (· = outP a b p) := by
  have q1 := q_form (G := G) h
  have k1 := q_out2 (G := G) h.1 h.2.1 p hp
  rw [lst2_le h, gst2_le h] at k1
  obtain ⟨x, y, c, hr⟩ := outP_form a b p
  rw [hr] at k1 ⊢
  clear hr
  refine ax_i Tryz.func125 Tryz.ntmps125 ?_; intro F hG hO
  rw [← hG] at q1 k1
  repeat' ((try (conv => whnf)); first
 | refine ce q1 ?_ | refine ce k1 ?_
 | with_reducible first | refine ax_s ?_ | (refine ax_f ?_ ?_ <;> try intro hc) | fail)
  all_goals exact ⟨ret_e rfl⟩
theorem q_docoutX (b1 : Bool) (l1 : List Int) (e1 : Int) (b2 : Bool) (l2 : List Int) (e2 : Int) (o1 : okD 18446744073709551616 l1) (o2 : okD 18446744073709551616 l2) (p : Int) (h : chkE p (spF b1 l1 e1 b2 l2 e2) ≠ 0) : FC Tryz.prog G 125 [Sp b1 l1 e1 b2 l2 e2, .val (.int .i64 p)] (· = spE (chkE p (spF b1 l1 e1 b2 l2 e2))) := by
  have q1 := q_formX (G := G) b1 l1 e1 b2 l2 e2 o1 o2
  obtain ⟨x, hx⟩ : ∃ x, x = spF b1 l1 e1 b2 l2 e2 := ⟨_, rfl⟩
  rw [← hx] at q1 h ⊢
  clear hx
  by_cases hp : 1 ≤ p ∧ p ≤ 70000
  · cases x with
    | true => exact absurd (chkE_ok hp) h
    | false =>
    rw [show chkE p false = 2 by unfold chkE; rw [if_neg (by omega)]; rfl]
    clear h
    refine ax_i Tryz.func125 Tryz.ntmps125 ?_; intro F hG hO
    rw [← hG] at q1
    repeat' ((try (conv => whnf)); first
 | refine ce q1 ?_
 | with_reducible first | refine ax_s ?_ | (refine ax_f ?_ ?_ <;> try intro hc) | fail)
    all_goals exact ⟨ret_l _ (lp_spE 2) rfl⟩
  · rw [chkE_bad _ hp]
    clear h
    refine ax_i Tryz.func125 Tryz.ntmps125 ?_; intro F hG hO
    rw [← hG] at q1
    repeat' ((try (conv => whnf)); first
 | refine ce q1 ?_
 | with_reducible first | refine ax_s ?_ | (refine ax_f ?_ ?_ <;> try intro hc) | fail)
    all_goals exact ⟨ret_l _ (lp_spE 1) rfl⟩
theorem q_docscale {a b : D2} (h : GoodS a b) (k : Int) (hk : inR .i64 k) : FC Tryz.prog G 126 [SP a b, .val (.int .i64 k)] (· = spScale a b k) := by
  have q1 := q_form (G := G) h
  have k1 := tup_eta (r_docscale (G := G) k h.1 hk) (scale_ans a k)
  have k2 := tup_eta (r_docscale (G := G) k h.2.1 hk) (scale_ans b k)
  have c1 := (scale_ans a k).eq.2.2
  have c2 := (scale_ans b k).eq.2.2
  unfold spScale
  obtain ⟨u, hu⟩ : ∃ u, u = toAn (scaleS a.1 a.2 k) := ⟨_, rfl⟩
  obtain ⟨v, hv⟩ : ∃ v, v = toAn (scaleS b.1 b.2 k) := ⟨_, rfl⟩
  rw [← hu] at k1 c1 ⊢
  rw [← hv] at k2 c2 ⊢
  clear hu hv
  have k3 := q_told (G := G) u v c1 c2
  obtain ⟨x, y, c, hr⟩ := bothA_form u v
  rw [hr] at k3 ⊢
  clear hr c1 c2 hk
  refine ax_i Tryz.func126 Tryz.ntmps126 ?_; intro F hG hO
  rw [← hG] at q1 k1 k2 k3
  repeat' ((try (conv => whnf)); first
 | refine ce q1 ?_ | refine ce k1 ?_ | refine ce k2 ?_ | refine ce k3 ?_
 | with_reducible first | refine ax_s ?_ | (refine ax_f ?_ ?_ <;> try intro hc) | fail)
  all_goals exact ⟨ret_e rfl⟩
theorem q_docscaleX (b1 : Bool) (l1 : List Int) (e1 : Int) (b2 : Bool) (l2 : List Int) (e2 : Int) (o1 : okD 18446744073709551616 l1) (o2 : okD 18446744073709551616 l2) (k : Int) (h : spF b1 l1 e1 b2 l2 e2 = false) : FC Tryz.prog G 126 [Sp b1 l1 e1 b2 l2 e2, .val (.int .i64 k)] (· = spE 2) := by
  have q1 := q_formX (G := G) b1 l1 e1 b2 l2 e2 o1 o2
  rw [h] at q1
  refine ax_i Tryz.func126 Tryz.ntmps126 ?_; intro F hG hO
  rw [← hG] at q1
  repeat' ((try (conv => whnf)); first
 | refine ce q1 ?_
 | with_reducible first | refine ax_s ?_ | (refine ax_f ?_ ?_ <;> try intro hc) | fail)
  all_goals exact ⟨ret_l _ (lp_spE 2) rfl⟩
theorem q_docneg {a b : D2} (h : GoodS a b) : FC Tryz.prog G 127 [SP a b] (· = spR b.neg a.neg) := by
  have q1 := q_form (G := G) h
  have f1 : FC Tryz.prog G 115 [DY b.1 b.2] (· = .tup [DY b.neg.1 b.neg.2, .val (.int .i64 0)]) := r_docneg h.2.1
  have f2 : FC Tryz.prog G 115 [DY a.1 a.2] (· = .tup [DY a.neg.1 a.neg.2, .val (.int .i64 0)]) := r_docneg h.1
  obtain ⟨d', hd⟩ : ∃ r, r = b.neg := ⟨_, rfl⟩
  obtain ⟨c', hc⟩ : ∃ r, r = a.neg := ⟨_, rfl⟩
  rw [← hd] at f1 ⊢
  rw [← hc] at f2 ⊢
  refine ax_i Tryz.func127 Tryz.ntmps127 ?_; intro F hG hO
  rw [← hG] at q1 f1 f2
  repeat' ((try (conv => whnf)); first
 | refine ce q1 ?_ | refine ce f1 ?_ | refine ce f2 ?_
 | with_reducible first | refine ax_s ?_ | (refine ax_f ?_ ?_ <;> try intro hc) | fail)
  all_goals exact ⟨ret_e rfl⟩
theorem q_docnegX (b1 : Bool) (l1 : List Int) (e1 : Int) (b2 : Bool) (l2 : List Int) (e2 : Int) (o1 : okD 18446744073709551616 l1) (o2 : okD 18446744073709551616 l2) (h : spF b1 l1 e1 b2 l2 e2 = false) : FC Tryz.prog G 127 [Sp b1 l1 e1 b2 l2 e2] (· = spE 2) := by
  have q1 := q_formX (G := G) b1 l1 e1 b2 l2 e2 o1 o2
  rw [h] at q1
  refine ax_i Tryz.func127 Tryz.ntmps127 ?_; intro F hG hO
  rw [← hG] at q1
  repeat' ((try (conv => whnf)); first
 | refine ce q1 ?_
 | with_reducible first | refine ax_s ?_ | (refine ax_f ?_ ?_ <;> try intro hc) | fail)
  all_goals exact ⟨ret_l _ (lp_spE 2) rfl⟩
theorem q_dochull {a b c d : D2} (h : GoodS a b) (k : GoodS c d) : FC Tryz.prog G 128 [SP a b, SP c d] (· = spR (lst2 a c) (gst2 b d)) := by
  have q1 := q_form (G := G) h
  have q2 := q_form (G := G) k
  have u1 := q_below (G := G) k.1 h.1
  have u2 := q_below (G := G) h.2.1 k.2.1
  unfold lst2 gst2
  by_cases p1 : c.v < a.v <;> by_cases p2 : b.v < d.v <;> (
    simp only [p1, p2, if_true, if_false, decide_true, decide_false] at u1 u2 ⊢
    clear p1 p2
    refine ax_i Tryz.func128 Tryz.ntmps128 ?_; intro F hG hO
    rw [← hG] at q1 q2 u1 u2
    repeat' ((try (conv => whnf)); first
 | refine ce q1 ?_ | refine ce q2 ?_ | refine ce u1 ?_ | refine ce u2 ?_
 | with_reducible first | refine ax_s ?_ | (refine ax_f ?_ ?_ <;> try intro hc) | fail)
    all_goals exact ⟨ret_e rfl⟩)
theorem q_dochullX (b1 : Bool) (l1 : List Int) (e1 : Int) (b2 : Bool) (l2 : List Int) (e2 : Int) (o1 : okD 18446744073709551616 l1) (o2 : okD 18446744073709551616 l2) (b3 : Bool) (l3 : List Int) (e3 : Int) (b4 : Bool) (l4 : List Int) (e4 : Int) (o3 : okD 18446744073709551616 l3) (o4 : okD 18446744073709551616 l4) (h : (spF b1 l1 e1 b2 l2 e2 && spF b3 l3 e3 b4 l4 e4) = false) : FC Tryz.prog G 128 [Sp b1 l1 e1 b2 l2 e2, Sp b3 l3 e3 b4 l4 e4] (· = spE 2) := by
  have q1 := q_formX (G := G) b1 l1 e1 b2 l2 e2 o1 o2
  have q2 := q_formX (G := G) b3 l3 e3 b4 l4 e4 o3 o4
  obtain ⟨x, hx⟩ : ∃ x, x = spF b1 l1 e1 b2 l2 e2 := ⟨_, rfl⟩
  obtain ⟨y, hy⟩ : ∃ y, y = spF b3 l3 e3 b4 l4 e4 := ⟨_, rfl⟩
  rw [← hx] at q1 h
  rw [← hy] at q2 h
  clear hx hy
  cases x
  · clear q2 h
    refine ax_i Tryz.func128 Tryz.ntmps128 ?_; intro F hG hO
    rw [← hG] at q1
    repeat' ((try (conv => whnf)); first
 | refine ce q1 ?_
 | with_reducible first | refine ax_s ?_ | (refine ax_f ?_ ?_ <;> try intro hc) | fail)
    all_goals exact ⟨ret_l _ (lp_spE 2) rfl⟩
  · rw [Bool.true_and] at h
    subst h
    refine ax_i Tryz.func128 Tryz.ntmps128 ?_; intro F hG hO
    rw [← hG] at q1 q2
    repeat' ((try (conv => whnf)); first
 | refine ce q1 ?_ | refine ce q2 ?_
 | with_reducible first | refine ax_s ?_ | (refine ax_f ?_ ?_ <;> try intro hc) | fail)
    all_goals exact ⟨ret_l _ (lp_spE 2) rfl⟩
theorem q_docmeet {a b c d : D2} (h : GoodS a b) (k : GoodS c d) : FC Tryz.prog G 129 [SP a b, SP c d] (· = if (gst2 a c).v ≤ (lst2 b d).v then .tup [SP (gst2 a c) (lst2 b d), .val (.bool true), .val (.int .i64 0)] else .tup [SP (0, 0) (0, 0), .val (.bool false), .val (.int .i64 0)]) := by
  have q1 := q_form (G := G) h
  have q2 := q_form (G := G) k
  have u1 := q_below (G := G) h.1 k.1
  have u2 := q_below (G := G) k.2.1 h.2.1
  have u3 := q_below (G := G) (lst2_good h.2.1 k.2.1) (gst2_good h.1 k.1)
  unfold lst2 gst2 at u3 ⊢
  by_cases p1 : a.v < c.v <;> by_cases p2 : d.v < b.v <;> (
    simp only [p1, p2, if_true, if_false, decide_true, decide_false] at u1 u2 u3 ⊢
    clear p1 p2)
  all_goals
    split
    · next hv =>
      rw [decide_eq_false (Int.not_lt.2 hv)] at u3
      clear hv
      refine ax_i Tryz.func129 Tryz.ntmps129 ?_; intro F hG hO
      rw [← hG] at q1 q2 u1 u2 u3
      repeat' ((try (conv => whnf)); first
 | refine ce q1 ?_ | refine ce q2 ?_ | refine ce u1 ?_ | refine ce u2 ?_ | refine ce u3 ?_
 | with_reducible first | refine ax_s ?_ | (refine ax_f ?_ ?_ <;> try intro hc) | fail)
      all_goals exact ⟨ret_e rfl⟩
    · next hv =>
      rw [decide_eq_true (Int.not_le.1 hv)] at u3
      clear hv
      refine ax_i Tryz.func129 Tryz.ntmps129 ?_; intro F hG hO
      rw [← hG] at q1 q2 u1 u2 u3
      repeat' ((try (conv => whnf)); first
 | refine ce q1 ?_ | refine ce q2 ?_ | refine ce u1 ?_ | refine ce u2 ?_ | refine ce u3 ?_
 | with_reducible first | refine ax_s ?_ | (refine ax_f ?_ ?_ <;> try intro hc) | fail)
      all_goals exact ⟨ret_l _ (.tup (.cons lp_sp0 (.cons (.refl _) (.cons (.refl _) .nil)))) rfl⟩
theorem q_docmeetX (b1 : Bool) (l1 : List Int) (e1 : Int) (b2 : Bool) (l2 : List Int) (e2 : Int) (o1 : okD 18446744073709551616 l1) (o2 : okD 18446744073709551616 l2) (b3 : Bool) (l3 : List Int) (e3 : Int) (b4 : Bool) (l4 : List Int) (e4 : Int) (o3 : okD 18446744073709551616 l3) (o4 : okD 18446744073709551616 l4) (h : (spF b1 l1 e1 b2 l2 e2 && spF b3 l3 e3 b4 l4 e4) = false) : FC Tryz.prog G 129 [Sp b1 l1 e1 b2 l2 e2, Sp b3 l3 e3 b4 l4 e4] (· = .tup [SP (0, 0) (0, 0), .val (.bool false), .val (.int .i64 2)]) := by
  have q1 := q_formX (G := G) b1 l1 e1 b2 l2 e2 o1 o2
  have q2 := q_formX (G := G) b3 l3 e3 b4 l4 e4 o3 o4
  obtain ⟨x, hx⟩ : ∃ x, x = spF b1 l1 e1 b2 l2 e2 := ⟨_, rfl⟩
  obtain ⟨y, hy⟩ : ∃ y, y = spF b3 l3 e3 b4 l4 e4 := ⟨_, rfl⟩
  rw [← hx] at q1 h
  rw [← hy] at q2 h
  clear hx hy
  cases x
  · clear q2 h
    refine ax_i Tryz.func129 Tryz.ntmps129 ?_; intro F hG hO
    rw [← hG] at q1
    repeat' ((try (conv => whnf)); first
 | refine ce q1 ?_
 | with_reducible first | refine ax_s ?_ | (refine ax_f ?_ ?_ <;> try intro hc) | fail)
    all_goals exact ⟨ret_l _ (.tup (.cons lp_sp0 (.cons (.refl _) (.cons (.refl _) .nil)))) rfl⟩
  · rw [Bool.true_and] at h
    subst h
    refine ax_i Tryz.func129 Tryz.ntmps129 ?_; intro F hG hO
    rw [← hG] at q1 q2
    repeat' ((try (conv => whnf)); first
 | refine ce q1 ?_ | refine ce q2 ?_
 | with_reducible first | refine ax_s ?_ | (refine ax_f ?_ ?_ <;> try intro hc) | fail)
    all_goals exact ⟨ret_l _ (.tup (.cons lp_sp0 (.cons (.refl _) (.cons (.refl _) .nil)))) rfl⟩
theorem q_docmake {a b : D2} (h : GoodS a b) : FC Tryz.prog G 131 [DY a.1 a.2, DY b.1 b.2] (· = spR a b) := by
  have q1 := q_form (G := G) h
  refine ax_i Tryz.func131 Tryz.ntmps131 ?_; intro F hG hO
  rw [← hG] at q1
  repeat' ((try (conv => whnf)); first
 | refine ce q1 ?_
 | with_reducible first | refine ax_s ?_ | (refine ax_f ?_ ?_ <;> try intro hc) | fail)
  all_goals exact ⟨ret_e rfl⟩
theorem q_docmakeX (b1 : Bool) (l1 : List Int) (e1 : Int) (b2 : Bool) (l2 : List Int) (e2 : Int) (o1 : okD 18446744073709551616 l1) (o2 : okD 18446744073709551616 l2) (h : spF b1 l1 e1 b2 l2 e2 = false) : FC Tryz.prog G 131 [Dy b1 l1 e1, Dy b2 l2 e2] (· = spE 2) := by
  have q1 := q_formX (G := G) b1 l1 e1 b2 l2 e2 o1 o2
  rw [h] at q1
  refine ax_i Tryz.func131 Tryz.ntmps131 ?_; intro F hG hO
  rw [← hG] at q1
  repeat' ((try (conv => whnf)); first
 | refine ce q1 ?_
 | with_reducible first | refine ax_s ?_ | (refine ax_f ?_ ?_ <;> try intro hc) | fail)
  all_goals exact ⟨ret_l _ (lp_spE 2) rfl⟩
theorem q_docpoint {a : D2} (h : a.good) : FC Tryz.prog G 130 [DY a.1 a.2] (· = spR a a) := by
  have q1 : FC Tryz.prog G 131 [DY a.1 a.2, DY a.1 a.2] (· = .tup [SP a a, .val (.int .i64 0)]) := q_docmake ⟨h, h, Int.le_refl _⟩
  refine ax_i Tryz.func130 Tryz.ntmps130 ?_; intro F hG hO
  rw [← hG] at q1
  repeat' ((try (conv => whnf)); first
 | refine ce q1 ?_
 | with_reducible first | refine ax_s ?_ | (refine ax_f ?_ ?_ <;> try intro hc) | fail)
  all_goals exact ⟨ret_e rfl⟩
theorem q_docpointX (b : Bool) (l : List Int) (e : Int) (o : okD 18446744073709551616 l) (h : spF b l e b l e = false) : FC Tryz.prog G 130 [Dy b l e] (· = spE 2) := by
  have q1 : FC Tryz.prog G 131 [Dy b l e, Dy b l e] (· = .tup [SP (0, 0) (0, 0), .val (.int .i64 2)]) := q_docmakeX b l e b l e o o h
  refine ax_i Tryz.func130 Tryz.ntmps130 ?_; intro F hG hO
  rw [← hG] at q1
  repeat' ((try (conv => whnf)); first
 | refine ce q1 ?_
 | with_reducible first | refine ax_s ?_ | (refine ax_f ?_ ?_ <;> try intro hc) | fail)
  all_goals exact ⟨ret_e rfl⟩
theorem q_docwidth {a b : D2} (h : GoodS a b) : FC Tryz.prog G 133 [SP a b] (· = addP b a.neg) := by
  have q1 := q_form (G := G) h
  have k1 : FC Tryz.prog G 170 [DY b.1 b.2, DY a.1 a.2] (· = addP b a.neg) := r_docsub h.2.1 h.1
  have k1 := tup_eta k1 (add_ans h.2.1 (D2.neg_good h.1))
  have e1 := (add_ans h.2.1 (D2.neg_good h.1)).eq.1
  rw [e1]
  obtain ⟨u, hu⟩ : ∃ u, u = toAn (addP b a.neg) := ⟨_, rfl⟩
  rw [← hu] at k1 ⊢
  clear hu e1
  unfold An.pv
  refine ax_i Tryz.func133 Tryz.ntmps133 ?_; intro F hG hO
  rw [← hG] at q1 k1
  repeat' ((try (conv => whnf)); first
 | refine ce q1 ?_ | refine ce k1 ?_
 | with_reducible first | refine ax_s ?_ | (refine ax_f ?_ ?_ <;> try intro hc) | fail)
  all_goals exact ⟨ret_e rfl⟩
theorem q_docwidthX (b1 : Bool) (l1 : List Int) (e1 : Int) (b2 : Bool) (l2 : List Int) (e2 : Int) (o1 : okD 18446744073709551616 l1) (o2 : okD 18446744073709551616 l2) (h : spF b1 l1 e1 b2 l2 e2 = false) : FC Tryz.prog G 133 [Sp b1 l1 e1 b2 l2 e2] (· = dyE 2) := by
  have q1 := q_formX (G := G) b1 l1 e1 b2 l2 e2 o1 o2
  rw [h] at q1
  refine ax_i Tryz.func133 Tryz.ntmps133 ?_; intro F hG hO
  rw [← hG] at q1
  repeat' ((try (conv => whnf)); first
 | refine ce q1 ?_
 | with_reducible first | refine ax_s ?_ | (refine ax_f ?_ ?_ <;> try intro hc) | fail)
  all_goals exact ⟨ret_l _ (lp_dyE 2) rfl⟩
theorem q_docSign {a b : D2} (h : GoodS a b) : FC Tryz.prog G 134 [SP a b] (· = .tup [.val (.int .i64 (if b.1 < 0 then -1 else if 0 < a.1 then 1 else 0)), .val (.int .i64 0)]) := by
  have q1 := q_form (G := G) h
  have v1 := q_sign (G := G) h.1
  have v2 := q_sign (G := G) h.2.1
  have w1 := sign3 a.1
  have w2 := sign3 b.1
  obtain ⟨t1, h1⟩ : ∃ t, t = a.1.sign := ⟨_, rfl⟩
  obtain ⟨t2, h2⟩ : ∃ t, t = b.1.sign := ⟨_, rfl⟩
  rw [← h1] at v1 w1
  rw [← h2] at v2 w2
  clear h1 h2
  by_cases p2 : b.1 < 0
  · rw [if_pos p2]
    have y2 : t2 < 0 := by omega
    clear w1 w2
    refine ax_i Tryz.func134 Tryz.ntmps134 ?_; intro F hG hO
    rw [← hG] at q1 v1 v2
    repeat' ((try (conv => whnf)); first
 | refine ce q1 ?_ | refine ce v1 ?_ | refine ce v2 ?_
 | with_reducible first | refine ax_s ?_ | (refine ax_f ?_ ?_ <;> try intro hc) | fail)
    all_goals exact ⟨ret_e rfl⟩
  · rw [if_neg p2]
    have y2 : ¬ t2 < 0 := by omega
    by_cases p1 : 0 < a.1
    · rw [if_pos p1]
      have y1 : 0 < t1 := by omega
      clear w1 w2
      refine ax_i Tryz.func134 Tryz.ntmps134 ?_; intro F hG hO
      rw [← hG] at q1 v1 v2
      repeat' ((try (conv => whnf)); first
 | refine ce q1 ?_ | refine ce v1 ?_ | refine ce v2 ?_
 | with_reducible first | refine ax_s ?_ | (refine ax_f ?_ ?_ <;> try intro hc) | fail)
      all_goals exact ⟨ret_e rfl⟩
    · rw [if_neg p1]
      have y1 : ¬ 0 < t1 := by omega
      clear w1 w2
      refine ax_i Tryz.func134 Tryz.ntmps134 ?_; intro F hG hO
      rw [← hG] at q1 v1 v2
      repeat' ((try (conv => whnf)); first
 | refine ce q1 ?_ | refine ce v1 ?_ | refine ce v2 ?_
 | with_reducible first | refine ax_s ?_ | (refine ax_f ?_ ?_ <;> try intro hc) | fail)
      all_goals exact ⟨ret_e rfl⟩
theorem q_docSignX (b1 : Bool) (l1 : List Int) (e1 : Int) (b2 : Bool) (l2 : List Int) (e2 : Int) (o1 : okD 18446744073709551616 l1) (o2 : okD 18446744073709551616 l2) (h : spF b1 l1 e1 b2 l2 e2 = false) : FC Tryz.prog G 134 [Sp b1 l1 e1 b2 l2 e2] (· = .tup [.val (.int .i64 0), .val (.int .i64 2)]) := by
  have q1 := q_formX (G := G) b1 l1 e1 b2 l2 e2 o1 o2
  rw [h] at q1
  refine ax_i Tryz.func134 Tryz.ntmps134 ?_; intro F hG hO
  rw [← hG] at q1
  repeat' ((try (conv => whnf)); first
 | refine ce q1 ?_
 | with_reducible first | refine ax_s ?_ | (refine ax_f ?_ ?_ <;> try intro hc) | fail)
  all_goals exact ⟨ret_e rfl⟩
theorem q_dochas {a b d : D2} (h : GoodS a b) (k : d.good) : FC Tryz.prog G 135 [SP a b, DY d.1 d.2] (· = .tup [.val (.bool (hasV a b d)), .val (.int .i64 0)]) := by
  have q1 := q_form (G := G) h
  have q2 := r_formg (G := G) k
  have q3 := q_holds (G := G) h k
  refine ax_i Tryz.func135 Tryz.ntmps135 ?_; intro F hG hO
  rw [← hG] at q1 q2 q3
  repeat' ((try (conv => whnf)); first
 | refine ce q1 ?_ | refine ce q2 ?_ | refine ce q3 ?_
 | with_reducible first | refine ax_s ?_ | (refine ax_f ?_ ?_ <;> try intro hc) | fail)
  all_goals exact ⟨ret_e rfl⟩
theorem q_dochasX (b1 : Bool) (l1 : List Int) (e1 : Int) (b2 : Bool) (l2 : List Int) (e2 : Int) (o1 : okD 18446744073709551616 l1) (o2 : okD 18446744073709551616 l2) (b3 : Bool) (l3 : List Int) (e3 : Int) (o3 : okD 18446744073709551616 l3) (h : (spF b1 l1 e1 b2 l2 e2 && dyF b3 l3 e3) = false) : FC Tryz.prog G 135 [Sp b1 l1 e1 b2 l2 e2, Dy b3 l3 e3] (· = .tup [.val (.bool false), .val (.int .i64 2)]) := by
  have q1 := q_formX (G := G) b1 l1 e1 b2 l2 e2 o1 o2
  obtain ⟨x, hx⟩ : ∃ x, x = spF b1 l1 e1 b2 l2 e2 := ⟨_, rfl⟩
  rw [← hx] at q1 h
  clear hx
  cases x
  · clear h
    refine ax_i Tryz.func135 Tryz.ntmps135 ?_; intro F hG hO
    rw [← hG] at q1
    repeat' ((try (conv => whnf)); first
 | refine ce q1 ?_
 | with_reducible first | refine ax_s ?_ | (refine ax_f ?_ ?_ <;> try intro hc) | fail)
    all_goals exact ⟨ret_e rfl⟩
  · rw [Bool.true_and] at h
    have q2 := r_formN (G := G) b3 l3 e3 o3 h
    refine ax_i Tryz.func135 Tryz.ntmps135 ?_; intro F hG hO
    rw [← hG] at q1 q2
    repeat' ((try (conv => whnf)); first
 | refine ce q1 ?_ | refine ce q2 ?_
 | with_reducible first | refine ax_s ?_ | (refine ax_f ?_ ?_ <;> try intro hc) | fail)
    all_goals exact ⟨ret_e rfl⟩
end Go.Proofs.YtpjbgmafnheomaaGreatDoor.Sim
