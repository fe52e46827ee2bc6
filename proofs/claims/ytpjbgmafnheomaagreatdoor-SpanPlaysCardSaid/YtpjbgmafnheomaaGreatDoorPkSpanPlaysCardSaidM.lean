/-
  Lemmas of SpanPlaysCardSaid, part 13.
-/
import Derived.Test.YtpjbgmafnheomaaGreatDoorPkSpanPlaysCardSaidL
namespace Go.Proofs.YtpjbgmafnheomaaGreatDoor.Sim
open Go.RowKit
set_option linter.unusedVariables false
set_option linter.unusedSimpArgs false
set_option maxRecDepth 10000
set_option maxHeartbeats 8000000
variable {G : Gs}
theorem r_docsign {a : D2} (h : a.good) : FC Tryz.prog G 196 [.agg [.val (.bool (decide (a.1 < 0))), .ws .u64 (d64 a.1.natAbs)]] (· = .val (.int .i64 a.1.sign)) := by
  have f1 := r_zfromg (G := G) h
  have f2 := r_sign (G := G) a.1
  refine ax_i Tryz.func196 Tryz.ntmps196 ?_; intro F hG hO
  rw [← hG] at f1 f2
  repeat' ((try (conv => whnf)); first
 | refine ce f1 ?_ | refine ce f2 ?_
 | with_reducible first | refine ax_s ?_ | (refine ax_f ?_ ?_ <;> try intro hc) | fail)
  exact ⟨ret_e rfl⟩
theorem q_sign {a : D2} (h : a.good) : FC Tryz.prog G 163 [DY a.1 a.2] (· = .val (.int .i64 a.1.sign)) := by
  have f1 := r_docsign (G := G) h
  refine ax_i Tryz.func163 Tryz.ntmps163 ?_; intro F hG hO
  rw [← hG] at f1
  repeat' ((try (conv => whnf)); first
 | refine ce f1 ?_
 | with_reducible first | refine ax_s ?_ | (refine ax_f ?_ ?_ <;> try intro hc) | fail)
  exact ⟨ret_e rfl⟩
theorem outP_tup (a b : D2) {p : Int} (hp : 1 ≤ p ∧ p ≤ 70000) : ∃ x y : D2, ∃ c : Int, outP a b p = .tup [SP x y, .val (.int .i64 c)] := by
  unfold outP bothA
  split
  · exact ⟨_, _, _, rfl⟩
  · exact ⟨_, _, _, rfl⟩
theorem q_sums {x y u v : D2} (hx : x.good) (hy : y.good) (hu : u.good) (hv : v.good) (h1 : x.v ≤ u.v) (h2 : y.v ≤ v.v) {p : Int} (hp : 1 ≤ p ∧ p ≤ 70000) : FC Tryz.prog G 114 [DY x.1 x.2, DY y.1 y.2, DY u.1 u.2, DY v.1 v.2, .val (.int .i64 p)] (· = sumP x u y v p) := by
  have k1 : FC Tryz.prog G 158 [DY x.1 x.2, DY y.1 y.2] (· = addP x y) := r_docadd hx hy
  have k2 : FC Tryz.prog G 158 [DY u.1 u.2, DY v.1 v.2] (· = addP u v) := r_docadd hu hv
  obtain ⟨e1, g1, z1⟩ := (add_ans hx hy).eq
  obtain ⟨e2, g2, z2⟩ := (add_ans hu hv).eq
  have w1 := add_V hx hy
  have w2 := add_V hu hv
  rw [e1] at k1
  rw [e2] at k2
  unfold sumP
  obtain ⟨A, hA⟩ : ∃ A, A = toAn (addP x y) := ⟨_, rfl⟩
  obtain ⟨B, hB⟩ : ∃ B, B = toAn (addP u v) := ⟨_, rfl⟩
  rw [← hA] at k1 g1 z1 w1 ⊢
  rw [← hB] at k2 g2 z2 w2 ⊢
  have k3 := q_told (G := G) A B z1 z2
  by_cases hz : A.c = 0 ∧ B.c = 0
  · rw [if_neg (by omega)]
    rw [bothA_ok hz.1 hz.2] at k3
    have q1 := w1 hz.1
    have q2 := w2 hz.2
    have gA : A.d.good := g1
    have gB : B.d.good := g2
    have k4 := q_out2 (G := G) gA gB p hp
    rw [lst2_ge (by omega), show gst2 A.d B.d = B.d by unfold gst2; split; rfl; exact D2.eq gA gB (by omega)] at k4
    obtain ⟨x0, y0, c0, hO'⟩ := outP_tup A.d B.d hp
    rw [hO'] at k4 ⊢
    clear e1 e2 hA hB w1 w2 hO' q1 q2 gA gB g1 g2
    refine ax_i Tryz.func114 Tryz.ntmps114 ?_; intro F hG hO
    rw [← hG] at k1 k2 k3 k4
    repeat' ((try (conv => whnf)); first
 | refine ce k1 ?_ | refine ce k2 ?_ | refine ce k3 ?_ | refine ce k4 ?_
 | with_reducible first | refine ax_s ?_ | (refine ax_f ?_ ?_ <;> try intro hc) | fail)
    all_goals exact ⟨ret_e rfl⟩
  · rw [if_pos (by omega)]
    rw [bothA_no (by omega)] at k3
    clear e1 e2 hA hB w1 w2 g1 g2
    refine ax_i Tryz.func114 Tryz.ntmps114 ?_; intro F hG hO
    rw [← hG] at k1 k2 k3
    repeat' ((try (conv => whnf)); first
 | refine ce k1 ?_ | refine ce k2 ?_ | refine ce k3 ?_
 | with_reducible first | refine ax_s ?_ | (refine ax_f ?_ ?_ <;> try intro hc) | fail)
    all_goals exact ⟨ret_e rfl⟩
theorem q_longR (b1 : Bool) (l1 : List Int) (e1 : Int) (b2 : Bool) (l2 : List Int) (e2 : Int) (b3 : Bool) (l3 : List Int) (e3 : Int) (b4 : Bool) (l4 : List Int) (e4 : Int) : ∃ t : Bool, FC Tryz.prog G 164 [.sl 3 [.val (.bool b1), .ws .u64 l1, .val (.int .i64 e1), .val (.bool b2), .ws .u64 l2, .val (.int .i64 e2), .val (.bool b3), .ws .u64 l3, .val (.int .i64 e3), .val (.bool b4), .ws .u64 l4, .val (.int .i64 e4)]] (· = .val (.bool t)) := by
  by_cases h1 : 100 < (l1.length : Int)
  · refine ⟨true, ?_⟩
    refine ax_i Tryz.func164 Tryz.ntmps164 ?_; intro F hG hO
    repeat' ((try (conv => whnf)); first
 | (refine ax_l ?_)
 | (refine ax_r ?_)
 | (refine lg ?_; refine rnd0 5 tok ?_)
 | (refine rnd1 ?_)
 | with_reducible first | refine ax_s ?_ | (refine ax_f ?_ ?_ <;> try intro hc) | fail)
    all_goals exact ⟨ret_e rfl⟩
  · skip
    by_cases h2 : 100 < (l2.length : Int)
    · refine ⟨true, ?_⟩
      refine ax_i Tryz.func164 Tryz.ntmps164 ?_; intro F hG hO
      repeat' ((try (conv => whnf)); first
 | (refine ax_l ?_)
 | (refine ax_r ?_)
 | (refine lg ?_; refine rnd0 5 tok ?_)
 | (refine rnd1 ?_)
 | with_reducible first | refine ax_s ?_ | (refine ax_f ?_ ?_ <;> try intro hc) | fail)
      all_goals exact ⟨ret_e rfl⟩
    · skip
      by_cases h3 : 100 < (l3.length : Int)
      · refine ⟨true, ?_⟩
        refine ax_i Tryz.func164 Tryz.ntmps164 ?_; intro F hG hO
        repeat' ((try (conv => whnf)); first
 | (refine ax_l ?_)
 | (refine ax_r ?_)
 | (refine lg ?_; refine rnd0 5 tok ?_)
 | (refine rnd1 ?_)
 | with_reducible first | refine ax_s ?_ | (refine ax_f ?_ ?_ <;> try intro hc) | fail)
        all_goals exact ⟨ret_e rfl⟩
      · skip
        by_cases h4 : 100 < (l4.length : Int)
        · refine ⟨true, ?_⟩
          refine ax_i Tryz.func164 Tryz.ntmps164 ?_; intro F hG hO
          repeat' ((try (conv => whnf)); first
 | (refine ax_l ?_)
 | (refine ax_r ?_)
 | (refine lg ?_; refine rnd0 5 tok ?_)
 | (refine rnd1 ?_)
 | with_reducible first | refine ax_s ?_ | (refine ax_f ?_ ?_ <;> try intro hc) | fail)
          all_goals exact ⟨ret_e rfl⟩
        · skip
          refine ⟨false, ?_⟩
          refine ax_i Tryz.func164 Tryz.ntmps164 ?_; intro F hG hO
          repeat' ((try (conv => whnf)); first
 | (refine ax_l ?_)
 | (refine ax_r ?_)
 | (refine lg ?_; refine rnd0 5 tok ?_)
 | (refine rnd1 ?_)
 | with_reducible first | refine ax_s ?_ | (refine ax_f ?_ ?_ <;> try intro hc) | fail)
          all_goals exact ⟨ret_e rfl⟩
theorem q_long (a b c d : D2) : ∃ t : Bool, FC Tryz.prog G 164 [.sl 3 [.val (.bool (decide (a.1 < 0))), .ws .u64 (d64 a.1.natAbs), .val (.int .i64 a.2), .val (.bool (decide (b.1 < 0))), .ws .u64 (d64 b.1.natAbs), .val (.int .i64 b.2), .val (.bool (decide (c.1 < 0))), .ws .u64 (d64 c.1.natAbs), .val (.int .i64 c.2), .val (.bool (decide (d.1 < 0))), .ws .u64 (d64 d.1.natAbs), .val (.int .i64 d.2)]] (· = .val (.bool t)) := q_longR _ _ _ _ _ _ _ _ _ _ _ _
end Go.Proofs.YtpjbgmafnheomaaGreatDoor.Sim
