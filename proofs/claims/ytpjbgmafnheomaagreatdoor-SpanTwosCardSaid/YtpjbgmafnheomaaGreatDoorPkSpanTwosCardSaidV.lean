/-
  What the statement SpanTwosCardSaid leans on, part 22: the logic of walks, digits, contracts of the functions, the plain law. Conditions stand in each theorem.
-/
import Derived.Test.YtpjbgmafnheomaaGreatDoorPkSpanTwosCardSaidU
import Derived.ChangeSame
namespace Go.Proofs.YtpjbgmafnheomaaGreatDoor.Sim
open Go.RowKit
set_option linter.unusedVariables false
set_option linter.unusedSimpArgs false
set_option maxRecDepth 10000
set_option maxHeartbeats 8000000
theorem chkE_0 {p : Int} {b : Bool} (h : chkE p b = 0) : (1 ≤ p ∧ p ≤ 70000) ∧ b = true := by
  by_cases hp : 1 ≤ p ∧ p ≤ 70000
  · refine ⟨hp, ?_⟩
    unfold chkE at h
    rw [if_neg (by omega)] at h
    cases b
    · exact absurd h (by decide)
    · rfl
  · rw [chkE_bad b hp] at h
    exact absurd h (by decide)
theorem hr_y {r : PV} {t : Int} (h : HoldR r t) : ∃ (x y : D2) (c : Int), r = .tup [SP x y, .val (.int .i64 c)] ∧ GoodS x y := by
  rcases h with h | ⟨x, y, h, g⟩
  · exact ⟨(0, 0), (0, 0), 5, h, GoodS.zero⟩
  · exact ⟨x, y, 0, h, g.1⟩
theorem hq_y {r : PV} {u v : Int} (h : HoldQ r u v) : ∃ (x y : D2) (c : Int), r = .tup [SP x y, .val (.int .i64 c)] ∧ GoodS x y := by
  rcases h with h | ⟨x, y, h, g⟩
  · exact ⟨(0, 0), (0, 0), 5, h, GoodS.zero⟩
  · exact ⟨x, y, 0, h, g.1⟩
theorem s_twos1 {g : List (Nat × List Value)} (hD : (0, debT.map (Value.int .u8)) ∈ g) (b1 : Bool) (l1 : List Int) (e1 : Int) (b2 : Bool) (l2 : List Int) (e2 : Int) (b3 : Bool) (l3 : List Int) (e3 : Int) (b4 : Bool) (l4 : List Int) (e4 : Int) (b5 : Bool) (l5 : List Int) (e5 : Int) {p : Int} (o1 : OKM l1) (o2 : OKM l2) (o3 : OKM l3) (o4 : OKM l4) : FC Tryz.prog g 29 [.agg [.val (.int .i64 (1)), .val (.bool b1), .ws .u64 l1, .val (.int .i64 e1), .val (.bool b2), .ws .u64 l2, .val (.int .i64 e2), .val (.bool b3), .ws .u64 l3, .val (.int .i64 e3), .val (.bool b4), .ws .u64 l4, .val (.int .i64 e4), .val (.bool b5), .ws .u64 l5, .val (.int .i64 e5), .val (.int .i64 p)]] (· = .val (.bool true)) := by
  by_cases hc : chkE p (spF b1 l1 e1 b2 l2 e2 && spF b3 l3 e3 b4 l4 e4) = 0
  · obtain ⟨hp, hF⟩ := chkE_0 hc
    clear hc
    rw [Bool.and_eq_true] at hF
    obtain ⟨a, b, E1, h⟩ := spF_ex o1.1 o2.1 hF.1
    obtain ⟨c, d, E2, k⟩ := spF_ex o3.1 o4.1 hF.2
    cases E1
    cases E2
    obtain ⟨x, y, c0, hr, gg⟩ := hr_y (hold_sum h k (u := a.v) (v := c.v) ⟨Int.le_refl _, h.2.2⟩ ⟨Int.le_refl _, k.2.2⟩ hp)
    have f := p_add hD h k hp
    rw [hr] at f
    exact s_two1 _ _ _ _ _ _ _ _ _ _ _ _ b5 l5 e5 o1 o2 o3 o4 gg.1 gg.2.1 f (q_two1 h k hp hr)
  · exact s_two1 b1 l1 e1 b2 l2 e2 b3 l3 e3 b4 l4 e4 b5 l5 e5 o1 o2 o3 o4 (x := (0, 0)) (y := (0, 0)) Good.zero Good.zero (p_addX b1 l1 e1 b2 l2 e2 o1.1 o2.1 b3 l3 e3 b4 l4 e4 o3.1 o4.1 p hc) (q_twoX b1 l1 e1 b2 l2 e2 o1.1 o2.1 b3 l3 e3 b4 l4 e4 o3.1 o4.1 p (by decide) hc)
theorem s_twos2 {g : List (Nat × List Value)} (hD : (0, debT.map (Value.int .u8)) ∈ g) (b1 : Bool) (l1 : List Int) (e1 : Int) (b2 : Bool) (l2 : List Int) (e2 : Int) (b3 : Bool) (l3 : List Int) (e3 : Int) (b4 : Bool) (l4 : List Int) (e4 : Int) (b5 : Bool) (l5 : List Int) (e5 : Int) {p : Int} (o1 : OKM l1) (o2 : OKM l2) (o3 : OKM l3) (o4 : OKM l4) : FC Tryz.prog g 29 [.agg [.val (.int .i64 (2)), .val (.bool b1), .ws .u64 l1, .val (.int .i64 e1), .val (.bool b2), .ws .u64 l2, .val (.int .i64 e2), .val (.bool b3), .ws .u64 l3, .val (.int .i64 e3), .val (.bool b4), .ws .u64 l4, .val (.int .i64 e4), .val (.bool b5), .ws .u64 l5, .val (.int .i64 e5), .val (.int .i64 p)]] (· = .val (.bool true)) := by
  by_cases hc : chkE p (spF b1 l1 e1 b2 l2 e2 && spF b3 l3 e3 b4 l4 e4) = 0
  · obtain ⟨hp, hF⟩ := chkE_0 hc
    clear hc
    rw [Bool.and_eq_true] at hF
    obtain ⟨a, b, E1, h⟩ := spF_ex o1.1 o2.1 hF.1
    obtain ⟨c, d, E2, k⟩ := spF_ex o3.1 o4.1 hF.2
    cases E1
    cases E2
    obtain ⟨x, y, c0, hr, gg⟩ := hr_y (hold_sum h k.neg (u := a.v) (v := d.neg.v) ⟨Int.le_refl _, h.2.2⟩ ⟨Int.le_refl _, k.neg.2.2⟩ hp)
    have f := p_sub hD h k hp
    rw [hr] at f
    exact s_two2 _ _ _ _ _ _ _ _ _ _ _ _ b5 l5 e5 o1 o2 o3 o4 gg.1 gg.2.1 f (q_two2 h k hp hr)
  · exact s_two2 b1 l1 e1 b2 l2 e2 b3 l3 e3 b4 l4 e4 b5 l5 e5 o1 o2 o3 o4 (x := (0, 0)) (y := (0, 0)) Good.zero Good.zero (p_subX b1 l1 e1 b2 l2 e2 o1.1 o2.1 b3 l3 e3 b4 l4 e4 o3.1 o4.1 p hc) (q_twoX b1 l1 e1 b2 l2 e2 o1.1 o2.1 b3 l3 e3 b4 l4 e4 o3.1 o4.1 p (by decide) hc)
theorem s_twos3 {g : List (Nat × List Value)} (hD : (0, debT.map (Value.int .u8)) ∈ g) (b1 : Bool) (l1 : List Int) (e1 : Int) (b2 : Bool) (l2 : List Int) (e2 : Int) (b3 : Bool) (l3 : List Int) (e3 : Int) (b4 : Bool) (l4 : List Int) (e4 : Int) (b5 : Bool) (l5 : List Int) (e5 : Int) {p : Int} (o1 : OKM l1) (o2 : OKM l2) (o3 : OKM l3) (o4 : OKM l4) : FC Tryz.prog g 29 [.agg [.val (.int .i64 (3)), .val (.bool b1), .ws .u64 l1, .val (.int .i64 e1), .val (.bool b2), .ws .u64 l2, .val (.int .i64 e2), .val (.bool b3), .ws .u64 l3, .val (.int .i64 e3), .val (.bool b4), .ws .u64 l4, .val (.int .i64 e4), .val (.bool b5), .ws .u64 l5, .val (.int .i64 e5), .val (.int .i64 p)]] (· = .val (.bool true)) := by
  by_cases hc : chkE p (spF b1 l1 e1 b2 l2 e2 && spF b3 l3 e3 b4 l4 e4) = 0
  · obtain ⟨hp, hF⟩ := chkE_0 hc
    clear hc
    rw [Bool.and_eq_true] at hF
    obtain ⟨a, b, E1, h⟩ := spF_ex o1.1 o2.1 hF.1
    obtain ⟨c, d, E2, k⟩ := spF_ex o3.1 o4.1 hF.2
    cases E1
    cases E2
    obtain ⟨x, y, c0, hr, gg⟩ := hr_y (hold_mul h k (u := a.v) (v := c.v) ⟨Int.le_refl _, h.2.2⟩ ⟨Int.le_refl _, k.2.2⟩ hp)
    have f := p_mul hD h k hp
    rw [hr] at f
    exact s_two3 _ _ _ _ _ _ _ _ _ _ _ _ b5 l5 e5 o1 o2 o3 o4 gg.1 gg.2.1 f (q_two3 h k hp hr)
  · exact s_two3 b1 l1 e1 b2 l2 e2 b3 l3 e3 b4 l4 e4 b5 l5 e5 o1 o2 o3 o4 (x := (0, 0)) (y := (0, 0)) Good.zero Good.zero (p_mulX b1 l1 e1 b2 l2 e2 o1.1 o2.1 b3 l3 e3 b4 l4 e4 o3.1 o4.1 p hc) (q_twoX b1 l1 e1 b2 l2 e2 o1.1 o2.1 b3 l3 e3 b4 l4 e4 o3.1 o4.1 p (by decide) hc)
theorem s_twos4 {g : List (Nat × List Value)} (hD : (0, debT.map (Value.int .u8)) ∈ g) (b1 : Bool) (l1 : List Int) (e1 : Int) (b2 : Bool) (l2 : List Int) (e2 : Int) (b3 : Bool) (l3 : List Int) (e3 : Int) (b4 : Bool) (l4 : List Int) (e4 : Int) (b5 : Bool) (l5 : List Int) (e5 : Int) {p : Int} (o1 : OKM l1) (o2 : OKM l2) (o3 : OKM l3) (o4 : OKM l4) : FC Tryz.prog g 29 [.agg [.val (.int .i64 (4)), .val (.bool b1), .ws .u64 l1, .val (.int .i64 e1), .val (.bool b2), .ws .u64 l2, .val (.int .i64 e2), .val (.bool b3), .ws .u64 l3, .val (.int .i64 e3), .val (.bool b4), .ws .u64 l4, .val (.int .i64 e4), .val (.bool b5), .ws .u64 l5, .val (.int .i64 e5), .val (.int .i64 p)]] (· = .val (.bool true)) := by
  by_cases hc : chkE p (spF b1 l1 e1 b2 l2 e2) = 0
  · obtain ⟨hp, hF⟩ := chkE_0 hc
    clear hc
    obtain ⟨a, b, E1, h⟩ := spF_ex o1.1 o2.1 hF
    cases E1
    obtain ⟨x, y, c0, hr, gg⟩ := hr_y (hold_sqr h (u := a.v) ⟨Int.le_refl _, h.2.2⟩ hp)
    have f := p_sqr hD h hp
    rw [hr] at f
    exact s_two4 _ _ _ _ _ _ b3 l3 e3 b4 l4 e4 b5 l5 e5 o1 o2 o3 o4 gg.1 gg.2.1 f (q_two4 h b3 l3 e3 b4 l4 e4 hp hr)
  · exact s_two4 b1 l1 e1 b2 l2 e2 b3 l3 e3 b4 l4 e4 b5 l5 e5 o1 o2 o3 o4 (x := (0, 0)) (y := (0, 0)) Good.zero Good.zero (p_sqrX b1 l1 e1 b2 l2 e2 o1.1 o2.1 p hc) (q_twoX4 b1 l1 e1 b2 l2 e2 o1.1 o2.1 b3 l3 e3 b4 l4 e4 o3.1 o4.1 p hc)
theorem s_twos5 {g : List (Nat × List Value)} (hD : (0, debT.map (Value.int .u8)) ∈ g) (b1 : Bool) (l1 : List Int) (e1 : Int) (b2 : Bool) (l2 : List Int) (e2 : Int) (b3 : Bool) (l3 : List Int) (e3 : Int) (b4 : Bool) (l4 : List Int) (e4 : Int) (b5 : Bool) (l5 : List Int) (e5 : Int) {p : Int} (o1 : OKM l1) (o2 : OKM l2) (o3 : OKM l3) (o4 : OKM l4) : FC Tryz.prog g 29 [.agg [.val (.int .i64 (5)), .val (.bool b1), .ws .u64 l1, .val (.int .i64 e1), .val (.bool b2), .ws .u64 l2, .val (.int .i64 e2), .val (.bool b3), .ws .u64 l3, .val (.int .i64 e3), .val (.bool b4), .ws .u64 l4, .val (.int .i64 e4), .val (.bool b5), .ws .u64 l5, .val (.int .i64 e5), .val (.int .i64 p)]] (· = .val (.bool true)) := by
  by_cases hc : chkE p (spF b1 l1 e1 b2 l2 e2 && spF b3 l3 e3 b4 l4 e4) = 0
  · obtain ⟨hp, hF⟩ := chkE_0 hc
    clear hc
    rw [Bool.and_eq_true] at hF
    obtain ⟨a, b, E1, h⟩ := spF_ex o1.1 o2.1 hF.1
    obtain ⟨c, d, E2, k⟩ := spF_ex o3.1 o4.1 hF.2
    cases E1
    cases E2
    have f := p_quo hD h k hp
    cases hz : hasV c d (0, 0) with
    | true =>
      have hr := quo_nought (a := a) (b := b) (p := p) k hz
      rw [hr] at f
      exact s_two5 _ _ _ _ _ _ _ _ _ _ _ _ b5 l5 e5 o1 o2 o3 o4 (x := (0, 0)) (y := (0, 0)) Good.zero Good.zero f (q_two5 h k hp hr)
    | false =>
      rcases hold_quo h k (u := a) (v := c) ⟨Int.le_refl _, h.2.2⟩ ⟨Int.le_refl _, k.2.2⟩ hp hz with ⟨_, hq⟩ | ⟨_, hq⟩
      all_goals
        obtain ⟨x, y, c0, hr, gg⟩ := hq_y hq
        rw [hr] at f
        exact s_two5 _ _ _ _ _ _ _ _ _ _ _ _ b5 l5 e5 o1 o2 o3 o4 gg.1 gg.2.1 f (q_two5 h k hp hr)
  · exact s_two5 b1 l1 e1 b2 l2 e2 b3 l3 e3 b4 l4 e4 b5 l5 e5 o1 o2 o3 o4 (x := (0, 0)) (y := (0, 0)) Good.zero Good.zero (p_quoX b1 l1 e1 b2 l2 e2 o1.1 o2.1 b3 l3 e3 b4 l4 e4 o3.1 o4.1 p hc) (q_twoX b1 l1 e1 b2 l2 e2 o1.1 o2.1 b3 l3 e3 b4 l4 e4 o3.1 o4.1 p (by decide) hc)
theorem l_spanTwos {g : List (Nat × List Value)} (hD : (0, debT.map (Value.int .u8)) ∈ g) (b1 : Bool) (l1 : List Int) (e1 : Int) (b2 : Bool) (l2 : List Int) (e2 : Int) (b3 : Bool) (l3 : List Int) (e3 : Int) (b4 : Bool) (l4 : List Int) (e4 : Int) (p : Int) (o1 : OKM l1) (o2 : OKM l2) (o3 : OKM l3) (o4 : OKM l4) (hp0 : inR .i64 p) : FC Tryz.prog g 6 [Sp b1 l1 e1 b2 l2 e2, Sp b3 l3 e3 b4 l4 e4, .val (.int .i64 p)] (· = .val (.bool true)) := by
  have aw := s_awake hD
  have u1 := s_twos1 (p := p) hD b1 l1 e1 b2 l2 e2 b3 l3 e3 b4 l4 e4 false [] 0 o1 o2 o3 o4
  have v1 := s_twos1 (p := p) hD b3 l3 e3 b4 l4 e4 b1 l1 e1 b2 l2 e2 false [] 0 o3 o4 o1 o2
  have u2 := s_twos2 (p := p) hD b1 l1 e1 b2 l2 e2 b3 l3 e3 b4 l4 e4 false [] 0 o1 o2 o3 o4
  have v2 := s_twos2 (p := p) hD b3 l3 e3 b4 l4 e4 b1 l1 e1 b2 l2 e2 false [] 0 o3 o4 o1 o2
  have u3 := s_twos3 (p := p) hD b1 l1 e1 b2 l2 e2 b3 l3 e3 b4 l4 e4 false [] 0 o1 o2 o3 o4
  have v3 := s_twos3 (p := p) hD b3 l3 e3 b4 l4 e4 b1 l1 e1 b2 l2 e2 false [] 0 o3 o4 o1 o2
  have u4 := s_twos4 (p := p) hD b1 l1 e1 b2 l2 e2 b3 l3 e3 b4 l4 e4 false [] 0 o1 o2 o3 o4
  have v4 := s_twos4 (p := p) hD b3 l3 e3 b4 l4 e4 b1 l1 e1 b2 l2 e2 false [] 0 o3 o4 o1 o2
  have u5 := s_twos5 (p := p) hD b1 l1 e1 b2 l2 e2 b3 l3 e3 b4 l4 e4 false [] 0 o1 o2 o3 o4
  have v5 := s_twos5 (p := p) hD b3 l3 e3 b4 l4 e4 b1 l1 e1 b2 l2 e2 false [] 0 o3 o4 o1 o2
  refine ax_i Tryz.func6 Tryz.ntmps6 (by rw [Tryz.results6]) ?_; intro F hG hO
  rw [← hG] at aw u1 v1 u2 v2 u3 v3 u4 v4 u5 v5
  repeat' ((try (conv => whnf)); first
  | ((with_reducible refine cg ?_); first | refine ceq aw rfl ?_)
  | ((with_reducible refine lg ?_); refine rnd0 6 tok ?_)
  | (with_reducible refine rnd1 ?_)
  | ((with_reducible refine cg ?_); refine call_eq u1 (.cons (.agg (.cons (.refl _) (.cons (.refl _) (.cons (.refl _) (.cons (.refl _) (.cons (.refl _) (.cons (.refl _) (.cons (.refl _) (.cons (.refl _) (.cons (.refl _) (.cons (.refl _) (.cons (.refl _) (.cons (.refl _) (.cons (.refl _) (.cons (.refl _) (.cons (.nil _) (.cons (.refl _) (.cons (.refl _) (.nil))))))))))))))))))) .nil) rfl ?_)
  | ((with_reducible refine cg ?_); refine call_eq v1 (.cons (.agg (.cons (.refl _) (.cons (.refl _) (.cons (.refl _) (.cons (.refl _) (.cons (.refl _) (.cons (.refl _) (.cons (.refl _) (.cons (.refl _) (.cons (.refl _) (.cons (.refl _) (.cons (.refl _) (.cons (.refl _) (.cons (.refl _) (.cons (.refl _) (.cons (.nil _) (.cons (.refl _) (.cons (.refl _) (.nil))))))))))))))))))) .nil) rfl ?_)
  | ((with_reducible refine cg ?_); refine call_eq u2 (.cons (.agg (.cons (.refl _) (.cons (.refl _) (.cons (.refl _) (.cons (.refl _) (.cons (.refl _) (.cons (.refl _) (.cons (.refl _) (.cons (.refl _) (.cons (.refl _) (.cons (.refl _) (.cons (.refl _) (.cons (.refl _) (.cons (.refl _) (.cons (.refl _) (.cons (.nil _) (.cons (.refl _) (.cons (.refl _) (.nil))))))))))))))))))) .nil) rfl ?_)
  | ((with_reducible refine cg ?_); refine call_eq v2 (.cons (.agg (.cons (.refl _) (.cons (.refl _) (.cons (.refl _) (.cons (.refl _) (.cons (.refl _) (.cons (.refl _) (.cons (.refl _) (.cons (.refl _) (.cons (.refl _) (.cons (.refl _) (.cons (.refl _) (.cons (.refl _) (.cons (.refl _) (.cons (.refl _) (.cons (.nil _) (.cons (.refl _) (.cons (.refl _) (.nil))))))))))))))))))) .nil) rfl ?_)
  | ((with_reducible refine cg ?_); refine call_eq u3 (.cons (.agg (.cons (.refl _) (.cons (.refl _) (.cons (.refl _) (.cons (.refl _) (.cons (.refl _) (.cons (.refl _) (.cons (.refl _) (.cons (.refl _) (.cons (.refl _) (.cons (.refl _) (.cons (.refl _) (.cons (.refl _) (.cons (.refl _) (.cons (.refl _) (.cons (.nil _) (.cons (.refl _) (.cons (.refl _) (.nil))))))))))))))))))) .nil) rfl ?_)
  | ((with_reducible refine cg ?_); refine call_eq v3 (.cons (.agg (.cons (.refl _) (.cons (.refl _) (.cons (.refl _) (.cons (.refl _) (.cons (.refl _) (.cons (.refl _) (.cons (.refl _) (.cons (.refl _) (.cons (.refl _) (.cons (.refl _) (.cons (.refl _) (.cons (.refl _) (.cons (.refl _) (.cons (.refl _) (.cons (.nil _) (.cons (.refl _) (.cons (.refl _) (.nil))))))))))))))))))) .nil) rfl ?_)
  | ((with_reducible refine cg ?_); refine call_eq u4 (.cons (.agg (.cons (.refl _) (.cons (.refl _) (.cons (.refl _) (.cons (.refl _) (.cons (.refl _) (.cons (.refl _) (.cons (.refl _) (.cons (.refl _) (.cons (.refl _) (.cons (.refl _) (.cons (.refl _) (.cons (.refl _) (.cons (.refl _) (.cons (.refl _) (.cons (.nil _) (.cons (.refl _) (.cons (.refl _) (.nil))))))))))))))))))) .nil) rfl ?_)
  | ((with_reducible refine cg ?_); refine call_eq v4 (.cons (.agg (.cons (.refl _) (.cons (.refl _) (.cons (.refl _) (.cons (.refl _) (.cons (.refl _) (.cons (.refl _) (.cons (.refl _) (.cons (.refl _) (.cons (.refl _) (.cons (.refl _) (.cons (.refl _) (.cons (.refl _) (.cons (.refl _) (.cons (.refl _) (.cons (.nil _) (.cons (.refl _) (.cons (.refl _) (.nil))))))))))))))))))) .nil) rfl ?_)
  | ((with_reducible refine cg ?_); refine call_eq u5 (.cons (.agg (.cons (.refl _) (.cons (.refl _) (.cons (.refl _) (.cons (.refl _) (.cons (.refl _) (.cons (.refl _) (.cons (.refl _) (.cons (.refl _) (.cons (.refl _) (.cons (.refl _) (.cons (.refl _) (.cons (.refl _) (.cons (.refl _) (.cons (.refl _) (.cons (.nil _) (.cons (.refl _) (.cons (.refl _) (.nil))))))))))))))))))) .nil) rfl ?_)
  | ((with_reducible refine cg ?_); refine call_eq v5 (.cons (.agg (.cons (.refl _) (.cons (.refl _) (.cons (.refl _) (.cons (.refl _) (.cons (.refl _) (.cons (.refl _) (.cons (.refl _) (.cons (.refl _) (.cons (.refl _) (.cons (.refl _) (.cons (.refl _) (.cons (.refl _) (.cons (.refl _) (.cons (.refl _) (.cons (.nil _) (.cons (.refl _) (.cons (.refl _) (.nil))))))))))))))))))) .nil) rfl ?_)
  
  | with_reducible first | refine ax_s ?_ | refine BothG.mk ?_ ?_ | (refine ax_f ?_ ?_ <;> intro hc) | refine smk ?_ | fail)
  all_goals exact ⟨ret_e rfl⟩
end Go.Proofs.YtpjbgmafnheomaaGreatDoor.Sim
namespace Go.Proofs.YtpjbgmafnheomaaGreatDoor.Sim
open Go.RowKit Go.ChangeShapes Go.WideShapes
section
variable {H : Type} {enc : TypeId × Value → H} {P : Program}
theorem post_below2 {f : Func} {s : ChangeSpec} {apart fresh handsOn again : Bool} {W W' : World} {args : Array Value} {v : Value} {ds gs : List (DataW H)} {before pa pv : List MemPlace}
    (hW : DataW.Whole enc P f.params.toList s.vars apart W args.toList ds gs before)
    (hres : ∀ (b : Nat) (sp : Nat → Bool) (hd : Bool), DataW.TrodAll enc P W' b sp hd f.resultTypes.toList (v.resultList f.resultTypes.size) (s.fn H (ds ++ gs)).results [])
    (hargs : ∀ sp : Nat → Bool, (∀ p ∈ before, sp p.block = true) → DataW.TrodAll enc P W' 0 sp true f.params.toList args.toList (s.fn H (ds ++ gs)).args pa)
    (hvars : ∀ sp : Nat → Bool, (∀ p ∈ before, sp p.block = true) → DataW.TrodVars enc P W' sp s.vars (s.fn H (ds ++ gs)).vars pv)
    (hps : before = pa ++ pv) (hb : Below W.heap.size W W')
    (hok : ∀ (j : Nat) (t : TypeId) (r : Value), f.resultTypes[j]? = some t → (v.resultList f.resultTypes.size)[j]? = some r → Value.okWide P W' .any 0 t r) :
    s.post enc P f apart fresh handsOn again W args v W' := by
  have hold : ∀ p ∈ before, (fun b => decide (b < W.heap.size)) p.block = true := fun p hp => by simpa using hW.lt p hp
  have hlt := hW.lt
  refine ⟨ds, gs, before, [], pa, pv, hW, hres _ _ _, hargs _ hold, hvars _ hold, hb.frame _, fun _ => ?_⟩
  obtain ⟨_, _, _, _, _, hz, hn⟩ := hW
  refine ⟨hok, _, _, ([] ++ pa) ++ pv, ⟨[] ++ pa, pv, trodAll_append (hargs _ (fun _ _ => rfl)) (hres _ _ _), hvars _ (fun _ _ => rfl), rfl, ?_, ?_⟩, ?_⟩
  · intro b off hp
    have hm : MemPlace.cell b off ∈ before := by rw [hps]; simpa using hp
    rw [hb.frozen (p := ⟨b, off, none⟩) (hlt _ hm)]
    exact hz b off hm
  · intro ha
    have := hn ha
    rw [hps] at this
    simpa using this
  · intro p hp _
    rw [hps]
    simpa using hp
end
end Go.Proofs.YtpjbgmafnheomaaGreatDoor.Sim
