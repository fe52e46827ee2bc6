/-
  Lemmas of SpanPlaysCardSaid, part 22.
-/
import Derived.Test.YtpjbgmafnheomaaGreatDoorPkSpanPlaysCardSaidU
namespace Go.Proofs.YtpjbgmafnheomaaGreatDoor.Sim
open Go.RowKit
set_option linter.unusedVariables false
set_option linter.unusedSimpArgs false
set_option maxRecDepth 10000
set_option maxHeartbeats 8000000
theorem chkE_0 {p : Int} {b : Bool} (h : chkE p b = 0) : (1 ≤ p ∧ p ≤ 70000) ∧ b = true := by
  by_cases hp : 1 ≤ p ∧ p ≤ 70000
  · refine ⟨hp, ?_⟩
    unfold chkE at h
    rw [if_neg (by omega)] at h
    cases b
    · exact absurd h (by decide)
    · rfl
  · rw [chkE_bad b hp] at h
    exact absurd h (by decide)
theorem hr_y {r : PV} {t : Int} (h : HoldR r t) : ∃ (x y : D2) (c : Int), r = .tup [SP x y, .val (.int .i64 c)] ∧ GoodS x y := by
  rcases h with h | ⟨x, y, h, g⟩
  · exact ⟨(0, 0), (0, 0), 5, h, GoodS.zero⟩
  · exact ⟨x, y, 0, h, g.1⟩
theorem hq_y {r : PV} {u v : Int} (h : HoldQ r u v) : ∃ (x y : D2) (c : Int), r = .tup [SP x y, .val (.int .i64 c)] ∧ GoodS x y := by
  rcases h with h | ⟨x, y, h, g⟩
  · exact ⟨(0, 0), (0, 0), 5, h, GoodS.zero⟩
  · exact ⟨x, y, 0, h, g.1⟩
theorem s_twos1 {g : Gs} (hD : (0, debT.map (Value.int .u8)) ∈ g) (b1 : Bool) (l1 : List Int) (e1 : Int) (b2 : Bool) (l2 : List Int) (e2 : Int) (b3 : Bool) (l3 : List Int) (e3 : Int) (b4 : Bool) (l4 : List Int) (e4 : Int) (b5 : Bool) (l5 : List Int) (e5 : Int) {p : Int} (o1 : OKM l1) (o2 : OKM l2) (o3 : OKM l3) (o4 : OKM l4) : FC Tryz.prog g 29 [OPV 1 b1 l1 e1 b2 l2 e2 b3 l3 e3 b4 l4 e4 b5 l5 e5 p] (· = .val (.bool true)) := by
  by_cases hc : chkE p (spF b1 l1 e1 b2 l2 e2 && spF b3 l3 e3 b4 l4 e4) = 0
  · obtain ⟨hp, hF⟩ := chkE_0 hc
    clear hc
    rw [Bool.and_eq_true] at hF
    obtain ⟨a, b, E1, h⟩ := spF_ex o1.1 o2.1 hF.1
    obtain ⟨c, d, E2, k⟩ := spF_ex o3.1 o4.1 hF.2
    cases E1
    cases E2
    obtain ⟨x, y, c0, hr, gg⟩ := hr_y (hold_sum h k (u := a.v) (v := c.v) ⟨Int.le_refl _, h.2.2⟩ ⟨Int.le_refl _, k.2.2⟩ hp)
    have f := p_add hD h k hp
    rw [hr] at f
    exact s_two1 _ _ _ _ _ _ _ _ _ _ _ _ b5 l5 e5 o1 o2 o3 o4 gg.1 gg.2.1 f (q_two1 h k hp hr)
  · exact s_two1 b1 l1 e1 b2 l2 e2 b3 l3 e3 b4 l4 e4 b5 l5 e5 o1 o2 o3 o4 (x := (0, 0)) (y := (0, 0)) Good.zero Good.zero (p_addX b1 l1 e1 b2 l2 e2 o1.1 o2.1 b3 l3 e3 b4 l4 e4 o3.1 o4.1 p hc) (q_twoX b1 l1 e1 b2 l2 e2 o1.1 o2.1 b3 l3 e3 b4 l4 e4 o3.1 o4.1 p (by decide) hc)
theorem s_twos2 {g : Gs} (hD : (0, debT.map (Value.int .u8)) ∈ g) (b1 : Bool) (l1 : List Int) (e1 : Int) (b2 : Bool) (l2 : List Int) (e2 : Int) (b3 : Bool) (l3 : List Int) (e3 : Int) (b4 : Bool) (l4 : List Int) (e4 : Int) (b5 : Bool) (l5 : List Int) (e5 : Int) {p : Int} (o1 : OKM l1) (o2 : OKM l2) (o3 : OKM l3) (o4 : OKM l4) : FC Tryz.prog g 29 [OPV 2 b1 l1 e1 b2 l2 e2 b3 l3 e3 b4 l4 e4 b5 l5 e5 p] (· = .val (.bool true)) := by
  by_cases hc : chkE p (spF b1 l1 e1 b2 l2 e2 && spF b3 l3 e3 b4 l4 e4) = 0
  · obtain ⟨hp, hF⟩ := chkE_0 hc
    clear hc
    rw [Bool.and_eq_true] at hF
    obtain ⟨a, b, E1, h⟩ := spF_ex o1.1 o2.1 hF.1
    obtain ⟨c, d, E2, k⟩ := spF_ex o3.1 o4.1 hF.2
    cases E1
    cases E2
    obtain ⟨x, y, c0, hr, gg⟩ := hr_y (hold_sum h k.neg (u := a.v) (v := d.neg.v) ⟨Int.le_refl _, h.2.2⟩ ⟨Int.le_refl _, k.neg.2.2⟩ hp)
    have f := p_sub hD h k hp
    rw [hr] at f
    exact s_two2 _ _ _ _ _ _ _ _ _ _ _ _ b5 l5 e5 o1 o2 o3 o4 gg.1 gg.2.1 f (q_two2 h k hp hr)
  · exact s_two2 b1 l1 e1 b2 l2 e2 b3 l3 e3 b4 l4 e4 b5 l5 e5 o1 o2 o3 o4 (x := (0, 0)) (y := (0, 0)) Good.zero Good.zero (p_subX b1 l1 e1 b2 l2 e2 o1.1 o2.1 b3 l3 e3 b4 l4 e4 o3.1 o4.1 p hc) (q_twoX b1 l1 e1 b2 l2 e2 o1.1 o2.1 b3 l3 e3 b4 l4 e4 o3.1 o4.1 p (by decide) hc)
theorem s_twos3 {g : Gs} (hD : (0, debT.map (Value.int .u8)) ∈ g) (b1 : Bool) (l1 : List Int) (e1 : Int) (b2 : Bool) (l2 : List Int) (e2 : Int) (b3 : Bool) (l3 : List Int) (e3 : Int) (b4 : Bool) (l4 : List Int) (e4 : Int) (b5 : Bool) (l5 : List Int) (e5 : Int) {p : Int} (o1 : OKM l1) (o2 : OKM l2) (o3 : OKM l3) (o4 : OKM l4) : FC Tryz.prog g 29 [OPV 3 b1 l1 e1 b2 l2 e2 b3 l3 e3 b4 l4 e4 b5 l5 e5 p] (· = .val (.bool true)) := by
  by_cases hc : chkE p (spF b1 l1 e1 b2 l2 e2 && spF b3 l3 e3 b4 l4 e4) = 0
  · obtain ⟨hp, hF⟩ := chkE_0 hc
    clear hc
    rw [Bool.and_eq_true] at hF
    obtain ⟨a, b, E1, h⟩ := spF_ex o1.1 o2.1 hF.1
    obtain ⟨c, d, E2, k⟩ := spF_ex o3.1 o4.1 hF.2
    cases E1
    cases E2
    obtain ⟨x, y, c0, hr, gg⟩ := hr_y (hold_mul h k (u := a.v) (v := c.v) ⟨Int.le_refl _, h.2.2⟩ ⟨Int.le_refl _, k.2.2⟩ hp)
    have f := p_mul hD h k hp
    rw [hr] at f
    exact s_two3 _ _ _ _ _ _ _ _ _ _ _ _ b5 l5 e5 o1 o2 o3 o4 gg.1 gg.2.1 f (q_two3 h k hp hr)
  · exact s_two3 b1 l1 e1 b2 l2 e2 b3 l3 e3 b4 l4 e4 b5 l5 e5 o1 o2 o3 o4 (x := (0, 0)) (y := (0, 0)) Good.zero Good.zero (p_mulX b1 l1 e1 b2 l2 e2 o1.1 o2.1 b3 l3 e3 b4 l4 e4 o3.1 o4.1 p hc) (q_twoX b1 l1 e1 b2 l2 e2 o1.1 o2.1 b3 l3 e3 b4 l4 e4 o3.1 o4.1 p (by decide) hc)
theorem s_twos4 {g : Gs} (hD : (0, debT.map (Value.int .u8)) ∈ g) (b1 : Bool) (l1 : List Int) (e1 : Int) (b2 : Bool) (l2 : List Int) (e2 : Int) (b3 : Bool) (l3 : List Int) (e3 : Int) (b4 : Bool) (l4 : List Int) (e4 : Int) (b5 : Bool) (l5 : List Int) (e5 : Int) {p : Int} (o1 : OKM l1) (o2 : OKM l2) (o3 : OKM l3) (o4 : OKM l4) : FC Tryz.prog g 29 [OPV 4 b1 l1 e1 b2 l2 e2 b3 l3 e3 b4 l4 e4 b5 l5 e5 p] (· = .val (.bool true)) := by
  by_cases hc : chkE p (spF b1 l1 e1 b2 l2 e2) = 0
  · obtain ⟨hp, hF⟩ := chkE_0 hc
    clear hc
    obtain ⟨a, b, E1, h⟩ := spF_ex o1.1 o2.1 hF
    cases E1
    obtain ⟨x, y, c0, hr, gg⟩ := hr_y (hold_sqr h (u := a.v) ⟨Int.le_refl _, h.2.2⟩ hp)
    have f := p_sqr hD h hp
    rw [hr] at f
    exact s_two4 _ _ _ _ _ _ b3 l3 e3 b4 l4 e4 b5 l5 e5 o1 o2 o3 o4 gg.1 gg.2.1 f (q_two4 h b3 l3 e3 b4 l4 e4 hp hr)
  · exact s_two4 b1 l1 e1 b2 l2 e2 b3 l3 e3 b4 l4 e4 b5 l5 e5 o1 o2 o3 o4 (x := (0, 0)) (y := (0, 0)) Good.zero Good.zero (p_sqrX b1 l1 e1 b2 l2 e2 o1.1 o2.1 p hc) (q_twoX4 b1 l1 e1 b2 l2 e2 o1.1 o2.1 b3 l3 e3 b4 l4 e4 o3.1 o4.1 p hc)
theorem s_twos5 {g : Gs} (hD : (0, debT.map (Value.int .u8)) ∈ g) (b1 : Bool) (l1 : List Int) (e1 : Int) (b2 : Bool) (l2 : List Int) (e2 : Int) (b3 : Bool) (l3 : List Int) (e3 : Int) (b4 : Bool) (l4 : List Int) (e4 : Int) (b5 : Bool) (l5 : List Int) (e5 : Int) {p : Int} (o1 : OKM l1) (o2 : OKM l2) (o3 : OKM l3) (o4 : OKM l4) : FC Tryz.prog g 29 [OPV 5 b1 l1 e1 b2 l2 e2 b3 l3 e3 b4 l4 e4 b5 l5 e5 p] (· = .val (.bool true)) := by
  by_cases hc : chkE p (spF b1 l1 e1 b2 l2 e2 && spF b3 l3 e3 b4 l4 e4) = 0
  · obtain ⟨hp, hF⟩ := chkE_0 hc
    clear hc
    rw [Bool.and_eq_true] at hF
    obtain ⟨a, b, E1, h⟩ := spF_ex o1.1 o2.1 hF.1
    obtain ⟨c, d, E2, k⟩ := spF_ex o3.1 o4.1 hF.2
    cases E1
    cases E2
    have f := p_quo hD h k hp
    cases hz : hasV c d (0, 0) with
    | true =>
      have hr := quo_nought (a := a) (b := b) (p := p) k hz
      rw [hr] at f
      exact s_two5 _ _ _ _ _ _ _ _ _ _ _ _ b5 l5 e5 o1 o2 o3 o4 (x := (0, 0)) (y := (0, 0)) Good.zero Good.zero f (q_two5 h k hp hr)
    | false =>
      rcases hold_quo h k (u := a) (v := c) ⟨Int.le_refl _, h.2.2⟩ ⟨Int.le_refl _, k.2.2⟩ hp hz with ⟨_, hq⟩ | ⟨_, hq⟩
      all_goals
        obtain ⟨x, y, c0, hr, gg⟩ := hq_y hq
        rw [hr] at f
        exact s_two5 _ _ _ _ _ _ _ _ _ _ _ _ b5 l5 e5 o1 o2 o3 o4 gg.1 gg.2.1 f (q_two5 h k hp hr)
  · exact s_two5 b1 l1 e1 b2 l2 e2 b3 l3 e3 b4 l4 e4 b5 l5 e5 o1 o2 o3 o4 (x := (0, 0)) (y := (0, 0)) Good.zero Good.zero (p_quoX b1 l1 e1 b2 l2 e2 o1.1 o2.1 b3 l3 e3 b4 l4 e4 o3.1 o4.1 p hc) (q_twoX b1 l1 e1 b2 l2 e2 o1.1 o2.1 b3 l3 e3 b4 l4 e4 o3.1 o4.1 p (by decide) hc)
end Go.Proofs.YtpjbgmafnheomaaGreatDoor.Sim
