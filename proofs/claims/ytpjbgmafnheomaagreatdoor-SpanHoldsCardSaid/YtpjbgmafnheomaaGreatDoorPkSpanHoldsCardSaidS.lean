/-
  What the statement SpanHoldsCardSaid leans on, part 19: the logic of walks, digits, contracts of the functions, the plain law. Conditions stand in each theorem.
-/
import Derived.Test.YtpjbgmafnheomaaGreatDoorPkSpanHoldsCardSaidR
import Derived.ChangeSame
namespace Go.Proofs.YtpjbgmafnheomaaGreatDoor.Sim
open Go.RowKit
set_option linter.unusedVariables false
set_option linter.unusedSimpArgs false
set_option maxRecDepth 10000
set_option maxHeartbeats 8000000
theorem l_holds1 {g : List (Nat × List Value)} (hD : (0, debT.map (Value.int .u8)) ∈ g) {a b c d u v : D2} (gab : GoodS a b) (gcd : GoodS c d) (gu : u.good) (gv : v.good) {p : Int} (hp : 1 ≤ p ∧ p ≤ 70000) : FC Tryz.prog g 7 [SP a b, SP c d, DY u.1 u.2, DY v.1 v.2, .val (.int .i64 p)] (· = .val (.bool true)) := by
  cases h0 : hasV c d (0, 0) with
  | true => exact l_holdsN hD gab gcd gu gv hp h0
  | false =>
    obtain ⟨_, hW⟩ := insd_ok gcd gv
    rcases hold_quo gab gcd (u := a) (v := insd c d v) ⟨Int.le_refl _, gab.2.2⟩ hW hp h0 with ⟨hs, _⟩ | ⟨hs, _⟩
    · exact l_holdsP hD gab gcd gu gv hp h0 hs
    · exact l_holdsM hD gab gcd gu gv hp h0 hs
theorem l_spanHolds {g : List (Nat × List Value)} (hD : (0, debT.map (Value.int .u8)) ∈ g) (b1 : Bool) (l1 : List Int) (e1 : Int) (b2 : Bool) (l2 : List Int) (e2 : Int) (b3 : Bool) (l3 : List Int) (e3 : Int) (b4 : Bool) (l4 : List Int) (e4 : Int) (b5 : Bool) (l5 : List Int) (e5 : Int) (b6 : Bool) (l6 : List Int) (e6 : Int) (p : Int) (o1 : OKM l1) (o2 : OKM l2) (o3 : OKM l3) (o4 : OKM l4) (o5 : OKM l5) (o6 : OKM l6) (hp0 : inR .i64 p) : FC Tryz.prog g 7 [Sp b1 l1 e1 b2 l2 e2, Sp b3 l3 e3 b4 l4 e4, Dy b5 l5 e5, Dy b6 l6 e6, .val (.int .i64 p)] (· = .val (.bool true)) := by
  have aw := s_awake hD
  have q0 := q_formX (G := g) b1 l1 e1 b2 l2 e2 o1.1 o2.1
  cases h0 : spF b1 l1 e1 b2 l2 e2 with
  | false =>
    rw [h0] at q0
    refine ax_i Tryz.func7 Tryz.ntmps7 (by rw [Tryz.results7]) ?_; intro F hG hO
    rw [← hG] at aw q0
    repeat' ((try (conv => whnf)); first
  | ((with_reducible refine cg ?_); first | refine ceq aw rfl ?_ | refine ceq q0 rfl ?_)
  
  | (with_reducible refine draw_g (id := 5) [[0, 1, 3, 4, 2, 5], [6], [7]] tok mixed (by kernel_rfl) ?_)
  | (with_reducible refine draw_t (id := 6) (.one 0 (.one 1 (.one 3 (.one 4 (.two (.one 2 (.two (.one 5 (.two (.one 6 (.one 7 (.st (.one 8 (.st (.one 9 (.fin))))))) (.one 7 (.one 6 (.st (.one 8 (.st (.one 9 (.fin))))))))) (.two (.one 6 (.two (.one 5 (.one 7 (.st (.one 8 (.st (.one 9 (.fin))))))) (.one 7 (.one 5 (.st (.one 8 (.st (.one 9 (.fin))))))))) (.one 7 (.two (.one 5 (.one 6 (.st (.one 8 (.st (.one 9 (.fin))))))) (.one 6 (.one 5 (.st (.one 8 (.st (.one 9 (.fin)))))))))))) (.two (.one 6 (.two (.one 2 (.two (.one 5 (.one 7 (.st (.one 8 (.st (.one 9 (.fin))))))) (.one 7 (.one 5 (.st (.one 8 (.st (.one 9 (.fin))))))))) (.one 7 (.one 2 (.one 5 (.st (.one 8 (.st (.one 9 (.fin)))))))))) (.one 7 (.two (.one 2 (.two (.one 5 (.one 6 (.st (.one 8 (.st (.one 9 (.fin))))))) (.one 6 (.one 5 (.st (.one 8 (.st (.one 9 (.fin))))))))) (.one 6 (.one 2 (.one 5 (.st (.one 8 (.st (.one 9 (.fin)))))))))))))))) tok mixed (by kernel_rfl) (by kernel_rfl) ?_)
  | (with_reducible refine draw_t (id := 8) (.one 0 (.one 2 (.one 4 (.two (.one 1 (.two (.one 3 (.two (.one 5 (.one 6 (.one 7 (.one 8 (.one 9 (.st (.one 10 (.one 11 (.fin))))))))) (.one 9 (.one 5 (.one 6 (.one 7 (.one 8 (.st (.one 10 (.one 11 (.fin))))))))))) (.one 9 (.one 3 (.one 5 (.one 6 (.one 7 (.one 8 (.st (.one 10 (.one 11 (.fin)))))))))))) (.one 9 (.one 1 (.one 3 (.one 5 (.one 6 (.one 7 (.one 8 (.st (.one 10 (.one 11 (.fin))))))))))))))) tok mixed (by kernel_rfl) (by kernel_rfl) ?_)
  | (with_reducible refine draw_g (id := 12) [[], [4, 0, 2, 1, 3, 5], [6], [7], [8], [9, 10]] tok mixed (by kernel_rfl) ?_)
  | (with_reducible refine draw_t (id := 17) (.one 0 (.one 2 (.one 4 (.two (.one 1 (.two (.one 3 (.two (.one 5 (.one 6 (.one 7 (.one 8 (.one 9 (.st (.one 10 (.one 11 (.fin))))))))) (.one 9 (.one 5 (.one 6 (.one 7 (.one 8 (.st (.one 10 (.one 11 (.fin))))))))))) (.one 9 (.one 3 (.one 5 (.one 6 (.one 7 (.one 8 (.st (.one 10 (.one 11 (.fin)))))))))))) (.one 9 (.one 1 (.one 3 (.one 5 (.one 6 (.one 7 (.one 8 (.st (.one 10 (.one 11 (.fin))))))))))))))) tok mixed (by kernel_rfl) (by kernel_rfl) ?_)
  | (with_reducible refine draw_g (id := 18) [[0, 1, 2, 3, 4, 5, 6, 7, 8, 9, 10, 11, 12, 13, 15, 16, 17, 18, 19, 14, 20, 21, 22, 23]] tok mixed (by kernel_rfl) ?_)
  | (with_reducible refine draw_g (id := 21) [[0, 1, 2, 3, 4, 5, 6, 7, 8, 9, 10, 11, 12, 13, 15, 16, 17, 14, 18, 19, 20, 21]] tok mixed (by kernel_rfl) ?_)
  | (with_reducible refine draw_g (id := 23) [[], [4, 0, 2, 1, 3, 5], [6], [7], [8], [9, 10]] tok mixed (by kernel_rfl) ?_)
  | (with_reducible refine draw_g (id := 31) [[0, 2, 1, 3], [4], [5]] tok mixed (by kernel_rfl) ?_)
  | (with_reducible refine draw_t (id := 32) (.one 0 (.one 1 (.one 2 (.one 4 (.one 6 (.one 7 (.one 8 (.one 10 (.two (.one 3 (.two (.one 5 (.two (.one 9 (.two (.one 11 (.two (.one 12 (.one 13 (.st (.one 14 (.st (.one 15 (.fin))))))) (.one 13 (.one 12 (.st (.one 14 (.st (.one 15 (.fin))))))))) (.two (.one 12 (.two (.one 11 (.one 13 (.st (.one 14 (.st (.one 15 (.fin))))))) (.one 13 (.one 11 (.st (.one 14 (.st (.one 15 (.fin))))))))) (.one 13 (.two (.one 11 (.one 12 (.st (.one 14 (.st (.one 15 (.fin))))))) (.one 12 (.one 11 (.st (.one 14 (.st (.one 15 (.fin)))))))))))) (.two (.one 12 (.two (.one 9 (.two (.one 11 (.one 13 (.st (.one 14 (.st (.one 15 (.fin))))))) (.one 13 (.one 11 (.st (.one 14 (.st (.one 15 (.fin))))))))) (.one 13 (.one 9 (.one 11 (.st (.one 14 (.st (.one 15 (.fin)))))))))) (.one 13 (.two (.one 9 (.two (.one 11 (.one 12 (.st (.one 14 (.st (.one 15 (.fin))))))) (.one 12 (.one 11 (.st (.one 14 (.st (.one 15 (.fin))))))))) (.one 12 (.one 9 (.one 11 (.st (.one 14 (.st (.one 15 (.fin))))))))))))) (.two (.one 12 (.two (.one 5 (.two (.one 9 (.two (.one 11 (.one 13 (.st (.one 14 (.st (.one 15 (.fin))))))) (.one 13 (.one 11 (.st (.one 14 (.st (.one 15 (.fin))))))))) (.one 13 (.one 9 (.one 11 (.st (.one 14 (.st (.one 15 (.fin)))))))))) (.one 13 (.one 5 (.one 9 (.one 11 (.st (.one 14 (.st (.one 15 (.fin))))))))))) (.one 13 (.two (.one 5 (.two (.one 9 (.two (.one 11 (.one 12 (.st (.one 14 (.st (.one 15 (.fin))))))) (.one 12 (.one 11 (.st (.one 14 (.st (.one 15 (.fin))))))))) (.one 12 (.one 9 (.one 11 (.st (.one 14 (.st (.one 15 (.fin)))))))))) (.one 12 (.one 5 (.one 9 (.one 11 (.st (.one 14 (.st (.one 15 (.fin)))))))))))))) (.two (.one 12 (.two (.one 3 (.two (.one 5 (.two (.one 9 (.two (.one 11 (.one 13 (.st (.one 14 (.st (.one 15 (.fin))))))) (.one 13 (.one 11 (.st (.one 14 (.st (.one 15 (.fin))))))))) (.one 13 (.one 9 (.one 11 (.st (.one 14 (.st (.one 15 (.fin)))))))))) (.one 13 (.one 5 (.one 9 (.one 11 (.st (.one 14 (.st (.one 15 (.fin))))))))))) (.one 13 (.one 3 (.one 5 (.one 9 (.one 11 (.st (.one 14 (.st (.one 15 (.fin)))))))))))) (.one 13 (.two (.one 3 (.two (.one 5 (.two (.one 9 (.two (.one 11 (.one 12 (.st (.one 14 (.st (.one 15 (.fin))))))) (.one 12 (.one 11 (.st (.one 14 (.st (.one 15 (.fin))))))))) (.one 12 (.one 9 (.one 11 (.st (.one 14 (.st (.one 15 (.fin)))))))))) (.one 12 (.one 5 (.one 9 (.one 11 (.st (.one 14 (.st (.one 15 (.fin))))))))))) (.one 12 (.one 3 (.one 5 (.one 9 (.one 11 (.st (.one 14 (.st (.one 15 (.fin)))))))))))))))))))))) tok mixed (by kernel_rfl) (by kernel_rfl) ?_)
  | with_reducible first | refine ax_s ?_ | refine BothG.mk ?_ ?_ | (refine ax_f ?_ ?_ <;> intro hc) | refine smk ?_ | fail)
    all_goals exact ⟨ret_e rfl⟩
  | true =>
  rw [h0] at q0
  obtain ⟨a, b, E0, g0⟩ := spF_ex o1.1 o2.1 h0
  rw [E0] at q0 ⊢
  clear h0 E0 o1 o2
  have q1 := q_formX (G := g) b3 l3 e3 b4 l4 e4 o3.1 o4.1
  cases h1 : spF b3 l3 e3 b4 l4 e4 with
  | false =>
    rw [h1] at q1
    refine ax_i Tryz.func7 Tryz.ntmps7 (by rw [Tryz.results7]) ?_; intro F hG hO
    rw [← hG] at aw q0 q1
    repeat' ((try (conv => whnf)); first
  | ((with_reducible refine cg ?_); first | refine ceq aw rfl ?_ | refine ceq q0 rfl ?_ | refine ceq q1 rfl ?_)
  
  | (with_reducible refine draw_g (id := 5) [[0, 1, 3, 4, 2, 5], [6], [7]] tok mixed (by kernel_rfl) ?_)
  | (with_reducible refine draw_t (id := 6) (.one 0 (.one 1 (.one 3 (.one 4 (.two (.one 2 (.two (.one 5 (.two (.one 6 (.one 7 (.st (.one 8 (.st (.one 9 (.fin))))))) (.one 7 (.one 6 (.st (.one 8 (.st (.one 9 (.fin))))))))) (.two (.one 6 (.two (.one 5 (.one 7 (.st (.one 8 (.st (.one 9 (.fin))))))) (.one 7 (.one 5 (.st (.one 8 (.st (.one 9 (.fin))))))))) (.one 7 (.two (.one 5 (.one 6 (.st (.one 8 (.st (.one 9 (.fin))))))) (.one 6 (.one 5 (.st (.one 8 (.st (.one 9 (.fin)))))))))))) (.two (.one 6 (.two (.one 2 (.two (.one 5 (.one 7 (.st (.one 8 (.st (.one 9 (.fin))))))) (.one 7 (.one 5 (.st (.one 8 (.st (.one 9 (.fin))))))))) (.one 7 (.one 2 (.one 5 (.st (.one 8 (.st (.one 9 (.fin)))))))))) (.one 7 (.two (.one 2 (.two (.one 5 (.one 6 (.st (.one 8 (.st (.one 9 (.fin))))))) (.one 6 (.one 5 (.st (.one 8 (.st (.one 9 (.fin))))))))) (.one 6 (.one 2 (.one 5 (.st (.one 8 (.st (.one 9 (.fin)))))))))))))))) tok mixed (by kernel_rfl) (by kernel_rfl) ?_)
  | (with_reducible refine draw_t (id := 8) (.one 0 (.one 2 (.one 4 (.two (.one 1 (.two (.one 3 (.two (.one 5 (.one 6 (.one 7 (.one 8 (.one 9 (.st (.one 10 (.one 11 (.fin))))))))) (.one 9 (.one 5 (.one 6 (.one 7 (.one 8 (.st (.one 10 (.one 11 (.fin))))))))))) (.one 9 (.one 3 (.one 5 (.one 6 (.one 7 (.one 8 (.st (.one 10 (.one 11 (.fin)))))))))))) (.one 9 (.one 1 (.one 3 (.one 5 (.one 6 (.one 7 (.one 8 (.st (.one 10 (.one 11 (.fin))))))))))))))) tok mixed (by kernel_rfl) (by kernel_rfl) ?_)
  | (with_reducible refine draw_g (id := 12) [[], [4, 0, 2, 1, 3, 5], [6], [7], [8], [9, 10]] tok mixed (by kernel_rfl) ?_)
  | (with_reducible refine draw_t (id := 17) (.one 0 (.one 2 (.one 4 (.two (.one 1 (.two (.one 3 (.two (.one 5 (.one 6 (.one 7 (.one 8 (.one 9 (.st (.one 10 (.one 11 (.fin))))))))) (.one 9 (.one 5 (.one 6 (.one 7 (.one 8 (.st (.one 10 (.one 11 (.fin))))))))))) (.one 9 (.one 3 (.one 5 (.one 6 (.one 7 (.one 8 (.st (.one 10 (.one 11 (.fin)))))))))))) (.one 9 (.one 1 (.one 3 (.one 5 (.one 6 (.one 7 (.one 8 (.st (.one 10 (.one 11 (.fin))))))))))))))) tok mixed (by kernel_rfl) (by kernel_rfl) ?_)
  | (with_reducible refine draw_g (id := 18) [[0, 1, 2, 3, 4, 5, 6, 7, 8, 9, 10, 11, 12, 13, 15, 16, 17, 18, 19, 14, 20, 21, 22, 23]] tok mixed (by kernel_rfl) ?_)
  | (with_reducible refine draw_g (id := 21) [[0, 1, 2, 3, 4, 5, 6, 7, 8, 9, 10, 11, 12, 13, 15, 16, 17, 14, 18, 19, 20, 21]] tok mixed (by kernel_rfl) ?_)
  | (with_reducible refine draw_g (id := 23) [[], [4, 0, 2, 1, 3, 5], [6], [7], [8], [9, 10]] tok mixed (by kernel_rfl) ?_)
  | (with_reducible refine draw_g (id := 31) [[0, 2, 1, 3], [4], [5]] tok mixed (by kernel_rfl) ?_)
  | (with_reducible refine draw_t (id := 32) (.one 0 (.one 1 (.one 2 (.one 4 (.one 6 (.one 7 (.one 8 (.one 10 (.two (.one 3 (.two (.one 5 (.two (.one 9 (.two (.one 11 (.two (.one 12 (.one 13 (.st (.one 14 (.st (.one 15 (.fin))))))) (.one 13 (.one 12 (.st (.one 14 (.st (.one 15 (.fin))))))))) (.two (.one 12 (.two (.one 11 (.one 13 (.st (.one 14 (.st (.one 15 (.fin))))))) (.one 13 (.one 11 (.st (.one 14 (.st (.one 15 (.fin))))))))) (.one 13 (.two (.one 11 (.one 12 (.st (.one 14 (.st (.one 15 (.fin))))))) (.one 12 (.one 11 (.st (.one 14 (.st (.one 15 (.fin)))))))))))) (.two (.one 12 (.two (.one 9 (.two (.one 11 (.one 13 (.st (.one 14 (.st (.one 15 (.fin))))))) (.one 13 (.one 11 (.st (.one 14 (.st (.one 15 (.fin))))))))) (.one 13 (.one 9 (.one 11 (.st (.one 14 (.st (.one 15 (.fin)))))))))) (.one 13 (.two (.one 9 (.two (.one 11 (.one 12 (.st (.one 14 (.st (.one 15 (.fin))))))) (.one 12 (.one 11 (.st (.one 14 (.st (.one 15 (.fin))))))))) (.one 12 (.one 9 (.one 11 (.st (.one 14 (.st (.one 15 (.fin))))))))))))) (.two (.one 12 (.two (.one 5 (.two (.one 9 (.two (.one 11 (.one 13 (.st (.one 14 (.st (.one 15 (.fin))))))) (.one 13 (.one 11 (.st (.one 14 (.st (.one 15 (.fin))))))))) (.one 13 (.one 9 (.one 11 (.st (.one 14 (.st (.one 15 (.fin)))))))))) (.one 13 (.one 5 (.one 9 (.one 11 (.st (.one 14 (.st (.one 15 (.fin))))))))))) (.one 13 (.two (.one 5 (.two (.one 9 (.two (.one 11 (.one 12 (.st (.one 14 (.st (.one 15 (.fin))))))) (.one 12 (.one 11 (.st (.one 14 (.st (.one 15 (.fin))))))))) (.one 12 (.one 9 (.one 11 (.st (.one 14 (.st (.one 15 (.fin)))))))))) (.one 12 (.one 5 (.one 9 (.one 11 (.st (.one 14 (.st (.one 15 (.fin)))))))))))))) (.two (.one 12 (.two (.one 3 (.two (.one 5 (.two (.one 9 (.two (.one 11 (.one 13 (.st (.one 14 (.st (.one 15 (.fin))))))) (.one 13 (.one 11 (.st (.one 14 (.st (.one 15 (.fin))))))))) (.one 13 (.one 9 (.one 11 (.st (.one 14 (.st (.one 15 (.fin)))))))))) (.one 13 (.one 5 (.one 9 (.one 11 (.st (.one 14 (.st (.one 15 (.fin))))))))))) (.one 13 (.one 3 (.one 5 (.one 9 (.one 11 (.st (.one 14 (.st (.one 15 (.fin)))))))))))) (.one 13 (.two (.one 3 (.two (.one 5 (.two (.one 9 (.two (.one 11 (.one 12 (.st (.one 14 (.st (.one 15 (.fin))))))) (.one 12 (.one 11 (.st (.one 14 (.st (.one 15 (.fin))))))))) (.one 12 (.one 9 (.one 11 (.st (.one 14 (.st (.one 15 (.fin)))))))))) (.one 12 (.one 5 (.one 9 (.one 11 (.st (.one 14 (.st (.one 15 (.fin))))))))))) (.one 12 (.one 3 (.one 5 (.one 9 (.one 11 (.st (.one 14 (.st (.one 15 (.fin)))))))))))))))))))))) tok mixed (by kernel_rfl) (by kernel_rfl) ?_)
  | with_reducible first | refine ax_s ?_ | refine BothG.mk ?_ ?_ | (refine ax_f ?_ ?_ <;> intro hc) | refine smk ?_ | fail)
    all_goals exact ⟨ret_e rfl⟩
  | true =>
  rw [h1] at q1
  obtain ⟨c, d, E1, g1⟩ := spF_ex o3.1 o4.1 h1
  rw [E1] at q1 ⊢
  clear h1 E1 o3 o4
  have q2 := q_formX (G := g) b5 l5 e5 b5 l5 e5 o5.1 o5.1
  rw [spF_same] at q2
  cases h2 : dyF b5 l5 e5 with
  | false =>
    rw [h2] at q2
    refine ax_i Tryz.func7 Tryz.ntmps7 (by rw [Tryz.results7]) ?_; intro F hG hO
    rw [← hG] at aw q0 q1 q2
    repeat' ((try (conv => whnf)); first
  | ((with_reducible refine cg ?_); first | refine ceq aw rfl ?_ | refine ceq q0 rfl ?_ | refine ceq q1 rfl ?_ | refine ceq q2 rfl ?_)
  
  | (with_reducible refine draw_g (id := 5) [[0, 1, 3, 4, 2, 5], [6], [7]] tok mixed (by kernel_rfl) ?_)
  | (with_reducible refine draw_t (id := 6) (.one 0 (.one 1 (.one 3 (.one 4 (.two (.one 2 (.two (.one 5 (.two (.one 6 (.one 7 (.st (.one 8 (.st (.one 9 (.fin))))))) (.one 7 (.one 6 (.st (.one 8 (.st (.one 9 (.fin))))))))) (.two (.one 6 (.two (.one 5 (.one 7 (.st (.one 8 (.st (.one 9 (.fin))))))) (.one 7 (.one 5 (.st (.one 8 (.st (.one 9 (.fin))))))))) (.one 7 (.two (.one 5 (.one 6 (.st (.one 8 (.st (.one 9 (.fin))))))) (.one 6 (.one 5 (.st (.one 8 (.st (.one 9 (.fin)))))))))))) (.two (.one 6 (.two (.one 2 (.two (.one 5 (.one 7 (.st (.one 8 (.st (.one 9 (.fin))))))) (.one 7 (.one 5 (.st (.one 8 (.st (.one 9 (.fin))))))))) (.one 7 (.one 2 (.one 5 (.st (.one 8 (.st (.one 9 (.fin)))))))))) (.one 7 (.two (.one 2 (.two (.one 5 (.one 6 (.st (.one 8 (.st (.one 9 (.fin))))))) (.one 6 (.one 5 (.st (.one 8 (.st (.one 9 (.fin))))))))) (.one 6 (.one 2 (.one 5 (.st (.one 8 (.st (.one 9 (.fin)))))))))))))))) tok mixed (by kernel_rfl) (by kernel_rfl) ?_)
  | (with_reducible refine draw_t (id := 8) (.one 0 (.one 2 (.one 4 (.two (.one 1 (.two (.one 3 (.two (.one 5 (.one 6 (.one 7 (.one 8 (.one 9 (.st (.one 10 (.one 11 (.fin))))))))) (.one 9 (.one 5 (.one 6 (.one 7 (.one 8 (.st (.one 10 (.one 11 (.fin))))))))))) (.one 9 (.one 3 (.one 5 (.one 6 (.one 7 (.one 8 (.st (.one 10 (.one 11 (.fin)))))))))))) (.one 9 (.one 1 (.one 3 (.one 5 (.one 6 (.one 7 (.one 8 (.st (.one 10 (.one 11 (.fin))))))))))))))) tok mixed (by kernel_rfl) (by kernel_rfl) ?_)
  | (with_reducible refine draw_g (id := 12) [[], [4, 0, 2, 1, 3, 5], [6], [7], [8], [9, 10]] tok mixed (by kernel_rfl) ?_)
  | (with_reducible refine draw_t (id := 17) (.one 0 (.one 2 (.one 4 (.two (.one 1 (.two (.one 3 (.two (.one 5 (.one 6 (.one 7 (.one 8 (.one 9 (.st (.one 10 (.one 11 (.fin))))))))) (.one 9 (.one 5 (.one 6 (.one 7 (.one 8 (.st (.one 10 (.one 11 (.fin))))))))))) (.one 9 (.one 3 (.one 5 (.one 6 (.one 7 (.one 8 (.st (.one 10 (.one 11 (.fin)))))))))))) (.one 9 (.one 1 (.one 3 (.one 5 (.one 6 (.one 7 (.one 8 (.st (.one 10 (.one 11 (.fin))))))))))))))) tok mixed (by kernel_rfl) (by kernel_rfl) ?_)
  | (with_reducible refine draw_g (id := 18) [[0, 1, 2, 3, 4, 5, 6, 7, 8, 9, 10, 11, 12, 13, 15, 16, 17, 18, 19, 14, 20, 21, 22, 23]] tok mixed (by kernel_rfl) ?_)
  | (with_reducible refine draw_g (id := 21) [[0, 1, 2, 3, 4, 5, 6, 7, 8, 9, 10, 11, 12, 13, 15, 16, 17, 14, 18, 19, 20, 21]] tok mixed (by kernel_rfl) ?_)
  | (with_reducible refine draw_g (id := 23) [[], [4, 0, 2, 1, 3, 5], [6], [7], [8], [9, 10]] tok mixed (by kernel_rfl) ?_)
  | (with_reducible refine draw_g (id := 31) [[0, 2, 1, 3], [4], [5]] tok mixed (by kernel_rfl) ?_)
  | (with_reducible refine draw_t (id := 32) (.one 0 (.one 1 (.one 2 (.one 4 (.one 6 (.one 7 (.one 8 (.one 10 (.two (.one 3 (.two (.one 5 (.two (.one 9 (.two (.one 11 (.two (.one 12 (.one 13 (.st (.one 14 (.st (.one 15 (.fin))))))) (.one 13 (.one 12 (.st (.one 14 (.st (.one 15 (.fin))))))))) (.two (.one 12 (.two (.one 11 (.one 13 (.st (.one 14 (.st (.one 15 (.fin))))))) (.one 13 (.one 11 (.st (.one 14 (.st (.one 15 (.fin))))))))) (.one 13 (.two (.one 11 (.one 12 (.st (.one 14 (.st (.one 15 (.fin))))))) (.one 12 (.one 11 (.st (.one 14 (.st (.one 15 (.fin)))))))))))) (.two (.one 12 (.two (.one 9 (.two (.one 11 (.one 13 (.st (.one 14 (.st (.one 15 (.fin))))))) (.one 13 (.one 11 (.st (.one 14 (.st (.one 15 (.fin))))))))) (.one 13 (.one 9 (.one 11 (.st (.one 14 (.st (.one 15 (.fin)))))))))) (.one 13 (.two (.one 9 (.two (.one 11 (.one 12 (.st (.one 14 (.st (.one 15 (.fin))))))) (.one 12 (.one 11 (.st (.one 14 (.st (.one 15 (.fin))))))))) (.one 12 (.one 9 (.one 11 (.st (.one 14 (.st (.one 15 (.fin))))))))))))) (.two (.one 12 (.two (.one 5 (.two (.one 9 (.two (.one 11 (.one 13 (.st (.one 14 (.st (.one 15 (.fin))))))) (.one 13 (.one 11 (.st (.one 14 (.st (.one 15 (.fin))))))))) (.one 13 (.one 9 (.one 11 (.st (.one 14 (.st (.one 15 (.fin)))))))))) (.one 13 (.one 5 (.one 9 (.one 11 (.st (.one 14 (.st (.one 15 (.fin))))))))))) (.one 13 (.two (.one 5 (.two (.one 9 (.two (.one 11 (.one 12 (.st (.one 14 (.st (.one 15 (.fin))))))) (.one 12 (.one 11 (.st (.one 14 (.st (.one 15 (.fin))))))))) (.one 12 (.one 9 (.one 11 (.st (.one 14 (.st (.one 15 (.fin)))))))))) (.one 12 (.one 5 (.one 9 (.one 11 (.st (.one 14 (.st (.one 15 (.fin)))))))))))))) (.two (.one 12 (.two (.one 3 (.two (.one 5 (.two (.one 9 (.two (.one 11 (.one 13 (.st (.one 14 (.st (.one 15 (.fin))))))) (.one 13 (.one 11 (.st (.one 14 (.st (.one 15 (.fin))))))))) (.one 13 (.one 9 (.one 11 (.st (.one 14 (.st (.one 15 (.fin)))))))))) (.one 13 (.one 5 (.one 9 (.one 11 (.st (.one 14 (.st (.one 15 (.fin))))))))))) (.one 13 (.one 3 (.one 5 (.one 9 (.one 11 (.st (.one 14 (.st (.one 15 (.fin)))))))))))) (.one 13 (.two (.one 3 (.two (.one 5 (.two (.one 9 (.two (.one 11 (.one 12 (.st (.one 14 (.st (.one 15 (.fin))))))) (.one 12 (.one 11 (.st (.one 14 (.st (.one 15 (.fin))))))))) (.one 12 (.one 9 (.one 11 (.st (.one 14 (.st (.one 15 (.fin)))))))))) (.one 12 (.one 5 (.one 9 (.one 11 (.st (.one 14 (.st (.one 15 (.fin))))))))))) (.one 12 (.one 3 (.one 5 (.one 9 (.one 11 (.st (.one 14 (.st (.one 15 (.fin)))))))))))))))))))))) tok mixed (by kernel_rfl) (by kernel_rfl) ?_)
  | with_reducible first | refine ax_s ?_ | refine BothG.mk ?_ ?_ | (refine ax_f ?_ ?_ <;> intro hc) | refine smk ?_ | fail)
    all_goals exact ⟨ret_e rfl⟩
  | true =>
  rw [h2] at q2
  obtain ⟨m, g2, hb2, hl2, _⟩ := dyF_ex2 o5.1 h2
  subst hb2 hl2
  clear h2 o5
  have q3 := q_formX (G := g) b6 l6 e6 b6 l6 e6 o6.1 o6.1
  rw [spF_same] at q3
  cases h3 : dyF b6 l6 e6 with
  | false =>
    rw [h3] at q3
    refine ax_i Tryz.func7 Tryz.ntmps7 (by rw [Tryz.results7]) ?_; intro F hG hO
    rw [← hG] at aw q0 q1 q2 q3
    repeat' ((try (conv => whnf)); first
  | ((with_reducible refine cg ?_); first | refine ceq aw rfl ?_ | refine ceq q0 rfl ?_ | refine ceq q1 rfl ?_ | refine ceq q2 rfl ?_ | refine ceq q3 rfl ?_)
  
  | (with_reducible refine draw_g (id := 5) [[0, 1, 3, 4, 2, 5], [6], [7]] tok mixed (by kernel_rfl) ?_)
  | (with_reducible refine draw_t (id := 6) (.one 0 (.one 1 (.one 3 (.one 4 (.two (.one 2 (.two (.one 5 (.two (.one 6 (.one 7 (.st (.one 8 (.st (.one 9 (.fin))))))) (.one 7 (.one 6 (.st (.one 8 (.st (.one 9 (.fin))))))))) (.two (.one 6 (.two (.one 5 (.one 7 (.st (.one 8 (.st (.one 9 (.fin))))))) (.one 7 (.one 5 (.st (.one 8 (.st (.one 9 (.fin))))))))) (.one 7 (.two (.one 5 (.one 6 (.st (.one 8 (.st (.one 9 (.fin))))))) (.one 6 (.one 5 (.st (.one 8 (.st (.one 9 (.fin)))))))))))) (.two (.one 6 (.two (.one 2 (.two (.one 5 (.one 7 (.st (.one 8 (.st (.one 9 (.fin))))))) (.one 7 (.one 5 (.st (.one 8 (.st (.one 9 (.fin))))))))) (.one 7 (.one 2 (.one 5 (.st (.one 8 (.st (.one 9 (.fin)))))))))) (.one 7 (.two (.one 2 (.two (.one 5 (.one 6 (.st (.one 8 (.st (.one 9 (.fin))))))) (.one 6 (.one 5 (.st (.one 8 (.st (.one 9 (.fin))))))))) (.one 6 (.one 2 (.one 5 (.st (.one 8 (.st (.one 9 (.fin)))))))))))))))) tok mixed (by kernel_rfl) (by kernel_rfl) ?_)
  | (with_reducible refine draw_t (id := 8) (.one 0 (.one 2 (.one 4 (.two (.one 1 (.two (.one 3 (.two (.one 5 (.one 6 (.one 7 (.one 8 (.one 9 (.st (.one 10 (.one 11 (.fin))))))))) (.one 9 (.one 5 (.one 6 (.one 7 (.one 8 (.st (.one 10 (.one 11 (.fin))))))))))) (.one 9 (.one 3 (.one 5 (.one 6 (.one 7 (.one 8 (.st (.one 10 (.one 11 (.fin)))))))))))) (.one 9 (.one 1 (.one 3 (.one 5 (.one 6 (.one 7 (.one 8 (.st (.one 10 (.one 11 (.fin))))))))))))))) tok mixed (by kernel_rfl) (by kernel_rfl) ?_)
  | (with_reducible refine draw_g (id := 12) [[], [4, 0, 2, 1, 3, 5], [6], [7], [8], [9, 10]] tok mixed (by kernel_rfl) ?_)
  | (with_reducible refine draw_t (id := 17) (.one 0 (.one 2 (.one 4 (.two (.one 1 (.two (.one 3 (.two (.one 5 (.one 6 (.one 7 (.one 8 (.one 9 (.st (.one 10 (.one 11 (.fin))))))))) (.one 9 (.one 5 (.one 6 (.one 7 (.one 8 (.st (.one 10 (.one 11 (.fin))))))))))) (.one 9 (.one 3 (.one 5 (.one 6 (.one 7 (.one 8 (.st (.one 10 (.one 11 (.fin)))))))))))) (.one 9 (.one 1 (.one 3 (.one 5 (.one 6 (.one 7 (.one 8 (.st (.one 10 (.one 11 (.fin))))))))))))))) tok mixed (by kernel_rfl) (by kernel_rfl) ?_)
  | (with_reducible refine draw_g (id := 18) [[0, 1, 2, 3, 4, 5, 6, 7, 8, 9, 10, 11, 12, 13, 15, 16, 17, 18, 19, 14, 20, 21, 22, 23]] tok mixed (by kernel_rfl) ?_)
  | (with_reducible refine draw_g (id := 21) [[0, 1, 2, 3, 4, 5, 6, 7, 8, 9, 10, 11, 12, 13, 15, 16, 17, 14, 18, 19, 20, 21]] tok mixed (by kernel_rfl) ?_)
  | (with_reducible refine draw_g (id := 23) [[], [4, 0, 2, 1, 3, 5], [6], [7], [8], [9, 10]] tok mixed (by kernel_rfl) ?_)
  | (with_reducible refine draw_g (id := 31) [[0, 2, 1, 3], [4], [5]] tok mixed (by kernel_rfl) ?_)
  | (with_reducible refine draw_t (id := 32) (.one 0 (.one 1 (.one 2 (.one 4 (.one 6 (.one 7 (.one 8 (.one 10 (.two (.one 3 (.two (.one 5 (.two (.one 9 (.two (.one 11 (.two (.one 12 (.one 13 (.st (.one 14 (.st (.one 15 (.fin))))))) (.one 13 (.one 12 (.st (.one 14 (.st (.one 15 (.fin))))))))) (.two (.one 12 (.two (.one 11 (.one 13 (.st (.one 14 (.st (.one 15 (.fin))))))) (.one 13 (.one 11 (.st (.one 14 (.st (.one 15 (.fin))))))))) (.one 13 (.two (.one 11 (.one 12 (.st (.one 14 (.st (.one 15 (.fin))))))) (.one 12 (.one 11 (.st (.one 14 (.st (.one 15 (.fin)))))))))))) (.two (.one 12 (.two (.one 9 (.two (.one 11 (.one 13 (.st (.one 14 (.st (.one 15 (.fin))))))) (.one 13 (.one 11 (.st (.one 14 (.st (.one 15 (.fin))))))))) (.one 13 (.one 9 (.one 11 (.st (.one 14 (.st (.one 15 (.fin)))))))))) (.one 13 (.two (.one 9 (.two (.one 11 (.one 12 (.st (.one 14 (.st (.one 15 (.fin))))))) (.one 12 (.one 11 (.st (.one 14 (.st (.one 15 (.fin))))))))) (.one 12 (.one 9 (.one 11 (.st (.one 14 (.st (.one 15 (.fin))))))))))))) (.two (.one 12 (.two (.one 5 (.two (.one 9 (.two (.one 11 (.one 13 (.st (.one 14 (.st (.one 15 (.fin))))))) (.one 13 (.one 11 (.st (.one 14 (.st (.one 15 (.fin))))))))) (.one 13 (.one 9 (.one 11 (.st (.one 14 (.st (.one 15 (.fin)))))))))) (.one 13 (.one 5 (.one 9 (.one 11 (.st (.one 14 (.st (.one 15 (.fin))))))))))) (.one 13 (.two (.one 5 (.two (.one 9 (.two (.one 11 (.one 12 (.st (.one 14 (.st (.one 15 (.fin))))))) (.one 12 (.one 11 (.st (.one 14 (.st (.one 15 (.fin))))))))) (.one 12 (.one 9 (.one 11 (.st (.one 14 (.st (.one 15 (.fin)))))))))) (.one 12 (.one 5 (.one 9 (.one 11 (.st (.one 14 (.st (.one 15 (.fin)))))))))))))) (.two (.one 12 (.two (.one 3 (.two (.one 5 (.two (.one 9 (.two (.one 11 (.one 13 (.st (.one 14 (.st (.one 15 (.fin))))))) (.one 13 (.one 11 (.st (.one 14 (.st (.one 15 (.fin))))))))) (.one 13 (.one 9 (.one 11 (.st (.one 14 (.st (.one 15 (.fin)))))))))) (.one 13 (.one 5 (.one 9 (.one 11 (.st (.one 14 (.st (.one 15 (.fin))))))))))) (.one 13 (.one 3 (.one 5 (.one 9 (.one 11 (.st (.one 14 (.st (.one 15 (.fin)))))))))))) (.one 13 (.two (.one 3 (.two (.one 5 (.two (.one 9 (.two (.one 11 (.one 12 (.st (.one 14 (.st (.one 15 (.fin))))))) (.one 12 (.one 11 (.st (.one 14 (.st (.one 15 (.fin))))))))) (.one 12 (.one 9 (.one 11 (.st (.one 14 (.st (.one 15 (.fin)))))))))) (.one 12 (.one 5 (.one 9 (.one 11 (.st (.one 14 (.st (.one 15 (.fin))))))))))) (.one 12 (.one 3 (.one 5 (.one 9 (.one 11 (.st (.one 14 (.st (.one 15 (.fin)))))))))))))))))))))) tok mixed (by kernel_rfl) (by kernel_rfl) ?_)
  | with_reducible first | refine ax_s ?_ | refine BothG.mk ?_ ?_ | (refine ax_f ?_ ?_ <;> intro hc) | refine smk ?_ | fail)
    all_goals exact ⟨ret_e rfl⟩
  | true =>
  rw [h3] at q3
  obtain ⟨n, g3, hb3, hl3, _⟩ := dyF_ex2 o6.1 h3
  subst hb3 hl3
  clear h3 o6
  by_cases hp : 1 ≤ p ∧ p ≤ 70000
  · exact l_holds1 hD (u := (m, e5)) (v := (n, e6)) g0 g1 g2 g3 hp
  · skip
    refine ax_i Tryz.func7 Tryz.ntmps7 (by rw [Tryz.results7]) ?_; intro F hG hO
    rw [← hG] at aw q0 q1 q2 q3
    repeat' ((try (conv => whnf)); first
  | ((with_reducible refine cg ?_); first | refine ceq aw rfl ?_ | refine ceq q0 rfl ?_ | refine ceq q1 rfl ?_ | refine ceq q2 rfl ?_ | refine ceq q3 rfl ?_)
  
  | (with_reducible refine draw_g (id := 5) [[0, 1, 3, 4, 2, 5], [6], [7]] tok mixed (by kernel_rfl) ?_)
  | (with_reducible refine draw_t (id := 6) (.one 0 (.one 1 (.one 3 (.one 4 (.two (.one 2 (.two (.one 5 (.two (.one 6 (.one 7 (.st (.one 8 (.st (.one 9 (.fin))))))) (.one 7 (.one 6 (.st (.one 8 (.st (.one 9 (.fin))))))))) (.two (.one 6 (.two (.one 5 (.one 7 (.st (.one 8 (.st (.one 9 (.fin))))))) (.one 7 (.one 5 (.st (.one 8 (.st (.one 9 (.fin))))))))) (.one 7 (.two (.one 5 (.one 6 (.st (.one 8 (.st (.one 9 (.fin))))))) (.one 6 (.one 5 (.st (.one 8 (.st (.one 9 (.fin)))))))))))) (.two (.one 6 (.two (.one 2 (.two (.one 5 (.one 7 (.st (.one 8 (.st (.one 9 (.fin))))))) (.one 7 (.one 5 (.st (.one 8 (.st (.one 9 (.fin))))))))) (.one 7 (.one 2 (.one 5 (.st (.one 8 (.st (.one 9 (.fin)))))))))) (.one 7 (.two (.one 2 (.two (.one 5 (.one 6 (.st (.one 8 (.st (.one 9 (.fin))))))) (.one 6 (.one 5 (.st (.one 8 (.st (.one 9 (.fin))))))))) (.one 6 (.one 2 (.one 5 (.st (.one 8 (.st (.one 9 (.fin)))))))))))))))) tok mixed (by kernel_rfl) (by kernel_rfl) ?_)
  | (with_reducible refine draw_t (id := 8) (.one 0 (.one 2 (.one 4 (.two (.one 1 (.two (.one 3 (.two (.one 5 (.one 6 (.one 7 (.one 8 (.one 9 (.st (.one 10 (.one 11 (.fin))))))))) (.one 9 (.one 5 (.one 6 (.one 7 (.one 8 (.st (.one 10 (.one 11 (.fin))))))))))) (.one 9 (.one 3 (.one 5 (.one 6 (.one 7 (.one 8 (.st (.one 10 (.one 11 (.fin)))))))))))) (.one 9 (.one 1 (.one 3 (.one 5 (.one 6 (.one 7 (.one 8 (.st (.one 10 (.one 11 (.fin))))))))))))))) tok mixed (by kernel_rfl) (by kernel_rfl) ?_)
  | (with_reducible refine draw_g (id := 12) [[], [4, 0, 2, 1, 3, 5], [6], [7], [8], [9, 10]] tok mixed (by kernel_rfl) ?_)
  | (with_reducible refine draw_t (id := 17) (.one 0 (.one 2 (.one 4 (.two (.one 1 (.two (.one 3 (.two (.one 5 (.one 6 (.one 7 (.one 8 (.one 9 (.st (.one 10 (.one 11 (.fin))))))))) (.one 9 (.one 5 (.one 6 (.one 7 (.one 8 (.st (.one 10 (.one 11 (.fin))))))))))) (.one 9 (.one 3 (.one 5 (.one 6 (.one 7 (.one 8 (.st (.one 10 (.one 11 (.fin)))))))))))) (.one 9 (.one 1 (.one 3 (.one 5 (.one 6 (.one 7 (.one 8 (.st (.one 10 (.one 11 (.fin))))))))))))))) tok mixed (by kernel_rfl) (by kernel_rfl) ?_)
  | (with_reducible refine draw_g (id := 18) [[0, 1, 2, 3, 4, 5, 6, 7, 8, 9, 10, 11, 12, 13, 15, 16, 17, 18, 19, 14, 20, 21, 22, 23]] tok mixed (by kernel_rfl) ?_)
  | (with_reducible refine draw_g (id := 21) [[0, 1, 2, 3, 4, 5, 6, 7, 8, 9, 10, 11, 12, 13, 15, 16, 17, 14, 18, 19, 20, 21]] tok mixed (by kernel_rfl) ?_)
  | (with_reducible refine draw_g (id := 23) [[], [4, 0, 2, 1, 3, 5], [6], [7], [8], [9, 10]] tok mixed (by kernel_rfl) ?_)
  | (with_reducible refine draw_g (id := 31) [[0, 2, 1, 3], [4], [5]] tok mixed (by kernel_rfl) ?_)
  | (with_reducible refine draw_t (id := 32) (.one 0 (.one 1 (.one 2 (.one 4 (.one 6 (.one 7 (.one 8 (.one 10 (.two (.one 3 (.two (.one 5 (.two (.one 9 (.two (.one 11 (.two (.one 12 (.one 13 (.st (.one 14 (.st (.one 15 (.fin))))))) (.one 13 (.one 12 (.st (.one 14 (.st (.one 15 (.fin))))))))) (.two (.one 12 (.two (.one 11 (.one 13 (.st (.one 14 (.st (.one 15 (.fin))))))) (.one 13 (.one 11 (.st (.one 14 (.st (.one 15 (.fin))))))))) (.one 13 (.two (.one 11 (.one 12 (.st (.one 14 (.st (.one 15 (.fin))))))) (.one 12 (.one 11 (.st (.one 14 (.st (.one 15 (.fin)))))))))))) (.two (.one 12 (.two (.one 9 (.two (.one 11 (.one 13 (.st (.one 14 (.st (.one 15 (.fin))))))) (.one 13 (.one 11 (.st (.one 14 (.st (.one 15 (.fin))))))))) (.one 13 (.one 9 (.one 11 (.st (.one 14 (.st (.one 15 (.fin)))))))))) (.one 13 (.two (.one 9 (.two (.one 11 (.one 12 (.st (.one 14 (.st (.one 15 (.fin))))))) (.one 12 (.one 11 (.st (.one 14 (.st (.one 15 (.fin))))))))) (.one 12 (.one 9 (.one 11 (.st (.one 14 (.st (.one 15 (.fin))))))))))))) (.two (.one 12 (.two (.one 5 (.two (.one 9 (.two (.one 11 (.one 13 (.st (.one 14 (.st (.one 15 (.fin))))))) (.one 13 (.one 11 (.st (.one 14 (.st (.one 15 (.fin))))))))) (.one 13 (.one 9 (.one 11 (.st (.one 14 (.st (.one 15 (.fin)))))))))) (.one 13 (.one 5 (.one 9 (.one 11 (.st (.one 14 (.st (.one 15 (.fin))))))))))) (.one 13 (.two (.one 5 (.two (.one 9 (.two (.one 11 (.one 12 (.st (.one 14 (.st (.one 15 (.fin))))))) (.one 12 (.one 11 (.st (.one 14 (.st (.one 15 (.fin))))))))) (.one 12 (.one 9 (.one 11 (.st (.one 14 (.st (.one 15 (.fin)))))))))) (.one 12 (.one 5 (.one 9 (.one 11 (.st (.one 14 (.st (.one 15 (.fin)))))))))))))) (.two (.one 12 (.two (.one 3 (.two (.one 5 (.two (.one 9 (.two (.one 11 (.one 13 (.st (.one 14 (.st (.one 15 (.fin))))))) (.one 13 (.one 11 (.st (.one 14 (.st (.one 15 (.fin))))))))) (.one 13 (.one 9 (.one 11 (.st (.one 14 (.st (.one 15 (.fin)))))))))) (.one 13 (.one 5 (.one 9 (.one 11 (.st (.one 14 (.st (.one 15 (.fin))))))))))) (.one 13 (.one 3 (.one 5 (.one 9 (.one 11 (.st (.one 14 (.st (.one 15 (.fin)))))))))))) (.one 13 (.two (.one 3 (.two (.one 5 (.two (.one 9 (.two (.one 11 (.one 12 (.st (.one 14 (.st (.one 15 (.fin))))))) (.one 12 (.one 11 (.st (.one 14 (.st (.one 15 (.fin))))))))) (.one 12 (.one 9 (.one 11 (.st (.one 14 (.st (.one 15 (.fin)))))))))) (.one 12 (.one 5 (.one 9 (.one 11 (.st (.one 14 (.st (.one 15 (.fin))))))))))) (.one 12 (.one 3 (.one 5 (.one 9 (.one 11 (.st (.one 14 (.st (.one 15 (.fin)))))))))))))))))))))) tok mixed (by kernel_rfl) (by kernel_rfl) ?_)
  | with_reducible first | refine ax_s ?_ | refine BothG.mk ?_ ?_ | (refine ax_f ?_ ?_ <;> intro hc) | refine smk ?_ | fail)
    all_goals exact ⟨ret_e rfl⟩
end Go.Proofs.YtpjbgmafnheomaaGreatDoor.Sim
namespace Go.Proofs.YtpjbgmafnheomaaGreatDoor.Sim
open Go.RowKit Go.ChangeShapes Go.WideShapes
section
variable {H : Type} {enc : TypeId × Value → H} {P : Program}
theorem post_below2 {f : Func} {s : ChangeSpec} {apart fresh handsOn again : Bool} {W W' : World} {args : Array Value} {v : Value} {ds gs : List (DataW H)} {before pa pv : List MemPlace}
    (hW : DataW.Whole enc P f.params.toList s.vars apart W args.toList ds gs before)
    (hres : ∀ (b : Nat) (sp : Nat → Bool) (hd : Bool), DataW.TrodAll enc P W' b sp hd f.resultTypes.toList (v.resultList f.resultTypes.size) (s.fn H (ds ++ gs)).results [])
    (hargs : ∀ sp : Nat → Bool, (∀ p ∈ before, sp p.block = true) → DataW.TrodAll enc P W' 0 sp true f.params.toList args.toList (s.fn H (ds ++ gs)).args pa)
    (hvars : ∀ sp : Nat → Bool, (∀ p ∈ before, sp p.block = true) → DataW.TrodVars enc P W' sp s.vars (s.fn H (ds ++ gs)).vars pv)
    (hps : before = pa ++ pv) (hb : Below W.heap.size W W')
    (hok : ∀ (j : Nat) (t : TypeId) (r : Value), f.resultTypes[j]? = some t → (v.resultList f.resultTypes.size)[j]? = some r → Value.okWide P W' .any 0 t r) :
    s.post enc P f apart fresh handsOn again W args v W' := by
  have hold : ∀ p ∈ before, (fun b => decide (b < W.heap.size)) p.block = true := fun p hp => by simpa using hW.lt p hp
  have hlt := hW.lt
  refine ⟨ds, gs, before, [], pa, pv, hW, hres _ _ _, hargs _ hold, hvars _ hold, hb.frame _, fun _ => ?_⟩
  obtain ⟨_, _, _, _, _, hz, hn⟩ := hW
  refine ⟨hok, _, _, ([] ++ pa) ++ pv, ⟨[] ++ pa, pv, trodAll_append (hargs _ (fun _ _ => rfl)) (hres _ _ _), hvars _ (fun _ _ => rfl), rfl, ?_, ?_⟩, ?_⟩
  · intro b off hp
    have hm : MemPlace.cell b off ∈ before := by rw [hps]; simpa using hp
    rw [hb.frozen (p := ⟨b, off, none⟩) (hlt _ hm)]
    exact hz b off hm
  · intro ha
    have := hn ha
    rw [hps] at this
    simpa using this
  · intro p hp _
    rw [hps]
    simpa using hp
end
end Go.Proofs.YtpjbgmafnheomaaGreatDoor.Sim
