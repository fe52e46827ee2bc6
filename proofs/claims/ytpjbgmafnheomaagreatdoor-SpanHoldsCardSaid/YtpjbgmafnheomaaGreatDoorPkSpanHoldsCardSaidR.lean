/-
  What the statement SpanHoldsCardSaid leans on, part 18: the logic of walks, digits, contracts of the functions, the plain law. Conditions stand in each theorem.
-/
import Derived.Test.YtpjbgmafnheomaaGreatDoorPkSpanHoldsCardSaidQ
namespace Go.Proofs.YtpjbgmafnheomaaGreatDoor.Sim
open Go.RowKit
set_option linter.unusedVariables false
set_option linter.unusedSimpArgs false
set_option maxRecDepth 10000
set_option maxHeartbeats 8000000
variable {G : List (Nat × List Value)}
theorem l_holdsM {g : List (Nat × List Value)} (hD : (0, debT.map (Value.int .u8)) ∈ g) {a b c d u v : D2} (gab : GoodS a b) (gcd : GoodS c d) (gu : u.good) (gv : v.good) {p : Int} (hp : 1 ≤ p ∧ p ≤ 70000) (h0 : hasV c d (0, 0) = false) (hs : (insd c d v).1 < 0) : FC Tryz.prog g 7 [SP a b, SP c d, DY u.1 u.2, DY v.1 v.2, .val (.int .i64 p)] (· = .val (.bool true)) := by
  have aw := s_awake hD
  have q1 := q_form (G := g) gab
  have q2 := q_form (G := g) gcd
  have q3 := q_form (G := g) (a := u) (b := u) ⟨gu, gu, Int.le_refl _⟩
  have q4 := q_form (G := g) (a := v) (b := v) ⟨gv, gv, Int.le_refl _⟩
  have t1 := s_twing (G := g) gab
  have t2 := s_twing (G := g) gcd
  have i1 := s_inside (G := g) gab gu
  have i2 := s_inside (G := g) gcd gv
  have okU := insd_ok gab gu
  have okW := insd_ok gcd gv
  obtain ⟨U, hU⟩ : ∃ U, U = insd a b u := ⟨_, rfl⟩
  obtain ⟨W, hW⟩ : ∃ W, W = insd c d v := ⟨_, rfl⟩
  rw [← hU] at i1 okU
  rw [← hW] at i2 okW
  obtain ⟨gU, hUb⟩ := okU
  obtain ⟨gW, hWb⟩ := okW
  rw [← hW] at hs
  clear hU hW
  have eU1 := gU.2.1
  have eU2 := gU.2.2.1
  have eW1 := gW.2.1
  have eW2 := gW.2.2.1
  have lU := bl_good gU
  have lW := bl_good gW
  have zU := LZ_good gU
  have zW := LZ_good gW
  have f1 := r_zfromN (G := g) U.1 (by have := gU.1; omega)
  have f2 := r_zfromN (G := g) W.1 (by have := gW.1; omega)
  have m1 := r_zmul (G := g) U.1 W.1 (by omega) (by omega)
  have m2 := r_zmul (G := g) U.1 U.1 (by omega) (by omega)
  have bUW := bl_mul_le (a := U.1) (b := W.1) lU lW
  have bUU := bl_mul_le (a := U.1) (b := U.1) lU lU
  obtain ⟨x3, y3, c3, d3, r3, hc3, hd3, gg3, ok3⟩ := (hold_mul gab gcd hUb hWb hp).y
  obtain ⟨x4, y4, c4, d4, r4, hc4, hd4, gg4, ok4⟩ := (hold_sqr gab hUb hp).y
  have k3 := p_mul hD gab gcd hp
  rw [r3] at k3
  have k4 := p_sqr hD gab hp
  rw [r4] at k4
  have k5 := p_quo hD gab gcd hp
  have v3 := q_form (G := g) gg3
  have v4 := q_form (G := g) gg4
  have w3 : Unit → c3 = 0 → FC Tryz.prog g 34 [SP x3 y3, ZI (U.1 * W.1), .val (.int .i64 (U.2 + W.2))] (· = .val (.bool true)) := fun ju hh => by
    have E : Vc 2097152 (U.1 * W.1) (U.2 + W.2) = U.v * W.v := (Vc_mul eU1 eW1).symm
    have := ok3 ju hh
    rw [← E] at this
    exact s_between (G := g) gg3 (by omega) (by omega) this.1 this.2
  have w4 : Unit → c4 = 0 → FC Tryz.prog g 34 [SP x4 y4, ZI (U.1 * U.1), .val (.int .i64 (2 * U.2))] (· = .val (.bool true)) := fun ju hh => by
    have E : Vc 2097152 (U.1 * U.1) (2 * U.2) = U.v * U.v := by rw [show 2 * U.2 = U.2 + U.2 by omega]; exact (Vc_mul eU1 eU1).symm
    have := ok4 ju hh
    rw [← E] at this
    exact s_between (G := g) gg4 (by omega) (by omega) this.1 this.2
  have qh := q_holds (G := g) (d := (0, 0)) gcd Good.zero
  obtain ⟨x1, y1, c1, d1, r1, hc1, hd1, gg1, ok1⟩ := (hold_sum gab gcd hUb hWb hp).y
  obtain ⟨x2, y2, c2, d2, r2, hc2, hd2, gg2, ok2⟩ := (hold_sum gab gcd.neg (u := U.v) (v := -W.v) hUb (by rw [D2.neg_v, D2.neg_v]; omega) hp).y
  have k1 := p_add hD gab gcd hp
  rw [r1] at k1
  have k2 := p_sub hD gab gcd hp
  rw [r2] at k2
  have v1 := q_form (G := g) gg1
  have v2 := q_form (G := g) gg2
  obtain ⟨nr, n, hnr⟩ : ∃ nr : Bool, FC Tryz.prog g 32 [DY U.1 U.2, DY W.1 W.2] (· = .val (.bool nr)) ∧ (nr = true → nearP U W) := by
    rcases s_near (G := g) gU gW with ⟨hn, n⟩ | ⟨_, n⟩
    · exact ⟨true, n, fun _ => hn⟩
    · exact ⟨false, n, fun h => by cases h⟩
  have s1' : nr = true → _ := fun h => s_sum (G := g) gU gW (hnr h) (decide (W.1 < 0)) (w := W.1) rfl (sg_of W.1)
  have s2' : nr = true → _ := fun h => s_sum (G := g) gU gW (hnr h) (!decide (W.1 < 0)) (w := -W.1) (by rw [Int.natAbs_neg]) (by
    by_cases q : W.1 < 0
    · rw [decide_eq_true q]; simp only [Bool.not_true, sg]; omega
    · rw [decide_eq_false q]; simp only [Bool.not_false, sg]; omega)
  have s1 : Unit → nr = true → _ := fun _ h => (s1' h).1
  have s2 : Unit → nr = true → _ := fun _ h => (s2' h).1
  have w1 : Unit → nr = true → c1 = 0 → FC Tryz.prog g 34 [SP x1 y1, ZI (U.1 * 2 ^ (U.2 - min U.2 W.2).toNat + W.1 * 2 ^ (W.2 - min U.2 W.2).toNat), .val (.int .i64 (min U.2 W.2))] (· = .val (.bool true)) := fun ju h hh => by
    have := ok1 ju hh
    have e : U.v + W.v = VV U.1 U.2 + VV W.1 W.2 := rfl
    rw [e, ← sum_Vc eU1 eW1] at this
    exact s_between (G := g) gg1 (s1' h).2 (by omega) this.1 this.2
  have w2 : Unit → nr = true → c2 = 0 → FC Tryz.prog g 34 [SP x2 y2, ZI (U.1 * 2 ^ (U.2 - min U.2 W.2).toNat + (-W.1) * 2 ^ (W.2 - min U.2 W.2).toNat), .val (.int .i64 (min U.2 W.2))] (· = .val (.bool true)) := fun ju h hh => by
    have := ok2 ju hh
    have e : U.v + -W.v = VV U.1 U.2 + VV (-W.1) W.2 := by rw [VV_neg]; rfl
    rw [e, ← sum_Vc eU1 eW1] at this
    exact s_between (G := g) gg2 (s2' h).2 (by omega) this.1 this.2
  clear s1' s2' hnr r1 r2 ok1 ok2 gg1 gg2
  clear r3 r4 ok3 ok4 gg3 gg4 lU lW bUW bUU
  have hq := hold_quo gab gcd hUb hWb hp
  rw [h0] at qh
  have hq := (show HoldQ (spQuo a b c d p) (-U.v) (-W.v) by
    rcases hq h0 with ⟨hs', hq⟩ | ⟨hs', hq⟩ <;> first | exact hq | (exfalso; omega))
  obtain ⟨x5, y5, c5, d5, r5, hc5, hd5, gg5, ok5⟩ := hq.y
  rw [r5] at k5
  have ok6 : Unit → c5 = 0 → x5.v * W.neg.v ≤ U.neg.v * 2 ^ 1048576 ∧ U.neg.v * 2 ^ 1048576 ≤ y5.v * W.neg.v := fun ju hh => by rw [D2.neg_v, D2.neg_v]; exact ok5 ju hh
  have gU' := D2.neg_good gU
  have gW' := D2.neg_good gW
  have v5 := q_form (G := g) gg5
  have z5 := LZ_good gg5.1
  have z6 := LZ_good gg5.2.1
  have l5 := bl_good gg5.1
  have l6 := bl_good gg5.2.1
  have lU' := bl_good gU'
  have lW' := bl_good gW'
  have zW' := LZ_good gW'
  have g1 := r_zfromN (G := g) x5.1 (by have := gg5.1.1; omega)
  have g2 := r_zfromN (G := g) y5.1 (by have := gg5.2.1.1; omega)
  have g3 := r_zmul (G := g) x5.1 (D2.neg W).1 (by omega) (by omega)
  have g4 := r_zmul (G := g) y5.1 (D2.neg W).1 (by omega) (by omega)
  have b3 := bl_mul_le (a := x5.1) (b := (D2.neg W).1) l5 lW'
  have b4 := bl_mul_le (a := y5.1) (b := (D2.neg W).1) l6 lW'
  have e5 := gg5.1.2.1
  have e6 := gg5.1.2.2.1
  have e7 := gg5.2.1.2.1
  have e8 := gg5.2.1.2.2.1
  have g5 := s_hold (G := g) (x5.1 * (D2.neg W).1) (x5.2 + W.2) (D2.neg U).1 U.2 (by omega) (by omega) (by omega) (by omega)
  have g6 := s_hold (G := g) (D2.neg U).1 U.2 (y5.1 * (D2.neg W).1) (y5.2 + W.2) (by omega) (by omega) (by omega) (by omega)
  have n1 := (quo_holds (c := c5) gg5.1 gU' gW' (by omega)).1 fun ju hh => (ok6 ju hh).1
  have n2 := (quo_holds (c := c5) gg5.2.1 gU' gW' (by omega)).2 fun ju hh => (ok6 ju hh).2
  obtain ⟨j1, hj1⟩ : ∃ j, j = holdS (x5.1 * (D2.neg W).1) (x5.2 + W.2) (D2.neg U).1 U.2 := ⟨_, rfl⟩
  obtain ⟨j2, hj2⟩ : ∃ j, j = holdS (D2.neg U).1 U.2 (y5.1 * (D2.neg W).1) (y5.2 + W.2) := ⟨_, rfl⟩
  replace n1 : j1 ≤ c5 := hj1 ▸ n1
  replace n2 : j2 ≤ c5 := hj2 ▸ n2
  rw [← hj1] at g5
  rw [← hj2] at g6
  have g7 := r_flip (G := g) U.1 (by omega)
  have g8 := r_flip (G := g) W.1 (by omega)
  clear hj1 hj2 ok5 ok6 gg5 r5 hq h0 zU zW z5 z6 l5 l6 lU' lW' zW' b3 b4 gU' gW' hUb hWb gU gW gab gcd gu gv
  refine FC.introS (X := XX) [12, 17, 20, 23] tok Tryz.func7 rfl Tryz.ntmps7 (by rw [Tryz.results7]) (by kernel_rfl) rfl ?_; intro F hG hO
  rw [← hG] at aw q1 q2 q3 q4 t1 t2 i1 i2 f1 f2 m1 m2 k3 k4 k5 v3 v4 qh w1 w2 s1 s2 w3 w4 n k1 k2 v1 v2 g1 g2 g3 g4 g5 g6 v5 g7 g8
  repeat' ((try (conv => whnf)); first
  | ((with_reducible refine cg ?_); first | refine ceq aw rfl ?_ | refine ceq q1 rfl ?_ | refine ceq q2 rfl ?_ | refine ceq q3 rfl ?_ | refine ceq q4 rfl ?_ | refine ceq t1 rfl ?_ | refine ceq t2 rfl ?_ | refine ceq i1 rfl ?_ | refine ceq i2 rfl ?_ | refine ceq f1 rfl ?_ | refine ceq f2 rfl ?_ | refine ceq m1 rfl ?_ | refine ceq m2 rfl ?_ | refine ceq k3 rfl ?_ | refine ceq k4 rfl ?_ | refine ceq k5 rfl ?_ | refine ceq v3 rfl ?_ | refine ceq v4 rfl ?_)
  | ((with_reducible refine cg ?_); refine call_eq qh (.cons (.refl _) (.cons lp_dy0 .nil)) rfl ?_)
  | ((with_reducible refine cg ?_); refine call_eq (w1 () (by assumption) (by omega)) (LpL.refl _) rfl ?_)
  | ((with_reducible refine cg ?_); refine call_eq (w2 () (by assumption) (by omega)) (LpL.refl _) rfl ?_)
  | ((with_reducible refine cg ?_); refine call_eq (w3 () (by omega)) (LpL.refl _) rfl ?_)
  | ((with_reducible refine cg ?_); refine call_eq (w4 () (by omega)) (LpL.refl _) rfl ?_)
  | ((with_reducible refine cg ?_); refine call_eq (s1 () (by assumption)) (LpL.refl _) rfl ?_)
  | ((with_reducible refine cg ?_); refine call_eq (s2 () (by assumption)) (LpL.refl _) rfl ?_)
  | ((with_reducible refine cg ?_); first | refine ceq n rfl ?_ | refine ceq k1 rfl ?_ | refine ceq k2 rfl ?_ | refine ceq v1 rfl ?_ | refine ceq v2 rfl ?_)
  | ((with_reducible refine sqg ?_); refine seq_j (A := Unit) 12 269 (fun _ => hS1 p ++ [(13, .ptr 6 0), (15, .ptr 7 0)]) (fun _ => hB1 a b c d U W ++ [[.val (.bool (decide (x1.1 < 0))), .ws .u64 (d64 x1.1.natAbs), .val (.int .i64 x1.2), .val (.bool (decide (y1.1 < 0))), .ws .u64 (d64 y1.1.natAbs), .val (.int .i64 y1.2)], [.val (.bool (decide ((U.1 * 2 ^ (U.2 - min U.2 W.2).toNat + W.1 * 2 ^ (W.2 - min U.2 W.2).toNat) < 0))), .ws .u32 (d32 ((U.1 * 2 ^ (U.2 - min U.2 W.2).toNat + W.1 * 2 ^ (W.2 - min U.2 W.2).toNat)).natAbs)]]) (fun _ => []) tok (by intro ju; simp [hO]) ?_ ?_; rotate_left; intro ju)
  | ((with_reducible refine sqg ?_); refine seq_j (A := Unit) 17 269 (fun _ => hS1 p) (fun _ => hB2 a b c d U W) (fun _ => []) tok (by intro ju; simp [hO]) ?_ ?_; rotate_left; intro ju)
  | ((with_reducible refine sqg ?_); refine seq_j (A := Unit) 20 269 (fun _ => hS1 p ++ [(17, .ptr 6 0)]) (fun _ => hB2 a b c d U W ++ [[.val (.bool (decide (x3.1 < 0))), .ws .u64 (d64 x3.1.natAbs), .val (.int .i64 x3.2), .val (.bool (decide (y3.1 < 0))), .ws .u64 (d64 y3.1.natAbs), .val (.int .i64 y3.2)]]) (fun _ => []) tok (by intro ju; simp [hO]) ?_ ?_; rotate_left; intro ju)
  | ((with_reducible refine sqg ?_); refine seq_j (A := Unit) 23 269 (fun _ => hS1 p ++ [(17, .ptr 6 0)]) (fun _ => hB2 a b c d U W ++ [[.val (.bool (decide (x4.1 < 0))), .ws .u64 (d64 x4.1.natAbs), .val (.int .i64 x4.2), .val (.bool (decide (y4.1 < 0))), .ws .u64 (d64 y4.1.natAbs), .val (.int .i64 y4.2)]]) (fun _ => []) tok (by intro ju; simp [hO]) ?_ ?_; rotate_left; intro ju)
  | exact joinp () [(0, []), (1, []), (2, []), (3, []), (4, []), (5, []), (6, []), (7, [])] rfl rfl rfl ⟨_, rfl⟩
  | exact joinp () [(0, []), (1, []), (2, []), (3, []), (4, []), (5, []), (6, [])] rfl rfl rfl ⟨_, rfl⟩
  | exact joinp () [(0, []), (1, []), (2, []), (3, [0]), (4, []), (5, [])] rfl rfl rfl ⟨_, rfl⟩
  | ((with_reducible refine dg ?_); refine Reg.use (reg_h5 (a := a) (b := b) (c := c) (d := d) (u := u) (v := v) (U := U) (W := W) (p := p) i1 i2) hO (cutj rfl ⟨_, rfl⟩ ⟨_, rfl⟩) ?_; intro ju)
  | ((with_reducible refine dg ?_); refine Reg.use (reg_h6 (a := a) (b := b) (c := c) (d := d) (U := U) (W := W) (p := p) f1 f2) hO (cutj rfl ⟨_, rfl⟩ ⟨_, rfl⟩) ?_; intro ju)
  | ((with_reducible refine dg ?_); refine draw_p (A := Unit) (id := 8) (N := 269) (fun _ => hS1 p ++ [(13, .ptr 6 0), (14, .val (.int .i64 (c1)))]) (fun _ => hB1 a b c d U W ++ [[.val (.bool (decide (x1.1 < 0))), .ws .u64 (d64 x1.1.natAbs), .val (.int .i64 x1.2), .val (.bool (decide (y1.1 < 0))), .ws .u64 (d64 y1.1.natAbs), .val (.int .i64 y1.2)]]) (fun _ => []) hT8 tok mixed (by kernel_rfl) (by kernel_rfl) (by intro ju; simp [hO]) ?_ ?_; rotate_left; intro ju)
  | exact joinp () [(0, []), (1, []), (2, []), (3, []), (4, []), (5, []), (6, [])] rfl rfl rfl ⟨_, rfl⟩
  | ((with_reducible refine dg ?_); refine draw_p (A := Unit) (id := 12) (N := 269) (fun _ => hS1 p ++ [(13, .ptr 6 0), (15, .ptr 7 0), (14, .val (.int .i64 (c2)))]) (fun _ => hB1 a b c d U W ++ [[.val (.bool (decide (x2.1 < 0))), .ws .u64 (d64 x2.1.natAbs), .val (.int .i64 x2.2), .val (.bool (decide (y2.1 < 0))), .ws .u64 (d64 y2.1.natAbs), .val (.int .i64 y2.2)], [.val (.bool (decide ((U.1 * 2 ^ (U.2 - min U.2 W.2).toNat + W.1 * 2 ^ (W.2 - min U.2 W.2).toNat) < 0))), .ws .u32 (d32 ((U.1 * 2 ^ (U.2 - min U.2 W.2).toNat + W.1 * 2 ^ (W.2 - min U.2 W.2).toNat)).natAbs)]]) (fun _ => []) (.take 4 (.alt 0 (.alt 1 (.alt 2 (.alt 3 (.alt 5 (.take 6 (.take 7 (.take 8 (.alt 9 (.alt 10 (.fin) (.non)) (.non))))) (.non)) (.non)) (.non)) (.alt 2 (.alt 1 (.alt 3 (.alt 5 (.take 6 (.take 7 (.take 8 (.alt 9 (.alt 10 (.fin) (.non)) (.non))))) (.non)) (.non)) (.non)) (.non))) (.alt 2 (.alt 0 (.alt 1 (.alt 3 (.alt 5 (.take 6 (.take 7 (.take 8 (.alt 9 (.alt 10 (.fin) (.non)) (.non))))) (.non)) (.non)) (.non)) (.non)) (.non)))) tok mixed (by kernel_rfl) (by kernel_rfl) (by intro ju; simp [hO]) ?_ ?_; rotate_left; intro ju)
  | exact joinp () [(0, []), (1, []), (2, []), (3, []), (4, []), (5, []), (6, []), (7, [])] rfl rfl rfl ⟨_, rfl⟩
  | ((with_reducible refine dg ?_); refine draw_p (A := Unit) (id := 17) (N := 269) (fun _ => hS1 p ++ [(17, .ptr 6 0), (18, .val (.int .i64 (c3)))]) (fun _ => hB2 a b c d U W ++ [[.val (.bool (decide (x3.1 < 0))), .ws .u64 (d64 x3.1.natAbs), .val (.int .i64 x3.2), .val (.bool (decide (y3.1 < 0))), .ws .u64 (d64 y3.1.natAbs), .val (.int .i64 y3.2)]]) (fun _ => []) hT8 tok mixed (by kernel_rfl) (by kernel_rfl) (by intro ju; simp [hO]) ?_ ?_; rotate_left; intro ju)
  | exact joinp () [(0, []), (1, []), (2, []), (3, []), (4, []), (5, []), (6, [])] rfl rfl rfl ⟨_, rfl⟩
  | ((with_reducible refine cg ?_); first | refine ceq g1 rfl ?_ | refine ceq g2 rfl ?_ | refine ceq g3 rfl ?_ | refine ceq g4 rfl ?_ | refine ceq g5 rfl ?_ | refine ceq g6 rfl ?_ | refine ceq v5 rfl ?_ | refine ceq g7 rfl ?_ | refine ceq g8 rfl ?_)
  | ((with_reducible refine dg ?_); refine draw_p (A := Unit) (id := 23) (N := 269) (fun _ => hS1 p ++ [(17, .ptr 6 0), (18, .val (.int .i64 (c5)))]) (fun _ => hB2 a b c d U W ++ [[.val (.bool (decide (x5.1 < 0))), .ws .u64 (d64 x5.1.natAbs), .val (.int .i64 x5.2), .val (.bool (decide (y5.1 < 0))), .ws .u64 (d64 y5.1.natAbs), .val (.int .i64 y5.2)]]) (fun _ => []) (.take 4 (.alt 0 (.alt 1 (.alt 2 (.alt 3 (.alt 5 (.take 6 (.take 7 (.take 8 (.alt 9 (.alt 10 (.fin) (.non)) (.non))))) (.non)) (.non)) (.non)) (.alt 2 (.alt 1 (.alt 3 (.alt 5 (.take 6 (.take 7 (.take 8 (.alt 9 (.alt 10 (.fin) (.non)) (.non))))) (.non)) (.non)) (.non)) (.non))) (.alt 2 (.alt 0 (.alt 1 (.alt 3 (.alt 5 (.take 6 (.take 7 (.take 8 (.alt 9 (.alt 10 (.fin) (.non)) (.non))))) (.non)) (.non)) (.non)) (.non)) (.non)))) tok mixed (by kernel_rfl) (by kernel_rfl) (by intro ju; simp [hO]) ?_ ?_; rotate_left; intro ju)
  | exact joinp () [(0, []), (1, []), (2, []), (3, []), (4, []), (5, []), (6, [])] rfl rfl rfl ⟨_, rfl⟩
  | ((with_reducible refine dg ?_); refine draw_p (A := Unit) (id := 31) (N := 269) (fun _ => hS1 p ++ [(17, .ptr 6 0), (18, .val (.int .i64 (c5)))]) (fun _ => hB3 a b c d U W ++ [[.val (.bool (decide (x5.1 < 0))), .ws .u64 (d64 x5.1.natAbs), .val (.int .i64 x5.2), .val (.bool (decide (y5.1 < 0))), .ws .u64 (d64 y5.1.natAbs), .val (.int .i64 y5.2)]]) (fun _ => []) (.alt 0 (.alt 1 (.alt 2 (.alt 3 (.alt 4 (.alt 5 (.fin) (.non)) (.non)) (.non)) (.non)) (.alt 2 (.alt 1 (.alt 3 (.alt 4 (.alt 5 (.fin) (.non)) (.non)) (.non)) (.non)) (.non))) (.alt 2 (.alt 0 (.alt 1 (.alt 3 (.alt 4 (.alt 5 (.fin) (.non)) (.non)) (.non)) (.non)) (.non)) (.non))) tok mixed (by kernel_rfl) (by kernel_rfl) (by intro ju; simp [hO]) ?_ ?_; rotate_left; intro ju)
  | exact joinp () [(0, []), (1, []), (2, []), (3, []), (4, []), (5, []), (6, [])] rfl rfl rfl ⟨_, rfl⟩
  | ((with_reducible refine dg ?_); refine Reg.use (reg_h32 (a := a) (b := b) (c := c) (d := d) (U := U) (W := W) (x5 := x5) (y5 := y5) (X := (-U.1)) (Y := (-W.1)) g1 g2 g3 g4) hO (cutj rfl ⟨_, rfl⟩ ⟨_, rfl⟩) ?_; intro ju)
  
  | (with_reducible refine draw_g (id := 18) [[0, 1, 2, 3, 4, 5, 6, 7, 8, 9, 10, 11, 12, 13, 15, 16, 17, 18, 19, 14, 20, 21, 22, 23]] tok mixed (by kernel_rfl) ?_)
  | (with_reducible refine draw_g (id := 21) [[0, 1, 2, 3, 4, 5, 6, 7, 8, 9, 10, 11, 12, 13, 15, 16, 17, 14, 18, 19, 20, 21]] tok mixed (by kernel_rfl) ?_)
  | with_reducible first | refine ax_s ?_ | refine BothG.mk ?_ ?_ | (refine ax_f ?_ ?_ <;> intro hc) | refine smk ?_ | fail)
  all_goals first
    | exact ⟨ret_e rfl⟩
    | exact ⟨ret_e (by rw [decide_eq_true (by omega)])⟩
end Go.Proofs.YtpjbgmafnheomaaGreatDoor.Sim
namespace Go.Proofs.YtpjbgmafnheomaaGreatDoor.Sim
open Go.RowKit
set_option linter.unusedVariables false
set_option linter.unusedSimpArgs false
set_option maxHeartbeats 4000000
variable {G : List (Nat × List Value)}
set_option maxRecDepth 10000
set_option maxHeartbeats 8000000
theorem spF_same (b : Bool) (l : List Int) (e : Int) : spF b l e b l e = dyF b l e := by
  unfold spF
  rw [decide_eq_true (Int.le_refl _), Bool.and_true, Bool.and_self]
end Go.Proofs.YtpjbgmafnheomaaGreatDoor.Sim
