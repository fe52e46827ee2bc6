/-
  What the statement SpanOnesCardSaid leans on, part 17: the logic of walks, digits, contracts of the functions, the plain law. Conditions stand in each theorem.
-/
import Derived.Test.YtpjbgmafnheomaaGreatDoorPkSpanOnesCardSaidP
namespace Go.Proofs.YtpjbgmafnheomaaGreatDoor.Sim
open Go.RowKit
set_option linter.unusedVariables false
set_option linter.unusedSimpArgs false
set_option maxRecDepth 10000
set_option maxHeartbeats 8000000
theorem s_one6 {g : List (Nat × List Value)} (b1 : Bool) (l1 : List Int) (e1 : Int) (b2 : Bool) (l2 : List Int) (e2 : Int) (b3 : Bool) (l3 : List Int) (e3 : Int) (b4 : Bool) (l4 : List Int) (e4 : Int) (b5 : Bool) (l5 : List Int) (e5 : Int) {p : Int} (o1 : OKM l1) (o2 : OKM l2) (o3 : OKM l3) (o4 : OKM l4) (o5 : OKM l5) {x y : D2} (gx : x.good) (gy : y.good) {c : Int} (f : FC Tryz.prog g 17 [Sp b1 l1 e1 b2 l2 e2, .val (.int .i64 p)] (· = .tup [SP x y, .val (.int .i64 (c))])) (k : FC Tryz.prog g 125 [Sp b1 l1 e1 b2 l2 e2, .val (.int .i64 p)] (· = .tup [SP x y, .val (.int .i64 (c))])) : FC Tryz.prog g 86 [.agg [.val (.int .i64 (6)), .val (.bool b1), .ws .u64 l1, .val (.int .i64 e1), .val (.bool b2), .ws .u64 l2, .val (.int .i64 e2), .val (.bool b3), .ws .u64 l3, .val (.int .i64 e3), .val (.bool b4), .ws .u64 l4, .val (.int .i64 e4), .val (.bool b5), .ws .u64 l5, .val (.int .i64 e5), .val (.int .i64 p)]] (· = .val (.bool true)) := by
  have t1 := s_twin (G := g) b1 l1 e1 b2 l2 e2 o1 o2
  have q := q_same_t (G := g) gx gy
  refine ax_i Tryz.func86 Tryz.ntmps86 (by rw [Tryz.results86]) ?_; intro F hG hO
  rw [← hG] at t1 f k q
  repeat' ((try (conv => whnf)); first
  | ((with_reducible refine cg ?_); first | refine ceq t1 rfl ?_ | refine ceq f rfl ?_ | refine ceq k rfl ?_ | refine ceq q rfl ?_)
  | ((with_reducible refine dg ?_); refine draw_p (A := Unit) (id := 8) (N := 154) (fun _ => [(1, .ptr 0 0), (3, .ptr 1 0), (4, .ptr 2 0), (5, .val (.int .i64 (c)))]) (fun _ => [[.val (.int .i64 (6)), .val (.bool b1), .ws .u64 l1, .val (.int .i64 e1), .val (.bool b2), .ws .u64 l2, .val (.int .i64 e2), .val (.bool b3), .ws .u64 l3, .val (.int .i64 e3), .val (.bool b4), .ws .u64 l4, .val (.int .i64 e4), .val (.bool b5), .ws .u64 l5, .val (.int .i64 e5), .val (.int .i64 p)], [.val (.bool (decide (x.1 < 0))), .ws .u64 (d64 x.1.natAbs), .val (.int .i64 x.2), .val (.bool (decide (y.1 < 0))), .ws .u64 (d64 y.1.natAbs), .val (.int .i64 y.2)], [.val (.bool false), .nil, .val (.int .i64 0), .val (.bool false), .nil, .val (.int .i64 0)]]) (fun _ => []) (.take 0 (.take 3 (.alt 1 (.alt 2 (.alt 4 (.alt 5 (.take 6 (.take 7 (.take 8 (.alt 9 (.alt 10 (.fin) (.non)) (.non))))) (.non)) (.non)) (.alt 4 (.alt 2 (.alt 5 (.take 6 (.take 7 (.take 8 (.alt 9 (.alt 10 (.fin) (.non)) (.non))))) (.non)) (.non)) (.non))) (.alt 4 (.alt 1 (.alt 2 (.alt 5 (.take 6 (.take 7 (.take 8 (.alt 9 (.alt 10 (.fin) (.non)) (.non))))) (.non)) (.non)) (.non)) (.non))))) tok mixed (by kernel_rfl) (by kernel_rfl) (by intro ju; simp [hO]) ?_ ?_; rotate_left; intro ju)
  | exact joinp () [(0, []), (1, []), (2, [])] rfl rfl rfl ⟨_, rfl⟩
  
  | (with_reducible refine draw_g (id := 8) [[0, 1, 3, 4, 2, 5], [6], [7], [8], [9, 10]] tok mixed (by kernel_rfl) ?_)
  | (with_reducible refine draw_g (id := 11) [[0, 1, 3, 4, 2, 5], [6], [7], [8], [9, 10]] tok mixed (by kernel_rfl) ?_)
  | (with_reducible refine draw_g (id := 17) [[0, 1, 3, 4, 2, 5, 6], [7], [8], [9], [10, 11]] tok mixed (by kernel_rfl) ?_)
  | (with_reducible refine draw_g (id := 21) [[0, 1, 3, 4, 2, 5, 6], [7], [8], [9], [10], [11, 12, 13]] tok mixed (by kernel_rfl) ?_)
  | (with_reducible refine draw_g (id := 5) [[0, 1, 2, 4, 5, 6, 3, 7, 8], [9], [10], [11], [12, 13]] tok mixed (by kernel_rfl) ?_)
  | with_reducible first | refine ax_s ?_ | refine BothG.mk ?_ ?_ | (refine ax_f ?_ ?_ <;> intro hc) | refine smk ?_ | fail)
  all_goals exact ⟨ret_e rfl⟩
theorem s_one7 {g : List (Nat × List Value)} (b1 : Bool) (l1 : List Int) (e1 : Int) (b2 : Bool) (l2 : List Int) (e2 : Int) (b3 : Bool) (l3 : List Int) (e3 : Int) (b4 : Bool) (l4 : List Int) (e4 : Int) (b5 : Bool) (l5 : List Int) (e5 : Int) {p : Int} (o1 : OKM l1) (o2 : OKM l2) (o3 : OKM l3) (o4 : OKM l4) (o5 : OKM l5) {x y : D2} (gx : x.good) (gy : y.good) {c : Int} (f : FC Tryz.prog g 89 [Sp b1 l1 e1 b2 l2 e2, .val (.int .i64 p)] (· = .tup [SP x y, .val (.int .i64 (c))])) (k : FC Tryz.prog g 126 [Sp b1 l1 e1 b2 l2 e2, .val (.int .i64 p)] (· = .tup [SP x y, .val (.int .i64 (c))])) : FC Tryz.prog g 86 [.agg [.val (.int .i64 (7)), .val (.bool b1), .ws .u64 l1, .val (.int .i64 e1), .val (.bool b2), .ws .u64 l2, .val (.int .i64 e2), .val (.bool b3), .ws .u64 l3, .val (.int .i64 e3), .val (.bool b4), .ws .u64 l4, .val (.int .i64 e4), .val (.bool b5), .ws .u64 l5, .val (.int .i64 e5), .val (.int .i64 p)]] (· = .val (.bool true)) := by
  have t1 := s_twin (G := g) b1 l1 e1 b2 l2 e2 o1 o2
  have q := q_same_t (G := g) gx gy
  refine ax_i Tryz.func86 Tryz.ntmps86 (by rw [Tryz.results86]) ?_; intro F hG hO
  rw [← hG] at t1 f k q
  repeat' ((try (conv => whnf)); first
  | ((with_reducible refine cg ?_); first | refine ceq t1 rfl ?_ | refine ceq f rfl ?_ | refine ceq k rfl ?_ | refine ceq q rfl ?_)
  | ((with_reducible refine dg ?_); refine draw_p (A := Unit) (id := 11) (N := 154) (fun _ => [(1, .ptr 0 0), (3, .ptr 1 0), (4, .ptr 2 0), (5, .val (.int .i64 (c)))]) (fun _ => [[.val (.int .i64 (7)), .val (.bool b1), .ws .u64 l1, .val (.int .i64 e1), .val (.bool b2), .ws .u64 l2, .val (.int .i64 e2), .val (.bool b3), .ws .u64 l3, .val (.int .i64 e3), .val (.bool b4), .ws .u64 l4, .val (.int .i64 e4), .val (.bool b5), .ws .u64 l5, .val (.int .i64 e5), .val (.int .i64 p)], [.val (.bool (decide (x.1 < 0))), .ws .u64 (d64 x.1.natAbs), .val (.int .i64 x.2), .val (.bool (decide (y.1 < 0))), .ws .u64 (d64 y.1.natAbs), .val (.int .i64 y.2)], [.val (.bool false), .nil, .val (.int .i64 0), .val (.bool false), .nil, .val (.int .i64 0)]]) (fun _ => []) (.take 0 (.take 3 (.alt 1 (.alt 2 (.alt 4 (.alt 5 (.take 6 (.take 7 (.take 8 (.alt 9 (.alt 10 (.fin) (.non)) (.non))))) (.non)) (.non)) (.alt 4 (.alt 2 (.alt 5 (.take 6 (.take 7 (.take 8 (.alt 9 (.alt 10 (.fin) (.non)) (.non))))) (.non)) (.non)) (.non))) (.alt 4 (.alt 1 (.alt 2 (.alt 5 (.take 6 (.take 7 (.take 8 (.alt 9 (.alt 10 (.fin) (.non)) (.non))))) (.non)) (.non)) (.non)) (.non))))) tok mixed (by kernel_rfl) (by kernel_rfl) (by intro ju; simp [hO]) ?_ ?_; rotate_left; intro ju)
  | exact joinp () [(0, []), (1, []), (2, [])] rfl rfl rfl ⟨_, rfl⟩
  
  | (with_reducible refine draw_g (id := 8) [[0, 1, 3, 4, 2, 5], [6], [7], [8], [9, 10]] tok mixed (by kernel_rfl) ?_)
  | (with_reducible refine draw_g (id := 11) [[0, 1, 3, 4, 2, 5], [6], [7], [8], [9, 10]] tok mixed (by kernel_rfl) ?_)
  | (with_reducible refine draw_g (id := 17) [[0, 1, 3, 4, 2, 5, 6], [7], [8], [9], [10, 11]] tok mixed (by kernel_rfl) ?_)
  | (with_reducible refine draw_g (id := 21) [[0, 1, 3, 4, 2, 5, 6], [7], [8], [9], [10], [11, 12, 13]] tok mixed (by kernel_rfl) ?_)
  | (with_reducible refine draw_g (id := 5) [[0, 1, 2, 4, 5, 6, 3, 7, 8], [9], [10], [11], [12, 13]] tok mixed (by kernel_rfl) ?_)
  | with_reducible first | refine ax_s ?_ | refine BothG.mk ?_ ?_ | (refine ax_f ?_ ?_ <;> intro hc) | refine smk ?_ | fail)
  all_goals exact ⟨ret_e rfl⟩
theorem s_one8 {g : List (Nat × List Value)} (b1 : Bool) (l1 : List Int) (e1 : Int) (b2 : Bool) (l2 : List Int) (e2 : Int) (b3 : Bool) (l3 : List Int) (e3 : Int) (b4 : Bool) (l4 : List Int) (e4 : Int) (b5 : Bool) (l5 : List Int) (e5 : Int) {p : Int} (o1 : OKM l1) (o2 : OKM l2) (o3 : OKM l3) (o4 : OKM l4) (o5 : OKM l5) {x y : D2} (gx : x.good) (gy : y.good) {c : Int} (f : FC Tryz.prog g 22 [Sp b1 l1 e1 b2 l2 e2] (· = .tup [SP x y, .val (.int .i64 (c))])) (k : FC Tryz.prog g 127 [Sp b1 l1 e1 b2 l2 e2] (· = .tup [SP x y, .val (.int .i64 (c))])) : FC Tryz.prog g 86 [.agg [.val (.int .i64 (8)), .val (.bool b1), .ws .u64 l1, .val (.int .i64 e1), .val (.bool b2), .ws .u64 l2, .val (.int .i64 e2), .val (.bool b3), .ws .u64 l3, .val (.int .i64 e3), .val (.bool b4), .ws .u64 l4, .val (.int .i64 e4), .val (.bool b5), .ws .u64 l5, .val (.int .i64 e5), .val (.int .i64 p)]] (· = .val (.bool true)) := by
  have t1 := s_twin (G := g) b1 l1 e1 b2 l2 e2 o1 o2
  have q := q_same_t (G := g) gx gy
  refine ax_i Tryz.func86 Tryz.ntmps86 (by rw [Tryz.results86]) ?_; intro F hG hO
  rw [← hG] at t1 f k q
  repeat' ((try (conv => whnf)); first
  | ((with_reducible refine cg ?_); first | refine ceq t1 rfl ?_ | refine ceq f rfl ?_ | refine ceq k rfl ?_ | refine ceq q rfl ?_)
  
  | (with_reducible refine draw_g (id := 8) [[0, 1, 3, 4, 2, 5], [6], [7], [8], [9, 10]] tok mixed (by kernel_rfl) ?_)
  | (with_reducible refine draw_g (id := 11) [[0, 1, 3, 4, 2, 5], [6], [7], [8], [9, 10]] tok mixed (by kernel_rfl) ?_)
  | (with_reducible refine draw_g (id := 17) [[0, 1, 3, 4, 2, 5, 6], [7], [8], [9], [10, 11]] tok mixed (by kernel_rfl) ?_)
  | (with_reducible refine draw_g (id := 21) [[0, 1, 3, 4, 2, 5, 6], [7], [8], [9], [10], [11, 12, 13]] tok mixed (by kernel_rfl) ?_)
  | (with_reducible refine draw_g (id := 5) [[0, 1, 2, 4, 5, 6, 3, 7, 8], [9], [10], [11], [12, 13]] tok mixed (by kernel_rfl) ?_)
  | with_reducible first | refine ax_s ?_ | refine BothG.mk ?_ ?_ | (refine ax_f ?_ ?_ <;> intro hc) | refine smk ?_ | fail)
  all_goals exact ⟨ret_e rfl⟩
theorem s_one9 {g : List (Nat × List Value)} (b1 : Bool) (l1 : List Int) (e1 : Int) (b2 : Bool) (l2 : List Int) (e2 : Int) (b3 : Bool) (l3 : List Int) (e3 : Int) (b4 : Bool) (l4 : List Int) (e4 : Int) (b5 : Bool) (l5 : List Int) (e5 : Int) {p : Int} (o1 : OKM l1) (o2 : OKM l2) (o3 : OKM l3) (o4 : OKM l4) (o5 : OKM l5) {x y : D2} (gx : x.good) (gy : y.good) {c : Int} (f : FC Tryz.prog g 26 [Sp b1 l1 e1 b2 l2 e2, Sp b3 l3 e3 b4 l4 e4] (· = .tup [SP x y, .val (.int .i64 (c))])) (k : FC Tryz.prog g 128 [Sp b1 l1 e1 b2 l2 e2, Sp b3 l3 e3 b4 l4 e4] (· = .tup [SP x y, .val (.int .i64 (c))])) : FC Tryz.prog g 86 [.agg [.val (.int .i64 (9)), .val (.bool b1), .ws .u64 l1, .val (.int .i64 e1), .val (.bool b2), .ws .u64 l2, .val (.int .i64 e2), .val (.bool b3), .ws .u64 l3, .val (.int .i64 e3), .val (.bool b4), .ws .u64 l4, .val (.int .i64 e4), .val (.bool b5), .ws .u64 l5, .val (.int .i64 e5), .val (.int .i64 p)]] (· = .val (.bool true)) := by
  have t1 := s_twin (G := g) b1 l1 e1 b2 l2 e2 o1 o2
  have t2 := s_twin (G := g) b3 l3 e3 b4 l4 e4 o3 o4
  have q := q_same_t (G := g) gx gy
  refine ax_i Tryz.func86 Tryz.ntmps86 (by rw [Tryz.results86]) ?_; intro F hG hO
  rw [← hG] at t1 t2 f k q
  repeat' ((try (conv => whnf)); first
  | ((with_reducible refine cg ?_); first | refine ceq t1 rfl ?_ | refine ceq t2 rfl ?_ | refine ceq f rfl ?_ | refine ceq k rfl ?_ | refine ceq q rfl ?_)
  | ((with_reducible refine dg ?_); refine draw_p (A := Unit) (id := 17) (N := 154) (fun _ => [(1, .ptr 0 0), (3, .ptr 1 0), (4, .ptr 2 0), (5, .val (.int .i64 (c)))]) (fun _ => [[.val (.int .i64 (9)), .val (.bool b1), .ws .u64 l1, .val (.int .i64 e1), .val (.bool b2), .ws .u64 l2, .val (.int .i64 e2), .val (.bool b3), .ws .u64 l3, .val (.int .i64 e3), .val (.bool b4), .ws .u64 l4, .val (.int .i64 e4), .val (.bool b5), .ws .u64 l5, .val (.int .i64 e5), .val (.int .i64 p)], [.val (.bool (decide (x.1 < 0))), .ws .u64 (d64 x.1.natAbs), .val (.int .i64 x.2), .val (.bool (decide (y.1 < 0))), .ws .u64 (d64 y.1.natAbs), .val (.int .i64 y.2)], [.val (.bool false), .nil, .val (.int .i64 0), .val (.bool false), .nil, .val (.int .i64 0)]]) (fun _ => []) (.take 0 (.take 3 (.alt 1 (.alt 2 (.alt 4 (.alt 5 (.alt 6 (.take 7 (.take 8 (.take 9 (.alt 10 (.alt 11 (.fin) (.non)) (.non))))) (.non)) (.non)) (.non)) (.alt 4 (.alt 2 (.alt 5 (.alt 6 (.take 7 (.take 8 (.take 9 (.alt 10 (.alt 11 (.fin) (.non)) (.non))))) (.non)) (.non)) (.non)) (.non))) (.alt 4 (.alt 1 (.alt 2 (.alt 5 (.alt 6 (.take 7 (.take 8 (.take 9 (.alt 10 (.alt 11 (.fin) (.non)) (.non))))) (.non)) (.non)) (.non)) (.non)) (.non))))) tok mixed (by kernel_rfl) (by kernel_rfl) (by intro ju; simp [hO]) ?_ ?_; rotate_left; intro ju)
  | exact joinp () [(0, []), (1, []), (2, [])] rfl rfl rfl ⟨_, rfl⟩
  
  | (with_reducible refine draw_g (id := 8) [[0, 1, 3, 4, 2, 5], [6], [7], [8], [9, 10]] tok mixed (by kernel_rfl) ?_)
  | (with_reducible refine draw_g (id := 11) [[0, 1, 3, 4, 2, 5], [6], [7], [8], [9, 10]] tok mixed (by kernel_rfl) ?_)
  | (with_reducible refine draw_g (id := 17) [[0, 1, 3, 4, 2, 5, 6], [7], [8], [9], [10, 11]] tok mixed (by kernel_rfl) ?_)
  | (with_reducible refine draw_g (id := 21) [[0, 1, 3, 4, 2, 5, 6], [7], [8], [9], [10], [11, 12, 13]] tok mixed (by kernel_rfl) ?_)
  | (with_reducible refine draw_g (id := 5) [[0, 1, 2, 4, 5, 6, 3, 7, 8], [9], [10], [11], [12, 13]] tok mixed (by kernel_rfl) ?_)
  | with_reducible first | refine ax_s ?_ | refine BothG.mk ?_ ?_ | (refine ax_f ?_ ?_ <;> intro hc) | refine smk ?_ | fail)
  all_goals exact ⟨ret_e rfl⟩
theorem s_one10 {g : List (Nat × List Value)} (b1 : Bool) (l1 : List Int) (e1 : Int) (b2 : Bool) (l2 : List Int) (e2 : Int) (b3 : Bool) (l3 : List Int) (e3 : Int) (b4 : Bool) (l4 : List Int) (e4 : Int) (b5 : Bool) (l5 : List Int) (e5 : Int) {p : Int} (o1 : OKM l1) (o2 : OKM l2) (o3 : OKM l3) (o4 : OKM l4) (o5 : OKM l5) {x y : D2} (gx : x.good) (gy : y.good) {c : Int} {t : Bool} (f : FC Tryz.prog g 25 [Sp b1 l1 e1 b2 l2 e2, Sp b3 l3 e3 b4 l4 e4] (· = .tup [SP x y, .val (.bool t), .val (.int .i64 (c))])) (k : FC Tryz.prog g 129 [Sp b1 l1 e1 b2 l2 e2, Sp b3 l3 e3 b4 l4 e4] (· = .tup [SP x y, .val (.bool t), .val (.int .i64 (c))])) : FC Tryz.prog g 86 [.agg [.val (.int .i64 (10)), .val (.bool b1), .ws .u64 l1, .val (.int .i64 e1), .val (.bool b2), .ws .u64 l2, .val (.int .i64 e2), .val (.bool b3), .ws .u64 l3, .val (.int .i64 e3), .val (.bool b4), .ws .u64 l4, .val (.int .i64 e4), .val (.bool b5), .ws .u64 l5, .val (.int .i64 e5), .val (.int .i64 p)]] (· = .val (.bool true)) := by
  have t1 := s_twin (G := g) b1 l1 e1 b2 l2 e2 o1 o2
  have t2 := s_twin (G := g) b3 l3 e3 b4 l4 e4 o3 o4
  have q := q_same_t (G := g) gx gy
  cases t <;> (
  refine ax_i Tryz.func86 Tryz.ntmps86 (by rw [Tryz.results86]) ?_; intro F hG hO
  rw [← hG] at t1 t2 f k q
  repeat' ((try (conv => whnf)); first
  | ((with_reducible refine cg ?_); first | refine ceq t1 rfl ?_ | refine ceq t2 rfl ?_ | refine ceq f rfl ?_ | refine ceq k rfl ?_ | refine ceq q rfl ?_)
  | ((with_reducible refine dg ?_); refine draw_p (A := Unit) (id := 21) (N := 154) (fun _ => [(1, .ptr 0 0), (3, .ptr 1 0), (4, .ptr 2 0), (5, .val (.int .i64 (c))), (7, .val (.bool t))]) (fun _ => [[.val (.int .i64 (10)), .val (.bool b1), .ws .u64 l1, .val (.int .i64 e1), .val (.bool b2), .ws .u64 l2, .val (.int .i64 e2), .val (.bool b3), .ws .u64 l3, .val (.int .i64 e3), .val (.bool b4), .ws .u64 l4, .val (.int .i64 e4), .val (.bool b5), .ws .u64 l5, .val (.int .i64 e5), .val (.int .i64 p)], [.val (.bool (decide (x.1 < 0))), .ws .u64 (d64 x.1.natAbs), .val (.int .i64 x.2), .val (.bool (decide (y.1 < 0))), .ws .u64 (d64 y.1.natAbs), .val (.int .i64 y.2)], [.val (.bool false), .nil, .val (.int .i64 0), .val (.bool false), .nil, .val (.int .i64 0)]]) (fun _ => []) (.take 0 (.take 3 (.alt 1 (.alt 2 (.alt 4 (.alt 5 (.alt 6 (.take 7 (.take 8 (.take 9 (.take 10 (.alt 11 (.alt 12 (.alt 13 (.fin) (.non)) (.non)) (.non)))))) (.non)) (.non)) (.non)) (.alt 4 (.alt 2 (.alt 5 (.alt 6 (.take 7 (.take 8 (.take 9 (.take 10 (.alt 11 (.alt 12 (.alt 13 (.fin) (.non)) (.non)) (.non)))))) (.non)) (.non)) (.non)) (.non))) (.alt 4 (.alt 1 (.alt 2 (.alt 5 (.alt 6 (.take 7 (.take 8 (.take 9 (.take 10 (.alt 11 (.alt 12 (.alt 13 (.fin) (.non)) (.non)) (.non)))))) (.non)) (.non)) (.non)) (.non)) (.non))))) tok mixed (by kernel_rfl) (by kernel_rfl) (by intro ju; simp [hO]) ?_ ?_; rotate_left; intro ju)
  | exact joinp () [(0, []), (1, []), (2, [])] rfl rfl rfl ⟨_, rfl⟩
  
  | (with_reducible refine draw_g (id := 8) [[0, 1, 3, 4, 2, 5], [6], [7], [8], [9, 10]] tok mixed (by kernel_rfl) ?_)
  | (with_reducible refine draw_g (id := 11) [[0, 1, 3, 4, 2, 5], [6], [7], [8], [9, 10]] tok mixed (by kernel_rfl) ?_)
  | (with_reducible refine draw_g (id := 17) [[0, 1, 3, 4, 2, 5, 6], [7], [8], [9], [10, 11]] tok mixed (by kernel_rfl) ?_)
  | (with_reducible refine draw_g (id := 21) [[0, 1, 3, 4, 2, 5, 6], [7], [8], [9], [10], [11, 12, 13]] tok mixed (by kernel_rfl) ?_)
  | (with_reducible refine draw_g (id := 5) [[0, 1, 2, 4, 5, 6, 3, 7, 8], [9], [10], [11], [12, 13]] tok mixed (by kernel_rfl) ?_)
  | with_reducible first | refine ax_s ?_ | refine BothG.mk ?_ ?_ | (refine ax_f ?_ ?_ <;> intro hc) | refine smk ?_ | fail)
  all_goals exact ⟨ret_e rfl⟩)
theorem s_one15 {g : List (Nat × List Value)} (b1 : Bool) (l1 : List Int) (e1 : Int) (b2 : Bool) (l2 : List Int) (e2 : Int) (b3 : Bool) (l3 : List Int) (e3 : Int) (b4 : Bool) (l4 : List Int) (e4 : Int) (b5 : Bool) (l5 : List Int) (e5 : Int) {p : Int} (o1 : OKM l1) (o2 : OKM l2) (o3 : OKM l3) (o4 : OKM l4) (o5 : OKM l5) {x y : D2} (gx : x.good) (gy : y.good) {c : Int} (f : FC Tryz.prog g 41 [Dy b5 l5 e5] (· = .tup [SP x y, .val (.int .i64 (c))])) (k : FC Tryz.prog g 130 [Dy b5 l5 e5] (· = .tup [SP x y, .val (.int .i64 (c))])) : FC Tryz.prog g 86 [.agg [.val (.int .i64 (15)), .val (.bool b1), .ws .u64 l1, .val (.int .i64 e1), .val (.bool b2), .ws .u64 l2, .val (.int .i64 e2), .val (.bool b3), .ws .u64 l3, .val (.int .i64 e3), .val (.bool b4), .ws .u64 l4, .val (.int .i64 e4), .val (.bool b5), .ws .u64 l5, .val (.int .i64 e5), .val (.int .i64 p)]] (· = .val (.bool true)) := by
  have t1 := s_number (G := g) b5 l5 e5 o5
  have q := q_same_t (G := g) gx gy
  refine ax_i Tryz.func86 Tryz.ntmps86 (by rw [Tryz.results86]) ?_; intro F hG hO
  rw [← hG] at t1 f k q
  repeat' ((try (conv => whnf)); first
  | ((with_reducible refine cg ?_); first | refine ceq t1 rfl ?_ | refine ceq f rfl ?_ | refine ceq k rfl ?_ | refine ceq q rfl ?_)
  
  | (with_reducible refine draw_g (id := 8) [[0, 1, 3, 4, 2, 5], [6], [7], [8], [9, 10]] tok mixed (by kernel_rfl) ?_)
  | (with_reducible refine draw_g (id := 11) [[0, 1, 3, 4, 2, 5], [6], [7], [8], [9, 10]] tok mixed (by kernel_rfl) ?_)
  | (with_reducible refine draw_g (id := 17) [[0, 1, 3, 4, 2, 5, 6], [7], [8], [9], [10, 11]] tok mixed (by kernel_rfl) ?_)
  | (with_reducible refine draw_g (id := 21) [[0, 1, 3, 4, 2, 5, 6], [7], [8], [9], [10], [11, 12, 13]] tok mixed (by kernel_rfl) ?_)
  | (with_reducible refine draw_g (id := 5) [[0, 1, 2, 4, 5, 6, 3, 7, 8], [9], [10], [11], [12, 13]] tok mixed (by kernel_rfl) ?_)
  | with_reducible first | refine ax_s ?_ | refine BothG.mk ?_ ?_ | (refine ax_f ?_ ?_ <;> intro hc) | refine smk ?_ | fail)
  all_goals exact ⟨ret_e rfl⟩
theorem s_one16 {g : List (Nat × List Value)} (b1 : Bool) (l1 : List Int) (e1 : Int) (b2 : Bool) (l2 : List Int) (e2 : Int) (b3 : Bool) (l3 : List Int) (e3 : Int) (b4 : Bool) (l4 : List Int) (e4 : Int) (b5 : Bool) (l5 : List Int) (e5 : Int) {p : Int} (o1 : OKM l1) (o2 : OKM l2) (o3 : OKM l3) (o4 : OKM l4) (o5 : OKM l5) {x y : D2} (gx : x.good) (gy : y.good) {c : Int} (f : FC Tryz.prog g 84 [Dy b1 l1 e1, Dy b4 l4 e4] (· = .tup [SP x y, .val (.int .i64 (c))])) (k : FC Tryz.prog g 131 [Dy b1 l1 e1, Dy b4 l4 e4] (· = .tup [SP x y, .val (.int .i64 (c))])) : FC Tryz.prog g 86 [.agg [.val (.int .i64 (16)), .val (.bool b1), .ws .u64 l1, .val (.int .i64 e1), .val (.bool b2), .ws .u64 l2, .val (.int .i64 e2), .val (.bool b3), .ws .u64 l3, .val (.int .i64 e3), .val (.bool b4), .ws .u64 l4, .val (.int .i64 e4), .val (.bool b5), .ws .u64 l5, .val (.int .i64 e5), .val (.int .i64 p)]] (· = .val (.bool true)) := by
  have t1 := s_number (G := g) b1 l1 e1 o1
  have t2 := s_number (G := g) b4 l4 e4 o4
  have q := q_same_t (G := g) gx gy
  refine ax_i Tryz.func86 Tryz.ntmps86 (by rw [Tryz.results86]) ?_; intro F hG hO
  rw [← hG] at t1 t2 f k q
  repeat' ((try (conv => whnf)); first
  | ((with_reducible refine cg ?_); first | refine ceq t1 rfl ?_ | refine ceq t2 rfl ?_ | refine ceq f rfl ?_ | refine ceq k rfl ?_ | refine ceq q rfl ?_)
  | ((with_reducible refine dg ?_); refine draw_p (A := Unit) (id := 5) (N := 154) (fun _ => [(1, .ptr 0 0), (3, .ptr 1 0), (4, .ptr 2 0), (5, .val (.int .i64 (c)))]) (fun _ => [[.val (.int .i64 (16)), .val (.bool b1), .ws .u64 l1, .val (.int .i64 e1), .val (.bool b2), .ws .u64 l2, .val (.int .i64 e2), .val (.bool b3), .ws .u64 l3, .val (.int .i64 e3), .val (.bool b4), .ws .u64 l4, .val (.int .i64 e4), .val (.bool b5), .ws .u64 l5, .val (.int .i64 e5), .val (.int .i64 p)], [.val (.bool (decide (x.1 < 0))), .ws .u64 (d64 x.1.natAbs), .val (.int .i64 x.2), .val (.bool (decide (y.1 < 0))), .ws .u64 (d64 y.1.natAbs), .val (.int .i64 y.2)], [.val (.bool false), .nil, .val (.int .i64 0), .val (.bool false), .nil, .val (.int .i64 0)]]) (fun _ => []) (.take 0 (.take 1 (.take 4 (.take 5 (.alt 2 (.alt 3 (.alt 6 (.alt 7 (.alt 8 (.take 9 (.take 10 (.take 11 (.alt 12 (.alt 13 (.fin) (.non)) (.non))))) (.non)) (.non)) (.non)) (.alt 6 (.alt 3 (.alt 7 (.alt 8 (.take 9 (.take 10 (.take 11 (.alt 12 (.alt 13 (.fin) (.non)) (.non))))) (.non)) (.non)) (.non)) (.non))) (.alt 6 (.alt 2 (.alt 3 (.alt 7 (.alt 8 (.take 9 (.take 10 (.take 11 (.alt 12 (.alt 13 (.fin) (.non)) (.non))))) (.non)) (.non)) (.non)) (.non)) (.non))))))) tok mixed (by kernel_rfl) (by kernel_rfl) (by intro ju; simp [hO]) ?_ ?_; rotate_left; intro ju)
  | exact joinp () [(0, []), (1, []), (2, [])] rfl rfl rfl ⟨_, rfl⟩
  
  | (with_reducible refine draw_g (id := 8) [[0, 1, 3, 4, 2, 5], [6], [7], [8], [9, 10]] tok mixed (by kernel_rfl) ?_)
  | (with_reducible refine draw_g (id := 11) [[0, 1, 3, 4, 2, 5], [6], [7], [8], [9, 10]] tok mixed (by kernel_rfl) ?_)
  | (with_reducible refine draw_g (id := 17) [[0, 1, 3, 4, 2, 5, 6], [7], [8], [9], [10, 11]] tok mixed (by kernel_rfl) ?_)
  | (with_reducible refine draw_g (id := 21) [[0, 1, 3, 4, 2, 5, 6], [7], [8], [9], [10], [11, 12, 13]] tok mixed (by kernel_rfl) ?_)
  | (with_reducible refine draw_g (id := 5) [[0, 1, 2, 4, 5, 6, 3, 7, 8], [9], [10], [11], [12, 13]] tok mixed (by kernel_rfl) ?_)
  | with_reducible first | refine ax_s ?_ | refine BothG.mk ?_ ?_ | (refine ax_f ?_ ?_ <;> intro hc) | refine smk ?_ | fail)
  all_goals exact ⟨ret_e rfl⟩
theorem s_told11 {g : List (Nat × List Value)} (b1 : Bool) (l1 : List Int) (e1 : Int) (b2 : Bool) (l2 : List Int) (e2 : Int) (b3 : Bool) (l3 : List Int) (e3 : Int) (b4 : Bool) (l4 : List Int) (e4 : Int) (b5 : Bool) (l5 : List Int) (e5 : Int) {p : Int} (o1 : OKM l1) (o2 : OKM l2) (o3 : OKM l3) (o4 : OKM l4) (o5 : OKM l5) {x : D2} (gx : x.good) {s c : Int} {t : Bool} (f : FC Tryz.prog g 91 [Sp b1 l1 e1 b2 l2 e2, .val (.int .i64 p)] (· = .tup [.val (.bool t), .val (.int .i64 (c))])) (k : FC Tryz.prog g 132 [Sp b1 l1 e1 b2 l2 e2, .val (.int .i64 p)] (· = .tup [.val (.bool t), .val (.int .i64 (c))])) : FC Tryz.prog g 87 [.agg [.val (.int .i64 (11)), .val (.bool b1), .ws .u64 l1, .val (.int .i64 e1), .val (.bool b2), .ws .u64 l2, .val (.int .i64 e2), .val (.bool b3), .ws .u64 l3, .val (.int .i64 e3), .val (.bool b4), .ws .u64 l4, .val (.int .i64 e4), .val (.bool b5), .ws .u64 l5, .val (.int .i64 e5), .val (.int .i64 p)]] (· = .val (.bool true)) := by
  have t1 := s_twin (G := g) b1 l1 e1 b2 l2 e2 o1 o2
  cases t <;> (
  refine ax_i Tryz.func87 Tryz.ntmps87 (by rw [Tryz.results87]) ?_; intro F hG hO
  rw [← hG] at t1 f k
  repeat' ((try (conv => whnf)); first
  | ((with_reducible refine cg ?_); first | refine ceq t1 rfl ?_ | refine ceq f rfl ?_ | refine ceq k rfl ?_)
  | ((with_reducible refine dg ?_); refine draw_p (A := Unit) (id := 3) (N := 130) (fun _ => [(1, .ptr 0 0), (3, .val (.bool t)), (4, .val (.int .i64 (c)))]) (fun _ => [[.val (.int .i64 (11)), .val (.bool b1), .ws .u64 l1, .val (.int .i64 e1), .val (.bool b2), .ws .u64 l2, .val (.int .i64 e2), .val (.bool b3), .ws .u64 l3, .val (.int .i64 e3), .val (.bool b4), .ws .u64 l4, .val (.int .i64 e4), .val (.bool b5), .ws .u64 l5, .val (.int .i64 e5), .val (.int .i64 p)]]) (fun _ => []) (.take 0 (.take 3 (.alt 1 (.alt 2 (.alt 4 (.alt 5 (.take 6 (.take 7 (.take 8 (.alt 9 (.alt 10 (.fin) (.non)) (.non))))) (.non)) (.non)) (.alt 4 (.alt 2 (.alt 5 (.take 6 (.take 7 (.take 8 (.alt 9 (.alt 10 (.fin) (.non)) (.non))))) (.non)) (.non)) (.non))) (.alt 4 (.alt 1 (.alt 2 (.alt 5 (.take 6 (.take 7 (.take 8 (.alt 9 (.alt 10 (.fin) (.non)) (.non))))) (.non)) (.non)) (.non)) (.non))))) tok mixed (by kernel_rfl) (by kernel_rfl) (by intro ju; simp [hO]) ?_ ?_; rotate_left; intro ju)
  | exact joinp () [(0, [])] rfl rfl rfl ⟨_, rfl⟩
  
  | (with_reducible refine draw_g (id := 3) [[0, 1, 3, 4, 2, 5, 6, 7, 8, 9, 10]] tok mixed (by kernel_rfl) ?_)
  | (with_reducible refine draw_g (id := 15) [[0, 1, 3, 4, 2, 5, 6, 7, 8, 9, 10, 11]] tok mixed (by kernel_rfl) ?_)
  | (with_reducible refine draw_g (id := 18) [[0, 1, 4, 5, 2, 3, 6, 7, 8]] tok mixed (by kernel_rfl) ?_)
  | with_reducible first | refine ax_s ?_ | refine BothG.mk ?_ ?_ | (refine ax_f ?_ ?_ <;> intro hc) | refine smk ?_ | fail)
  all_goals first | exact ⟨ret_e rfl⟩ | exact ⟨ret_e (by rw [decide_eq_true rfl])⟩)
theorem s_told12 {g : List (Nat × List Value)} (b1 : Bool) (l1 : List Int) (e1 : Int) (b2 : Bool) (l2 : List Int) (e2 : Int) (b3 : Bool) (l3 : List Int) (e3 : Int) (b4 : Bool) (l4 : List Int) (e4 : Int) (b5 : Bool) (l5 : List Int) (e5 : Int) {p : Int} (o1 : OKM l1) (o2 : OKM l2) (o3 : OKM l3) (o4 : OKM l4) (o5 : OKM l5) {x : D2} (gx : x.good) {s c : Int} {t : Bool} (f : FC Tryz.prog g 90 [Sp b1 l1 e1 b2 l2 e2] (· = .tup [DY x.1 x.2, .val (.int .i64 (c))])) (k : FC Tryz.prog g 133 [Sp b1 l1 e1 b2 l2 e2] (· = .tup [DY x.1 x.2, .val (.int .i64 (c))])) : FC Tryz.prog g 87 [.agg [.val (.int .i64 (12)), .val (.bool b1), .ws .u64 l1, .val (.int .i64 e1), .val (.bool b2), .ws .u64 l2, .val (.int .i64 e2), .val (.bool b3), .ws .u64 l3, .val (.int .i64 e3), .val (.bool b4), .ws .u64 l4, .val (.int .i64 e4), .val (.bool b5), .ws .u64 l5, .val (.int .i64 e5), .val (.int .i64 p)]] (· = .val (.bool true)) := by
  have t1 := s_twin (G := g) b1 l1 e1 b2 l2 e2 o1 o2
  have q := q_sameD (G := g) gx x
  rw [decide_eq_true rfl] at q
  refine ax_i Tryz.func87 Tryz.ntmps87 (by rw [Tryz.results87]) ?_; intro F hG hO
  rw [← hG] at t1 f k q
  repeat' ((try (conv => whnf)); first
  | ((with_reducible refine cg ?_); first | refine ceq t1 rfl ?_ | refine ceq f rfl ?_ | refine ceq k rfl ?_ | refine ceq q rfl ?_)
  
  | (with_reducible refine draw_g (id := 3) [[0, 1, 3, 4, 2, 5, 6, 7, 8, 9, 10]] tok mixed (by kernel_rfl) ?_)
  | (with_reducible refine draw_g (id := 15) [[0, 1, 3, 4, 2, 5, 6, 7, 8, 9, 10, 11]] tok mixed (by kernel_rfl) ?_)
  | (with_reducible refine draw_g (id := 18) [[0, 1, 4, 5, 2, 3, 6, 7, 8]] tok mixed (by kernel_rfl) ?_)
  | with_reducible first | refine ax_s ?_ | refine BothG.mk ?_ ?_ | (refine ax_f ?_ ?_ <;> intro hc) | refine smk ?_ | fail)
  all_goals first | exact ⟨ret_e rfl⟩ | exact ⟨ret_e (by rw [decide_eq_true rfl])⟩
theorem s_told13 {g : List (Nat × List Value)} (b1 : Bool) (l1 : List Int) (e1 : Int) (b2 : Bool) (l2 : List Int) (e2 : Int) (b3 : Bool) (l3 : List Int) (e3 : Int) (b4 : Bool) (l4 : List Int) (e4 : Int) (b5 : Bool) (l5 : List Int) (e5 : Int) {p : Int} (o1 : OKM l1) (o2 : OKM l2) (o3 : OKM l3) (o4 : OKM l4) (o5 : OKM l5) {x : D2} (gx : x.good) {s c : Int} {t : Bool} (f : FC Tryz.prog g 54 [Sp b1 l1 e1 b2 l2 e2] (· = .tup [.val (.int .i64 (s)), .val (.int .i64 (c))])) (k : FC Tryz.prog g 134 [Sp b1 l1 e1 b2 l2 e2] (· = .tup [.val (.int .i64 (s)), .val (.int .i64 (c))])) : FC Tryz.prog g 87 [.agg [.val (.int .i64 (13)), .val (.bool b1), .ws .u64 l1, .val (.int .i64 e1), .val (.bool b2), .ws .u64 l2, .val (.int .i64 e2), .val (.bool b3), .ws .u64 l3, .val (.int .i64 e3), .val (.bool b4), .ws .u64 l4, .val (.int .i64 e4), .val (.bool b5), .ws .u64 l5, .val (.int .i64 e5), .val (.int .i64 p)]] (· = .val (.bool true)) := by
  have t1 := s_twin (G := g) b1 l1 e1 b2 l2 e2 o1 o2
  refine ax_i Tryz.func87 Tryz.ntmps87 (by rw [Tryz.results87]) ?_; intro F hG hO
  rw [← hG] at t1 f k
  repeat' ((try (conv => whnf)); first
  | ((with_reducible refine cg ?_); first | refine ceq t1 rfl ?_ | refine ceq f rfl ?_ | refine ceq k rfl ?_)
  
  | (with_reducible refine draw_g (id := 3) [[0, 1, 3, 4, 2, 5, 6, 7, 8, 9, 10]] tok mixed (by kernel_rfl) ?_)
  | (with_reducible refine draw_g (id := 15) [[0, 1, 3, 4, 2, 5, 6, 7, 8, 9, 10, 11]] tok mixed (by kernel_rfl) ?_)
  | (with_reducible refine draw_g (id := 18) [[0, 1, 4, 5, 2, 3, 6, 7, 8]] tok mixed (by kernel_rfl) ?_)
  | with_reducible first | refine ax_s ?_ | refine BothG.mk ?_ ?_ | (refine ax_f ?_ ?_ <;> intro hc) | refine smk ?_ | fail)
  all_goals first | exact ⟨ret_e rfl⟩ | exact ⟨ret_e (by rw [decide_eq_true rfl])⟩
theorem s_told14 {g : List (Nat × List Value)} (b1 : Bool) (l1 : List Int) (e1 : Int) (b2 : Bool) (l2 : List Int) (e2 : Int) (b3 : Bool) (l3 : List Int) (e3 : Int) (b4 : Bool) (l4 : List Int) (e4 : Int) (b5 : Bool) (l5 : List Int) (e5 : Int) {p : Int} (o1 : OKM l1) (o2 : OKM l2) (o3 : OKM l3) (o4 : OKM l4) (o5 : OKM l5) {x : D2} (gx : x.good) {s c : Int} {t : Bool} (f : FC Tryz.prog g 27 [Sp b1 l1 e1 b2 l2 e2, Dy b5 l5 e5] (· = .tup [.val (.bool t), .val (.int .i64 (c))])) (k : FC Tryz.prog g 135 [Sp b1 l1 e1 b2 l2 e2, Dy b5 l5 e5] (· = .tup [.val (.bool t), .val (.int .i64 (c))])) : FC Tryz.prog g 87 [.agg [.val (.int .i64 (14)), .val (.bool b1), .ws .u64 l1, .val (.int .i64 e1), .val (.bool b2), .ws .u64 l2, .val (.int .i64 e2), .val (.bool b3), .ws .u64 l3, .val (.int .i64 e3), .val (.bool b4), .ws .u64 l4, .val (.int .i64 e4), .val (.bool b5), .ws .u64 l5, .val (.int .i64 e5), .val (.int .i64 p)]] (· = .val (.bool true)) := by
  have t1 := s_twin (G := g) b1 l1 e1 b2 l2 e2 o1 o2
  have t2 := s_number (G := g) b5 l5 e5 o5
  cases t <;> (
  refine ax_i Tryz.func87 Tryz.ntmps87 (by rw [Tryz.results87]) ?_; intro F hG hO
  rw [← hG] at t1 t2 f k
  repeat' ((try (conv => whnf)); first
  | ((with_reducible refine cg ?_); first | refine ceq t1 rfl ?_ | refine ceq t2 rfl ?_ | refine ceq f rfl ?_ | refine ceq k rfl ?_)
  | ((with_reducible refine dg ?_); refine draw_p (A := Unit) (id := 15) (N := 130) (fun _ => [(1, .ptr 0 0), (15, .val (.bool t)), (16, .val (.int .i64 (c)))]) (fun _ => [[.val (.int .i64 (14)), .val (.bool b1), .ws .u64 l1, .val (.int .i64 e1), .val (.bool b2), .ws .u64 l2, .val (.int .i64 e2), .val (.bool b3), .ws .u64 l3, .val (.int .i64 e3), .val (.bool b4), .ws .u64 l4, .val (.int .i64 e4), .val (.bool b5), .ws .u64 l5, .val (.int .i64 e5), .val (.int .i64 p)]]) (fun _ => []) (.take 0 (.take 3 (.alt 1 (.alt 2 (.alt 4 (.alt 5 (.alt 6 (.take 7 (.take 8 (.take 9 (.alt 10 (.alt 11 (.fin) (.non)) (.non))))) (.non)) (.non)) (.non)) (.alt 4 (.alt 2 (.alt 5 (.alt 6 (.take 7 (.take 8 (.take 9 (.alt 10 (.alt 11 (.fin) (.non)) (.non))))) (.non)) (.non)) (.non)) (.non))) (.alt 4 (.alt 1 (.alt 2 (.alt 5 (.alt 6 (.take 7 (.take 8 (.take 9 (.alt 10 (.alt 11 (.fin) (.non)) (.non))))) (.non)) (.non)) (.non)) (.non)) (.non))))) tok mixed (by kernel_rfl) (by kernel_rfl) (by intro ju; simp [hO]) ?_ ?_; rotate_left; intro ju)
  | exact joinp () [(0, [])] rfl rfl rfl ⟨_, rfl⟩
  
  | (with_reducible refine draw_g (id := 3) [[0, 1, 3, 4, 2, 5, 6, 7, 8, 9, 10]] tok mixed (by kernel_rfl) ?_)
  | (with_reducible refine draw_g (id := 15) [[0, 1, 3, 4, 2, 5, 6, 7, 8, 9, 10, 11]] tok mixed (by kernel_rfl) ?_)
  | (with_reducible refine draw_g (id := 18) [[0, 1, 4, 5, 2, 3, 6, 7, 8]] tok mixed (by kernel_rfl) ?_)
  | with_reducible first | refine ax_s ?_ | refine BothG.mk ?_ ?_ | (refine ax_f ?_ ?_ <;> intro hc) | refine smk ?_ | fail)
  all_goals first | exact ⟨ret_e rfl⟩ | exact ⟨ret_e (by rw [decide_eq_true rfl])⟩)
theorem s_told17 {g : List (Nat × List Value)} (b1 : Bool) (l1 : List Int) (e1 : Int) (b2 : Bool) (l2 : List Int) (e2 : Int) (b3 : Bool) (l3 : List Int) (e3 : Int) (b4 : Bool) (l4 : List Int) (e4 : Int) (b5 : Bool) (l5 : List Int) (e5 : Int) {p : Int} (o1 : OKM l1) (o2 : OKM l2) (o3 : OKM l3) (o4 : OKM l4) (o5 : OKM l5) {x : D2} (gx : x.good) {s c : Int} {t : Bool} (f : FC Tryz.prog g 66 [Sp b1 l1 e1 b2 l2 e2] (· = .val (.bool t))) (k : FC Tryz.prog g 20 [Sp b1 l1 e1 b2 l2 e2] (· = .val (.bool t))) : FC Tryz.prog g 87 [.agg [.val (.int .i64 (17)), .val (.bool b1), .ws .u64 l1, .val (.int .i64 e1), .val (.bool b2), .ws .u64 l2, .val (.int .i64 e2), .val (.bool b3), .ws .u64 l3, .val (.int .i64 e3), .val (.bool b4), .ws .u64 l4, .val (.int .i64 e4), .val (.bool b5), .ws .u64 l5, .val (.int .i64 e5), .val (.int .i64 p)]] (· = .val (.bool true)) := by
  have t1 := s_twin (G := g) b1 l1 e1 b2 l2 e2 o1 o2
  cases t <;> (
  refine ax_i Tryz.func87 Tryz.ntmps87 (by rw [Tryz.results87]) ?_; intro F hG hO
  rw [← hG] at t1 f k
  repeat' ((try (conv => whnf)); first
  | ((with_reducible refine cg ?_); first | refine ceq t1 rfl ?_ | refine ceq f rfl ?_ | refine ceq k rfl ?_)
  | ((with_reducible refine dg ?_); refine draw_p (A := Unit) (id := 18) (N := 130) (fun _ => [(2, .val (.bool true))]) (fun _ => []) (fun _ => []) (.take 0 (.take 4 (.alt 1 (.alt 2 (.alt 3 (.alt 5 (.alt 6 (.take 7 (.alt 8 (.fin) (.non))) (.non)) (.non)) (.alt 5 (.alt 3 (.alt 6 (.take 7 (.alt 8 (.fin) (.non))) (.non)) (.non)) (.non))) (.alt 5 (.alt 2 (.alt 3 (.alt 6 (.take 7 (.alt 8 (.fin) (.non))) (.non)) (.non)) (.non)) (.non))) (.alt 5 (.alt 1 (.alt 2 (.alt 3 (.alt 6 (.take 7 (.alt 8 (.fin) (.non))) (.non)) (.non)) (.non)) (.non)) (.non))))) tok mixed (by kernel_rfl) (by kernel_rfl) (by intro ju; simp [hO]) ?_ ?_; rotate_left; intro ju)
  | exact joinp () [] rfl rfl rfl ⟨_, rfl⟩
  
  | (with_reducible refine draw_g (id := 3) [[0, 1, 3, 4, 2, 5, 6, 7, 8, 9, 10]] tok mixed (by kernel_rfl) ?_)
  | (with_reducible refine draw_g (id := 15) [[0, 1, 3, 4, 2, 5, 6, 7, 8, 9, 10, 11]] tok mixed (by kernel_rfl) ?_)
  | (with_reducible refine draw_g (id := 18) [[0, 1, 4, 5, 2, 3, 6, 7, 8]] tok mixed (by kernel_rfl) ?_)
  | with_reducible first | refine ax_s ?_ | refine BothG.mk ?_ ?_ | (refine ax_f ?_ ?_ <;> intro hc) | refine smk ?_ | fail)
  all_goals first | exact ⟨ret_e rfl⟩ | exact ⟨ret_e (by rw [decide_eq_true rfl])⟩)
variable {G : List (Nat × List Value)}
end Go.Proofs.YtpjbgmafnheomaaGreatDoor.Sim
namespace Go.Proofs.YtpjbgmafnheomaaGreatDoor.Sim
open Go.RowKit
set_option linter.unusedVariables false
set_option linter.unusedSimpArgs false
def QLo (p : Int) (B : D2 → Prop) (x : D2) : Prop := x.good ∧ (bl x.1.natAbs : Int) ≤ p ∧ B x ∧ ∀ z : D2, z.good → (bl z.1.natAbs : Int) ≤ p → B z → z.v ≤ x.v
def QHi (p : Int) (B : D2 → Prop) (x : D2) : Prop := x.good ∧ (bl x.1.natAbs : Int) ≤ p ∧ B x ∧ ∀ z : D2, z.good → (bl z.1.natAbs : Int) ≤ p → B z → x.v ≤ z.v
theorem QLo.mono {p : Int} {B B' : D2 → Prop} {x x' : D2} (h : QLo p B x) (k : QLo p B' x') (hB : B' x' → B x') : x'.v ≤ x.v := h.2.2.2 x' k.1 k.2.1 (hB k.2.2.1)
theorem QHi.mono {p : Int} {B B' : D2 → Prop} {x x' : D2} (h : QHi p B x) (k : QHi p B' x') (hB : B' x' → B x') : x.v ≤ x'.v := h.2.2.2 x' k.1 k.2.1 (hB k.2.2.1)
theorem bl_neg (a : D2) : bl a.neg.1.natAbs = bl a.1.natAbs := by unfold D2.neg; simp only [Int.natAbs_neg]
theorem QLo.neg {p : Int} {B B' : D2 → Prop} {x : D2} (h : QLo p B x) (hB : ∀ z, B' z ↔ B z.neg) : QHi p B' x.neg := by
  refine ⟨D2.neg_good h.1, by rw [bl_neg]; exact h.2.1, (hB _).2 (by rw [D2.neg_neg]; exact h.2.2.1), fun z g hb k => ?_⟩
  have := h.2.2.2 z.neg (D2.neg_good g) (by rw [bl_neg]; exact hb) ((hB z).1 k)
  rw [D2.neg_v] at this ⊢
  omega
def Grow (r r' : PV) : Prop := ∃ x y x' y' : D2, ∃ e f : Int, r = .tup [SP x y, .val (.int .i64 e)] ∧ r' = .tup [SP x' y', .val (.int .i64 f)] ∧ (e = 0 ∨ e = 4 ∨ e = 5) ∧ (f = 0 ∨ f = 4 ∨ f = 5) ∧ (e = 0 → f = 0 → GoodS x y ∧ GoodS x' y' ∧ x'.v ≤ x.v ∧ y.v ≤ y'.v)
theorem Grow.of {r r' : PV} (h : (∃ e, r = spE e ∧ (e = 4 ∨ e = 5)) ∨ ∃ x y : D2, r = spR x y ∧ GoodS x y) (k : (∃ e, r' = spE e ∧ (e = 4 ∨ e = 5)) ∨ ∃ x y : D2, r' = spR x y ∧ GoodS x y) (hw : ∀ x y x' y' : D2, r = spR x y → r' = spR x' y' → GoodS x y → GoodS x' y' → x'.v ≤ x.v ∧ y.v ≤ y'.v) : Grow r r' := by
  rcases h with ⟨e, h1, h2⟩ | ⟨x, y, h1, g1⟩ <;> rcases k with ⟨f, k1, k2⟩ | ⟨x', y', k1, g2⟩
  · exact ⟨_, _, _, _, e, f, h1, k1, by omega, by omega, fun a _ => by omega⟩
  · exact ⟨_, _, _, _, e, 0, h1, k1, by omega, by omega, fun a _ => by omega⟩
  · exact ⟨_, _, _, _, 0, f, h1, k1, by omega, by omega, fun _ a => by omega⟩
  · exact ⟨_, _, _, _, 0, 0, h1, k1, by omega, by omega, fun _ _ => ⟨g1, g2, hw x y x' y' h1 k1 g1 g2⟩⟩
set_option maxHeartbeats 4000000
def NextTo (p : Int) (x y : D2) : Prop := 0 < x.1 ∧ 0 < y.1 ∧ Vc 2097152 (x.1 * 2 ^ (p - bl x.1.natAbs).toNat + 1) (x.2 + bl x.1.natAbs - p) = Vc 2097152 y.1 y.2
def Snug (p : Int) (x y : D2) : Prop := (bl x.1.natAbs : Int) ≤ p ∧ (bl y.1.natAbs : Int) ≤ p ∧ (x = y ∨ NextTo p x y ∨ NextTo p y.neg x.neg)
def SnugR (p : Int) (z : Bool) (r : PV) : Prop := (∃ x y : D2, r = spR x y ∧ GoodS x y ∧ Snug p x y) ∨ r = spE 5 ∨ (z = true ∧ r = spE 4)
variable {G : List (Nat × List Value)}
set_option maxRecDepth 10000
set_option maxHeartbeats 8000000
theorem SnugR.x {p : Int} {r : PV} (h : SnugR p false r) : ∃ (x y : D2) (c d : Int), r = .tup [SP x y, .val (.int .i64 c)] ∧ c = 5 * d ∧ (0 ≤ d ∧ d ≤ 1) ∧ (Unit → c = 0 → GoodS x y ∧ Snug p x y) := by
  rcases h with ⟨x, y, h, g, s⟩ | h | ⟨h, _⟩
  · exact ⟨x, y, 0, 0, h, rfl, by omega, fun _ _ => ⟨g, s⟩⟩
  · exact ⟨(0, 0), (0, 0), 5, 1, h, rfl, by omega, fun _ h => by omega⟩
  · exact absurd h (by decide)
theorem spF_same (b : Bool) (l : List Int) (e : Int) : spF b l e b l e = dyF b l e := by
  unfold spF
  rw [decide_eq_true (Int.le_refl _), Bool.and_true, Bool.and_self]
end Go.Proofs.YtpjbgmafnheomaaGreatDoor.Sim
