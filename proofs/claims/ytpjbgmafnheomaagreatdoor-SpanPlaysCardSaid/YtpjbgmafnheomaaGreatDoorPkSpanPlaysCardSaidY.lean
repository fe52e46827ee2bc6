/-
  Lemmas of SpanPlaysCardSaid, part 25.
-/
import Derived.Test.YtpjbgmafnheomaaGreatDoorPkSpanPlaysCardSaidX
namespace Go.Proofs.YtpjbgmafnheomaaGreatDoor.Sim
open Go.RowKit
set_option linter.unusedVariables false
set_option linter.unusedSimpArgs false
set_option maxRecDepth 10000
set_option maxHeartbeats 8000000
theorem s_one6 {g : Gs} (b1 : Bool) (l1 : List Int) (e1 : Int) (b2 : Bool) (l2 : List Int) (e2 : Int) (b3 : Bool) (l3 : List Int) (e3 : Int) (b4 : Bool) (l4 : List Int) (e4 : Int) (b5 : Bool) (l5 : List Int) (e5 : Int) {p : Int} (o1 : OKM l1) (o2 : OKM l2) (o3 : OKM l3) (o4 : OKM l4) (o5 : OKM l5) {x y : D2} (gx : x.good) (gy : y.good) {c : Int} (f : FC Tryz.prog g 17 [Sp b1 l1 e1 b2 l2 e2, .val (.int .i64 p)] (· = .tup [SP x y, .val (.int .i64 (c))])) (k : FC Tryz.prog g 125 [Sp b1 l1 e1 b2 l2 e2, .val (.int .i64 p)] (· = .tup [SP x y, .val (.int .i64 (c))])) : FC Tryz.prog g 86 [OPV 6 b1 l1 e1 b2 l2 e2 b3 l3 e3 b4 l4 e4 b5 l5 e5 p] (· = .val (.bool true)) := by
  have t1 := s_twin (G := g) b1 l1 e1 b2 l2 e2 o1 o2
  have q := q_same_t (G := g) gx gy
  refine ax_i Tryz.func86 Tryz.ntmps86 ?_; intro F hG hO
  rw [← hG] at t1 f k q
  repeat' ((try (conv => whnf)); first
 | refine ce t1 ?_ | refine ce f ?_ | refine ce k ?_ | refine ce q ?_
 | (refine dg ?_; refine draw_p (A := Unit) (id := 8) (N := 154) (fun _ => [(1, .ptr 0 0), (3, .ptr 1 0), (4, .ptr 2 0), (5, .val (.int .i64 (c)))]) (fun _ => [[.val (.int .i64 (6)), .val (.bool b1), .ws .u64 l1, .val (.int .i64 e1), .val (.bool b2), .ws .u64 l2, .val (.int .i64 e2), .val (.bool b3), .ws .u64 l3, .val (.int .i64 e3), .val (.bool b4), .ws .u64 l4, .val (.int .i64 e4), .val (.bool b5), .ws .u64 l5, .val (.int .i64 e5), .val (.int .i64 p)], [vB x, vW x, vE x, vB y, vW y, vE y], [.val (.bool false), .nil, .val (.int .i64 0), .val (.bool false), .nil, .val (.int .i64 0)]]) (fun _ => []) (.take 0 (.take 3 (.alt 1 (.alt 2 (.alt 4 (.alt 5 (.take 6 (.take 7 (.take 8 (.alt 9 (.alt 10 (.fin) (.non)) (.non))))) (.non)) (.non)) (.alt 4 (.alt 2 (.alt 5 (.take 6 (.take 7 (.take 8 (.alt 9 (.alt 10 (.fin) (.non)) (.non))))) (.non)) (.non)) (.non))) (.alt 4 (.alt 1 (.alt 2 (.alt 5 (.take 6 (.take 7 (.take 8 (.alt 9 (.alt 10 (.fin) (.non)) (.non))))) (.non)) (.non)) (.non)) (.non))))) tok mixed (by kernel_rfl) (by kernel_rfl) (by intro ju; simp [hO]) ?_ ?_; rotate_left; intro ju)
 | exact joinp () [(0, []), (1, []), (2, [])] rfl rfl rfl ⟨_, rfl⟩
 | (refine dG (id := 11) dg49 ?_)
 | (refine dG (id := 17) dg45 ?_)
 | (refine dG (id := 21) dg46 ?_)
 | (refine dG (id := 5) dg38 ?_)
 | with_reducible first | refine ax_s ?_ | (refine ax_f ?_ ?_ <;> try intro hc) | fail)
  all_goals exact ⟨ret_e rfl⟩
theorem s_one7 {g : Gs} (b1 : Bool) (l1 : List Int) (e1 : Int) (b2 : Bool) (l2 : List Int) (e2 : Int) (b3 : Bool) (l3 : List Int) (e3 : Int) (b4 : Bool) (l4 : List Int) (e4 : Int) (b5 : Bool) (l5 : List Int) (e5 : Int) {p : Int} (o1 : OKM l1) (o2 : OKM l2) (o3 : OKM l3) (o4 : OKM l4) (o5 : OKM l5) {x y : D2} (gx : x.good) (gy : y.good) {c : Int} (f : FC Tryz.prog g 89 [Sp b1 l1 e1 b2 l2 e2, .val (.int .i64 p)] (· = .tup [SP x y, .val (.int .i64 (c))])) (k : FC Tryz.prog g 126 [Sp b1 l1 e1 b2 l2 e2, .val (.int .i64 p)] (· = .tup [SP x y, .val (.int .i64 (c))])) : FC Tryz.prog g 86 [OPV 7 b1 l1 e1 b2 l2 e2 b3 l3 e3 b4 l4 e4 b5 l5 e5 p] (· = .val (.bool true)) := by
  have t1 := s_twin (G := g) b1 l1 e1 b2 l2 e2 o1 o2
  have q := q_same_t (G := g) gx gy
  refine ax_i Tryz.func86 Tryz.ntmps86 ?_; intro F hG hO
  rw [← hG] at t1 f k q
  repeat' ((try (conv => whnf)); first
 | refine ce t1 ?_ | refine ce f ?_ | refine ce k ?_ | refine ce q ?_
 | (refine dg ?_; refine draw_p (A := Unit) (id := 11) (N := 154) (fun _ => [(1, .ptr 0 0), (3, .ptr 1 0), (4, .ptr 2 0), (5, .val (.int .i64 (c)))]) (fun _ => [[.val (.int .i64 (7)), .val (.bool b1), .ws .u64 l1, .val (.int .i64 e1), .val (.bool b2), .ws .u64 l2, .val (.int .i64 e2), .val (.bool b3), .ws .u64 l3, .val (.int .i64 e3), .val (.bool b4), .ws .u64 l4, .val (.int .i64 e4), .val (.bool b5), .ws .u64 l5, .val (.int .i64 e5), .val (.int .i64 p)], [vB x, vW x, vE x, vB y, vW y, vE y], [.val (.bool false), .nil, .val (.int .i64 0), .val (.bool false), .nil, .val (.int .i64 0)]]) (fun _ => []) (.take 0 (.take 3 (.alt 1 (.alt 2 (.alt 4 (.alt 5 (.take 6 (.take 7 (.take 8 (.alt 9 (.alt 10 (.fin) (.non)) (.non))))) (.non)) (.non)) (.alt 4 (.alt 2 (.alt 5 (.take 6 (.take 7 (.take 8 (.alt 9 (.alt 10 (.fin) (.non)) (.non))))) (.non)) (.non)) (.non))) (.alt 4 (.alt 1 (.alt 2 (.alt 5 (.take 6 (.take 7 (.take 8 (.alt 9 (.alt 10 (.fin) (.non)) (.non))))) (.non)) (.non)) (.non)) (.non))))) tok mixed (by kernel_rfl) (by kernel_rfl) (by intro ju; simp [hO]) ?_ ?_; rotate_left; intro ju)
 | exact joinp () [(0, []), (1, []), (2, [])] rfl rfl rfl ⟨_, rfl⟩
 | (refine dG (id := 8) dg49 ?_)
 | (refine dG (id := 17) dg45 ?_)
 | (refine dG (id := 21) dg46 ?_)
 | (refine dG (id := 5) dg38 ?_)
 | with_reducible first | refine ax_s ?_ | (refine ax_f ?_ ?_ <;> try intro hc) | fail)
  all_goals exact ⟨ret_e rfl⟩
theorem s_one8 {g : Gs} (b1 : Bool) (l1 : List Int) (e1 : Int) (b2 : Bool) (l2 : List Int) (e2 : Int) (b3 : Bool) (l3 : List Int) (e3 : Int) (b4 : Bool) (l4 : List Int) (e4 : Int) (b5 : Bool) (l5 : List Int) (e5 : Int) {p : Int} (o1 : OKM l1) (o2 : OKM l2) (o3 : OKM l3) (o4 : OKM l4) (o5 : OKM l5) {x y : D2} (gx : x.good) (gy : y.good) {c : Int} (f : FC Tryz.prog g 22 [Sp b1 l1 e1 b2 l2 e2] (· = .tup [SP x y, .val (.int .i64 (c))])) (k : FC Tryz.prog g 127 [Sp b1 l1 e1 b2 l2 e2] (· = .tup [SP x y, .val (.int .i64 (c))])) : FC Tryz.prog g 86 [OPV 8 b1 l1 e1 b2 l2 e2 b3 l3 e3 b4 l4 e4 b5 l5 e5 p] (· = .val (.bool true)) := by
  have t1 := s_twin (G := g) b1 l1 e1 b2 l2 e2 o1 o2
  have q := q_same_t (G := g) gx gy
  refine ax_i Tryz.func86 Tryz.ntmps86 ?_; intro F hG hO
  rw [← hG] at t1 f k q
  repeat' ((try (conv => whnf)); first
 | refine ce t1 ?_ | refine ce f ?_ | refine ce k ?_ | refine ce q ?_
 | (refine dG (id := 8) dg49 ?_)
 | (refine dG (id := 11) dg49 ?_)
 | (refine dG (id := 17) dg45 ?_)
 | (refine dG (id := 21) dg46 ?_)
 | (refine dG (id := 5) dg38 ?_)
 | with_reducible first | refine ax_s ?_ | (refine ax_f ?_ ?_ <;> try intro hc) | fail)
  all_goals exact ⟨ret_e rfl⟩
theorem s_one9 {g : Gs} (b1 : Bool) (l1 : List Int) (e1 : Int) (b2 : Bool) (l2 : List Int) (e2 : Int) (b3 : Bool) (l3 : List Int) (e3 : Int) (b4 : Bool) (l4 : List Int) (e4 : Int) (b5 : Bool) (l5 : List Int) (e5 : Int) {p : Int} (o1 : OKM l1) (o2 : OKM l2) (o3 : OKM l3) (o4 : OKM l4) (o5 : OKM l5) {x y : D2} (gx : x.good) (gy : y.good) {c : Int} (f : FC Tryz.prog g 26 [Sp b1 l1 e1 b2 l2 e2, Sp b3 l3 e3 b4 l4 e4] (· = .tup [SP x y, .val (.int .i64 (c))])) (k : FC Tryz.prog g 128 [Sp b1 l1 e1 b2 l2 e2, Sp b3 l3 e3 b4 l4 e4] (· = .tup [SP x y, .val (.int .i64 (c))])) : FC Tryz.prog g 86 [OPV 9 b1 l1 e1 b2 l2 e2 b3 l3 e3 b4 l4 e4 b5 l5 e5 p] (· = .val (.bool true)) := by
  have t1 := s_twin (G := g) b1 l1 e1 b2 l2 e2 o1 o2
  have t2 := s_twin (G := g) b3 l3 e3 b4 l4 e4 o3 o4
  have q := q_same_t (G := g) gx gy
  refine ax_i Tryz.func86 Tryz.ntmps86 ?_; intro F hG hO
  rw [← hG] at t1 t2 f k q
  repeat' ((try (conv => whnf)); first
 | refine ce t1 ?_ | refine ce t2 ?_ | refine ce f ?_ | refine ce k ?_ | refine ce q ?_
 | (refine dg ?_; refine draw_p (A := Unit) (id := 17) (N := 154) (fun _ => [(1, .ptr 0 0), (3, .ptr 1 0), (4, .ptr 2 0), (5, .val (.int .i64 (c)))]) (fun _ => [[.val (.int .i64 (9)), .val (.bool b1), .ws .u64 l1, .val (.int .i64 e1), .val (.bool b2), .ws .u64 l2, .val (.int .i64 e2), .val (.bool b3), .ws .u64 l3, .val (.int .i64 e3), .val (.bool b4), .ws .u64 l4, .val (.int .i64 e4), .val (.bool b5), .ws .u64 l5, .val (.int .i64 e5), .val (.int .i64 p)], [vB x, vW x, vE x, vB y, vW y, vE y], [.val (.bool false), .nil, .val (.int .i64 0), .val (.bool false), .nil, .val (.int .i64 0)]]) (fun _ => []) (.take 0 (.take 3 (.alt 1 (.alt 2 (.alt 4 (.alt 5 (.alt 6 (.take 7 (.take 8 (.take 9 (.alt 10 (.alt 11 (.fin) (.non)) (.non))))) (.non)) (.non)) (.non)) (.alt 4 (.alt 2 (.alt 5 (.alt 6 (.take 7 (.take 8 (.take 9 (.alt 10 (.alt 11 (.fin) (.non)) (.non))))) (.non)) (.non)) (.non)) (.non))) (.alt 4 (.alt 1 (.alt 2 (.alt 5 (.alt 6 (.take 7 (.take 8 (.take 9 (.alt 10 (.alt 11 (.fin) (.non)) (.non))))) (.non)) (.non)) (.non)) (.non)) (.non))))) tok mixed (by kernel_rfl) (by kernel_rfl) (by intro ju; simp [hO]) ?_ ?_; rotate_left; intro ju)
 | exact joinp () [(0, []), (1, []), (2, [])] rfl rfl rfl ⟨_, rfl⟩
 | (refine dG (id := 8) dg49 ?_)
 | (refine dG (id := 11) dg49 ?_)
 | (refine dG (id := 21) dg46 ?_)
 | (refine dG (id := 5) dg38 ?_)
 | with_reducible first | refine ax_s ?_ | (refine ax_f ?_ ?_ <;> try intro hc) | fail)
  all_goals exact ⟨ret_e rfl⟩
theorem s_one10 {g : Gs} (b1 : Bool) (l1 : List Int) (e1 : Int) (b2 : Bool) (l2 : List Int) (e2 : Int) (b3 : Bool) (l3 : List Int) (e3 : Int) (b4 : Bool) (l4 : List Int) (e4 : Int) (b5 : Bool) (l5 : List Int) (e5 : Int) {p : Int} (o1 : OKM l1) (o2 : OKM l2) (o3 : OKM l3) (o4 : OKM l4) (o5 : OKM l5) {x y : D2} (gx : x.good) (gy : y.good) {c : Int} {t : Bool} (f : FC Tryz.prog g 25 [Sp b1 l1 e1 b2 l2 e2, Sp b3 l3 e3 b4 l4 e4] (· = .tup [SP x y, .val (.bool t), .val (.int .i64 (c))])) (k : FC Tryz.prog g 129 [Sp b1 l1 e1 b2 l2 e2, Sp b3 l3 e3 b4 l4 e4] (· = .tup [SP x y, .val (.bool t), .val (.int .i64 (c))])) : FC Tryz.prog g 86 [OPV 10 b1 l1 e1 b2 l2 e2 b3 l3 e3 b4 l4 e4 b5 l5 e5 p] (· = .val (.bool true)) := by
  have t1 := s_twin (G := g) b1 l1 e1 b2 l2 e2 o1 o2
  have t2 := s_twin (G := g) b3 l3 e3 b4 l4 e4 o3 o4
  have q := q_same_t (G := g) gx gy
  cases t <;> (
  refine ax_i Tryz.func86 Tryz.ntmps86 ?_; intro F hG hO
  rw [← hG] at t1 t2 f k q
  repeat' ((try (conv => whnf)); first
 | refine ce t1 ?_ | refine ce t2 ?_ | refine ce f ?_ | refine ce k ?_ | refine ce q ?_
 | (refine dg ?_; refine draw_p (A := Unit) (id := 21) (N := 154) (fun _ => [(1, .ptr 0 0), (3, .ptr 1 0), (4, .ptr 2 0), (5, .val (.int .i64 (c))), (7, .val (.bool t))]) (fun _ => [[.val (.int .i64 (10)), .val (.bool b1), .ws .u64 l1, .val (.int .i64 e1), .val (.bool b2), .ws .u64 l2, .val (.int .i64 e2), .val (.bool b3), .ws .u64 l3, .val (.int .i64 e3), .val (.bool b4), .ws .u64 l4, .val (.int .i64 e4), .val (.bool b5), .ws .u64 l5, .val (.int .i64 e5), .val (.int .i64 p)], [vB x, vW x, vE x, vB y, vW y, vE y], [.val (.bool false), .nil, .val (.int .i64 0), .val (.bool false), .nil, .val (.int .i64 0)]]) (fun _ => []) (.take 0 (.take 3 (.alt 1 (.alt 2 (.alt 4 (.alt 5 (.alt 6 (.take 7 (.take 8 (.take 9 (.take 10 (.alt 11 (.alt 12 (.alt 13 (.fin) (.non)) (.non)) (.non)))))) (.non)) (.non)) (.non)) (.alt 4 (.alt 2 (.alt 5 (.alt 6 (.take 7 (.take 8 (.take 9 (.take 10 (.alt 11 (.alt 12 (.alt 13 (.fin) (.non)) (.non)) (.non)))))) (.non)) (.non)) (.non)) (.non))) (.alt 4 (.alt 1 (.alt 2 (.alt 5 (.alt 6 (.take 7 (.take 8 (.take 9 (.take 10 (.alt 11 (.alt 12 (.alt 13 (.fin) (.non)) (.non)) (.non)))))) (.non)) (.non)) (.non)) (.non)) (.non))))) tok mixed (by kernel_rfl) (by kernel_rfl) (by intro ju; simp [hO]) ?_ ?_; rotate_left; intro ju)
 | exact joinp () [(0, []), (1, []), (2, [])] rfl rfl rfl ⟨_, rfl⟩
 | (refine dG (id := 8) dg49 ?_)
 | (refine dG (id := 11) dg49 ?_)
 | (refine dG (id := 17) dg45 ?_)
 | (refine dG (id := 21) dg46 ?_)
 | (refine dG (id := 5) dg38 ?_)
 | with_reducible first | refine ax_s ?_ | (refine ax_f ?_ ?_ <;> try intro hc) | fail)
  all_goals exact ⟨ret_e rfl⟩)
theorem s_one15 {g : Gs} (b1 : Bool) (l1 : List Int) (e1 : Int) (b2 : Bool) (l2 : List Int) (e2 : Int) (b3 : Bool) (l3 : List Int) (e3 : Int) (b4 : Bool) (l4 : List Int) (e4 : Int) (b5 : Bool) (l5 : List Int) (e5 : Int) {p : Int} (o1 : OKM l1) (o2 : OKM l2) (o3 : OKM l3) (o4 : OKM l4) (o5 : OKM l5) {x y : D2} (gx : x.good) (gy : y.good) {c : Int} (f : FC Tryz.prog g 41 [Dy b5 l5 e5] (· = .tup [SP x y, .val (.int .i64 (c))])) (k : FC Tryz.prog g 130 [Dy b5 l5 e5] (· = .tup [SP x y, .val (.int .i64 (c))])) : FC Tryz.prog g 86 [OPV 15 b1 l1 e1 b2 l2 e2 b3 l3 e3 b4 l4 e4 b5 l5 e5 p] (· = .val (.bool true)) := by
  have t1 := s_number (G := g) b5 l5 e5 o5
  have q := q_same_t (G := g) gx gy
  refine ax_i Tryz.func86 Tryz.ntmps86 ?_; intro F hG hO
  rw [← hG] at t1 f k q
  repeat' ((try (conv => whnf)); first
 | refine ce t1 ?_ | refine ce f ?_ | refine ce k ?_ | refine ce q ?_
 | (refine dG (id := 8) dg49 ?_)
 | (refine dG (id := 11) dg49 ?_)
 | (refine dG (id := 17) dg45 ?_)
 | (refine dG (id := 21) dg46 ?_)
 | (refine dG (id := 5) dg38 ?_)
 | with_reducible first | refine ax_s ?_ | (refine ax_f ?_ ?_ <;> try intro hc) | fail)
  all_goals exact ⟨ret_e rfl⟩
theorem s_one16 {g : Gs} (b1 : Bool) (l1 : List Int) (e1 : Int) (b2 : Bool) (l2 : List Int) (e2 : Int) (b3 : Bool) (l3 : List Int) (e3 : Int) (b4 : Bool) (l4 : List Int) (e4 : Int) (b5 : Bool) (l5 : List Int) (e5 : Int) {p : Int} (o1 : OKM l1) (o2 : OKM l2) (o3 : OKM l3) (o4 : OKM l4) (o5 : OKM l5) {x y : D2} (gx : x.good) (gy : y.good) {c : Int} (f : FC Tryz.prog g 84 [Dy b1 l1 e1, Dy b4 l4 e4] (· = .tup [SP x y, .val (.int .i64 (c))])) (k : FC Tryz.prog g 131 [Dy b1 l1 e1, Dy b4 l4 e4] (· = .tup [SP x y, .val (.int .i64 (c))])) : FC Tryz.prog g 86 [OPV 16 b1 l1 e1 b2 l2 e2 b3 l3 e3 b4 l4 e4 b5 l5 e5 p] (· = .val (.bool true)) := by
  have t1 := s_number (G := g) b1 l1 e1 o1
  have t2 := s_number (G := g) b4 l4 e4 o4
  have q := q_same_t (G := g) gx gy
  refine ax_i Tryz.func86 Tryz.ntmps86 ?_; intro F hG hO
  rw [← hG] at t1 t2 f k q
  repeat' ((try (conv => whnf)); first
 | refine ce t1 ?_ | refine ce t2 ?_ | refine ce f ?_ | refine ce k ?_ | refine ce q ?_
 | (refine dg ?_; refine draw_p (A := Unit) (id := 5) (N := 154) (fun _ => [(1, .ptr 0 0), (3, .ptr 1 0), (4, .ptr 2 0), (5, .val (.int .i64 (c)))]) (fun _ => [[.val (.int .i64 (16)), .val (.bool b1), .ws .u64 l1, .val (.int .i64 e1), .val (.bool b2), .ws .u64 l2, .val (.int .i64 e2), .val (.bool b3), .ws .u64 l3, .val (.int .i64 e3), .val (.bool b4), .ws .u64 l4, .val (.int .i64 e4), .val (.bool b5), .ws .u64 l5, .val (.int .i64 e5), .val (.int .i64 p)], [vB x, vW x, vE x, vB y, vW y, vE y], [.val (.bool false), .nil, .val (.int .i64 0), .val (.bool false), .nil, .val (.int .i64 0)]]) (fun _ => []) (.take 0 (.take 1 (.take 4 (.take 5 (.alt 2 (.alt 3 (.alt 6 (.alt 7 (.alt 8 (.take 9 (.take 10 (.take 11 (.alt 12 (.alt 13 (.fin) (.non)) (.non))))) (.non)) (.non)) (.non)) (.alt 6 (.alt 3 (.alt 7 (.alt 8 (.take 9 (.take 10 (.take 11 (.alt 12 (.alt 13 (.fin) (.non)) (.non))))) (.non)) (.non)) (.non)) (.non))) (.alt 6 (.alt 2 (.alt 3 (.alt 7 (.alt 8 (.take 9 (.take 10 (.take 11 (.alt 12 (.alt 13 (.fin) (.non)) (.non))))) (.non)) (.non)) (.non)) (.non)) (.non))))))) tok mixed (by kernel_rfl) (by kernel_rfl) (by intro ju; simp [hO]) ?_ ?_; rotate_left; intro ju)
 | exact joinp () [(0, []), (1, []), (2, [])] rfl rfl rfl ⟨_, rfl⟩
 | (refine dG (id := 8) dg49 ?_)
 | (refine dG (id := 11) dg49 ?_)
 | (refine dG (id := 17) dg45 ?_)
 | (refine dG (id := 21) dg46 ?_)
 | with_reducible first | refine ax_s ?_ | (refine ax_f ?_ ?_ <;> try intro hc) | fail)
  all_goals exact ⟨ret_e rfl⟩
theorem s_told11 {g : Gs} (b1 : Bool) (l1 : List Int) (e1 : Int) (b2 : Bool) (l2 : List Int) (e2 : Int) (b3 : Bool) (l3 : List Int) (e3 : Int) (b4 : Bool) (l4 : List Int) (e4 : Int) (b5 : Bool) (l5 : List Int) (e5 : Int) {p : Int} (o1 : OKM l1) (o2 : OKM l2) (o3 : OKM l3) (o4 : OKM l4) (o5 : OKM l5) {x : D2} (gx : x.good) {s c : Int} {t : Bool} (f : FC Tryz.prog g 91 [Sp b1 l1 e1 b2 l2 e2, .val (.int .i64 p)] (· = .tup [.val (.bool t), .val (.int .i64 (c))])) (k : FC Tryz.prog g 132 [Sp b1 l1 e1 b2 l2 e2, .val (.int .i64 p)] (· = .tup [.val (.bool t), .val (.int .i64 (c))])) : FC Tryz.prog g 87 [OPV 11 b1 l1 e1 b2 l2 e2 b3 l3 e3 b4 l4 e4 b5 l5 e5 p] (· = .val (.bool true)) := by
  have t1 := s_twin (G := g) b1 l1 e1 b2 l2 e2 o1 o2
  cases t <;> (
  refine ax_i Tryz.func87 Tryz.ntmps87 ?_; intro F hG hO
  rw [← hG] at t1 f k
  repeat' ((try (conv => whnf)); first
 | refine ce t1 ?_ | refine ce f ?_ | refine ce k ?_
 | (refine dg ?_; refine draw_p (A := Unit) (id := 3) (N := 130) (fun _ => [(1, .ptr 0 0), (3, .val (.bool t)), (4, .val (.int .i64 (c)))]) (fun _ => [[.val (.int .i64 (11)), .val (.bool b1), .ws .u64 l1, .val (.int .i64 e1), .val (.bool b2), .ws .u64 l2, .val (.int .i64 e2), .val (.bool b3), .ws .u64 l3, .val (.int .i64 e3), .val (.bool b4), .ws .u64 l4, .val (.int .i64 e4), .val (.bool b5), .ws .u64 l5, .val (.int .i64 e5), .val (.int .i64 p)]]) (fun _ => []) (.take 0 (.take 3 (.alt 1 (.alt 2 (.alt 4 (.alt 5 (.take 6 (.take 7 (.take 8 (.alt 9 (.alt 10 (.fin) (.non)) (.non))))) (.non)) (.non)) (.alt 4 (.alt 2 (.alt 5 (.take 6 (.take 7 (.take 8 (.alt 9 (.alt 10 (.fin) (.non)) (.non))))) (.non)) (.non)) (.non))) (.alt 4 (.alt 1 (.alt 2 (.alt 5 (.take 6 (.take 7 (.take 8 (.alt 9 (.alt 10 (.fin) (.non)) (.non))))) (.non)) (.non)) (.non)) (.non))))) tok mixed (by kernel_rfl) (by kernel_rfl) (by intro ju; simp [hO]) ?_ ?_; rotate_left; intro ju)
 | exact joinp () [(0, [])] rfl rfl rfl ⟨_, rfl⟩
 | (refine dG (id := 3) dg43 ?_)
 | (refine dG (id := 15) dg42 ?_)
 | (refine dG (id := 18) dg57 ?_)
 | with_reducible first | refine ax_s ?_ | (refine ax_f ?_ ?_ <;> try intro hc) | fail)
  all_goals first | exact ⟨ret_e rfl⟩ | exact ⟨ret_e (by rw [decide_eq_true rfl])⟩)
theorem s_told12 {g : Gs} (b1 : Bool) (l1 : List Int) (e1 : Int) (b2 : Bool) (l2 : List Int) (e2 : Int) (b3 : Bool) (l3 : List Int) (e3 : Int) (b4 : Bool) (l4 : List Int) (e4 : Int) (b5 : Bool) (l5 : List Int) (e5 : Int) {p : Int} (o1 : OKM l1) (o2 : OKM l2) (o3 : OKM l3) (o4 : OKM l4) (o5 : OKM l5) {x : D2} (gx : x.good) {s c : Int} {t : Bool} (f : FC Tryz.prog g 90 [Sp b1 l1 e1 b2 l2 e2] (· = .tup [DY x.1 x.2, .val (.int .i64 (c))])) (k : FC Tryz.prog g 133 [Sp b1 l1 e1 b2 l2 e2] (· = .tup [DY x.1 x.2, .val (.int .i64 (c))])) : FC Tryz.prog g 87 [OPV 12 b1 l1 e1 b2 l2 e2 b3 l3 e3 b4 l4 e4 b5 l5 e5 p] (· = .val (.bool true)) := by
  have t1 := s_twin (G := g) b1 l1 e1 b2 l2 e2 o1 o2
  have q := q_sameD (G := g) gx x
  rw [decide_eq_true rfl] at q
  refine ax_i Tryz.func87 Tryz.ntmps87 ?_; intro F hG hO
  rw [← hG] at t1 f k q
  repeat' ((try (conv => whnf)); first
 | refine ce t1 ?_ | refine ce f ?_ | refine ce k ?_ | refine ce q ?_
 | (refine dG (id := 3) dg43 ?_)
 | (refine dG (id := 15) dg42 ?_)
 | (refine dG (id := 18) dg57 ?_)
 | with_reducible first | refine ax_s ?_ | (refine ax_f ?_ ?_ <;> try intro hc) | fail)
  all_goals first | exact ⟨ret_e rfl⟩ | exact ⟨ret_e (by rw [decide_eq_true rfl])⟩
theorem s_told13 {g : Gs} (b1 : Bool) (l1 : List Int) (e1 : Int) (b2 : Bool) (l2 : List Int) (e2 : Int) (b3 : Bool) (l3 : List Int) (e3 : Int) (b4 : Bool) (l4 : List Int) (e4 : Int) (b5 : Bool) (l5 : List Int) (e5 : Int) {p : Int} (o1 : OKM l1) (o2 : OKM l2) (o3 : OKM l3) (o4 : OKM l4) (o5 : OKM l5) {x : D2} (gx : x.good) {s c : Int} {t : Bool} (f : FC Tryz.prog g 54 [Sp b1 l1 e1 b2 l2 e2] (· = .tup [.val (.int .i64 (s)), .val (.int .i64 (c))])) (k : FC Tryz.prog g 134 [Sp b1 l1 e1 b2 l2 e2] (· = .tup [.val (.int .i64 (s)), .val (.int .i64 (c))])) : FC Tryz.prog g 87 [OPV 13 b1 l1 e1 b2 l2 e2 b3 l3 e3 b4 l4 e4 b5 l5 e5 p] (· = .val (.bool true)) := by
  have t1 := s_twin (G := g) b1 l1 e1 b2 l2 e2 o1 o2
  refine ax_i Tryz.func87 Tryz.ntmps87 ?_; intro F hG hO
  rw [← hG] at t1 f k
  repeat' ((try (conv => whnf)); first
 | refine ce t1 ?_ | refine ce f ?_ | refine ce k ?_
 | (refine dG (id := 3) dg43 ?_)
 | (refine dG (id := 15) dg42 ?_)
 | (refine dG (id := 18) dg57 ?_)
 | with_reducible first | refine ax_s ?_ | (refine ax_f ?_ ?_ <;> try intro hc) | fail)
  all_goals first | exact ⟨ret_e rfl⟩ | exact ⟨ret_e (by rw [decide_eq_true rfl])⟩
theorem s_told14 {g : Gs} (b1 : Bool) (l1 : List Int) (e1 : Int) (b2 : Bool) (l2 : List Int) (e2 : Int) (b3 : Bool) (l3 : List Int) (e3 : Int) (b4 : Bool) (l4 : List Int) (e4 : Int) (b5 : Bool) (l5 : List Int) (e5 : Int) {p : Int} (o1 : OKM l1) (o2 : OKM l2) (o3 : OKM l3) (o4 : OKM l4) (o5 : OKM l5) {x : D2} (gx : x.good) {s c : Int} {t : Bool} (f : FC Tryz.prog g 27 [Sp b1 l1 e1 b2 l2 e2, Dy b5 l5 e5] (· = .tup [.val (.bool t), .val (.int .i64 (c))])) (k : FC Tryz.prog g 135 [Sp b1 l1 e1 b2 l2 e2, Dy b5 l5 e5] (· = .tup [.val (.bool t), .val (.int .i64 (c))])) : FC Tryz.prog g 87 [OPV 14 b1 l1 e1 b2 l2 e2 b3 l3 e3 b4 l4 e4 b5 l5 e5 p] (· = .val (.bool true)) := by
  have t1 := s_twin (G := g) b1 l1 e1 b2 l2 e2 o1 o2
  have t2 := s_number (G := g) b5 l5 e5 o5
  cases t <;> (
  refine ax_i Tryz.func87 Tryz.ntmps87 ?_; intro F hG hO
  rw [← hG] at t1 t2 f k
  repeat' ((try (conv => whnf)); first
 | refine ce t1 ?_ | refine ce t2 ?_ | refine ce f ?_ | refine ce k ?_
 | (refine dg ?_; refine draw_p (A := Unit) (id := 15) (N := 130) (fun _ => [(1, .ptr 0 0), (15, .val (.bool t)), (16, .val (.int .i64 (c)))]) (fun _ => [[.val (.int .i64 (14)), .val (.bool b1), .ws .u64 l1, .val (.int .i64 e1), .val (.bool b2), .ws .u64 l2, .val (.int .i64 e2), .val (.bool b3), .ws .u64 l3, .val (.int .i64 e3), .val (.bool b4), .ws .u64 l4, .val (.int .i64 e4), .val (.bool b5), .ws .u64 l5, .val (.int .i64 e5), .val (.int .i64 p)]]) (fun _ => []) (.take 0 (.take 3 (.alt 1 (.alt 2 (.alt 4 (.alt 5 (.alt 6 (.take 7 (.take 8 (.take 9 (.alt 10 (.alt 11 (.fin) (.non)) (.non))))) (.non)) (.non)) (.non)) (.alt 4 (.alt 2 (.alt 5 (.alt 6 (.take 7 (.take 8 (.take 9 (.alt 10 (.alt 11 (.fin) (.non)) (.non))))) (.non)) (.non)) (.non)) (.non))) (.alt 4 (.alt 1 (.alt 2 (.alt 5 (.alt 6 (.take 7 (.take 8 (.take 9 (.alt 10 (.alt 11 (.fin) (.non)) (.non))))) (.non)) (.non)) (.non)) (.non)) (.non))))) tok mixed (by kernel_rfl) (by kernel_rfl) (by intro ju; simp [hO]) ?_ ?_; rotate_left; intro ju)
 | exact joinp () [(0, [])] rfl rfl rfl ⟨_, rfl⟩
 | (refine dG (id := 3) dg43 ?_)
 | (refine dG (id := 15) dg42 ?_)
 | (refine dG (id := 18) dg57 ?_)
 | with_reducible first | refine ax_s ?_ | (refine ax_f ?_ ?_ <;> try intro hc) | fail)
  all_goals first | exact ⟨ret_e rfl⟩ | exact ⟨ret_e (by rw [decide_eq_true rfl])⟩)
theorem s_told17 {g : Gs} (b1 : Bool) (l1 : List Int) (e1 : Int) (b2 : Bool) (l2 : List Int) (e2 : Int) (b3 : Bool) (l3 : List Int) (e3 : Int) (b4 : Bool) (l4 : List Int) (e4 : Int) (b5 : Bool) (l5 : List Int) (e5 : Int) {p : Int} (o1 : OKM l1) (o2 : OKM l2) (o3 : OKM l3) (o4 : OKM l4) (o5 : OKM l5) {x : D2} (gx : x.good) {s c : Int} {t : Bool} (f : FC Tryz.prog g 66 [Sp b1 l1 e1 b2 l2 e2] (· = .val (.bool t))) (k : FC Tryz.prog g 20 [Sp b1 l1 e1 b2 l2 e2] (· = .val (.bool t))) : FC Tryz.prog g 87 [OPV 17 b1 l1 e1 b2 l2 e2 b3 l3 e3 b4 l4 e4 b5 l5 e5 p] (· = .val (.bool true)) := by
  have t1 := s_twin (G := g) b1 l1 e1 b2 l2 e2 o1 o2
  cases t <;> (
  refine ax_i Tryz.func87 Tryz.ntmps87 ?_; intro F hG hO
  rw [← hG] at t1 f k
  repeat' ((try (conv => whnf)); first
 | refine ce t1 ?_ | refine ce f ?_ | refine ce k ?_
 | (refine dg ?_; refine draw_p (A := Unit) (id := 18) (N := 130) (fun _ => [(2, .val (.bool true))]) (fun _ => []) (fun _ => []) (.take 0 (.take 4 (.alt 1 (.alt 2 (.alt 3 (.alt 5 (.alt 6 (.take 7 (.alt 8 (.fin) (.non))) (.non)) (.non)) (.alt 5 (.alt 3 (.alt 6 (.take 7 (.alt 8 (.fin) (.non))) (.non)) (.non)) (.non))) (.alt 5 (.alt 2 (.alt 3 (.alt 6 (.take 7 (.alt 8 (.fin) (.non))) (.non)) (.non)) (.non)) (.non))) (.alt 5 (.alt 1 (.alt 2 (.alt 3 (.alt 6 (.take 7 (.alt 8 (.fin) (.non))) (.non)) (.non)) (.non)) (.non)) (.non))))) tok mixed (by kernel_rfl) (by kernel_rfl) (by intro ju; simp [hO]) ?_ ?_; rotate_left; intro ju)
 | exact joinp () [] rfl rfl rfl ⟨_, rfl⟩
 | (refine dG (id := 3) dg43 ?_)
 | (refine dG (id := 15) dg42 ?_)
 | (refine dG (id := 18) dg57 ?_)
 | with_reducible first | refine ax_s ?_ | (refine ax_f ?_ ?_ <;> try intro hc) | fail)
  all_goals first | exact ⟨ret_e rfl⟩ | exact ⟨ret_e (by rw [decide_eq_true rfl])⟩)
variable {G : Gs}
set_option maxHeartbeats 4000000
def NextTo (p : Int) (x y : D2) : Prop := 0 < x.1 ∧ 0 < y.1 ∧ Vc 2097152 (x.1 * 2 ^ (p - bl x.1.natAbs).toNat + 1) (x.2 + bl x.1.natAbs - p) = Vc 2097152 y.1 y.2
def Snug (p : Int) (x y : D2) : Prop := (bl x.1.natAbs : Int) ≤ p ∧ (bl y.1.natAbs : Int) ≤ p ∧ (x = y ∨ NextTo p x y ∨ NextTo p y.neg x.neg)
def SnugR (p : Int) (z : Bool) (r : PV) : Prop := (∃ x y : D2, r = spR x y ∧ GoodS x y ∧ Snug p x y) ∨ r = spE 5 ∨ (z = true ∧ r = spE 4)
set_option maxHeartbeats 8000000
theorem SnugR.x {p : Int} {r : PV} (h : SnugR p false r) : ∃ (x y : D2) (c d : Int), r = .tup [SP x y, .val (.int .i64 c)] ∧ c = 5 * d ∧ (0 ≤ d ∧ d ≤ 1) ∧ (Unit → c = 0 → GoodS x y ∧ Snug p x y) := by
  rcases h with ⟨x, y, h, g, s⟩ | h | ⟨h, _⟩
  · exact ⟨x, y, 0, 0, h, rfl, by omega, fun _ _ => ⟨g, s⟩⟩
  · exact ⟨(0, 0), (0, 0), 5, 1, h, rfl, by omega, fun _ h => by omega⟩
  · exact absurd h (by decide)
theorem spF_same (b : Bool) (l : List Int) (e : Int) : spF b l e b l e = dyF b l e := by
  unfold spF
  rw [decide_eq_true (Int.le_refl _), Bool.and_true, Bool.and_self]
end Go.Proofs.YtpjbgmafnheomaaGreatDoor.Sim
