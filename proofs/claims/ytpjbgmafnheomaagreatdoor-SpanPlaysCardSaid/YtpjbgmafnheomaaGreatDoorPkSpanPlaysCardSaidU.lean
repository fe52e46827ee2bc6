/-
  Lemmas of SpanPlaysCardSaid, part 21.
-/
import Derived.Test.YtpjbgmafnheomaaGreatDoorPkSpanPlaysCardSaidT
namespace Go.Proofs.YtpjbgmafnheomaaGreatDoor.Sim
open Go.RowKit
set_option linter.unusedVariables false
set_option linter.unusedSimpArgs false
set_option maxRecDepth 10000
set_option maxHeartbeats 8000000
def tT6 : Tm := .take 0 (.take 3 (.take 6 (.alt 1 (.alt 2 (.alt 4 (.alt 5 (.alt 7 (.alt 8 (.take 9 (.take 10 (.take 11 (.alt 12 (.alt 13 (.fin) (.non)) (.non))))) (.non)) (.non)) (.alt 7 (.alt 5 (.alt 8 (.take 9 (.take 10 (.take 11 (.alt 12 (.alt 13 (.fin) (.non)) (.non))))) (.non)) (.non)) (.non))) (.alt 7 (.alt 4 (.alt 5 (.alt 8 (.take 9 (.take 10 (.take 11 (.alt 12 (.alt 13 (.fin) (.non)) (.non))))) (.non)) (.non)) (.non)) (.non))) (.alt 4 (.alt 2 (.alt 5 (.alt 7 (.alt 8 (.take 9 (.take 10 (.take 11 (.alt 12 (.alt 13 (.fin) (.non)) (.non))))) (.non)) (.non)) (.alt 7 (.alt 5 (.alt 8 (.take 9 (.take 10 (.take 11 (.alt 12 (.alt 13 (.fin) (.non)) (.non))))) (.non)) (.non)) (.non))) (.alt 7 (.alt 2 (.alt 5 (.alt 8 (.take 9 (.take 10 (.take 11 (.alt 12 (.alt 13 (.fin) (.non)) (.non))))) (.non)) (.non)) (.non)) (.non))) (.alt 7 (.alt 2 (.alt 4 (.alt 5 (.alt 8 (.take 9 (.take 10 (.take 11 (.alt 12 (.alt 13 (.fin) (.non)) (.non))))) (.non)) (.non)) (.non)) (.alt 4 (.alt 2 (.alt 5 (.alt 8 (.take 9 (.take 10 (.take 11 (.alt 12 (.alt 13 (.fin) (.non)) (.non))))) (.non)) (.non)) (.non)) (.non))) (.non)))) (.alt 4 (.alt 1 (.alt 2 (.alt 5 (.alt 7 (.alt 8 (.take 9 (.take 10 (.take 11 (.alt 12 (.alt 13 (.fin) (.non)) (.non))))) (.non)) (.non)) (.alt 7 (.alt 5 (.alt 8 (.take 9 (.take 10 (.take 11 (.alt 12 (.alt 13 (.fin) (.non)) (.non))))) (.non)) (.non)) (.non))) (.alt 7 (.alt 2 (.alt 5 (.alt 8 (.take 9 (.take 10 (.take 11 (.alt 12 (.alt 13 (.fin) (.non)) (.non))))) (.non)) (.non)) (.non)) (.non))) (.alt 7 (.alt 1 (.alt 2 (.alt 5 (.alt 8 (.take 9 (.take 10 (.take 11 (.alt 12 (.alt 13 (.fin) (.non)) (.non))))) (.non)) (.non)) (.non)) (.non)) (.non))) (.alt 7 (.alt 1 (.alt 2 (.alt 4 (.alt 5 (.alt 8 (.take 9 (.take 10 (.take 11 (.alt 12 (.alt 13 (.fin) (.non)) (.non))))) (.non)) (.non)) (.non)) (.alt 4 (.alt 2 (.alt 5 (.alt 8 (.take 9 (.take 10 (.take 11 (.alt 12 (.alt 13 (.fin) (.non)) (.non))))) (.non)) (.non)) (.non)) (.non))) (.alt 4 (.alt 1 (.alt 2 (.alt 5 (.alt 8 (.take 9 (.take 10 (.take 11 (.alt 12 (.alt 13 (.fin) (.non)) (.non))))) (.non)) (.non)) (.non)) (.non)) (.non))) (.non))))))
theorem s_two1 {g : Gs} (b1 : Bool) (l1 : List Int) (e1 : Int) (b2 : Bool) (l2 : List Int) (e2 : Int) (b3 : Bool) (l3 : List Int) (e3 : Int) (b4 : Bool) (l4 : List Int) (e4 : Int) (b5 : Bool) (l5 : List Int) (e5 : Int) {p : Int} (o1 : OKM l1) (o2 : OKM l2) (o3 : OKM l3) (o4 : OKM l4) {x y : D2} (gx : x.good) (gy : y.good) {c : Int} (f : FC Tryz.prog g 24 [Sp b1 l1 e1 b2 l2 e2, Sp b3 l3 e3 b4 l4 e4, .val (.int .i64 p)] (· = .tup [SP x y, .val (.int .i64 c)])) (k : FC Tryz.prog g 74 [.val (.int .i64 (1)), Sp b1 l1 e1 b2 l2 e2, Sp b3 l3 e3 b4 l4 e4, .val (.int .i64 p)] (· = .tup [SP x y, .val (.int .i64 c)])) : FC Tryz.prog g 29 [OPV 1 b1 l1 e1 b2 l2 e2 b3 l3 e3 b4 l4 e4 b5 l5 e5 p] (· = .val (.bool true)) := by
  have t1 := s_twin (G := g) b1 l1 e1 b2 l2 e2 o1 o2
  have t2 := s_twin (G := g) b3 l3 e3 b4 l4 e4 o3 o4
  have q := q_same_t (G := g) gx gy
  refine ax_i Tryz.func29 Tryz.ntmps29 ?_; intro F hG hO
  rw [← hG] at t1 t2 f k q
  repeat' ((try (conv => whnf)); first
 | refine ce t1 ?_ | refine ce t2 ?_ | refine ce f ?_ | refine ce k ?_ | refine ce q ?_
 | (refine dg ?_; refine draw_p (A := Unit) (id := 6) (N := 94) (fun _ => [(1, .ptr 0 0), (3, .ptr 1 0), (4, .val (.int .i64 (c)))]) (fun _ => [[.val (.int .i64 (1)), .val (.bool b1), .ws .u64 l1, .val (.int .i64 e1), .val (.bool b2), .ws .u64 l2, .val (.int .i64 e2), .val (.bool b3), .ws .u64 l3, .val (.int .i64 e3), .val (.bool b4), .ws .u64 l4, .val (.int .i64 e4), .val (.bool b5), .ws .u64 l5, .val (.int .i64 e5), .val (.int .i64 p)], [vB x, vW x, vE x, vB y, vW y, vE y]]) (fun _ => []) tT6 tok mixed (by kernel_rfl) (by kernel_rfl) (by intro ju; simp [hO]) ?_ ?_; rotate_left; intro ju)
 | exact joinp () [(0, []), (1, [])] rfl rfl rfl ⟨_, rfl⟩
 | (refine dG (id := 8) dg52 ?_)
 | (refine dG (id := 10) dg52 ?_)
 | (refine dG (id := 12) dg49 ?_)
 | (refine dG (id := 4) dg52 ?_)
 | with_reducible first | refine ax_s ?_ | (refine ax_f ?_ ?_ <;> try intro hc) | fail)
  all_goals exact ⟨ret_e rfl⟩
theorem s_two2 {g : Gs} (b1 : Bool) (l1 : List Int) (e1 : Int) (b2 : Bool) (l2 : List Int) (e2 : Int) (b3 : Bool) (l3 : List Int) (e3 : Int) (b4 : Bool) (l4 : List Int) (e4 : Int) (b5 : Bool) (l5 : List Int) (e5 : Int) {p : Int} (o1 : OKM l1) (o2 : OKM l2) (o3 : OKM l3) (o4 : OKM l4) {x y : D2} (gx : x.good) (gy : y.good) {c : Int} (f : FC Tryz.prog g 23 [Sp b1 l1 e1 b2 l2 e2, Sp b3 l3 e3 b4 l4 e4, .val (.int .i64 p)] (· = .tup [SP x y, .val (.int .i64 c)])) (k : FC Tryz.prog g 74 [.val (.int .i64 (2)), Sp b1 l1 e1 b2 l2 e2, Sp b3 l3 e3 b4 l4 e4, .val (.int .i64 p)] (· = .tup [SP x y, .val (.int .i64 c)])) : FC Tryz.prog g 29 [OPV 2 b1 l1 e1 b2 l2 e2 b3 l3 e3 b4 l4 e4 b5 l5 e5 p] (· = .val (.bool true)) := by
  have t1 := s_twin (G := g) b1 l1 e1 b2 l2 e2 o1 o2
  have t2 := s_twin (G := g) b3 l3 e3 b4 l4 e4 o3 o4
  have q := q_same_t (G := g) gx gy
  refine ax_i Tryz.func29 Tryz.ntmps29 ?_; intro F hG hO
  rw [← hG] at t1 t2 f k q
  repeat' ((try (conv => whnf)); first
 | refine ce t1 ?_ | refine ce t2 ?_ | refine ce f ?_ | refine ce k ?_ | refine ce q ?_
 | (refine dg ?_; refine draw_p (A := Unit) (id := 8) (N := 94) (fun _ => [(1, .ptr 0 0), (3, .ptr 1 0), (4, .val (.int .i64 (c)))]) (fun _ => [[.val (.int .i64 (2)), .val (.bool b1), .ws .u64 l1, .val (.int .i64 e1), .val (.bool b2), .ws .u64 l2, .val (.int .i64 e2), .val (.bool b3), .ws .u64 l3, .val (.int .i64 e3), .val (.bool b4), .ws .u64 l4, .val (.int .i64 e4), .val (.bool b5), .ws .u64 l5, .val (.int .i64 e5), .val (.int .i64 p)], [vB x, vW x, vE x, vB y, vW y, vE y]]) (fun _ => []) tT6 tok mixed (by kernel_rfl) (by kernel_rfl) (by intro ju; simp [hO]) ?_ ?_; rotate_left; intro ju)
 | exact joinp () [(0, []), (1, [])] rfl rfl rfl ⟨_, rfl⟩
 | (refine dG (id := 6) dg52 ?_)
 | (refine dG (id := 10) dg52 ?_)
 | (refine dG (id := 12) dg49 ?_)
 | (refine dG (id := 4) dg52 ?_)
 | with_reducible first | refine ax_s ?_ | (refine ax_f ?_ ?_ <;> try intro hc) | fail)
  all_goals exact ⟨ret_e rfl⟩
theorem s_two3 {g : Gs} (b1 : Bool) (l1 : List Int) (e1 : Int) (b2 : Bool) (l2 : List Int) (e2 : Int) (b3 : Bool) (l3 : List Int) (e3 : Int) (b4 : Bool) (l4 : List Int) (e4 : Int) (b5 : Bool) (l5 : List Int) (e5 : Int) {p : Int} (o1 : OKM l1) (o2 : OKM l2) (o3 : OKM l3) (o4 : OKM l4) {x y : D2} (gx : x.good) (gy : y.good) {c : Int} (f : FC Tryz.prog g 19 [Sp b1 l1 e1 b2 l2 e2, Sp b3 l3 e3 b4 l4 e4, .val (.int .i64 p)] (· = .tup [SP x y, .val (.int .i64 c)])) (k : FC Tryz.prog g 74 [.val (.int .i64 (3)), Sp b1 l1 e1 b2 l2 e2, Sp b3 l3 e3 b4 l4 e4, .val (.int .i64 p)] (· = .tup [SP x y, .val (.int .i64 c)])) : FC Tryz.prog g 29 [OPV 3 b1 l1 e1 b2 l2 e2 b3 l3 e3 b4 l4 e4 b5 l5 e5 p] (· = .val (.bool true)) := by
  have t1 := s_twin (G := g) b1 l1 e1 b2 l2 e2 o1 o2
  have t2 := s_twin (G := g) b3 l3 e3 b4 l4 e4 o3 o4
  have q := q_same_t (G := g) gx gy
  refine ax_i Tryz.func29 Tryz.ntmps29 ?_; intro F hG hO
  rw [← hG] at t1 t2 f k q
  repeat' ((try (conv => whnf)); first
 | refine ce t1 ?_ | refine ce t2 ?_ | refine ce f ?_ | refine ce k ?_ | refine ce q ?_
 | (refine dg ?_; refine draw_p (A := Unit) (id := 10) (N := 94) (fun _ => [(1, .ptr 0 0), (3, .ptr 1 0), (4, .val (.int .i64 (c)))]) (fun _ => [[.val (.int .i64 (3)), .val (.bool b1), .ws .u64 l1, .val (.int .i64 e1), .val (.bool b2), .ws .u64 l2, .val (.int .i64 e2), .val (.bool b3), .ws .u64 l3, .val (.int .i64 e3), .val (.bool b4), .ws .u64 l4, .val (.int .i64 e4), .val (.bool b5), .ws .u64 l5, .val (.int .i64 e5), .val (.int .i64 p)], [vB x, vW x, vE x, vB y, vW y, vE y]]) (fun _ => []) tT6 tok mixed (by kernel_rfl) (by kernel_rfl) (by intro ju; simp [hO]) ?_ ?_; rotate_left; intro ju)
 | exact joinp () [(0, []), (1, [])] rfl rfl rfl ⟨_, rfl⟩
 | (refine dG (id := 6) dg52 ?_)
 | (refine dG (id := 8) dg52 ?_)
 | (refine dG (id := 12) dg49 ?_)
 | (refine dG (id := 4) dg52 ?_)
 | with_reducible first | refine ax_s ?_ | (refine ax_f ?_ ?_ <;> try intro hc) | fail)
  all_goals exact ⟨ret_e rfl⟩
theorem s_two4 {g : Gs} (b1 : Bool) (l1 : List Int) (e1 : Int) (b2 : Bool) (l2 : List Int) (e2 : Int) (b3 : Bool) (l3 : List Int) (e3 : Int) (b4 : Bool) (l4 : List Int) (e4 : Int) (b5 : Bool) (l5 : List Int) (e5 : Int) {p : Int} (o1 : OKM l1) (o2 : OKM l2) (o3 : OKM l3) (o4 : OKM l4) {x y : D2} (gx : x.good) (gy : y.good) {c : Int} (f : FC Tryz.prog g 36 [Sp b1 l1 e1 b2 l2 e2, .val (.int .i64 p)] (· = .tup [SP x y, .val (.int .i64 c)])) (k : FC Tryz.prog g 74 [.val (.int .i64 (4)), Sp b1 l1 e1 b2 l2 e2, Sp b3 l3 e3 b4 l4 e4, .val (.int .i64 p)] (· = .tup [SP x y, .val (.int .i64 c)])) : FC Tryz.prog g 29 [OPV 4 b1 l1 e1 b2 l2 e2 b3 l3 e3 b4 l4 e4 b5 l5 e5 p] (· = .val (.bool true)) := by
  have t1 := s_twin (G := g) b1 l1 e1 b2 l2 e2 o1 o2
  have q := q_same_t (G := g) gx gy
  refine ax_i Tryz.func29 Tryz.ntmps29 ?_; intro F hG hO
  rw [← hG] at t1 f k q
  repeat' ((try (conv => whnf)); first
 | refine ce t1 ?_ | refine ce f ?_ | refine ce k ?_ | refine ce q ?_
 | (refine dg ?_; refine draw_p (A := Unit) (id := 12) (N := 94) (fun _ => [(1, .ptr 0 0), (3, .ptr 1 0), (4, .val (.int .i64 (c)))]) (fun _ => [[.val (.int .i64 (4)), .val (.bool b1), .ws .u64 l1, .val (.int .i64 e1), .val (.bool b2), .ws .u64 l2, .val (.int .i64 e2), .val (.bool b3), .ws .u64 l3, .val (.int .i64 e3), .val (.bool b4), .ws .u64 l4, .val (.int .i64 e4), .val (.bool b5), .ws .u64 l5, .val (.int .i64 e5), .val (.int .i64 p)], [vB x, vW x, vE x, vB y, vW y, vE y]]) (fun _ => []) (.take 0 (.take 3 (.alt 1 (.alt 2 (.alt 4 (.alt 5 (.take 6 (.take 7 (.take 8 (.alt 9 (.alt 10 (.fin) (.non)) (.non))))) (.non)) (.non)) (.alt 4 (.alt 2 (.alt 5 (.take 6 (.take 7 (.take 8 (.alt 9 (.alt 10 (.fin) (.non)) (.non))))) (.non)) (.non)) (.non))) (.alt 4 (.alt 1 (.alt 2 (.alt 5 (.take 6 (.take 7 (.take 8 (.alt 9 (.alt 10 (.fin) (.non)) (.non))))) (.non)) (.non)) (.non)) (.non))))) tok mixed (by kernel_rfl) (by kernel_rfl) (by intro ju; simp [hO]) ?_ ?_; rotate_left; intro ju)
 | exact joinp () [(0, []), (1, [])] rfl rfl rfl ⟨_, rfl⟩
 | (refine dG (id := 6) dg52 ?_)
 | (refine dG (id := 8) dg52 ?_)
 | (refine dG (id := 10) dg52 ?_)
 | (refine dG (id := 4) dg52 ?_)
 | with_reducible first | refine ax_s ?_ | (refine ax_f ?_ ?_ <;> try intro hc) | fail)
  all_goals exact ⟨ret_e rfl⟩
theorem s_two5 {g : Gs} (b1 : Bool) (l1 : List Int) (e1 : Int) (b2 : Bool) (l2 : List Int) (e2 : Int) (b3 : Bool) (l3 : List Int) (e3 : Int) (b4 : Bool) (l4 : List Int) (e4 : Int) (b5 : Bool) (l5 : List Int) (e5 : Int) {p : Int} (o1 : OKM l1) (o2 : OKM l2) (o3 : OKM l3) (o4 : OKM l4) {x y : D2} (gx : x.good) (gy : y.good) {c : Int} (f : FC Tryz.prog g 14 [Sp b1 l1 e1 b2 l2 e2, Sp b3 l3 e3 b4 l4 e4, .val (.int .i64 p)] (· = .tup [SP x y, .val (.int .i64 c)])) (k : FC Tryz.prog g 74 [.val (.int .i64 (5)), Sp b1 l1 e1 b2 l2 e2, Sp b3 l3 e3 b4 l4 e4, .val (.int .i64 p)] (· = .tup [SP x y, .val (.int .i64 c)])) : FC Tryz.prog g 29 [OPV 5 b1 l1 e1 b2 l2 e2 b3 l3 e3 b4 l4 e4 b5 l5 e5 p] (· = .val (.bool true)) := by
  have t1 := s_twin (G := g) b1 l1 e1 b2 l2 e2 o1 o2
  have t2 := s_twin (G := g) b3 l3 e3 b4 l4 e4 o3 o4
  have q := q_same_t (G := g) gx gy
  refine ax_i Tryz.func29 Tryz.ntmps29 ?_; intro F hG hO
  rw [← hG] at t1 t2 f k q
  repeat' ((try (conv => whnf)); first
 | refine ce t1 ?_ | refine ce t2 ?_ | refine ce f ?_ | refine ce k ?_ | refine ce q ?_
 | (refine dg ?_; refine draw_p (A := Unit) (id := 4) (N := 94) (fun _ => [(1, .ptr 0 0), (3, .ptr 1 0), (4, .val (.int .i64 (c)))]) (fun _ => [[.val (.int .i64 (5)), .val (.bool b1), .ws .u64 l1, .val (.int .i64 e1), .val (.bool b2), .ws .u64 l2, .val (.int .i64 e2), .val (.bool b3), .ws .u64 l3, .val (.int .i64 e3), .val (.bool b4), .ws .u64 l4, .val (.int .i64 e4), .val (.bool b5), .ws .u64 l5, .val (.int .i64 e5), .val (.int .i64 p)], [vB x, vW x, vE x, vB y, vW y, vE y]]) (fun _ => []) tT6 tok mixed (by kernel_rfl) (by kernel_rfl) (by intro ju; simp [hO]) ?_ ?_; rotate_left; intro ju)
 | exact joinp () [(0, []), (1, [])] rfl rfl rfl ⟨_, rfl⟩
 | (refine dG (id := 6) dg52 ?_)
 | (refine dG (id := 8) dg52 ?_)
 | (refine dG (id := 10) dg52 ?_)
 | (refine dG (id := 12) dg49 ?_)
 | with_reducible first | refine ax_s ?_ | (refine ax_f ?_ ?_ <;> try intro hc) | fail)
  all_goals exact ⟨ret_e rfl⟩
end Go.Proofs.YtpjbgmafnheomaaGreatDoor.Sim
