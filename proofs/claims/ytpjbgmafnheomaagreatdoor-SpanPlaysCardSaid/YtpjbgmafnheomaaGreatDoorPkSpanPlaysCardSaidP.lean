/-
  Lemmas of SpanPlaysCardSaid, part 16.
-/
import Derived.Test.YtpjbgmafnheomaaGreatDoorPkSpanPlaysCardSaidO
namespace Go.Proofs.YtpjbgmafnheomaaGreatDoor.Sim
open Go.RowKit
set_option linter.unusedVariables false
set_option linter.unusedSimpArgs false
set_option maxRecDepth 10000
set_option maxHeartbeats 8000000
def qX (a b : D2) : PV := .sl 3 [.val (.bool (decide (a.1 < 0))), .ws .u64 (d64 a.1.natAbs), .val (.int .i64 a.2), .val (.bool (decide (a.1 < 0))), .ws .u64 (d64 a.1.natAbs), .val (.int .i64 a.2), .val (.bool (decide (b.1 < 0))), .ws .u64 (d64 b.1.natAbs), .val (.int .i64 b.2), .val (.bool (decide (b.1 < 0))), .ws .u64 (d64 b.1.natAbs), .val (.int .i64 b.2)]
def qY (c d : D2) : PV := .sl 3 [.val (.bool (decide (c.1 < 0))), .ws .u64 (d64 c.1.natAbs), .val (.int .i64 c.2), .val (.bool (decide (d.1 < 0))), .ws .u64 (d64 d.1.natAbs), .val (.int .i64 d.2), .val (.bool (decide (c.1 < 0))), .ws .u64 (d64 c.1.natAbs), .val (.int .i64 c.2), .val (.bool (decide (d.1 < 0))), .ws .u64 (d64 d.1.natAbs), .val (.int .i64 d.2)]
def qB (a b c d : D2) : List (List PV) := [[.val (.bool (decide (a.1 < 0))), .ws .u64 (d64 a.1.natAbs), .val (.int .i64 a.2), .val (.bool (decide (b.1 < 0))), .ws .u64 (d64 b.1.natAbs), .val (.int .i64 b.2)], [.val (.bool (decide (c.1 < 0))), .ws .u64 (d64 c.1.natAbs), .val (.int .i64 c.2), .val (.bool (decide (d.1 < 0))), .ws .u64 (d64 d.1.natAbs), .val (.int .i64 d.2)], [.val (.bool false), .nil, .val (.int .i64 0), .val (.bool false), .nil, .val (.int .i64 0)]]
def qT21 : Tm := .take 0 (.take 1 (.take 2 (.take 4 (.take 5 (.take 6 (.take 8 (.alt 3 (.alt 7 (.alt 9 (.take 10 (.take 11 (.take 12 (.alt 13 (.alt 14 (.alt 15 (.fin) (.non)) (.non)) (.non))))) (.alt 13 (.alt 9 (.take 10 (.take 11 (.take 12 (.alt 14 (.alt 15 (.fin) (.non)) (.non))))) (.non)) (.non))) (.alt 13 (.alt 7 (.alt 9 (.take 10 (.take 11 (.take 12 (.alt 14 (.alt 15 (.fin) (.non)) (.non))))) (.non)) (.non)) (.non))) (.alt 7 (.alt 3 (.alt 9 (.take 10 (.take 11 (.take 12 (.alt 13 (.alt 14 (.alt 15 (.fin) (.non)) (.non)) (.non))))) (.alt 13 (.alt 9 (.take 10 (.take 11 (.take 12 (.alt 14 (.alt 15 (.fin) (.non)) (.non))))) (.non)) (.non))) (.alt 13 (.alt 3 (.alt 9 (.take 10 (.take 11 (.take 12 (.alt 14 (.alt 15 (.fin) (.non)) (.non))))) (.non)) (.non)) (.non))) (.alt 13 (.alt 3 (.alt 7 (.alt 9 (.take 10 (.take 11 (.take 12 (.alt 14 (.alt 15 (.fin) (.non)) (.non))))) (.non)) (.non)) (.alt 7 (.alt 3 (.alt 9 (.take 10 (.take 11 (.take 12 (.alt 14 (.alt 15 (.fin) (.non)) (.non))))) (.non)) (.non)) (.non))) (.non))))))))))
theorem less_no {g : Gs} {x y u v : D2} (h1 : x.good) (h2 : y.good) (h3 : u.good) (h4 : v.good) (h : u.v * y.v ≤ x.v * v.v) : FC Tryz.prog g 165 [DY x.1 x.2, DY y.1 y.2, DY u.1 u.2, DY v.1 v.2] (· = .val (.bool false)) := by
  have := q_less (G := g) h1 h2 h3 h4
  rwa [decide_eq_false (Int.not_lt.2 h)] at this
theorem q_qc03 {g : Gs} {a b c d : D2} (ga : a.good) (gb : b.good) (gc : c.good) (gd : d.good) {p : Int} (hp : 1 ≤ p ∧ p ≤ 70000) (s1 : 0 < d.1) (s2 : a.1 < 0) (s3 : b.1 < 0) (n1 : c.1 ≠ 0) (n2 : d.1 ≠ 0)
  (f0 : FC Tryz.prog g 165 [DY a.1 a.2, DY c.1 c.2, DY a.1 a.2, DY c.1 c.2] (· = .val (.bool false)))
  (f1 : FC Tryz.prog g 165 [DY a.1 a.2, DY d.1 d.2, DY a.1 a.2, DY c.1 c.2] (· = .val (.bool false)))
  (f2 : FC Tryz.prog g 165 [DY b.1 b.2, DY c.1 c.2, DY a.1 a.2, DY c.1 c.2] (· = .val (.bool false)))
  (f3 : FC Tryz.prog g 165 [DY b.1 b.2, DY d.1 d.2, DY a.1 a.2, DY c.1 c.2] (· = .val (.bool false)))
  (e0 : FC Tryz.prog g 165 [DY b.1 b.2, DY d.1 d.2, DY a.1 a.2, DY c.1 c.2] (· = .val (.bool false)))
  (e1 : FC Tryz.prog g 165 [DY b.1 b.2, DY d.1 d.2, DY a.1 a.2, DY d.1 d.2] (· = .val (.bool false)))
  (e2 : FC Tryz.prog g 165 [DY b.1 b.2, DY d.1 d.2, DY b.1 b.2, DY c.1 c.2] (· = .val (.bool false)))
  (e3 : FC Tryz.prog g 165 [DY b.1 b.2, DY d.1 d.2, DY b.1 b.2, DY d.1 d.2] (· = .val (.bool false))) :
  FC Tryz.prog g 117 [SP a b, SP c d, .val (.int .i64 p)] (· = bothA (toAn (quoP a c p false)) (toAn (quoP b d p true))) := by
  have hp0 : inR .i64 p := by dsimp only [inR]; omega
  have k1 := tup_eta (p := quoP a c p false) (r_docquodown (G := g) p ga gc hp0) (quo_ans hp n1 false)
  have k2 := tup_eta (p := quoP b d p true) (r_docquoup (G := g) p gb gd hp0) (quo_ans hp n2 true)
  have c1 := (quo_ans (a := a) hp n1 false).eq.2.2
  have c2 := (quo_ans (a := b) hp n2 true).eq.2.2
  obtain ⟨A, hA⟩ : ∃ A, A = toAn (quoP a c p false) := ⟨_, rfl⟩
  obtain ⟨B, hB⟩ : ∃ A, A = toAn (quoP b d p true) := ⟨_, rfl⟩
  rw [← hA] at k1 c1 ⊢
  rw [← hB] at k2 c2 ⊢
  clear hA hB
  have k3 := q_told (G := g) A B c1 c2
  obtain ⟨x, y, c0, hr⟩ := bothA_form A B
  rw [hr] at k3 ⊢
  clear hr
  have v1 := q_sign (G := g) ga
  have v2 := q_sign (G := g) gb
  have v3 := q_sign (G := g) gd
  have w1 := sign3 a.1
  have w2 := sign3 b.1
  have w3 := sign3 d.1
  obtain ⟨t1, h1⟩ : ∃ t, t = a.1.sign := ⟨_, rfl⟩
  obtain ⟨t2, h2⟩ : ∃ t, t = b.1.sign := ⟨_, rfl⟩
  obtain ⟨t3, h3⟩ : ∃ t, t = d.1.sign := ⟨_, rfl⟩
  rw [← h1] at v1 w1
  rw [← h2] at v2 w2
  rw [← h3] at v3 w3
  clear h1 h2 h3 c1 c2
  obtain ⟨lx, m1⟩ := q_long (G := g) a a b b
  obtain ⟨ly, m2⟩ := q_long (G := g) c d c d
  have y1 : 0 < t3 := by omega
  have y2 : t1 < 0 := by omega
  have y3 : t2 < 0 := by omega
  clear w1 w2 w3 s1 s2 s3 n1 n2 ga gb gc gd
  cases lx <;> cases ly <;> (
    refine ax_i Tryz.func117 Tryz.ntmps117 ?_; intro F hG hO
    rw [← hG] at v1 v2 v3 m1 m2 k1 k2 k3 f0 f1 f2 f3 e0 e1 e2 e3
    repeat' ((try (conv => whnf)); first
 | refine ce v1 ?_ | refine ce v2 ?_ | refine ce v3 ?_ | refine ce m1 ?_ | refine ce m2 ?_ | refine ce k1 ?_ | refine ce k2 ?_ | refine ce k3 ?_
 | (refine dg ?_; refine Reg.use (reg_qa (a := a) (b := b) (c := c) (d := d) (p := p) (i := 0) (l := 0) (h := 3) (by decide) (by decide) f0) hO (cutj rfl ⟨_, rfl⟩ ⟨_, rfl⟩) ?_; intro ju)
 | (refine dg ?_; refine Reg.use (reg_qa (a := a) (b := b) (c := c) (d := d) (p := p) (i := 1) (l := 0) (h := 3) (by decide) (by decide) f1) hO (cutj rfl ⟨_, rfl⟩ ⟨_, rfl⟩) ?_; intro ju)
 | (refine dg ?_; refine Reg.use (reg_qa (a := a) (b := b) (c := c) (d := d) (p := p) (i := 2) (l := 0) (h := 3) (by decide) (by decide) f2) hO (cutj rfl ⟨_, rfl⟩ ⟨_, rfl⟩) ?_; intro ju)
 | (refine dg ?_; refine Reg.use (reg_qa (a := a) (b := b) (c := c) (d := d) (p := p) (i := 3) (l := 0) (h := 3) (by decide) (by decide) f3) hO (cutj rfl ⟨_, rfl⟩ ⟨_, rfl⟩) ?_; intro ju)
 | (refine dg ?_; refine Reg.use (reg_qb (a := a) (b := b) (c := c) (d := d) (p := p) (i := 0) (l := 0) (h := 3) (by decide) (by decide) e0) hO (cutj rfl ⟨_, rfl⟩ ⟨_, rfl⟩) ?_; intro ju)
 | (refine dg ?_; refine Reg.use (reg_qb (a := a) (b := b) (c := c) (d := d) (p := p) (i := 1) (l := 0) (h := 3) (by decide) (by decide) e1) hO (cutj rfl ⟨_, rfl⟩ ⟨_, rfl⟩) ?_; intro ju)
 | (refine dg ?_; refine Reg.use (reg_qb (a := a) (b := b) (c := c) (d := d) (p := p) (i := 2) (l := 0) (h := 3) (by decide) (by decide) e2) hO (cutj rfl ⟨_, rfl⟩ ⟨_, rfl⟩) ?_; intro ju)
 | (refine dg ?_; refine Reg.use (reg_qb (a := a) (b := b) (c := c) (d := d) (p := p) (i := 3) (l := 0) (h := 3) (by decide) (by decide) e3) hO (cutj rfl ⟨_, rfl⟩ ⟨_, rfl⟩) ?_; intro ju)
 | (refine dg ?_; refine draw_p (A := Unit) (id := 21) (N := 139) (fun _ => [(2, .val (.int .i64 (p))), (6, .ptr 2 0), (8, (qX a b)), (9, (qY c d)), (11, .val (.int .i64 3)), (13, .ptr 3 0), (14, .val (.int .i64 (A.c)))]) (fun _ => qB a b c d ++ [[vB A.d, vW A.d, vE A.d]]) (fun _ => []) qT21 tok mixed (by kernel_rfl) (by kernel_rfl) (by intro ju; simp [hO]) ?_ ?_; rotate_left; intro ju)
 | exact joinp () [(0, []), (1, []), (2, []), (3, [])] rfl rfl rfl ⟨_, rfl⟩
 | (refine dg ?_; refine draw_p (A := Unit) (id := 22) (N := 139) (fun _ => [(6, .ptr 2 0), (13, .ptr 3 0), (14, .val (.int .i64 (A.c))), (15, .ptr 4 0), (16, .val (.int .i64 (B.c)))]) (fun _ => qB a b c d ++ [[vB A.d, vW A.d, vE A.d], [vB B.d, vW B.d, vE B.d]]) (fun _ => []) qT21 tok mixed (by kernel_rfl) (by kernel_rfl) (by intro ju; simp [hO]) ?_ ?_; rotate_left; intro ju)
 | exact joinp () [(0, []), (1, []), (2, []), (3, []), (4, [])] rfl rfl rfl ⟨_, rfl⟩
 | (refine ax_l ?_)
 | (refine ax_r ?_)
 | (refine lg ?_; refine rnd0 5 tok ?_)
 | (refine rnd1 ?_)
 | (refine dG (id := 17) dg16 ?_)
 | (refine dG (id := 19) dg16 ?_)
 | with_reducible first | refine ax_s ?_ | (refine ax_f ?_ ?_ <;> try intro hc) | fail)
    all_goals exact ⟨ret_e rfl⟩)
theorem q_qc02 {g : Gs} {a b c d : D2} (ga : a.good) (gb : b.good) (gc : c.good) (gd : d.good) {p : Int} (hp : 1 ≤ p ∧ p ≤ 70000) (s1 : 0 < d.1) (s2 : a.1 < 0) (s3 : ¬ b.1 < 0) (n1 : c.1 ≠ 0) (n2 : c.1 ≠ 0)
  (f0 : FC Tryz.prog g 165 [DY a.1 a.2, DY c.1 c.2, DY a.1 a.2, DY c.1 c.2] (· = .val (.bool false)))
  (f1 : FC Tryz.prog g 165 [DY a.1 a.2, DY d.1 d.2, DY a.1 a.2, DY c.1 c.2] (· = .val (.bool false)))
  (f2 : FC Tryz.prog g 165 [DY b.1 b.2, DY c.1 c.2, DY a.1 a.2, DY c.1 c.2] (· = .val (.bool false)))
  (f3 : FC Tryz.prog g 165 [DY b.1 b.2, DY d.1 d.2, DY a.1 a.2, DY c.1 c.2] (· = .val (.bool false)))
  (e0 : FC Tryz.prog g 165 [DY b.1 b.2, DY c.1 c.2, DY a.1 a.2, DY c.1 c.2] (· = .val (.bool false)))
  (e1 : FC Tryz.prog g 165 [DY b.1 b.2, DY c.1 c.2, DY a.1 a.2, DY d.1 d.2] (· = .val (.bool false)))
  (e2 : FC Tryz.prog g 165 [DY b.1 b.2, DY c.1 c.2, DY b.1 b.2, DY c.1 c.2] (· = .val (.bool false)))
  (e3 : FC Tryz.prog g 165 [DY b.1 b.2, DY c.1 c.2, DY b.1 b.2, DY d.1 d.2] (· = .val (.bool false))) :
  FC Tryz.prog g 117 [SP a b, SP c d, .val (.int .i64 p)] (· = bothA (toAn (quoP a c p false)) (toAn (quoP b c p true))) := by
  have hp0 : inR .i64 p := by dsimp only [inR]; omega
  have k1 := tup_eta (p := quoP a c p false) (r_docquodown (G := g) p ga gc hp0) (quo_ans hp n1 false)
  have k2 := tup_eta (p := quoP b c p true) (r_docquoup (G := g) p gb gc hp0) (quo_ans hp n2 true)
  have c1 := (quo_ans (a := a) hp n1 false).eq.2.2
  have c2 := (quo_ans (a := b) hp n2 true).eq.2.2
  obtain ⟨A, hA⟩ : ∃ A, A = toAn (quoP a c p false) := ⟨_, rfl⟩
  obtain ⟨B, hB⟩ : ∃ A, A = toAn (quoP b c p true) := ⟨_, rfl⟩
  rw [← hA] at k1 c1 ⊢
  rw [← hB] at k2 c2 ⊢
  clear hA hB
  have k3 := q_told (G := g) A B c1 c2
  obtain ⟨x, y, c0, hr⟩ := bothA_form A B
  rw [hr] at k3 ⊢
  clear hr
  have v1 := q_sign (G := g) ga
  have v2 := q_sign (G := g) gb
  have v3 := q_sign (G := g) gd
  have w1 := sign3 a.1
  have w2 := sign3 b.1
  have w3 := sign3 d.1
  obtain ⟨t1, h1⟩ : ∃ t, t = a.1.sign := ⟨_, rfl⟩
  obtain ⟨t2, h2⟩ : ∃ t, t = b.1.sign := ⟨_, rfl⟩
  obtain ⟨t3, h3⟩ : ∃ t, t = d.1.sign := ⟨_, rfl⟩
  rw [← h1] at v1 w1
  rw [← h2] at v2 w2
  rw [← h3] at v3 w3
  clear h1 h2 h3 c1 c2
  obtain ⟨lx, m1⟩ := q_long (G := g) a a b b
  obtain ⟨ly, m2⟩ := q_long (G := g) c d c d
  have y1 : 0 < t3 := by omega
  have y2 : t1 < 0 := by omega
  have y3 : ¬ t2 < 0 := by omega
  clear w1 w2 w3 s1 s2 s3 n1 n2 ga gb gc gd
  cases lx <;> cases ly <;> (
    refine ax_i Tryz.func117 Tryz.ntmps117 ?_; intro F hG hO
    rw [← hG] at v1 v2 v3 m1 m2 k1 k2 k3 f0 f1 f2 f3 e0 e1 e2 e3
    repeat' ((try (conv => whnf)); first
 | refine ce v1 ?_ | refine ce v2 ?_ | refine ce v3 ?_ | refine ce m1 ?_ | refine ce m2 ?_ | refine ce k1 ?_ | refine ce k2 ?_ | refine ce k3 ?_
 | (refine dg ?_; refine Reg.use (reg_qa (a := a) (b := b) (c := c) (d := d) (p := p) (i := 0) (l := 0) (h := 2) (by decide) (by decide) f0) hO (cutj rfl ⟨_, rfl⟩ ⟨_, rfl⟩) ?_; intro ju)
 | (refine dg ?_; refine Reg.use (reg_qa (a := a) (b := b) (c := c) (d := d) (p := p) (i := 1) (l := 0) (h := 2) (by decide) (by decide) f1) hO (cutj rfl ⟨_, rfl⟩ ⟨_, rfl⟩) ?_; intro ju)
 | (refine dg ?_; refine Reg.use (reg_qa (a := a) (b := b) (c := c) (d := d) (p := p) (i := 2) (l := 0) (h := 2) (by decide) (by decide) f2) hO (cutj rfl ⟨_, rfl⟩ ⟨_, rfl⟩) ?_; intro ju)
 | (refine dg ?_; refine Reg.use (reg_qa (a := a) (b := b) (c := c) (d := d) (p := p) (i := 3) (l := 0) (h := 2) (by decide) (by decide) f3) hO (cutj rfl ⟨_, rfl⟩ ⟨_, rfl⟩) ?_; intro ju)
 | (refine dg ?_; refine Reg.use (reg_qb (a := a) (b := b) (c := c) (d := d) (p := p) (i := 0) (l := 0) (h := 2) (by decide) (by decide) e0) hO (cutj rfl ⟨_, rfl⟩ ⟨_, rfl⟩) ?_; intro ju)
 | (refine dg ?_; refine Reg.use (reg_qb (a := a) (b := b) (c := c) (d := d) (p := p) (i := 1) (l := 0) (h := 2) (by decide) (by decide) e1) hO (cutj rfl ⟨_, rfl⟩ ⟨_, rfl⟩) ?_; intro ju)
 | (refine dg ?_; refine Reg.use (reg_qb (a := a) (b := b) (c := c) (d := d) (p := p) (i := 2) (l := 0) (h := 2) (by decide) (by decide) e2) hO (cutj rfl ⟨_, rfl⟩ ⟨_, rfl⟩) ?_; intro ju)
 | (refine dg ?_; refine Reg.use (reg_qb (a := a) (b := b) (c := c) (d := d) (p := p) (i := 3) (l := 0) (h := 2) (by decide) (by decide) e3) hO (cutj rfl ⟨_, rfl⟩ ⟨_, rfl⟩) ?_; intro ju)
 | (refine dg ?_; refine draw_p (A := Unit) (id := 21) (N := 139) (fun _ => [(2, .val (.int .i64 (p))), (6, .ptr 2 0), (8, (qX a b)), (9, (qY c d)), (11, .val (.int .i64 2)), (13, .ptr 3 0), (14, .val (.int .i64 (A.c)))]) (fun _ => qB a b c d ++ [[vB A.d, vW A.d, vE A.d]]) (fun _ => []) qT21 tok mixed (by kernel_rfl) (by kernel_rfl) (by intro ju; simp [hO]) ?_ ?_; rotate_left; intro ju)
 | exact joinp () [(0, []), (1, []), (2, []), (3, [])] rfl rfl rfl ⟨_, rfl⟩
 | (refine dg ?_; refine draw_p (A := Unit) (id := 22) (N := 139) (fun _ => [(6, .ptr 2 0), (13, .ptr 3 0), (14, .val (.int .i64 (A.c))), (15, .ptr 4 0), (16, .val (.int .i64 (B.c)))]) (fun _ => qB a b c d ++ [[vB A.d, vW A.d, vE A.d], [vB B.d, vW B.d, vE B.d]]) (fun _ => []) qT21 tok mixed (by kernel_rfl) (by kernel_rfl) (by intro ju; simp [hO]) ?_ ?_; rotate_left; intro ju)
 | exact joinp () [(0, []), (1, []), (2, []), (3, []), (4, [])] rfl rfl rfl ⟨_, rfl⟩
 | (refine ax_l ?_)
 | (refine ax_r ?_)
 | (refine lg ?_; refine rnd0 5 tok ?_)
 | (refine rnd1 ?_)
 | (refine dG (id := 17) dg16 ?_)
 | (refine dG (id := 19) dg16 ?_)
 | with_reducible first | refine ax_s ?_ | (refine ax_f ?_ ?_ <;> try intro hc) | fail)
    all_goals exact ⟨ret_e rfl⟩)
theorem q_qc12 {g : Gs} {a b c d : D2} (ga : a.good) (gb : b.good) (gc : c.good) (gd : d.good) {p : Int} (hp : 1 ≤ p ∧ p ≤ 70000) (s1 : 0 < d.1) (s2 : ¬ a.1 < 0) (s3 : ¬ b.1 < 0) (n1 : d.1 ≠ 0) (n2 : c.1 ≠ 0)
  (f0 : FC Tryz.prog g 165 [DY a.1 a.2, DY c.1 c.2, DY a.1 a.2, DY d.1 d.2] (· = .val (.bool false)))
  (f1 : FC Tryz.prog g 165 [DY a.1 a.2, DY d.1 d.2, DY a.1 a.2, DY d.1 d.2] (· = .val (.bool false)))
  (f2 : FC Tryz.prog g 165 [DY b.1 b.2, DY c.1 c.2, DY a.1 a.2, DY d.1 d.2] (· = .val (.bool false)))
  (f3 : FC Tryz.prog g 165 [DY b.1 b.2, DY d.1 d.2, DY a.1 a.2, DY d.1 d.2] (· = .val (.bool false)))
  (e0 : FC Tryz.prog g 165 [DY b.1 b.2, DY c.1 c.2, DY a.1 a.2, DY c.1 c.2] (· = .val (.bool false)))
  (e1 : FC Tryz.prog g 165 [DY b.1 b.2, DY c.1 c.2, DY a.1 a.2, DY d.1 d.2] (· = .val (.bool false)))
  (e2 : FC Tryz.prog g 165 [DY b.1 b.2, DY c.1 c.2, DY b.1 b.2, DY c.1 c.2] (· = .val (.bool false)))
  (e3 : FC Tryz.prog g 165 [DY b.1 b.2, DY c.1 c.2, DY b.1 b.2, DY d.1 d.2] (· = .val (.bool false))) :
  FC Tryz.prog g 117 [SP a b, SP c d, .val (.int .i64 p)] (· = bothA (toAn (quoP a d p false)) (toAn (quoP b c p true))) := by
  have hp0 : inR .i64 p := by dsimp only [inR]; omega
  have k1 := tup_eta (p := quoP a d p false) (r_docquodown (G := g) p ga gd hp0) (quo_ans hp n1 false)
  have k2 := tup_eta (p := quoP b c p true) (r_docquoup (G := g) p gb gc hp0) (quo_ans hp n2 true)
  have c1 := (quo_ans (a := a) hp n1 false).eq.2.2
  have c2 := (quo_ans (a := b) hp n2 true).eq.2.2
  obtain ⟨A, hA⟩ : ∃ A, A = toAn (quoP a d p false) := ⟨_, rfl⟩
  obtain ⟨B, hB⟩ : ∃ A, A = toAn (quoP b c p true) := ⟨_, rfl⟩
  rw [← hA] at k1 c1 ⊢
  rw [← hB] at k2 c2 ⊢
  clear hA hB
  have k3 := q_told (G := g) A B c1 c2
  obtain ⟨x, y, c0, hr⟩ := bothA_form A B
  rw [hr] at k3 ⊢
  clear hr
  have v1 := q_sign (G := g) ga
  have v2 := q_sign (G := g) gb
  have v3 := q_sign (G := g) gd
  have w1 := sign3 a.1
  have w2 := sign3 b.1
  have w3 := sign3 d.1
  obtain ⟨t1, h1⟩ : ∃ t, t = a.1.sign := ⟨_, rfl⟩
  obtain ⟨t2, h2⟩ : ∃ t, t = b.1.sign := ⟨_, rfl⟩
  obtain ⟨t3, h3⟩ : ∃ t, t = d.1.sign := ⟨_, rfl⟩
  rw [← h1] at v1 w1
  rw [← h2] at v2 w2
  rw [← h3] at v3 w3
  clear h1 h2 h3 c1 c2
  obtain ⟨lx, m1⟩ := q_long (G := g) a a b b
  obtain ⟨ly, m2⟩ := q_long (G := g) c d c d
  have y1 : 0 < t3 := by omega
  have y2 : ¬ t1 < 0 := by omega
  have y3 : ¬ t2 < 0 := by omega
  clear w1 w2 w3 s1 s2 s3 n1 n2 ga gb gc gd
  cases lx <;> cases ly <;> (
    refine ax_i Tryz.func117 Tryz.ntmps117 ?_; intro F hG hO
    rw [← hG] at v1 v2 v3 m1 m2 k1 k2 k3 f0 f1 f2 f3 e0 e1 e2 e3
    repeat' ((try (conv => whnf)); first
 | refine ce v1 ?_ | refine ce v2 ?_ | refine ce v3 ?_ | refine ce m1 ?_ | refine ce m2 ?_ | refine ce k1 ?_ | refine ce k2 ?_ | refine ce k3 ?_
 | (refine dg ?_; refine Reg.use (reg_qa (a := a) (b := b) (c := c) (d := d) (p := p) (i := 0) (l := 1) (h := 2) (by decide) (by decide) f0) hO (cutj rfl ⟨_, rfl⟩ ⟨_, rfl⟩) ?_; intro ju)
 | (refine dg ?_; refine Reg.use (reg_qa (a := a) (b := b) (c := c) (d := d) (p := p) (i := 1) (l := 1) (h := 2) (by decide) (by decide) f1) hO (cutj rfl ⟨_, rfl⟩ ⟨_, rfl⟩) ?_; intro ju)
 | (refine dg ?_; refine Reg.use (reg_qa (a := a) (b := b) (c := c) (d := d) (p := p) (i := 2) (l := 1) (h := 2) (by decide) (by decide) f2) hO (cutj rfl ⟨_, rfl⟩ ⟨_, rfl⟩) ?_; intro ju)
 | (refine dg ?_; refine Reg.use (reg_qa (a := a) (b := b) (c := c) (d := d) (p := p) (i := 3) (l := 1) (h := 2) (by decide) (by decide) f3) hO (cutj rfl ⟨_, rfl⟩ ⟨_, rfl⟩) ?_; intro ju)
 | (refine dg ?_; refine Reg.use (reg_qb (a := a) (b := b) (c := c) (d := d) (p := p) (i := 0) (l := 1) (h := 2) (by decide) (by decide) e0) hO (cutj rfl ⟨_, rfl⟩ ⟨_, rfl⟩) ?_; intro ju)
 | (refine dg ?_; refine Reg.use (reg_qb (a := a) (b := b) (c := c) (d := d) (p := p) (i := 1) (l := 1) (h := 2) (by decide) (by decide) e1) hO (cutj rfl ⟨_, rfl⟩ ⟨_, rfl⟩) ?_; intro ju)
 | (refine dg ?_; refine Reg.use (reg_qb (a := a) (b := b) (c := c) (d := d) (p := p) (i := 2) (l := 1) (h := 2) (by decide) (by decide) e2) hO (cutj rfl ⟨_, rfl⟩ ⟨_, rfl⟩) ?_; intro ju)
 | (refine dg ?_; refine Reg.use (reg_qb (a := a) (b := b) (c := c) (d := d) (p := p) (i := 3) (l := 1) (h := 2) (by decide) (by decide) e3) hO (cutj rfl ⟨_, rfl⟩ ⟨_, rfl⟩) ?_; intro ju)
 | (refine dg ?_; refine draw_p (A := Unit) (id := 21) (N := 139) (fun _ => [(2, .val (.int .i64 (p))), (6, .ptr 2 0), (8, (qX a b)), (9, (qY c d)), (11, .val (.int .i64 2)), (13, .ptr 3 0), (14, .val (.int .i64 (A.c)))]) (fun _ => qB a b c d ++ [[vB A.d, vW A.d, vE A.d]]) (fun _ => []) qT21 tok mixed (by kernel_rfl) (by kernel_rfl) (by intro ju; simp [hO]) ?_ ?_; rotate_left; intro ju)
 | exact joinp () [(0, []), (1, []), (2, []), (3, [])] rfl rfl rfl ⟨_, rfl⟩
 | (refine dg ?_; refine draw_p (A := Unit) (id := 22) (N := 139) (fun _ => [(6, .ptr 2 0), (13, .ptr 3 0), (14, .val (.int .i64 (A.c))), (15, .ptr 4 0), (16, .val (.int .i64 (B.c)))]) (fun _ => qB a b c d ++ [[vB A.d, vW A.d, vE A.d], [vB B.d, vW B.d, vE B.d]]) (fun _ => []) qT21 tok mixed (by kernel_rfl) (by kernel_rfl) (by intro ju; simp [hO]) ?_ ?_; rotate_left; intro ju)
 | exact joinp () [(0, []), (1, []), (2, []), (3, []), (4, [])] rfl rfl rfl ⟨_, rfl⟩
 | (refine ax_l ?_)
 | (refine ax_r ?_)
 | (refine lg ?_; refine rnd0 5 tok ?_)
 | (refine rnd1 ?_)
 | (refine dG (id := 17) dg16 ?_)
 | (refine dG (id := 19) dg16 ?_)
 | with_reducible first | refine ax_s ?_ | (refine ax_f ?_ ?_ <;> try intro hc) | fail)
    all_goals exact ⟨ret_e rfl⟩)
theorem q_qc30 {g : Gs} {a b c d : D2} (ga : a.good) (gb : b.good) (gc : c.good) (gd : d.good) {p : Int} (hp : 1 ≤ p ∧ p ≤ 70000) (s1 : ¬ 0 < d.1) (s2 : 0 < b.1) (s3 : 0 < a.1) (n1 : d.1 ≠ 0) (n2 : c.1 ≠ 0)
  (f0 : FC Tryz.prog g 165 [DY a.1 a.2, DY c.1 c.2, DY b.1 b.2, DY d.1 d.2] (· = .val (.bool false)))
  (f1 : FC Tryz.prog g 165 [DY a.1 a.2, DY d.1 d.2, DY b.1 b.2, DY d.1 d.2] (· = .val (.bool false)))
  (f2 : FC Tryz.prog g 165 [DY b.1 b.2, DY c.1 c.2, DY b.1 b.2, DY d.1 d.2] (· = .val (.bool false)))
  (f3 : FC Tryz.prog g 165 [DY b.1 b.2, DY d.1 d.2, DY b.1 b.2, DY d.1 d.2] (· = .val (.bool false)))
  (e0 : FC Tryz.prog g 165 [DY a.1 a.2, DY c.1 c.2, DY a.1 a.2, DY c.1 c.2] (· = .val (.bool false)))
  (e1 : FC Tryz.prog g 165 [DY a.1 a.2, DY c.1 c.2, DY a.1 a.2, DY d.1 d.2] (· = .val (.bool false)))
  (e2 : FC Tryz.prog g 165 [DY a.1 a.2, DY c.1 c.2, DY b.1 b.2, DY c.1 c.2] (· = .val (.bool false)))
  (e3 : FC Tryz.prog g 165 [DY a.1 a.2, DY c.1 c.2, DY b.1 b.2, DY d.1 d.2] (· = .val (.bool false))) :
  FC Tryz.prog g 117 [SP a b, SP c d, .val (.int .i64 p)] (· = bothA (toAn (quoP b d p false)) (toAn (quoP a c p true))) := by
  have hp0 : inR .i64 p := by dsimp only [inR]; omega
  have k1 := tup_eta (p := quoP b d p false) (r_docquodown (G := g) p gb gd hp0) (quo_ans hp n1 false)
  have k2 := tup_eta (p := quoP a c p true) (r_docquoup (G := g) p ga gc hp0) (quo_ans hp n2 true)
  have c1 := (quo_ans (a := b) hp n1 false).eq.2.2
  have c2 := (quo_ans (a := a) hp n2 true).eq.2.2
  obtain ⟨A, hA⟩ : ∃ A, A = toAn (quoP b d p false) := ⟨_, rfl⟩
  obtain ⟨B, hB⟩ : ∃ A, A = toAn (quoP a c p true) := ⟨_, rfl⟩
  rw [← hA] at k1 c1 ⊢
  rw [← hB] at k2 c2 ⊢
  clear hA hB
  have k3 := q_told (G := g) A B c1 c2
  obtain ⟨x, y, c0, hr⟩ := bothA_form A B
  rw [hr] at k3 ⊢
  clear hr
  have v1 := q_sign (G := g) ga
  have v2 := q_sign (G := g) gb
  have v3 := q_sign (G := g) gd
  have w1 := sign3 a.1
  have w2 := sign3 b.1
  have w3 := sign3 d.1
  obtain ⟨t1, h1⟩ : ∃ t, t = a.1.sign := ⟨_, rfl⟩
  obtain ⟨t2, h2⟩ : ∃ t, t = b.1.sign := ⟨_, rfl⟩
  obtain ⟨t3, h3⟩ : ∃ t, t = d.1.sign := ⟨_, rfl⟩
  rw [← h1] at v1 w1
  rw [← h2] at v2 w2
  rw [← h3] at v3 w3
  clear h1 h2 h3 c1 c2
  obtain ⟨lx, m1⟩ := q_long (G := g) a a b b
  obtain ⟨ly, m2⟩ := q_long (G := g) c d c d
  have y1 : ¬ 0 < t3 := by omega
  have y2 : 0 < t2 := by omega
  have y3 : 0 < t1 := by omega
  clear w1 w2 w3 s1 s2 s3 n1 n2 ga gb gc gd
  cases lx <;> cases ly <;> (
    refine ax_i Tryz.func117 Tryz.ntmps117 ?_; intro F hG hO
    rw [← hG] at v1 v2 v3 m1 m2 k1 k2 k3 f0 f1 f2 f3 e0 e1 e2 e3
    repeat' ((try (conv => whnf)); first
 | refine ce v1 ?_ | refine ce v2 ?_ | refine ce v3 ?_ | refine ce m1 ?_ | refine ce m2 ?_ | refine ce k1 ?_ | refine ce k2 ?_ | refine ce k3 ?_
 | (refine dg ?_; refine Reg.use (reg_qa (a := a) (b := b) (c := c) (d := d) (p := p) (i := 0) (l := 3) (h := 0) (by decide) (by decide) f0) hO (cutj rfl ⟨_, rfl⟩ ⟨_, rfl⟩) ?_; intro ju)
 | (refine dg ?_; refine Reg.use (reg_qa (a := a) (b := b) (c := c) (d := d) (p := p) (i := 1) (l := 3) (h := 0) (by decide) (by decide) f1) hO (cutj rfl ⟨_, rfl⟩ ⟨_, rfl⟩) ?_; intro ju)
 | (refine dg ?_; refine Reg.use (reg_qa (a := a) (b := b) (c := c) (d := d) (p := p) (i := 2) (l := 3) (h := 0) (by decide) (by decide) f2) hO (cutj rfl ⟨_, rfl⟩ ⟨_, rfl⟩) ?_; intro ju)
 | (refine dg ?_; refine Reg.use (reg_qa (a := a) (b := b) (c := c) (d := d) (p := p) (i := 3) (l := 3) (h := 0) (by decide) (by decide) f3) hO (cutj rfl ⟨_, rfl⟩ ⟨_, rfl⟩) ?_; intro ju)
 | (refine dg ?_; refine Reg.use (reg_qb (a := a) (b := b) (c := c) (d := d) (p := p) (i := 0) (l := 3) (h := 0) (by decide) (by decide) e0) hO (cutj rfl ⟨_, rfl⟩ ⟨_, rfl⟩) ?_; intro ju)
 | (refine dg ?_; refine Reg.use (reg_qb (a := a) (b := b) (c := c) (d := d) (p := p) (i := 1) (l := 3) (h := 0) (by decide) (by decide) e1) hO (cutj rfl ⟨_, rfl⟩ ⟨_, rfl⟩) ?_; intro ju)
 | (refine dg ?_; refine Reg.use (reg_qb (a := a) (b := b) (c := c) (d := d) (p := p) (i := 2) (l := 3) (h := 0) (by decide) (by decide) e2) hO (cutj rfl ⟨_, rfl⟩ ⟨_, rfl⟩) ?_; intro ju)
 | (refine dg ?_; refine Reg.use (reg_qb (a := a) (b := b) (c := c) (d := d) (p := p) (i := 3) (l := 3) (h := 0) (by decide) (by decide) e3) hO (cutj rfl ⟨_, rfl⟩ ⟨_, rfl⟩) ?_; intro ju)
 | (refine dg ?_; refine draw_p (A := Unit) (id := 21) (N := 139) (fun _ => [(2, .val (.int .i64 (p))), (6, .ptr 2 0), (8, (qX a b)), (9, (qY c d)), (11, .val (.int .i64 0)), (13, .ptr 3 0), (14, .val (.int .i64 (A.c)))]) (fun _ => qB a b c d ++ [[vB A.d, vW A.d, vE A.d]]) (fun _ => []) qT21 tok mixed (by kernel_rfl) (by kernel_rfl) (by intro ju; simp [hO]) ?_ ?_; rotate_left; intro ju)
 | exact joinp () [(0, []), (1, []), (2, []), (3, [])] rfl rfl rfl ⟨_, rfl⟩
 | (refine dg ?_; refine draw_p (A := Unit) (id := 22) (N := 139) (fun _ => [(6, .ptr 2 0), (13, .ptr 3 0), (14, .val (.int .i64 (A.c))), (15, .ptr 4 0), (16, .val (.int .i64 (B.c)))]) (fun _ => qB a b c d ++ [[vB A.d, vW A.d, vE A.d], [vB B.d, vW B.d, vE B.d]]) (fun _ => []) qT21 tok mixed (by kernel_rfl) (by kernel_rfl) (by intro ju; simp [hO]) ?_ ?_; rotate_left; intro ju)
 | exact joinp () [(0, []), (1, []), (2, []), (3, []), (4, [])] rfl rfl rfl ⟨_, rfl⟩
 | (refine ax_l ?_)
 | (refine ax_r ?_)
 | (refine lg ?_; refine rnd0 5 tok ?_)
 | (refine rnd1 ?_)
 | (refine dG (id := 17) dg16 ?_)
 | (refine dG (id := 19) dg16 ?_)
 | with_reducible first | refine ax_s ?_ | (refine ax_f ?_ ?_ <;> try intro hc) | fail)
    all_goals exact ⟨ret_e rfl⟩)
theorem q_qc31 {g : Gs} {a b c d : D2} (ga : a.good) (gb : b.good) (gc : c.good) (gd : d.good) {p : Int} (hp : 1 ≤ p ∧ p ≤ 70000) (s1 : ¬ 0 < d.1) (s2 : 0 < b.1) (s3 : ¬ 0 < a.1) (n1 : d.1 ≠ 0) (n2 : d.1 ≠ 0)
  (f0 : FC Tryz.prog g 165 [DY a.1 a.2, DY c.1 c.2, DY b.1 b.2, DY d.1 d.2] (· = .val (.bool false)))
  (f1 : FC Tryz.prog g 165 [DY a.1 a.2, DY d.1 d.2, DY b.1 b.2, DY d.1 d.2] (· = .val (.bool false)))
  (f2 : FC Tryz.prog g 165 [DY b.1 b.2, DY c.1 c.2, DY b.1 b.2, DY d.1 d.2] (· = .val (.bool false)))
  (f3 : FC Tryz.prog g 165 [DY b.1 b.2, DY d.1 d.2, DY b.1 b.2, DY d.1 d.2] (· = .val (.bool false)))
  (e0 : FC Tryz.prog g 165 [DY a.1 a.2, DY d.1 d.2, DY a.1 a.2, DY c.1 c.2] (· = .val (.bool false)))
  (e1 : FC Tryz.prog g 165 [DY a.1 a.2, DY d.1 d.2, DY a.1 a.2, DY d.1 d.2] (· = .val (.bool false)))
  (e2 : FC Tryz.prog g 165 [DY a.1 a.2, DY d.1 d.2, DY b.1 b.2, DY c.1 c.2] (· = .val (.bool false)))
  (e3 : FC Tryz.prog g 165 [DY a.1 a.2, DY d.1 d.2, DY b.1 b.2, DY d.1 d.2] (· = .val (.bool false))) :
  FC Tryz.prog g 117 [SP a b, SP c d, .val (.int .i64 p)] (· = bothA (toAn (quoP b d p false)) (toAn (quoP a d p true))) := by
  have hp0 : inR .i64 p := by dsimp only [inR]; omega
  have k1 := tup_eta (p := quoP b d p false) (r_docquodown (G := g) p gb gd hp0) (quo_ans hp n1 false)
  have k2 := tup_eta (p := quoP a d p true) (r_docquoup (G := g) p ga gd hp0) (quo_ans hp n2 true)
  have c1 := (quo_ans (a := b) hp n1 false).eq.2.2
  have c2 := (quo_ans (a := a) hp n2 true).eq.2.2
  obtain ⟨A, hA⟩ : ∃ A, A = toAn (quoP b d p false) := ⟨_, rfl⟩
  obtain ⟨B, hB⟩ : ∃ A, A = toAn (quoP a d p true) := ⟨_, rfl⟩
  rw [← hA] at k1 c1 ⊢
  rw [← hB] at k2 c2 ⊢
  clear hA hB
  have k3 := q_told (G := g) A B c1 c2
  obtain ⟨x, y, c0, hr⟩ := bothA_form A B
  rw [hr] at k3 ⊢
  clear hr
  have v1 := q_sign (G := g) ga
  have v2 := q_sign (G := g) gb
  have v3 := q_sign (G := g) gd
  have w1 := sign3 a.1
  have w2 := sign3 b.1
  have w3 := sign3 d.1
  obtain ⟨t1, h1⟩ : ∃ t, t = a.1.sign := ⟨_, rfl⟩
  obtain ⟨t2, h2⟩ : ∃ t, t = b.1.sign := ⟨_, rfl⟩
  obtain ⟨t3, h3⟩ : ∃ t, t = d.1.sign := ⟨_, rfl⟩
  rw [← h1] at v1 w1
  rw [← h2] at v2 w2
  rw [← h3] at v3 w3
  clear h1 h2 h3 c1 c2
  obtain ⟨lx, m1⟩ := q_long (G := g) a a b b
  obtain ⟨ly, m2⟩ := q_long (G := g) c d c d
  have y1 : ¬ 0 < t3 := by omega
  have y2 : 0 < t2 := by omega
  have y3 : ¬ 0 < t1 := by omega
  clear w1 w2 w3 s1 s2 s3 n1 n2 ga gb gc gd
  cases lx <;> cases ly <;> (
    refine ax_i Tryz.func117 Tryz.ntmps117 ?_; intro F hG hO
    rw [← hG] at v1 v2 v3 m1 m2 k1 k2 k3 f0 f1 f2 f3 e0 e1 e2 e3
    repeat' ((try (conv => whnf)); first
 | refine ce v1 ?_ | refine ce v2 ?_ | refine ce v3 ?_ | refine ce m1 ?_ | refine ce m2 ?_ | refine ce k1 ?_ | refine ce k2 ?_ | refine ce k3 ?_
 | (refine dg ?_; refine Reg.use (reg_qa (a := a) (b := b) (c := c) (d := d) (p := p) (i := 0) (l := 3) (h := 1) (by decide) (by decide) f0) hO (cutj rfl ⟨_, rfl⟩ ⟨_, rfl⟩) ?_; intro ju)
 | (refine dg ?_; refine Reg.use (reg_qa (a := a) (b := b) (c := c) (d := d) (p := p) (i := 1) (l := 3) (h := 1) (by decide) (by decide) f1) hO (cutj rfl ⟨_, rfl⟩ ⟨_, rfl⟩) ?_; intro ju)
 | (refine dg ?_; refine Reg.use (reg_qa (a := a) (b := b) (c := c) (d := d) (p := p) (i := 2) (l := 3) (h := 1) (by decide) (by decide) f2) hO (cutj rfl ⟨_, rfl⟩ ⟨_, rfl⟩) ?_; intro ju)
 | (refine dg ?_; refine Reg.use (reg_qa (a := a) (b := b) (c := c) (d := d) (p := p) (i := 3) (l := 3) (h := 1) (by decide) (by decide) f3) hO (cutj rfl ⟨_, rfl⟩ ⟨_, rfl⟩) ?_; intro ju)
 | (refine dg ?_; refine Reg.use (reg_qb (a := a) (b := b) (c := c) (d := d) (p := p) (i := 0) (l := 3) (h := 1) (by decide) (by decide) e0) hO (cutj rfl ⟨_, rfl⟩ ⟨_, rfl⟩) ?_; intro ju)
 | (refine dg ?_; refine Reg.use (reg_qb (a := a) (b := b) (c := c) (d := d) (p := p) (i := 1) (l := 3) (h := 1) (by decide) (by decide) e1) hO (cutj rfl ⟨_, rfl⟩ ⟨_, rfl⟩) ?_; intro ju)
 | (refine dg ?_; refine Reg.use (reg_qb (a := a) (b := b) (c := c) (d := d) (p := p) (i := 2) (l := 3) (h := 1) (by decide) (by decide) e2) hO (cutj rfl ⟨_, rfl⟩ ⟨_, rfl⟩) ?_; intro ju)
 | (refine dg ?_; refine Reg.use (reg_qb (a := a) (b := b) (c := c) (d := d) (p := p) (i := 3) (l := 3) (h := 1) (by decide) (by decide) e3) hO (cutj rfl ⟨_, rfl⟩ ⟨_, rfl⟩) ?_; intro ju)
 | (refine dg ?_; refine draw_p (A := Unit) (id := 21) (N := 139) (fun _ => [(2, .val (.int .i64 (p))), (6, .ptr 2 0), (8, (qX a b)), (9, (qY c d)), (11, .val (.int .i64 1)), (13, .ptr 3 0), (14, .val (.int .i64 (A.c)))]) (fun _ => qB a b c d ++ [[vB A.d, vW A.d, vE A.d]]) (fun _ => []) qT21 tok mixed (by kernel_rfl) (by kernel_rfl) (by intro ju; simp [hO]) ?_ ?_; rotate_left; intro ju)
 | exact joinp () [(0, []), (1, []), (2, []), (3, [])] rfl rfl rfl ⟨_, rfl⟩
 | (refine dg ?_; refine draw_p (A := Unit) (id := 22) (N := 139) (fun _ => [(6, .ptr 2 0), (13, .ptr 3 0), (14, .val (.int .i64 (A.c))), (15, .ptr 4 0), (16, .val (.int .i64 (B.c)))]) (fun _ => qB a b c d ++ [[vB A.d, vW A.d, vE A.d], [vB B.d, vW B.d, vE B.d]]) (fun _ => []) qT21 tok mixed (by kernel_rfl) (by kernel_rfl) (by intro ju; simp [hO]) ?_ ?_; rotate_left; intro ju)
 | exact joinp () [(0, []), (1, []), (2, []), (3, []), (4, [])] rfl rfl rfl ⟨_, rfl⟩
 | (refine ax_l ?_)
 | (refine ax_r ?_)
 | (refine lg ?_; refine rnd0 5 tok ?_)
 | (refine rnd1 ?_)
 | (refine dG (id := 17) dg16 ?_)
 | (refine dG (id := 19) dg16 ?_)
 | with_reducible first | refine ax_s ?_ | (refine ax_f ?_ ?_ <;> try intro hc) | fail)
    all_goals exact ⟨ret_e rfl⟩)
theorem q_qc21 {g : Gs} {a b c d : D2} (ga : a.good) (gb : b.good) (gc : c.good) (gd : d.good) {p : Int} (hp : 1 ≤ p ∧ p ≤ 70000) (s1 : ¬ 0 < d.1) (s2 : ¬ 0 < b.1) (s3 : ¬ 0 < a.1) (n1 : c.1 ≠ 0) (n2 : d.1 ≠ 0)
  (f0 : FC Tryz.prog g 165 [DY a.1 a.2, DY c.1 c.2, DY b.1 b.2, DY c.1 c.2] (· = .val (.bool false)))
  (f1 : FC Tryz.prog g 165 [DY a.1 a.2, DY d.1 d.2, DY b.1 b.2, DY c.1 c.2] (· = .val (.bool false)))
  (f2 : FC Tryz.prog g 165 [DY b.1 b.2, DY c.1 c.2, DY b.1 b.2, DY c.1 c.2] (· = .val (.bool false)))
  (f3 : FC Tryz.prog g 165 [DY b.1 b.2, DY d.1 d.2, DY b.1 b.2, DY c.1 c.2] (· = .val (.bool false)))
  (e0 : FC Tryz.prog g 165 [DY a.1 a.2, DY d.1 d.2, DY a.1 a.2, DY c.1 c.2] (· = .val (.bool false)))
  (e1 : FC Tryz.prog g 165 [DY a.1 a.2, DY d.1 d.2, DY a.1 a.2, DY d.1 d.2] (· = .val (.bool false)))
  (e2 : FC Tryz.prog g 165 [DY a.1 a.2, DY d.1 d.2, DY b.1 b.2, DY c.1 c.2] (· = .val (.bool false)))
  (e3 : FC Tryz.prog g 165 [DY a.1 a.2, DY d.1 d.2, DY b.1 b.2, DY d.1 d.2] (· = .val (.bool false))) :
  FC Tryz.prog g 117 [SP a b, SP c d, .val (.int .i64 p)] (· = bothA (toAn (quoP b c p false)) (toAn (quoP a d p true))) := by
  have hp0 : inR .i64 p := by dsimp only [inR]; omega
  have k1 := tup_eta (p := quoP b c p false) (r_docquodown (G := g) p gb gc hp0) (quo_ans hp n1 false)
  have k2 := tup_eta (p := quoP a d p true) (r_docquoup (G := g) p ga gd hp0) (quo_ans hp n2 true)
  have c1 := (quo_ans (a := b) hp n1 false).eq.2.2
  have c2 := (quo_ans (a := a) hp n2 true).eq.2.2
  obtain ⟨A, hA⟩ : ∃ A, A = toAn (quoP b c p false) := ⟨_, rfl⟩
  obtain ⟨B, hB⟩ : ∃ A, A = toAn (quoP a d p true) := ⟨_, rfl⟩
  rw [← hA] at k1 c1 ⊢
  rw [← hB] at k2 c2 ⊢
  clear hA hB
  have k3 := q_told (G := g) A B c1 c2
  obtain ⟨x, y, c0, hr⟩ := bothA_form A B
  rw [hr] at k3 ⊢
  clear hr
  have v1 := q_sign (G := g) ga
  have v2 := q_sign (G := g) gb
  have v3 := q_sign (G := g) gd
  have w1 := sign3 a.1
  have w2 := sign3 b.1
  have w3 := sign3 d.1
  obtain ⟨t1, h1⟩ : ∃ t, t = a.1.sign := ⟨_, rfl⟩
  obtain ⟨t2, h2⟩ : ∃ t, t = b.1.sign := ⟨_, rfl⟩
  obtain ⟨t3, h3⟩ : ∃ t, t = d.1.sign := ⟨_, rfl⟩
  rw [← h1] at v1 w1
  rw [← h2] at v2 w2
  rw [← h3] at v3 w3
  clear h1 h2 h3 c1 c2
  obtain ⟨lx, m1⟩ := q_long (G := g) a a b b
  obtain ⟨ly, m2⟩ := q_long (G := g) c d c d
  have y1 : ¬ 0 < t3 := by omega
  have y2 : ¬ 0 < t2 := by omega
  have y3 : ¬ 0 < t1 := by omega
  clear w1 w2 w3 s1 s2 s3 n1 n2 ga gb gc gd
  cases lx <;> cases ly <;> (
    refine ax_i Tryz.func117 Tryz.ntmps117 ?_; intro F hG hO
    rw [← hG] at v1 v2 v3 m1 m2 k1 k2 k3 f0 f1 f2 f3 e0 e1 e2 e3
    repeat' ((try (conv => whnf)); first
 | refine ce v1 ?_ | refine ce v2 ?_ | refine ce v3 ?_ | refine ce m1 ?_ | refine ce m2 ?_ | refine ce k1 ?_ | refine ce k2 ?_ | refine ce k3 ?_
 | (refine dg ?_; refine Reg.use (reg_qa (a := a) (b := b) (c := c) (d := d) (p := p) (i := 0) (l := 2) (h := 1) (by decide) (by decide) f0) hO (cutj rfl ⟨_, rfl⟩ ⟨_, rfl⟩) ?_; intro ju)
 | (refine dg ?_; refine Reg.use (reg_qa (a := a) (b := b) (c := c) (d := d) (p := p) (i := 1) (l := 2) (h := 1) (by decide) (by decide) f1) hO (cutj rfl ⟨_, rfl⟩ ⟨_, rfl⟩) ?_; intro ju)
 | (refine dg ?_; refine Reg.use (reg_qa (a := a) (b := b) (c := c) (d := d) (p := p) (i := 2) (l := 2) (h := 1) (by decide) (by decide) f2) hO (cutj rfl ⟨_, rfl⟩ ⟨_, rfl⟩) ?_; intro ju)
 | (refine dg ?_; refine Reg.use (reg_qa (a := a) (b := b) (c := c) (d := d) (p := p) (i := 3) (l := 2) (h := 1) (by decide) (by decide) f3) hO (cutj rfl ⟨_, rfl⟩ ⟨_, rfl⟩) ?_; intro ju)
 | (refine dg ?_; refine Reg.use (reg_qb (a := a) (b := b) (c := c) (d := d) (p := p) (i := 0) (l := 2) (h := 1) (by decide) (by decide) e0) hO (cutj rfl ⟨_, rfl⟩ ⟨_, rfl⟩) ?_; intro ju)
 | (refine dg ?_; refine Reg.use (reg_qb (a := a) (b := b) (c := c) (d := d) (p := p) (i := 1) (l := 2) (h := 1) (by decide) (by decide) e1) hO (cutj rfl ⟨_, rfl⟩ ⟨_, rfl⟩) ?_; intro ju)
 | (refine dg ?_; refine Reg.use (reg_qb (a := a) (b := b) (c := c) (d := d) (p := p) (i := 2) (l := 2) (h := 1) (by decide) (by decide) e2) hO (cutj rfl ⟨_, rfl⟩ ⟨_, rfl⟩) ?_; intro ju)
 | (refine dg ?_; refine Reg.use (reg_qb (a := a) (b := b) (c := c) (d := d) (p := p) (i := 3) (l := 2) (h := 1) (by decide) (by decide) e3) hO (cutj rfl ⟨_, rfl⟩ ⟨_, rfl⟩) ?_; intro ju)
 | (refine dg ?_; refine draw_p (A := Unit) (id := 21) (N := 139) (fun _ => [(2, .val (.int .i64 (p))), (6, .ptr 2 0), (8, (qX a b)), (9, (qY c d)), (11, .val (.int .i64 1)), (13, .ptr 3 0), (14, .val (.int .i64 (A.c)))]) (fun _ => qB a b c d ++ [[vB A.d, vW A.d, vE A.d]]) (fun _ => []) qT21 tok mixed (by kernel_rfl) (by kernel_rfl) (by intro ju; simp [hO]) ?_ ?_; rotate_left; intro ju)
 | exact joinp () [(0, []), (1, []), (2, []), (3, [])] rfl rfl rfl ⟨_, rfl⟩
 | (refine dg ?_; refine draw_p (A := Unit) (id := 22) (N := 139) (fun _ => [(6, .ptr 2 0), (13, .ptr 3 0), (14, .val (.int .i64 (A.c))), (15, .ptr 4 0), (16, .val (.int .i64 (B.c)))]) (fun _ => qB a b c d ++ [[vB A.d, vW A.d, vE A.d], [vB B.d, vW B.d, vE B.d]]) (fun _ => []) qT21 tok mixed (by kernel_rfl) (by kernel_rfl) (by intro ju; simp [hO]) ?_ ?_; rotate_left; intro ju)
 | exact joinp () [(0, []), (1, []), (2, []), (3, []), (4, [])] rfl rfl rfl ⟨_, rfl⟩
 | (refine ax_l ?_)
 | (refine ax_r ?_)
 | (refine lg ?_; refine rnd0 5 tok ?_)
 | (refine rnd1 ?_)
 | (refine dG (id := 17) dg16 ?_)
 | (refine dG (id := 19) dg16 ?_)
 | with_reducible first | refine ax_s ?_ | (refine ax_f ?_ ?_ <;> try intro hc) | fail)
    all_goals exact ⟨ret_e rfl⟩)
theorem qlo0 {a b c d x y : D2} (hx : a.v ≤ x.v ∧ x.v ≤ b.v) (hy : c.v ≤ y.v ∧ y.v ≤ d.v) (z : a.v ≤ 0) (q1 : 0 ≤ c.v) (q2 : 0 ≤ d.v) : a.v * y.v ≤ x.v * c.v := Int.le_trans (mln hy.1 z) (mr hx.1 q1)
theorem qlo1 {a b c d x y : D2} (hx : a.v ≤ x.v ∧ x.v ≤ b.v) (hy : c.v ≤ y.v ∧ y.v ≤ d.v) (z : 0 ≤ a.v) (q1 : 0 ≤ c.v) (q2 : 0 ≤ d.v) : a.v * y.v ≤ x.v * d.v := Int.le_trans (ml hy.2 z) (mr hx.1 q2)
theorem qlo3 {a b c d x y : D2} (hx : a.v ≤ x.v ∧ x.v ≤ b.v) (hy : c.v ≤ y.v ∧ y.v ≤ d.v) (z : 0 ≤ b.v) (q1 : c.v ≤ 0) (q2 : d.v ≤ 0) : b.v * y.v ≤ x.v * d.v := Int.le_trans (ml hy.2 z) (mrn hx.2 q2)
theorem qlo2 {a b c d x y : D2} (hx : a.v ≤ x.v ∧ x.v ≤ b.v) (hy : c.v ≤ y.v ∧ y.v ≤ d.v) (z : b.v ≤ 0) (q1 : c.v ≤ 0) (q2 : d.v ≤ 0) : b.v * y.v ≤ x.v * c.v := Int.le_trans (mln hy.1 z) (mrn hx.2 q1)
theorem qhi3 {a b c d x y : D2} (hx : a.v ≤ x.v ∧ x.v ≤ b.v) (hy : c.v ≤ y.v ∧ y.v ≤ d.v) (z : b.v ≤ 0) (q1 : 0 ≤ c.v) (q2 : 0 ≤ d.v) : x.v * d.v ≤ b.v * y.v := Int.le_trans (mr hx.2 q2) (mln hy.2 z)
theorem qhi2 {a b c d x y : D2} (hx : a.v ≤ x.v ∧ x.v ≤ b.v) (hy : c.v ≤ y.v ∧ y.v ≤ d.v) (z : 0 ≤ b.v) (q1 : 0 ≤ c.v) (q2 : 0 ≤ d.v) : x.v * c.v ≤ b.v * y.v := Int.le_trans (mr hx.2 q1) (ml hy.1 z)
theorem qhi0 {a b c d x y : D2} (hx : a.v ≤ x.v ∧ x.v ≤ b.v) (hy : c.v ≤ y.v ∧ y.v ≤ d.v) (z : 0 ≤ a.v) (q1 : c.v ≤ 0) (q2 : d.v ≤ 0) : x.v * c.v ≤ a.v * y.v := Int.le_trans (mrn hx.1 q1) (ml hy.1 z)
theorem qhi1 {a b c d x y : D2} (hx : a.v ≤ x.v ∧ x.v ≤ b.v) (hy : c.v ≤ y.v ∧ y.v ≤ d.v) (z : a.v ≤ 0) (q1 : c.v ≤ 0) (q2 : d.v ≤ 0) : x.v * d.v ≤ a.v * y.v := Int.le_trans (mrn hx.1 q2) (mln hy.2 z)
theorem q_quotients {g : Gs} {a b c d : D2} (h : GoodS a b) (k : GoodS c d) (hz : 0 < c.1 ∨ d.1 < 0) {p : Int} (hp : 1 ≤ p ∧ p ≤ 70000) : FC Tryz.prog g 117 [SP a b, SP c d, .val (.int .i64 p)] (· = spQuo a b c d p) := by
  have sa := D2.sgn a
  have sb := D2.sgn b
  have sc := D2.sgn c
  have sd := D2.sgn d
  have hab := h.2.2
  have hcd := k.2.2
  have ga : a.good := h.1
  have gb : b.good := h.2.1
  have gc : c.good := k.1
  have gd : d.good := k.2.1
  have xa : a.v ≤ a.v ∧ a.v ≤ b.v := ⟨Int.le_refl _, hab⟩
  have xb : a.v ≤ b.v ∧ b.v ≤ b.v := ⟨hab, Int.le_refl _⟩
  have yc : c.v ≤ c.v ∧ c.v ≤ d.v := ⟨Int.le_refl _, hcd⟩
  have yd : c.v ≤ d.v ∧ d.v ≤ d.v := ⟨hcd, Int.le_refl _⟩
  unfold spQuo
  by_cases hc : 0 < c.1
  · rw [if_pos hc]
    unfold spQuoPos
    have q1 : 0 ≤ c.v := by omega
    have q2 : 0 ≤ d.v := by omega
    have d1 : 0 < d.1 := by omega
    by_cases ha : a.1 < 0
    · rw [if_pos ha]
      by_cases hb : b.1 < 0
      · rw [if_pos hb]
        refine q_qc03 ga gb gc gd hp (by omega) (by omega) (by omega) (by omega) (by omega) (less_no ga gc ga gc (qlo0 xa yc (by omega) q1 q2)) (less_no ga gd ga gc (qlo0 xa yd (by omega) q1 q2)) (less_no gb gc ga gc (qlo0 xb yc (by omega) q1 q2)) (less_no gb gd ga gc (qlo0 xb yd (by omega) q1 q2)) (less_no gb gd ga gc (qhi3 xa yc (by omega) q1 q2)) (less_no gb gd ga gd (qhi3 xa yd (by omega) q1 q2)) (less_no gb gd gb gc (qhi3 xb yc (by omega) q1 q2)) (less_no gb gd gb gd (qhi3 xb yd (by omega) q1 q2))
      · rw [if_neg hb]
        refine q_qc02 ga gb gc gd hp (by omega) (by omega) (by omega) (by omega) (by omega) (less_no ga gc ga gc (qlo0 xa yc (by omega) q1 q2)) (less_no ga gd ga gc (qlo0 xa yd (by omega) q1 q2)) (less_no gb gc ga gc (qlo0 xb yc (by omega) q1 q2)) (less_no gb gd ga gc (qlo0 xb yd (by omega) q1 q2)) (less_no gb gc ga gc (qhi2 xa yc (by omega) q1 q2)) (less_no gb gc ga gd (qhi2 xa yd (by omega) q1 q2)) (less_no gb gc gb gc (qhi2 xb yc (by omega) q1 q2)) (less_no gb gc gb gd (qhi2 xb yd (by omega) q1 q2))
    · have hb : ¬ b.1 < 0 := by omega
      rw [if_neg ha, if_neg hb]
      refine q_qc12 ga gb gc gd hp (by omega) (by omega) (by omega) (by omega) (by omega) (less_no ga gc ga gd (qlo1 xa yc (by omega) q1 q2)) (less_no ga gd ga gd (qlo1 xa yd (by omega) q1 q2)) (less_no gb gc ga gd (qlo1 xb yc (by omega) q1 q2)) (less_no gb gd ga gd (qlo1 xb yd (by omega) q1 q2)) (less_no gb gc ga gc (qhi2 xa yc (by omega) q1 q2)) (less_no gb gc ga gd (qhi2 xa yd (by omega) q1 q2)) (less_no gb gc gb gc (qhi2 xb yc (by omega) q1 q2)) (less_no gb gc gb gd (qhi2 xb yd (by omega) q1 q2))
  · have hd : d.1 < 0 := by omega
    rw [if_neg hc, if_pos hd]
    unfold spQuoPos
    have q1 : c.v ≤ 0 := by omega
    have q2 : d.v ≤ 0 := by omega
    have m1 : (D2.neg b).1 = -b.1 := rfl
    have m2 : (D2.neg a).1 = -a.1 := rfl
    by_cases hb : 0 < b.1
    · rw [if_pos (show (D2.neg b).1 < 0 by omega), quo_neg b d p false (by omega)]
      by_cases ha : 0 < a.1
      · rw [if_pos (show (D2.neg a).1 < 0 by omega), quo_neg a c p true (by omega)]
        refine q_qc30 ga gb gc gd hp (by omega) (by omega) (by omega) (by omega) (by omega) (less_no ga gc gb gd (qlo3 xa yc (by omega) q1 q2)) (less_no ga gd gb gd (qlo3 xa yd (by omega) q1 q2)) (less_no gb gc gb gd (qlo3 xb yc (by omega) q1 q2)) (less_no gb gd gb gd (qlo3 xb yd (by omega) q1 q2)) (less_no ga gc ga gc (qhi0 xa yc (by omega) q1 q2)) (less_no ga gc ga gd (qhi0 xa yd (by omega) q1 q2)) (less_no ga gc gb gc (qhi0 xb yc (by omega) q1 q2)) (less_no ga gc gb gd (qhi0 xb yd (by omega) q1 q2))
      · rw [if_neg (show ¬ (D2.neg a).1 < 0 by omega), quo_neg a d p true (by omega)]
        refine q_qc31 ga gb gc gd hp (by omega) (by omega) (by omega) (by omega) (by omega) (less_no ga gc gb gd (qlo3 xa yc (by omega) q1 q2)) (less_no ga gd gb gd (qlo3 xa yd (by omega) q1 q2)) (less_no gb gc gb gd (qlo3 xb yc (by omega) q1 q2)) (less_no gb gd gb gd (qlo3 xb yd (by omega) q1 q2)) (less_no ga gd ga gc (qhi1 xa yc (by omega) q1 q2)) (less_no ga gd ga gd (qhi1 xa yd (by omega) q1 q2)) (less_no ga gd gb gc (qhi1 xb yc (by omega) q1 q2)) (less_no ga gd gb gd (qhi1 xb yd (by omega) q1 q2))
    · rw [if_neg (show ¬ (D2.neg b).1 < 0 by omega), quo_neg b c p false (by omega)]
      have ha : ¬ 0 < a.1 := by omega
      rw [if_neg (show ¬ (D2.neg a).1 < 0 by omega), quo_neg a d p true (by omega)]
      refine q_qc21 ga gb gc gd hp (by omega) (by omega) (by omega) (by omega) (by omega) (less_no ga gc gb gc (qlo2 xa yc (by omega) q1 q2)) (less_no ga gd gb gc (qlo2 xa yd (by omega) q1 q2)) (less_no gb gc gb gc (qlo2 xb yc (by omega) q1 q2)) (less_no gb gd gb gc (qlo2 xb yd (by omega) q1 q2)) (less_no ga gd ga gc (qhi1 xa yc (by omega) q1 q2)) (less_no ga gd ga gd (qhi1 xa yd (by omega) q1 q2)) (less_no ga gd gb gc (qhi1 xb yc (by omega) q1 q2)) (less_no ga gd gb gd (qhi1 xb yd (by omega) q1 q2))
theorem pow_half {P : Nat} (h : 1 ≤ P) : (2 : Int) ^ P = 2 ^ (P - 1) * 2 := by rw [← Int.pow_succ]; congr 1; omega
theorem abs_lt_pow {n : Int} {P : Nat} (h : bl n.natAbs ≤ P) : -(2 ^ P) < n ∧ n < 2 ^ P := by
  have h1 := lt_bl n.natAbs
  have h2 : 2 ^ bl n.natAbs ≤ 2 ^ P := Nat.pow_le_pow_right (by decide) h
  have h3 : ((2 ^ P : Nat) : Int) = 2 ^ P := by simp
  omega
theorem abs_ge_pow {s : Int} {m : Nat} (h : m < bl s.natAbs) : s ≤ -(2 ^ m) ∨ 2 ^ m ≤ s := by
  have h1 := le_of_bl (n := s.natAbs) (fun hh => by rw [hh, bl_zero] at h; omega)
  have h2 : 2 ^ m ≤ 2 ^ (bl s.natAbs - 1) := Nat.pow_le_pow_right (by decide) (by omega)
  have h3 : ((2 ^ m : Nat) : Int) = 2 ^ m := by simp
  omega
theorem cutS_max {s E p c x y n e : Int} (hE : -c ≤ E) (hp : 1 ≤ p) (h : cutS s E p false = .tup [DY x y, .val (.int .i64 0)]) (he : -c ≤ e) (hn : (bl n.natAbs : Int) ≤ p) (hz : Vc c n e ≤ Vc c s E) : Vc c n e ≤ Vc c x y := by
  unfold cutS at h
  split at h
  · rw [told_Vc hE h]; exact hz
  · rename_i hb
    obtain ⟨j, hj⟩ : ∃ j : Nat, (j : Int) = (bl s.natAbs : Int) - p := ⟨((bl s.natAbs : Int) - p).toNat, by omega⟩
    obtain ⟨P, hP⟩ : ∃ P : Nat, (P : Int) = p := ⟨p.toNat, by omega⟩
    rw [← hj] at h
    have hw : wholeS s (j : Int) false = s / 2 ^ j := by show s / 2 ^ ((j : Int)).toNat = _; rw [Int.toNat_natCast]
    rw [hw] at h
    rw [told_Vc (c := c) (by omega) h]
    obtain ⟨q, hq⟩ : ∃ q, q = s / 2 ^ j := ⟨_, rfl⟩
    rw [← hq]
    have hpj := p2_pos j
    have hqd := Int.mul_ediv_add_emod s (2 ^ j)
    have hm0 := Int.emod_nonneg s (Int.ne_of_gt hpj)
    have hm1 := Int.emod_lt_of_pos s hpj
    rw [← hq] at hqd
    unfold Vc at hz ⊢
    by_cases hej : E + (j : Int) ≤ e
    · have e1 : (e + c).toNat = (e - E - (j : Int)).toNat + (j + (E + c).toNat) := by omega
      have e2 : (E + (j : Int) + c).toNat = j + (E + c).toNat := by omega
      rw [e1, Int.pow_add, ← Int.mul_assoc, Int.pow_add, ← Int.mul_assoc] at hz
      have k1 := (mul_le_iff (p2_pos (E + c).toNat)).1 hz
      have k2 : n * 2 ^ (e - E - (j : Int)).toNat ≤ q := by rw [hq]; exact Int.le_ediv_of_mul_le hpj k1
      rw [e1, e2, Int.pow_add, ← Int.mul_assoc]
      exact mr k2 (Int.le_of_lt (p2_pos _))
    · have hP1 : 1 ≤ P := by omega
      have hl := abs_lt_pow (n := n) (P := P) (by omega)
      have hh := pow_half hP1
      -- 2^P 2^(e+c) is at most 2^(P-1) 2^(E+j+c)
      have k1 : (2 : Int) ^ P * 2 ^ (e + c).toNat ≤ 2 ^ (P - 1) * 2 ^ (E + (j : Int) + c).toNat := by
        rw [hh, Int.mul_assoc]
        refine ml ?_ (Int.le_of_lt (p2_pos _))
        have : (2 : Int) * 2 ^ (e + c).toNat = 2 ^ ((e + c).toNat + 1) := by rw [Int.pow_succ, Int.mul_comm]
        rw [this]
        have h1 : (2 : Nat) ^ ((e + c).toNat + 1) ≤ 2 ^ (E + (j : Int) + c).toNat := Nat.pow_le_pow_right (by decide) (by omega)
        have h2 : ∀ k : Nat, ((2 ^ k : Nat) : Int) = 2 ^ k := fun k => by simp
        rw [← h2, ← h2]
        omega
      have k2 := Int.mul_lt_mul_of_pos_right hl.2 (p2_pos (e + c).toNat)
      have k3 := Int.mul_lt_mul_of_pos_right hl.1 (p2_pos (e + c).toNat)
      rw [Int.neg_mul] at k3
      have e2 : (E + (j : Int) + c).toNat = j + (E + c).toNat := by omega
      rcases abs_ge_pow (s := s) (m := P - 1 + j) (by omega) with hs | hs
      · exfalso
        have m1 := mr hs (Int.le_of_lt (p2_pos (E + c).toNat))
        rw [Int.neg_mul, Int.pow_add, Int.mul_assoc, ← Int.pow_add, ← e2] at m1
        omega
      · have m1 : (2 : Int) ^ (P - 1) ≤ q := by
          rw [hq]
          refine Int.le_ediv_of_mul_le hpj ?_
          rw [← Int.pow_add]
          exact hs
        have m2 := mr m1 (Int.le_of_lt (p2_pos (E + (j : Int) + c).toNat))
        omega
theorem cutS_bits {s E p x y : Int} (hp : 1 ≤ p) (g : Good x y) (h : cutS s E p false = .tup [DY x y, .val (.int .i64 0)]) : (bl x.natAbs : Int) ≤ p := by
  by_cases hx : x = 0
  · rw [hx, show Int.natAbs 0 = 0 from rfl, bl_zero]; omega
  have hodd := g.2.2.2.2 hx
  have key : ∀ {t k : Int}, toldS t k = .tup [DY x y, .val (.int .i64 0)] → x.natAbs ≤ t.natAbs := fun {t k} ht => by
    rcases told_inv ht with ⟨h1, h2, _⟩ | ⟨h1, _, _, h4⟩
    · exact absurd h2 hx
    · rw [h4, abs_shl]
      exact Nat.le_mul_of_pos_right _ (Nat.pow_pos (by decide))
  unfold cutS at h
  split at h
  · have := bl_mono (key h)
    omega
  · rename_i hb
    have h1 := key h
    obtain ⟨j, hj⟩ : ∃ j : Nat, (j : Int) = (bl s.natAbs : Int) - p := ⟨((bl s.natAbs : Int) - p).toNat, by omega⟩
    obtain ⟨P, hP⟩ : ∃ P : Nat, (P : Int) = p := ⟨p.toNat, by omega⟩
    rw [← hj] at h1
    have hw : wholeS s (j : Int) false = s / 2 ^ j := by show s / 2 ^ ((j : Int)).toNat = _; rw [Int.toNat_natCast]
    rw [hw] at h1
    have hpj := p2_pos j
    have hl := abs_lt_pow (n := s) (P := P + j) (by omega)
    have h3 : ((2 ^ P : Nat) : Int) = 2 ^ P := by simp
    have u1 : s / 2 ^ j < 2 ^ P := Int.ediv_lt_of_lt_mul hpj (by rw [← Int.pow_add]; exact hl.2)
    have u2 : -(2 ^ P) ≤ s / 2 ^ j := Int.le_ediv_of_mul_le hpj (by rw [Int.neg_mul, ← Int.pow_add]; omega)
    have h5 : x.natAbs ≤ 2 ^ P := by omega
    have := odd_bl hodd (m := P) (by omega) h5
    omega
def QLo (p : Int) (B : D2 → Prop) (x : D2) : Prop := x.good ∧ (bl x.1.natAbs : Int) ≤ p ∧ B x ∧ ∀ z : D2, z.good → (bl z.1.natAbs : Int) ≤ p → B z → z.v ≤ x.v
def QHi (p : Int) (B : D2 → Prop) (x : D2) : Prop := x.good ∧ (bl x.1.natAbs : Int) ≤ p ∧ B x ∧ ∀ z : D2, z.good → (bl z.1.natAbs : Int) ≤ p → B z → x.v ≤ z.v
theorem QLo.mono {p : Int} {B B' : D2 → Prop} {x x' : D2} (h : QLo p B x) (k : QLo p B' x') (hB : B' x' → B x') : x'.v ≤ x.v := h.2.2.2 x' k.1 k.2.1 (hB k.2.2.1)
theorem QHi.mono {p : Int} {B B' : D2 → Prop} {x x' : D2} (h : QHi p B x) (k : QHi p B' x') (hB : B' x' → B x') : x.v ≤ x'.v := h.2.2.2 x' k.1 k.2.1 (hB k.2.2.1)
theorem bl_neg (a : D2) : bl a.neg.1.natAbs = bl a.1.natAbs := by unfold D2.neg; simp only [Int.natAbs_neg]
theorem QLo.neg {p : Int} {B B' : D2 → Prop} {x : D2} (h : QLo p B x) (hB : ∀ z, B' z ↔ B z.neg) : QHi p B' x.neg := by
  refine ⟨D2.neg_good h.1, by rw [bl_neg]; exact h.2.1, (hB _).2 (by rw [D2.neg_neg]; exact h.2.2.1), fun z g hb k => ?_⟩
  have := h.2.2.2 z.neg (D2.neg_good g) (by rw [bl_neg]; exact hb) ((hB z).1 k)
  rw [D2.neg_v] at this ⊢
  omega
theorem cuts_lo {a : D2} (h : a.good) {p : Int} (hp : 1 ≤ p ∧ p ≤ 70000) (hc : (toAn (cutsS a.1 a.2 p false)).c = 0) : QLo p (fun z => z.v ≤ a.v) (toAn (cutsS a.1 a.2 p false)).d := by
  have hl := cut_low h hp hc
  obtain ⟨h1, g, _⟩ := (cuts_ans a hp false).eq
  obtain ⟨u, hu⟩ : ∃ u, u = toAn (cutsS a.1 a.2 p false) := ⟨_, rfl⟩
  rw [← hu] at h1 hc g hl ⊢
  unfold An.pv at h1
  rw [hc] at h1
  unfold cutsS at h1
  rw [if_neg (by omega), if_neg (by omega)] at h1
  exact ⟨g, cutS_bits hp.1 g h1, hl, fun z gz bz hz => cutS_max (c := 1048576) h.2.1 hp.1 h1 gz.2.1 bz hz⟩
theorem cuts_hi {a : D2} (h : a.good) {p : Int} (hp : 1 ≤ p ∧ p ≤ 70000) (hc : (toAn (cutsS a.1 a.2 p true)).c = 0) : QHi p (fun z => a.v ≤ z.v) (toAn (cutsS a.1 a.2 p true)).d := by
  have e : toAn (cutsS a.neg.1 a.neg.2 p false) = (toAn (cutsS a.1 a.2 p true)).neg := cuts_neg a.1 a.2 p false
  have h1 := cuts_lo (D2.neg_good h) hp (by rw [e]; exact hc)
  rw [e, An.neg_d] at h1
  have h2 := h1.neg (B' := fun z => a.v ≤ z.v) (fun z => by
    show a.v ≤ z.v ↔ z.neg.v ≤ a.neg.v
    rw [D2.neg_v, D2.neg_v]; omega)
  rw [D2.neg_neg] at h2
  exact h2
theorem out_q {a b : D2} (h : a.good) (k : b.good) (hv : a.v ≤ b.v) {p : Int} (hp : 1 ≤ p ∧ p ≤ 70000) : outP a b p = spE 5 ∨ ∃ x y : D2, outP a b p = spR x y ∧ GoodS x y ∧ QLo p (fun z => z.v ≤ a.v) x ∧ QHi p (fun z => b.v ≤ z.v) y := by
  have l1 := cuts_lo h hp
  have l2 := cuts_hi k hp
  unfold outP
  obtain ⟨u, hu⟩ : ∃ u, u = toAn (cutsS a.1 a.2 p false) := ⟨_, rfl⟩
  obtain ⟨v, hv2⟩ : ∃ v, v = toAn (cutsS b.1 b.2 p true) := ⟨_, rfl⟩
  rw [← hu] at l1 ⊢
  rw [← hv2] at l2 ⊢
  by_cases hc : u.c = 0 ∧ v.c = 0
  · have q1 := l1 hc.1
    have q2 := l2 hc.2
    have w1 : u.d.v ≤ a.v := q1.2.2.1
    have w2 : b.v ≤ v.d.v := q2.2.2.1
    exact .inr ⟨u.d, v.d, bothA_ok hc.1 hc.2, ⟨q1.1, q2.1, by omega⟩, q1, q2⟩
  · exact .inl (bothA_no (by omega))
def Grow (r r' : PV) : Prop := ∃ x y x' y' : D2, ∃ e f : Int, r = .tup [SP x y, .val (.int .i64 e)] ∧ r' = .tup [SP x' y', .val (.int .i64 f)] ∧ (e = 0 ∨ e = 4 ∨ e = 5) ∧ (f = 0 ∨ f = 4 ∨ f = 5) ∧ (e = 0 → f = 0 → GoodS x y ∧ GoodS x' y' ∧ x'.v ≤ x.v ∧ y.v ≤ y'.v)
theorem Grow.of {r r' : PV} (h : (∃ e, r = spE e ∧ (e = 4 ∨ e = 5)) ∨ ∃ x y : D2, r = spR x y ∧ GoodS x y) (k : (∃ e, r' = spE e ∧ (e = 4 ∨ e = 5)) ∨ ∃ x y : D2, r' = spR x y ∧ GoodS x y) (hw : ∀ x y x' y' : D2, r = spR x y → r' = spR x' y' → GoodS x y → GoodS x' y' → x'.v ≤ x.v ∧ y.v ≤ y'.v) : Grow r r' := by
  rcases h with ⟨e, h1, h2⟩ | ⟨x, y, h1, g1⟩ <;> rcases k with ⟨f, k1, k2⟩ | ⟨x', y', k1, g2⟩
  · exact ⟨_, _, _, _, e, f, h1, k1, by omega, by omega, fun a _ => by omega⟩
  · exact ⟨_, _, _, _, e, 0, h1, k1, by omega, by omega, fun a _ => by omega⟩
  · exact ⟨_, _, _, _, 0, f, h1, k1, by omega, by omega, fun _ a => by omega⟩
  · exact ⟨_, _, _, _, 0, 0, h1, k1, by omega, by omega, fun _ _ => ⟨g1, g2, hw x y x' y' h1 k1 g1 g2⟩⟩
set_option maxHeartbeats 2000000
theorem bil (a b u v : Int) (h1 : a ≤ u) (h2 : u ≤ b) : min (a * v) (b * v) ≤ u * v ∧ u * v ≤ max (a * v) (b * v) := by
  rcases Int.le_total 0 v with hv | hv
  · have k1 := mr h1 hv
    have k2 := mr h2 hv
    omega
  · have k1 := mrn h1 hv
    have k2 := mrn h2 hv
    omega
theorem corners {a b c d u v : Int} (h1 : a ≤ u) (h2 : u ≤ b) (k1 : c ≤ v) (k2 : v ≤ d) : min (min (min (a * c) (a * d)) (b * c)) (b * d) ≤ u * v ∧ u * v ≤ max (max (max (a * c) (a * d)) (b * c)) (b * d) := by
  have m1 := bil a b u v h1 h2
  have m2 := bil c d v a k1 k2
  have m3 := bil c d v b k1 k2
  rw [Int.mul_comm c a, Int.mul_comm d a, Int.mul_comm v a] at m2
  rw [Int.mul_comm c b, Int.mul_comm d b, Int.mul_comm v b] at m3
  omega
theorem mul_q {a b c d : D2} (h : GoodS a b) (k : GoodS c d) {p : Int} (hp : 1 ≤ p ∧ p ≤ 70000) : spMul a b c d p = spE 5 ∨ ∃ l m : D2, l.v * 2 ^ 1048576 = min (min (min (a.v * c.v) (a.v * d.v)) (b.v * c.v)) (b.v * d.v) ∧ m.v * 2 ^ 1048576 = max (max (max (a.v * c.v) (a.v * d.v)) (b.v * c.v)) (b.v * d.v) ∧
    ∃ x y : D2, spMul a b c d p = spR x y ∧ GoodS x y ∧ QLo p (fun z => z.v ≤ l.v) x ∧ QHi p (fun z => m.v ≤ z.v) y := by
  have g1 := An.d_good (mul_ans a c)
  have g2 := An.d_good (mul_ans a d)
  have g3 := An.d_good (mul_ans b c)
  have g4 := An.d_good (mul_ans b d)
  have v1 := mul_V h.1 k.1
  have v2 := mul_V h.1 k.2.1
  have v3 := mul_V h.2.1 k.1
  have v4 := mul_V h.2.1 k.2.1
  unfold spMul
  obtain ⟨u1, e1⟩ : ∃ u, u = toAn (mulP a c) := ⟨_, rfl⟩
  obtain ⟨u2, e2⟩ : ∃ u, u = toAn (mulP a d) := ⟨_, rfl⟩
  obtain ⟨u3, e3⟩ : ∃ u, u = toAn (mulP b c) := ⟨_, rfl⟩
  obtain ⟨u4, e4⟩ : ∃ u, u = toAn (mulP b d) := ⟨_, rfl⟩
  rw [← e1] at g1 v1 ⊢
  rw [← e2] at g2 v2 ⊢
  rw [← e3] at g3 v3 ⊢
  rw [← e4] at g4 v4 ⊢
  clear e1 e2 e3 e4
  by_cases hz : u1.c = 0 ∧ u2.c = 0 ∧ u3.c = 0 ∧ u4.c = 0
  · obtain ⟨z1, z2, z3, z4⟩ := hz
    rw [if_neg (by omega)]
    have gl := least4_good g1 g2 g3 g4
    have gg := great4_good g1 g2 g3 g4
    have vl := least4_v u1.d u2.d u3.d u4.d
    have vg := great4_v u1.d u2.d u3.d u4.d
    have w1 := v1 z1
    have w2 := v2 z2
    have w3 := v3 z3
    have w4 := v4 z4
    rcases out_q gl gg (least4_le _ _ _ _) hp with q | q
    · exact .inl q
    · obtain ⟨C, hC⟩ : ∃ C : Int, C = 2 ^ 1048576 := ⟨_, rfl⟩
      have hC0 : 0 < C := hC ▸ p2_pos 1048576
      have mm : ∀ x y : Int, min x y * C = min (x * C) (y * C) := fun x y => by
        rcases Int.le_total x y with hh | hh
        · have := mr hh (Int.le_of_lt hC0); rw [Int.min_eq_left hh, Int.min_eq_left this]
        · have := mr hh (Int.le_of_lt hC0); rw [Int.min_eq_right hh, Int.min_eq_right this]
      have mx : ∀ x y : Int, max x y * C = max (x * C) (y * C) := fun x y => by
        rcases Int.le_total x y with hh | hh
        · have := mr hh (Int.le_of_lt hC0); rw [Int.max_eq_right hh, Int.max_eq_right this]
        · have := mr hh (Int.le_of_lt hC0); rw [Int.max_eq_left hh, Int.max_eq_left this]
      refine .inr ⟨_, _, ?_, ?_, q⟩
      · rw [vl, ← w1, ← w2, ← w3, ← w4, ← hC, mm, mm, mm]
      · rw [vg, ← w1, ← w2, ← w3, ← w4, ← hC, mx, mx, mx]
  · exact .inl (if_pos (by omega))
theorem sqr_nn (x : Int) : 0 ≤ x * x := by
  rcases Int.le_total 0 x with h | h
  · exact Int.mul_nonneg h h
  · exact Int.mul_nonneg_of_nonpos_of_nonpos h h
theorem sqr_q {a b : D2} (h : GoodS a b) {p : Int} (hp : 1 ≤ p ∧ p ≤ 70000) : spSqr a b p = spE 5 ∨ ∃ l m : D2, (l.v * 2 ^ 1048576 = if a.1 ≤ 0 ∧ 0 ≤ b.1 then 0 else min (a.v * a.v) (b.v * b.v)) ∧ m.v * 2 ^ 1048576 = max (a.v * a.v) (b.v * b.v) ∧
    ∃ x y : D2, spSqr a b p = spR x y ∧ GoodS x y ∧ QLo p (fun z => z.v ≤ l.v) x ∧ QHi p (fun z => m.v ≤ z.v) y := by
  have g1 := An.d_good (mul_ans a a)
  have g2 := An.d_good (mul_ans b b)
  have v1 := mul_V h.1 h.1
  have v2 := mul_V h.2.1 h.2.1
  unfold spSqr
  obtain ⟨u1, e1⟩ : ∃ u, u = toAn (mulP a a) := ⟨_, rfl⟩
  obtain ⟨u2, e2⟩ : ∃ u, u = toAn (mulP b b) := ⟨_, rfl⟩
  rw [← e1] at g1 v1 ⊢
  rw [← e2] at g2 v2 ⊢
  clear e1 e2
  by_cases hz : u1.c = 0 ∧ u2.c = 0
  · obtain ⟨z1, z2⟩ := hz
    rw [if_neg (by omega)]
    have w1 := v1 z1
    have w2 := v2 z2
    have gg := gst2_good g1 g2
    have vl := lst2_v u1.d u2.d
    have vg := gst2_v u1.d u2.d
    have n1 := sqr_nn a.v
    have n2 := sqr_nn b.v
    obtain ⟨C, hC⟩ : ∃ C : Int, C = 2 ^ 1048576 := ⟨_, rfl⟩
    have hC0 : 0 < C := hC ▸ p2_pos 1048576
    rw [← hC] at w1 w2
    have p1 : 0 ≤ u1.d.v := by
      rcases Int.lt_or_le u1.d.v 0 with q | q
      · have := Int.mul_neg_of_neg_of_pos q hC0; omega
      · exact q
    have mm : min u1.d.v u2.d.v * C = min (u1.d.v * C) (u2.d.v * C) := by
      rcases Int.le_total u1.d.v u2.d.v with hh | hh
      · have := mr hh (Int.le_of_lt hC0); rw [Int.min_eq_left hh, Int.min_eq_left this]
      · have := mr hh (Int.le_of_lt hC0); rw [Int.min_eq_right hh, Int.min_eq_right this]
    have mx : max u1.d.v u2.d.v * C = max (u1.d.v * C) (u2.d.v * C) := by
      rcases Int.le_total u1.d.v u2.d.v with hh | hh
      · have := mr hh (Int.le_of_lt hC0); rw [Int.max_eq_right hh, Int.max_eq_right this]
      · have := mr hh (Int.le_of_lt hC0); rw [Int.max_eq_left hh, Int.max_eq_left this]
    have hm : (gst2 u1.d u2.d).v * 2 ^ 1048576 = max (a.v * a.v) (b.v * b.v) := by rw [vg, ← hC, mx, w1, w2]
    by_cases h0 : a.1 ≤ 0 ∧ 0 ≤ b.1
    · rw [if_pos h0, if_pos h0]
      have z0 : D2.v (0, 0) = 0 := VV_zero 0
      rcases out_q (a := (0, 0)) Good.zero gg (by rw [z0, vg]; omega) hp with q | q
      · exact .inl q
      · exact .inr ⟨(0, 0), _, by rw [z0, Int.zero_mul], hm, q⟩
    · rw [if_neg h0, if_neg h0]
      rcases out_q (lst2_good g1 g2) gg (by rw [vl, vg]; omega) hp with q | q
      · exact .inl q
      · exact .inr ⟨_, _, by rw [vl, ← hC, mm, w1, w2], hm, q⟩
  · exact .inl (if_pos (by omega))
set_option maxHeartbeats 4000000
def HoldR (r : PV) (t : Int) : Prop := r = spE 5 ∨ ∃ x y : D2, r = spR x y ∧ GoodS x y ∧ x.v * 2 ^ 1048576 ≤ t ∧ t ≤ y.v * 2 ^ 1048576
theorem HoldR.x {r : PV} {t : Int} (h : HoldR r t) : ∃ (x y : D2) (c d : Int), r = .tup [SP x y, .val (.int .i64 c)] ∧ c = 5 * d ∧ (0 ≤ d ∧ d ≤ 1) ∧ (Unit → c = 0 → GoodS x y ∧ x.v * 2 ^ 1048576 ≤ t ∧ t ≤ y.v * 2 ^ 1048576) := by
  rcases h with h | ⟨x, y, h, g⟩
  · exact ⟨(0, 0), (0, 0), 5, 1, h, rfl, by omega, fun _ h => by omega⟩
  · exact ⟨x, y, 0, 0, h, rfl, by omega, fun _ _ => g⟩
theorem C_pos : (0 : Int) ≤ 2 ^ 1048576 := Int.le_of_lt (p2_pos 1048576)
theorem hold_sum {a b c d : D2} (h : GoodS a b) (k : GoodS c d) {u v : Int} (hu : a.v ≤ u ∧ u ≤ b.v) (hv : c.v ≤ v ∧ v ≤ d.v) {p : Int} (hp : 1 ≤ p ∧ p ≤ 70000) : HoldR (sumP a b c d p) ((u + v) * 2 ^ 1048576) := by
  rcases sum_res h k hp with q | ⟨x, y, q, g, h1, h2⟩
  · exact .inl q
  · exact .inr ⟨x, y, q, g, mr (by omega) C_pos, mr (by omega) C_pos⟩
theorem hold_mul {a b c d : D2} (h : GoodS a b) (k : GoodS c d) {u v : Int} (hu : a.v ≤ u ∧ u ≤ b.v) (hv : c.v ≤ v ∧ v ≤ d.v) {p : Int} (hp : 1 ≤ p ∧ p ≤ 70000) : HoldR (spMul a b c d p) (u * v) := by
  have cr := corners hu.1 hu.2 hv.1 hv.2
  rcases mul_q h k hp with q | ⟨l, m, e1, e2, x, y, q, g, q1, q2⟩
  · exact .inl q
  · have w1 : x.v ≤ l.v := q1.2.2.1
    have w2 : m.v ≤ y.v := q2.2.2.1
    have w3 := mr w1 C_pos
    have w4 := mr w2 C_pos
    rw [e1] at w3
    rw [e2] at w4
    exact .inr ⟨x, y, q, g, Int.le_trans w3 cr.1, Int.le_trans cr.2 w4⟩
theorem hold_sqr {a b : D2} (h : GoodS a b) {u : Int} (hu : a.v ≤ u ∧ u ≤ b.v) {p : Int} (hp : 1 ≤ p ∧ p ≤ 70000) : HoldR (spSqr a b p) (u * u) := by
  have sa := D2.sgn a
  have sb := D2.sgn b
  rcases sqr_q h hp with q | ⟨l, m, e1, e2, x, y, q, g, q1, q2⟩
  · exact .inl q
  · have w1 : x.v ≤ l.v := q1.2.2.1
    have w2 : m.v ≤ y.v := q2.2.2.1
    have w3 := mr w1 C_pos
    have w4 := mr w2 C_pos
    rw [e1] at w3
    rw [e2] at w4
    have nu := sqr_nn u
    refine .inr ⟨x, y, q, g, Int.le_trans w3 ?_, Int.le_trans ?_ w4⟩
    · split
      · exact nu
      · rename_i h0
        rcases Int.lt_or_le 0 a.1 with hs | hs
        · have k1 := sa.2.1 hs
          have m1 := mr hu.1 (show 0 ≤ a.v by omega)
          have m2 := ml hu.1 (show 0 ≤ u by omega)
          omega
        · have k1 := sb.1.1 (show b.1 < 0 by omega)
          have m1 := mrn hu.2 (show b.v ≤ 0 by omega)
          have m2 := mln hu.2 (show u ≤ 0 by omega)
          omega
    · rcases Int.le_total 0 u with hs | hs
      · have m1 := mr hu.2 hs
        have m2 := ml hu.2 (show 0 ≤ b.v by omega)
        omega
      · have m1 := mrn hu.1 hs
        have m2 := mln hu.1 (show a.v ≤ 0 by omega)
        omega
def HoldQ (r : PV) (u v : Int) : Prop := r = spE 5 ∨ ∃ x y : D2, r = spR x y ∧ GoodS x y ∧ x.v * v ≤ u * 2 ^ 1048576 ∧ u * 2 ^ 1048576 ≤ y.v * v
theorem HoldQ.x {r : PV} {u v : Int} (h : HoldQ r u v) : ∃ (x y : D2) (c d : Int), r = .tup [SP x y, .val (.int .i64 c)] ∧ c = 5 * d ∧ (0 ≤ d ∧ d ≤ 1) ∧ (Unit → c = 0 → GoodS x y ∧ x.v * v ≤ u * 2 ^ 1048576 ∧ u * 2 ^ 1048576 ≤ y.v * v) := by
  rcases h with h | ⟨x, y, h, g⟩
  · exact ⟨(0, 0), (0, 0), 5, 1, h, rfl, by omega, fun _ h => by omega⟩
  · exact ⟨x, y, 0, 0, h, rfl, by omega, fun _ _ => g⟩
theorem quo_bounds {a b c d u v X Y C un ov : Int} (hC : 0 < C) (hu : a ≤ u ∧ u ≤ b) (hv : c ≤ v ∧ v ≤ d) (hc : 0 < c) (hun : un = if a < 0 then c else d) (hov : ov = if b < 0 then d else c) (m1 : X * un ≤ a * C) (m2 : b * C ≤ Y * ov) : X * v ≤ u * C ∧ u * C ≤ Y * v := by
  have ua := mr hu.1 (Int.le_of_lt hC)
  have ub := mr hu.2 (Int.le_of_lt hC)
  constructor
  · by_cases ha : a < 0
    · rw [if_pos ha] at hun
      subst hun
      have aC := Int.mul_neg_of_neg_of_pos ha hC
      rcases Int.lt_or_le 0 X with hx | hx
      · have := Int.mul_pos hx hc
        omega
      · have := mln hv.1 hx
        omega
    · rw [if_neg ha] at hun
      subst hun
      have aC := Int.mul_nonneg (show 0 ≤ a by omega) (Int.le_of_lt hC)
      rcases Int.lt_or_le X 0 with hx | hx
      · have := Int.mul_neg_of_neg_of_pos hx (show 0 < v by omega)
        omega
      · have := ml hv.2 hx
        omega
  · by_cases hb : b < 0
    · rw [if_pos hb] at hov
      subst hov
      have bC := Int.mul_neg_of_neg_of_pos hb hC
      rcases Int.lt_or_le Y 0 with hy | hy
      · have := mln hv.2 (Int.le_of_lt hy)
        omega
      · have := Int.mul_nonneg hy (show 0 ≤ v by omega)
        omega
    · rw [if_neg hb] at hov
      subst hov
      have bC := Int.mul_nonneg (show 0 ≤ b by omega) (Int.le_of_lt hC)
      rcases Int.lt_or_le Y 0 with hy | hy
      · have := Int.mul_neg_of_neg_of_pos hy hc
        omega
      · have := ml hv.1 hy
        omega
theorem hold_quoPos {a b c d : D2} (h : GoodS a b) (k : GoodS c d) (hc : 0 < c.1) {u v : Int} (hu : a.v ≤ u ∧ u ≤ b.v) (hv : c.v ≤ v ∧ v ≤ d.v) {p : Int} (hp : 1 ≤ p ∧ p ≤ 70000) : HoldQ (spQuoPos a b c d p) u v := by
  have sc := D2.sgn c
  have sd := D2.sgn d
  have sa := D2.sgn a
  have sb := D2.sgn b
  have hcd := k.2.2
  have hcv : 0 < c.v := sc.2.1 hc
  have hd1 : 0 < d.1 := sd.2.2 (by omega)
  unfold spQuoPos
  obtain ⟨un, hun⟩ : ∃ r, r = (if a.1 < 0 then c else d) := ⟨_, rfl⟩
  obtain ⟨ov, hov⟩ : ∃ r, r = (if b.1 < 0 then d else c) := ⟨_, rfl⟩
  have v1 : un.v = if a.v < 0 then c.v else d.v := by rw [hun]; by_cases q : a.1 < 0 <;> first | rw [if_pos q, if_pos (sa.1.1 q)] | rw [if_neg q, if_neg (fun z => q (sa.1.2 z))]
  have v2 : ov.v = if b.v < 0 then d.v else c.v := by rw [hov]; by_cases q : b.1 < 0 <;> first | rw [if_pos q, if_pos (sb.1.1 q)] | rw [if_neg q, if_neg (fun z => q (sb.1.2 z))]
  rw [← hun, ← hov]
  have u1 : un.good ∧ 0 < un.1 := by rw [hun]; split <;> first | exact ⟨k.1, hc⟩ | exact ⟨k.2.1, hd1⟩
  have u2 : ov.good ∧ 0 < ov.1 := by rw [hov]; split <;> first | exact ⟨k.1, hc⟩ | exact ⟨k.2.1, hd1⟩
  have l1 := quo_low h.1 u1.1 u1.2 hp
  have l2 := quo_high h.2.1 u2.1 u2.2 hp
  have g1 := An.d_good (quo_ans (a := a) (b := un) hp (by omega) false)
  have g2 := An.d_good (quo_ans (a := b) (b := ov) hp (by omega) true)
  rcases quo_pos h k hc hp with q | ⟨x, y, q, g, _⟩
  · unfold spQuoPos at q
    rw [← hun, ← hov] at q
    exact .inl q
  unfold spQuoPos at q
  rw [← hun, ← hov] at q
  obtain ⟨A, hA⟩ : ∃ u, u = toAn (quoP a un p false) := ⟨_, rfl⟩
  obtain ⟨B, hB⟩ : ∃ v, v = toAn (quoP b ov p true) := ⟨_, rfl⟩
  rw [← hA] at l1 g1 q ⊢
  rw [← hB] at l2 g2 q ⊢
  by_cases hz : A.c = 0 ∧ B.c = 0
  · rw [bothA_ok hz.1 hz.2] at q ⊢
    obtain ⟨e1, e2⟩ := spR_inj q g1 g.1 g2 g.2.1
    have m := quo_bounds (p2_pos 1048576) hu hv hcv v1 v2 (l1 hz.1) (l2 hz.2)
    exact .inr ⟨_, _, rfl, by rw [e1, e2]; exact g, m.1, m.2⟩
  · exact .inl (bothA_no (by omega))
theorem hold_quo {a b c d : D2} (h : GoodS a b) (k : GoodS c d) {u v : D2} (hu : a.v ≤ u.v ∧ u.v ≤ b.v) (hv : c.v ≤ v.v ∧ v.v ≤ d.v) {p : Int} (hp : 1 ≤ p ∧ p ≤ 70000) (h0 : hasV c d (0, 0) = false) :
    (0 < v.1 ∧ HoldQ (spQuo a b c d p) u.v v.v) ∨ (v.1 < 0 ∧ HoldQ (spQuo a b c d p) (-u.v) (-v.v)) := by
  have sc := D2.sgn c
  have sd := D2.sgn d
  have sv := D2.sgn v
  have z0 : D2.v (0, 0) = 0 := VV_zero 0
  have hn : ¬ (c.v ≤ 0 ∧ 0 ≤ d.v) := fun hh => by
    unfold hasV at h0
    rw [z0, decide_eq_true hh.1, decide_eq_true hh.2] at h0
    exact absurd h0 (by decide)
  have hcd := k.2.2
  unfold spQuo
  by_cases hc : 0 < c.1
  · rw [if_pos hc]
    have := sc.2.1 hc
    exact .inl ⟨sv.2.2 (by omega), hold_quoPos h k hc hu hv hp⟩
  · rw [if_neg hc]
    have n1 : ¬ 0 < c.v := fun q => hc (sc.2.2 q)
    have n2 : d.v < 0 := by omega
    rw [if_pos (sd.1.2 n2)]
    exact .inr ⟨sv.1.2 (by omega), hold_quoPos h.neg k.neg (show 0 < d.neg.1 by have := sd.1.2 n2; show 0 < -d.1; omega) (by rw [D2.neg_v, D2.neg_v]; omega) (by rw [D2.neg_v, D2.neg_v]; omega) hp⟩
theorem quo_nought {a b c d : D2} (k : GoodS c d) {p : Int} (h0 : hasV c d (0, 0) = true) : spQuo a b c d p = spE 4 := by
  have sc := D2.sgn c
  have sd := D2.sgn d
  have z0 : D2.v (0, 0) = 0 := VV_zero 0
  unfold hasV at h0
  rw [z0] at h0
  simp only [Bool.and_eq_true, decide_eq_true_eq] at h0
  unfold spQuo
  rw [if_neg (fun q => by have := sc.2.1 q; omega), if_neg (fun q => by have := sd.1.1 q; omega)]
end Go.Proofs.YtpjbgmafnheomaaGreatDoor.Sim
