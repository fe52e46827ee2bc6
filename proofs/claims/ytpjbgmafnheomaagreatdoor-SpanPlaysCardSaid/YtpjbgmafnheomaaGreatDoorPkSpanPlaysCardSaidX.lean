/-
  Lemmas of SpanPlaysCardSaid, part 24.
-/
import Derived.Test.YtpjbgmafnheomaaGreatDoorPkSpanPlaysCardSaidW
namespace Go.Proofs.YtpjbgmafnheomaaGreatDoor.Sim
open Go.RowKit
set_option linter.unusedVariables false
set_option linter.unusedSimpArgs false
set_option maxRecDepth 10000
set_option maxHeartbeats 8000000
variable {G : Gs}
def amV (w v : D2) (p : Int) : Bool := decide (holdS (w.1.natAbs : Int) (w.2 + p) (v.1.natAbs : Int) v.2 ≤ 0)
theorem holdS_le {a i b j : Int} : holdS a i b j ≤ 0 ↔ a * 2 ^ (i - min i j).toNat ≤ b * 2 ^ (j - min i j).toNat := by
  unfold holdS
  obtain ⟨X, hX⟩ : ∃ X, X = a * 2 ^ (i - min i j).toNat := ⟨_, rfl⟩
  obtain ⟨Y, hY⟩ : ∃ Y, Y = b * 2 ^ (j - min i j).toNat := ⟨_, rfl⟩
  rw [← hX, ← hY]
  clear hX hY
  split
  · omega
  · split <;> omega
theorem holdS_shift {a i b j e f : Int} (h : e - f = i - j) : holdS a e b f = holdS a i b j := by
  unfold holdS
  rw [show (e - min e f).toNat = (i - min i j).toNat by omega, show (f - min e f).toNat = (j - min i j).toNat by omega]
theorem cmpN_le {X Y : Nat} : cmpN X Y ≤ 0 ↔ X ≤ Y := by
  unfold cmpN
  split
  · omega
  · split <;> omega
theorem am_nought {w v : D2} {p : Int} (h : w.1 = 0) : amV w v p = true := by
  unfold amV
  refine decide_eq_true (holdS_le.2 ?_)
  rw [h]
  show (0 : Int) * _ ≤ _
  rw [Int.zero_mul]
  exact Int.mul_nonneg (Int.natCast_nonneg _) (Int.le_of_lt (p2_pos _))
theorem am_none {w v : D2} {p : Int} (h : w.1 ≠ 0) (hv : v.1 = 0) : amV w v p = false := by
  unfold amV
  refine decide_eq_false fun k => ?_
  have k := holdS_le.1 k
  rw [hv] at k
  have z : ((Int.natAbs 0 : Nat) : Int) = 0 := rfl
  rw [z, Int.zero_mul] at k
  have h1 : (0 : Int) < (w.1.natAbs : Int) := by omega
  exact absurd k (Int.not_le.2 (Int.mul_pos h1 (p2_pos _)))
theorem am_bits {w v : D2} {p : Int} (h : w.1 ≠ 0) (hv : v.1 ≠ 0) (hb : (bl w.1.natAbs : Int) + (w.2 + p) ≠ (bl v.1.natAbs : Int) + v.2) : amV w v p = decide ((bl w.1.natAbs : Int) + (w.2 + p) < (bl v.1.natAbs : Int) + v.2) := by
  unfold amV
  rw [← hold_eq]
  unfold holdC
  have s1 : (w.1.natAbs : Int).sign = 1 := Int.sign_eq_one_of_pos (by omega)
  have s2 : (v.1.natAbs : Int).sign = 1 := Int.sign_eq_one_of_pos (by omega)
  rw [s1, s2, if_neg (by decide), if_pos (by simpa using hb)]
  simp only [Int.natAbs_natCast]
  by_cases q : (bl w.1.natAbs : Int) + (w.2 + p) < (bl v.1.natAbs : Int) + v.2
  · simp only [if_pos q, decide_eq_true q]; rfl
  · simp only [if_neg q, decide_eq_false q]; rfl
theorem am_ge {w v : D2} {p : Int} (h : v.2 ≤ w.2 + p) : amV w v p = decide (cmpN (w.1.natAbs * 2 ^ (w.2 + p - v.2).toNat) v.1.natAbs ≤ 0) := by
  unfold amV
  have e : (holdS (w.1.natAbs : Int) (w.2 + p) (v.1.natAbs : Int) v.2 ≤ 0) ↔ cmpN (w.1.natAbs * 2 ^ (w.2 + p - v.2).toNat) v.1.natAbs ≤ 0 := by
    rw [holdS_le, cmpN_le, show (w.2 + p - min (w.2 + p) v.2).toNat = (w.2 + p - v.2).toNat by omega, show (v.2 - min (w.2 + p) v.2).toNat = 0 by omega, Int.pow_zero, Int.mul_one]
    exact_mod_cast Iff.rfl
  exact decide_eq_decide.2 e
theorem am_lt {w v : D2} {p : Int} (h : w.2 + p < v.2) : amV w v p = decide (cmpN w.1.natAbs (v.1.natAbs * 2 ^ (0 - (w.2 + p - v.2)).toNat) ≤ 0) := by
  unfold amV
  have e : (holdS (w.1.natAbs : Int) (w.2 + p) (v.1.natAbs : Int) v.2 ≤ 0) ↔ cmpN w.1.natAbs (v.1.natAbs * 2 ^ (0 - (w.2 + p - v.2)).toNat) ≤ 0 := by
    rw [holdS_le, cmpN_le, show (w.2 + p - min (w.2 + p) v.2).toNat = 0 by omega, show (v.2 - min (w.2 + p) v.2).toNat = (0 - (w.2 + p - v.2)).toNat by omega, Int.pow_zero, Int.mul_one]
    exact_mod_cast Iff.rfl
  exact decide_eq_decide.2 e
theorem am_unit {w v : D2} {p : Int} (hw : w.good) (hv : v.good) (hb : (bl w.1.natAbs : Int) + (w.2 + p) = (bl v.1.natAbs : Int) + v.2) : amV w v p = decide (cmpV (w.1.natAbs : Int) (1 - (bl w.1.natAbs : Int)) (v.1.natAbs : Int) (1 - (bl v.1.natAbs : Int)) ≤ 0) := by
  have b1 : bl w.1.natAbs ≤ 524288 := Good.bl hw
  have b2 : bl v.1.natAbs ≤ 524288 := Good.bl hv
  unfold amV
  rw [← holdS_shift (e := 1 - (bl w.1.natAbs : Int)) (f := 1 - (bl v.1.natAbs : Int)) (by omega)]
  have k := hold_pos (c := 1048576) (a := (w.1.natAbs : Int)) (i := 1 - (bl w.1.natAbs : Int)) (b := (v.1.natAbs : Int)) (j := 1 - (bl v.1.natAbs : Int)) (by omega) (by omega)
  rw [Vc_VV, Vc_VV] at k
  unfold cmpV
  obtain ⟨X, hX⟩ : ∃ X, X = VV (w.1.natAbs : Int) (1 - (bl w.1.natAbs : Int)) := ⟨_, rfl⟩
  obtain ⟨Y, hY⟩ : ∃ Y, Y = VV (v.1.natAbs : Int) (1 - (bl v.1.natAbs : Int)) := ⟨_, rfl⟩
  rw [← hX, ← hY] at k ⊢
  clear hX hY
  refine decide_eq_decide.2 ?_
  split
  · omega
  · split <;> omega
theorem abs_V {v : D2} (hv : v.good) : Vc 2097152 (v.1.natAbs : Int) v.2 = (if v.1 < 0 then -v.v else v.v) * 2 ^ 1048576 := by
  rw [Vc_two hv.2.1]
  by_cases h : v.1 < 0
  · rw [if_pos h, show (v.1.natAbs : Int) = -v.1 by omega, VV_neg]; rfl
  · rw [if_neg h, show (v.1.natAbs : Int) = v.1 by omega]; rfl
theorem am_mono {w u v : D2} {p : Int} (hw : w.good) (hu : u.good) (hv : v.good) (hp : 0 ≤ p) (h : (if u.1 < 0 then -u.v else u.v) ≤ (if v.1 < 0 then -v.v else v.v)) (k : amV w u p = true) : amV w v p = true := by
  have e1 := hw.2.1
  have e2 := hu.2.1
  have e3 := hv.2.1
  unfold amV at k ⊢
  have k := of_decide_eq_true k
  refine decide_eq_true (Int.not_lt.1 fun q => ?_)
  have q := (hold_pos (c := 2097152) (by omega) (by omega)).1 q
  have k2 : ¬ 0 < holdS (w.1.natAbs : Int) (w.2 + p) (u.1.natAbs : Int) u.2 := Int.not_lt.2 k
  refine k2 ((hold_pos (c := 2097152) (by omega) (by omega)).2 (Int.lt_of_le_of_lt ?_ q))
  rw [abs_V hu, abs_V hv]
  exact mr h (Int.le_of_lt (p2_pos _))
def thinS (a b : D2) (p : Int) : PV :=
  if a = b then .tup [.val (.bool true), .val (.int .i64 0)] else if ¬ 0 < a.1 ∧ ¬ b.1 < 0 then .tup [.val (.bool false), .val (.int .i64 0)]
  else if (toAn (addP b a.neg)).c ≠ 0 then .tup [.val (.bool false), .val (.int .i64 5)] else .tup [.val (.bool (amV (toAn (addP b a.neg)).d a p && amV (toAn (addP b a.neg)).d b p)), .val (.int .i64 0)]
theorem thin_form (a b : D2) (p : Int) : ∃ (t : Bool) (c : Int), thinS a b p = .tup [.val (.bool t), .val (.int .i64 c)] := by
  unfold thinS
  repeat' split
  all_goals exact ⟨_, _, rfl⟩
theorem DY_nat (n : Nat) (e : Int) : DY (n : Int) e = .agg [.val (.bool false), .ws .u64 (d64 n), .val (.int .i64 e)] := by
  unfold DY
  rw [decide_eq_false (by omega), Int.natAbs_natCast]
theorem unit_good {a : D2} (h : a.good) : D2.good ((a.1.natAbs : Int), 1 - (bl a.1.natAbs : Int)) ∨ a.1 = 0 := by
  by_cases h0 : a.1 = 0
  · exact .inr h0
  · have b1 : bl a.1.natAbs ≤ 524288 := Good.bl h
    have hodd := h.2.2.2.2 h0
    refine .inl ⟨by rw [Int.natAbs_natCast]; exact h.1, by dsimp only; omega, by dsimp only; omega, fun z => by dsimp only at z; omega, fun _ => by dsimp only; omega⟩
theorem p_unit {a : D2} (h : a.good) (hn : a.1 ≠ 0) : FC Tryz.prog G 137 [DY a.1 a.2] (· = .tup [.agg [.val (.bool false), .ws .u64 (d64 a.1.natAbs), .val (.int .i64 (1 - (bl a.1.natAbs : Int)))], .val (.int .i64 (topN a.1 a.2))]) := by
  have b1 : bl a.1.natAbs ≤ 524288 := Good.bl h
  have e1 := h.2.1
  have e2 := h.2.2.1
  have f1 := y_Top (G := G) h
  rw [if_neg hn] at f1
  have f2 := y_scale (G := G) (0 - topN a.1 a.2) h (by dsimp only [inR]; unfold topN; omega)
  have hs : scaleS a.1 a.2 (0 - topN a.1 a.2) = dyR a.1 (1 - (bl a.1.natAbs : Int)) := by
    unfold scaleS
    rw [if_neg hn, if_neg (by unfold topN; omega), if_neg (by unfold topN; omega), show a.2 + (0 - topN a.1 a.2) = 1 - (bl a.1.natAbs : Int) by unfold topN; omega]
    exact told_good ⟨h.1, by omega, by omega, fun z => absurd z hn, h.2.2.2.2⟩
  rw [hs] at f2
  unfold dyR at f2
  obtain ⟨t, ht⟩ : ∃ t, t = topN a.1 a.2 := ⟨_, rfl⟩
  have tb : -1048576 ≤ t ∧ t ≤ 1572864 := by rw [ht]; unfold topN; have := bl_pos (n := a.1.natAbs) (by omega); omega
  rw [← ht] at f1 f2 ⊢
  clear ht hs hn h
  refine ax_i Tryz.func137 Tryz.ntmps137 ?_; intro F hG hO
  rw [← hG] at f1 f2
  repeat' ((try (conv => whnf)); first
 | refine ce f1 ?_ | refine ce f2 ?_
 | with_reducible first | refine ax_s ?_ | (refine ax_f ?_ ?_ <;> try intro hc) | fail)
  all_goals exact ⟨ret_e rfl⟩
theorem q_atMost {w v : D2} (hw : w.good) (hv : v.good) {p : Int} (hp : 1 ≤ p ∧ p ≤ 70000) : FC Tryz.prog G 171 [DY w.1 w.2, DY v.1 v.2, .val (.int .i64 p)] (· = .val (.bool (amV w v p))) := by
  have v1 := q_sign (G := G) hw
  have v2 := q_sign (G := G) hv
  have w1 := sign3 w.1
  have w2 := sign3 v.1
  obtain ⟨t1, h1⟩ : ∃ t, t = w.1.sign := ⟨_, rfl⟩
  obtain ⟨t2, h2⟩ : ∃ t, t = v.1.sign := ⟨_, rfl⟩
  rw [← h1] at v1 w1
  rw [← h2] at v2 w2
  clear h1 h2
  by_cases h1 : w.1 = 0
  · rw [am_nought h1]
    have y1 : t1 = 0 := by omega
    clear w1 w2
    refine ax_i Tryz.func171 Tryz.ntmps171 ?_; intro F hG hO
    rw [← hG] at v1 v2
    repeat' ((try (conv => whnf)); first
 | refine ce v1 ?_ | refine ce v2 ?_
 | with_reducible first | refine ax_s ?_ | (refine ax_f ?_ ?_ <;> try intro hc) | fail)
    all_goals exact ⟨ret_e rfl⟩
  · have y1 : t1 ≠ 0 := by omega
    by_cases h2 : v.1 = 0
    · rw [am_none h1 h2]
      have y2 : t2 = 0 := by omega
      clear w1 w2
      refine ax_i Tryz.func171 Tryz.ntmps171 ?_; intro F hG hO
      rw [← hG] at v1 v2
      repeat' ((try (conv => whnf)); first
 | refine ce v1 ?_ | refine ce v2 ?_
 | with_reducible first | refine ax_s ?_ | (refine ax_f ?_ ?_ <;> try intro hc) | fail)
      all_goals exact ⟨ret_e rfl⟩
    · have y2 : t2 ≠ 0 := by omega
      have l1 : L64 w.1.natAbs ≤ 8192 := hw.1
      have l2 : L64 v.1.natAbs ≤ 8192 := hv.1
      have m1 := L32_L64 w.1.natAbs
      have m2 := L32_L64 v.1.natAbs
      have e1 := hw.2.1
      have e2 := hw.2.2.1
      have e3 := hv.2.1
      have e4 := hv.2.2.1
      have b1 : bl w.1.natAbs ≤ 524288 := Good.bl hw
      have b2 : bl v.1.natAbs ≤ 524288 := Good.bl hv
      have f1 : FC Tryz.prog G 76 [.ws .u64 (d64 w.1.natAbs)] (· = D w.1.natAbs) := by
        have := r_from (G := G) (d64 w.1.natAbs) (okD64 _) (by show L64 w.1.natAbs ≤ _; omega)
        rwa [vl_d64] at this
      have f2 : FC Tryz.prog G 76 [.ws .u64 (d64 v.1.natAbs)] (· = D v.1.natAbs) := by
        have := r_from (G := G) (d64 v.1.natAbs) (okD64 _) (by show L64 v.1.natAbs ≤ _; omega)
        rwa [vl_d64] at this
      have g1 := r_bits (G := G) w.1.natAbs (by omega)
      have g2 := r_bits (G := G) v.1.natAbs (by omega)
      obtain ⟨x1, hx1⟩ : ∃ x : Int, x = (bl w.1.natAbs : Int) := ⟨_, rfl⟩
      obtain ⟨x2, hx2⟩ : ∃ x : Int, x = (bl v.1.natAbs : Int) := ⟨_, rfl⟩
      rw [← hx1] at g1
      rw [← hx2] at g2
      have bx1 : 0 ≤ x1 ∧ x1 ≤ 524288 := by omega
      have bx2 : 0 ≤ x2 ∧ x2 ≤ 524288 := by omega
      by_cases hb : x1 + (w.2 + p) = x2 + v.2
      · by_cases he : v.2 ≤ w.2 + p
        · rw [am_ge he]
          have g3 := r_shl (G := G) w.1.natAbs (w.2 + p - v.2) (by omega) (by dsimp only [inR]; omega) (by omega)
          have g4 := r_cmp (G := G) (w.1.natAbs * 2 ^ (w.2 + p - v.2).toNat) v.1.natAbs (by have := L32_mul w.1.natAbs (2 ^ (w.2 + p - v.2).toNat); have := L32_p2 (w.2 + p - v.2).toNat; omega) (by omega)
          obtain ⟨s, hs⟩ : ∃ s, s = cmpN (w.1.natAbs * 2 ^ (w.2 + p - v.2).toNat) v.1.natAbs := ⟨_, rfl⟩
          rw [← hs] at g4 ⊢
          clear hs w1 w2 hw hv l1 l2 m1 m2 hx1 hx2
          refine ax_i Tryz.func171 Tryz.ntmps171 ?_; intro F hG hO
          rw [← hG] at v1 v2 f1 f2 g1 g2 g3 g4
          repeat' ((try (conv => whnf)); first
 | refine ce v1 ?_ | refine ce v2 ?_ | refine ce f1 ?_ | refine ce f2 ?_ | refine ce g1 ?_ | refine ce g2 ?_ | refine ce g3 ?_ | refine ce g4 ?_
 | (refine dg ?_; refine draw_p (A := Unit) (id := 5) (N := 60) (fun _ => [(2, .val (.int .i64 (p))), (3, .ptr 0 0), (4, .ptr 1 0), (7, D w.1.natAbs), (8, D v.1.natAbs)]) (fun _ => [[vB w, vW w, vE w], [vB v, vW v, vE v]]) (fun _ => []) (.take 0 (.take 1 (.take 4 (.take 5 (.alt 2 (.alt 3 (.alt 6 (.alt 7 (.alt 8 (.alt 9 (.fin) (.non)) (.non)) (.non)) (.non)) (.alt 6 (.alt 3 (.alt 7 (.alt 8 (.alt 9 (.fin) (.non)) (.non)) (.non)) (.non)) (.non))) (.alt 6 (.alt 2 (.alt 3 (.alt 7 (.alt 8 (.alt 9 (.fin) (.non)) (.non)) (.non)) (.non)) (.non)) (.non))))))) tok mixed (by kernel_rfl) (by kernel_rfl) (by intro ju; simp [hO]) ?_ ?_; rotate_left; intro ju)
 | exact joinp () [(0, []), (1, [])] rfl rfl rfl ⟨_, rfl⟩
 | with_reducible first | refine ax_s ?_ | (refine ax_f ?_ ?_ <;> try intro hc) | fail)
          all_goals exact ⟨ret_e rfl⟩
        · have he' : w.2 + p < v.2 := by omega
          rw [am_lt he']
          have g3 := r_shl (G := G) v.1.natAbs (0 - (w.2 + p - v.2)) (by omega) (by dsimp only [inR]; omega) (by omega)
          have g4 := r_cmp (G := G) w.1.natAbs (v.1.natAbs * 2 ^ (0 - (w.2 + p - v.2)).toNat) (by omega) (by have := L32_mul v.1.natAbs (2 ^ (0 - (w.2 + p - v.2)).toNat); have := L32_p2 (0 - (w.2 + p - v.2)).toNat; omega)
          obtain ⟨s, hs⟩ : ∃ s, s = cmpN w.1.natAbs (v.1.natAbs * 2 ^ (0 - (w.2 + p - v.2)).toNat) := ⟨_, rfl⟩
          rw [← hs] at g4 ⊢
          clear hs w1 w2 hw hv l1 l2 m1 m2 hx1 hx2
          refine ax_i Tryz.func171 Tryz.ntmps171 ?_; intro F hG hO
          rw [← hG] at v1 v2 f1 f2 g1 g2 g3 g4
          repeat' ((try (conv => whnf)); first
 | refine ce v1 ?_ | refine ce v2 ?_ | refine ce f1 ?_ | refine ce f2 ?_ | refine ce g1 ?_ | refine ce g2 ?_ | refine ce g3 ?_ | refine ce g4 ?_
 | (refine dg ?_; refine draw_p (A := Unit) (id := 5) (N := 60) (fun _ => [(2, .val (.int .i64 (p))), (3, .ptr 0 0), (4, .ptr 1 0), (7, D w.1.natAbs), (8, D v.1.natAbs)]) (fun _ => [[vB w, vW w, vE w], [vB v, vW v, vE v]]) (fun _ => []) (.take 0 (.take 1 (.take 4 (.take 5 (.alt 2 (.alt 3 (.alt 6 (.alt 7 (.alt 8 (.alt 9 (.fin) (.non)) (.non)) (.non)) (.non)) (.alt 6 (.alt 3 (.alt 7 (.alt 8 (.alt 9 (.fin) (.non)) (.non)) (.non)) (.non)) (.non))) (.alt 6 (.alt 2 (.alt 3 (.alt 7 (.alt 8 (.alt 9 (.fin) (.non)) (.non)) (.non)) (.non)) (.non)) (.non))))))) tok mixed (by kernel_rfl) (by kernel_rfl) (by intro ju; simp [hO]) ?_ ?_; rotate_left; intro ju)
 | exact joinp () [(0, []), (1, [])] rfl rfl rfl ⟨_, rfl⟩
 | with_reducible first | refine ax_s ?_ | (refine ax_f ?_ ?_ <;> try intro hc) | fail)
          all_goals exact ⟨ret_e rfl⟩
      · rw [am_bits h1 h2 (by omega), ← hx1, ← hx2]
        by_cases hq : x1 + (w.2 + p) < x2 + v.2
        · rw [decide_eq_true hq]
          clear w1 w2 hw hv l1 l2 m1 m2 hx1 hx2
          refine ax_i Tryz.func171 Tryz.ntmps171 ?_; intro F hG hO
          rw [← hG] at v1 v2 f1 f2 g1 g2
          repeat' ((try (conv => whnf)); first
 | refine ce v1 ?_ | refine ce v2 ?_ | refine ce f1 ?_ | refine ce f2 ?_ | refine ce g1 ?_ | refine ce g2 ?_
 | (refine dg ?_; refine draw_p (A := Unit) (id := 5) (N := 60) (fun _ => [(2, .val (.int .i64 (p))), (3, .ptr 0 0), (4, .ptr 1 0), (7, D w.1.natAbs), (8, D v.1.natAbs)]) (fun _ => [[vB w, vW w, vE w], [vB v, vW v, vE v]]) (fun _ => []) (.take 0 (.take 1 (.take 4 (.take 5 (.alt 2 (.alt 3 (.alt 6 (.alt 7 (.alt 8 (.alt 9 (.fin) (.non)) (.non)) (.non)) (.non)) (.alt 6 (.alt 3 (.alt 7 (.alt 8 (.alt 9 (.fin) (.non)) (.non)) (.non)) (.non)) (.non))) (.alt 6 (.alt 2 (.alt 3 (.alt 7 (.alt 8 (.alt 9 (.fin) (.non)) (.non)) (.non)) (.non)) (.non)) (.non))))))) tok mixed (by kernel_rfl) (by kernel_rfl) (by intro ju; simp [hO]) ?_ ?_; rotate_left; intro ju)
 | exact joinp () [(0, []), (1, [])] rfl rfl rfl ⟨_, rfl⟩
 | with_reducible first | refine ax_s ?_ | (refine ax_f ?_ ?_ <;> try intro hc) | fail)
          all_goals exact ⟨ret_e (by rw [decide_eq_true (by omega)])⟩
        · rw [decide_eq_false hq]
          clear w1 w2 hw hv l1 l2 m1 m2 hx1 hx2
          refine ax_i Tryz.func171 Tryz.ntmps171 ?_; intro F hG hO
          rw [← hG] at v1 v2 f1 f2 g1 g2
          repeat' ((try (conv => whnf)); first
 | refine ce v1 ?_ | refine ce v2 ?_ | refine ce f1 ?_ | refine ce f2 ?_ | refine ce g1 ?_ | refine ce g2 ?_
 | (refine dg ?_; refine draw_p (A := Unit) (id := 5) (N := 60) (fun _ => [(2, .val (.int .i64 (p))), (3, .ptr 0 0), (4, .ptr 1 0), (7, D w.1.natAbs), (8, D v.1.natAbs)]) (fun _ => [[vB w, vW w, vE w], [vB v, vW v, vE v]]) (fun _ => []) (.take 0 (.take 1 (.take 4 (.take 5 (.alt 2 (.alt 3 (.alt 6 (.alt 7 (.alt 8 (.alt 9 (.fin) (.non)) (.non)) (.non)) (.non)) (.alt 6 (.alt 3 (.alt 7 (.alt 8 (.alt 9 (.fin) (.non)) (.non)) (.non)) (.non)) (.non))) (.alt 6 (.alt 2 (.alt 3 (.alt 7 (.alt 8 (.alt 9 (.fin) (.non)) (.non)) (.non)) (.non)) (.non)) (.non))))))) tok mixed (by kernel_rfl) (by kernel_rfl) (by intro ju; simp [hO]) ?_ ?_; rotate_left; intro ju)
 | exact joinp () [(0, []), (1, [])] rfl rfl rfl ⟨_, rfl⟩
 | with_reducible first | refine ax_s ?_ | (refine ax_f ?_ ?_ <;> try intro hc) | fail)
          all_goals exact ⟨ret_e (by rw [decide_eq_false (by omega)])⟩
theorem q_docthin {a b : D2} (h : GoodS a b) {p : Int} (hp : 1 ≤ p ∧ p ≤ 70000) : FC Tryz.prog G 132 [SP a b, .val (.int .i64 p)] (· = thinS a b p) := by
  have q1 := q_form (G := G) h
  have q2 := q_sameD (G := G) h.1 b
  have v1 := q_sign (G := G) h.1
  have v2 := q_sign (G := G) h.2.1
  have w1 := sign3 a.1
  have w2 := sign3 b.1
  have sa := D2.sgn a
  have sb := D2.sgn b
  have hab := h.2.2
  unfold thinS
  by_cases hs : a = b
  · rw [if_pos hs]
    rw [decide_eq_true hs] at q2
    clear w1 w2 sa sb hab
    refine ax_i Tryz.func132 Tryz.ntmps132 ?_; intro F hG hO
    rw [← hG] at q1 q2
    repeat' ((try (conv => whnf)); first
 | refine ce q1 ?_ | refine ce q2 ?_
 | (refine dG (id := 7) [[0, 1, 3, 4, 2, 5, 6]] ?_)
 | with_reducible first | refine ax_s ?_ | (refine ax_f ?_ ?_ <;> try intro hc) | fail)
    all_goals exact ⟨ret_e rfl⟩
  · rw [if_neg hs]
    rw [decide_eq_false hs] at q2
    have hlt : a.v < b.v := by
      rcases Int.lt_or_eq_of_le hab with z | z
      · exact z
      · exact absurd (D2.eq h.1 h.2.1 z) hs
    obtain ⟨t1, h1⟩ : ∃ t, t = a.1.sign := ⟨_, rfl⟩
    obtain ⟨t2, h2⟩ : ∃ t, t = b.1.sign := ⟨_, rfl⟩
    rw [← h1] at v1 w1
    rw [← h2] at v2 w2
    clear h1 h2 hs
    by_cases hz : ¬ 0 < a.1 ∧ ¬ b.1 < 0
    · rw [if_pos hz]
      have y : t1 ≠ t2 := by omega
      clear w1 w2 sa sb hab hlt hz
      refine ax_i Tryz.func132 Tryz.ntmps132 ?_; intro F hG hO
      rw [← hG] at q1 q2 v1 v2
      repeat' ((try (conv => whnf)); first
 | refine ce q1 ?_ | refine ce q2 ?_ | refine ce v1 ?_ | refine ce v2 ?_
 | (refine dG (id := 7) [[0, 1, 3, 4, 2, 5, 6]] ?_)
 | with_reducible first | refine ax_s ?_ | (refine ax_f ?_ ?_ <;> try intro hc) | fail)
      all_goals exact ⟨ret_e rfl⟩
    · rw [if_neg hz]
      have y : t1 = t2 := by omega
      have k1 : FC Tryz.prog G 170 [DY b.1 b.2, DY a.1 a.2] (· = addP b a.neg) := r_docsub h.2.1 h.1
      have k1 := tup_eta k1 (add_ans h.2.1 (D2.neg_good h.1))
      obtain ⟨_, gu, cu⟩ := (add_ans h.2.1 (D2.neg_good h.1)).eq
      obtain ⟨u, hu⟩ : ∃ u, u = toAn (addP b a.neg) := ⟨_, rfl⟩
      rw [← hu] at k1 gu cu ⊢
      clear hu w1 w2 sa sb hab hlt hz
      by_cases hc : u.c = 0
      · rw [if_neg (by omega)]
        rw [hc] at k1
        have m1 := q_atMost (G := G) (w := u.d) gu h.1 hp
        have m2 := q_atMost (G := G) (w := u.d) gu h.2.1 hp
        obtain ⟨n1, hn1⟩ : ∃ n, n = amV u.d a p := ⟨_, rfl⟩
        obtain ⟨n2, hn2⟩ : ∃ n, n = amV u.d b p := ⟨_, rfl⟩
        rw [← hn1] at m1 ⊢
        rw [← hn2] at m2 ⊢
        clear hn1 hn2 gu cu
        cases n1 <;> cases n2 <;> (
          refine ax_i Tryz.func132 Tryz.ntmps132 ?_; intro F hG hO
          rw [← hG] at q1 q2 v1 v2 k1 m1 m2
          repeat' ((try (conv => whnf)); first
 | refine ce q1 ?_ | refine ce q2 ?_ | refine ce v1 ?_ | refine ce v2 ?_ | refine ce k1 ?_ | refine ce m1 ?_ | refine ce m2 ?_
 | (refine dG (id := 7) [[0, 1, 3, 4, 2, 5, 6]] ?_)
 | with_reducible first | refine ax_s ?_ | (refine ax_f ?_ ?_ <;> try intro hc) | fail)
          all_goals exact ⟨ret_e rfl⟩)
      · rw [if_pos hc]
        have hc5 : u.c = 5 := by omega
        rw [hc5] at k1
        clear gu cu
        refine ax_i Tryz.func132 Tryz.ntmps132 ?_; intro F hG hO
        rw [← hG] at q1 q2 v1 v2 k1
        repeat' ((try (conv => whnf)); first
 | refine ce q1 ?_ | refine ce q2 ?_ | refine ce v1 ?_ | refine ce v2 ?_ | refine ce k1 ?_
 | (refine dG (id := 7) [[0, 1, 3, 4, 2, 5, 6]] ?_)
 | with_reducible first | refine ax_s ?_ | (refine ax_f ?_ ?_ <;> try intro hc) | fail)
        all_goals exact ⟨ret_e rfl⟩
theorem q_docthinX (b1 : Bool) (l1 : List Int) (e1 : Int) (b2 : Bool) (l2 : List Int) (e2 : Int) (o1 : okD 18446744073709551616 l1) (o2 : okD 18446744073709551616 l2) (p : Int) (h : chkE p (spF b1 l1 e1 b2 l2 e2) ≠ 0) : FC Tryz.prog G 132 [Sp b1 l1 e1 b2 l2 e2, .val (.int .i64 p)] (· = .tup [.val (.bool false), .val (.int .i64 (chkE p (spF b1 l1 e1 b2 l2 e2)))]) := by
  have q1 := q_formX (G := G) b1 l1 e1 b2 l2 e2 o1 o2
  obtain ⟨x, hx⟩ : ∃ x, x = spF b1 l1 e1 b2 l2 e2 := ⟨_, rfl⟩
  rw [← hx] at q1 h ⊢
  clear hx
  by_cases hp : 1 ≤ p ∧ p ≤ 70000
  · cases x with
    | true => exact absurd (chkE_ok hp) h
    | false =>
    rw [show chkE p false = 2 by unfold chkE; rw [if_neg (by omega)]; rfl]
    clear h
    refine ax_i Tryz.func132 Tryz.ntmps132 ?_; intro F hG hO
    rw [← hG] at q1
    repeat' ((try (conv => whnf)); first
 | refine ce q1 ?_
 | (refine dG (id := 7) [[0, 1, 3, 4, 2, 5, 6]] ?_)
 | with_reducible first | refine ax_s ?_ | (refine ax_f ?_ ?_ <;> try intro hc) | fail)
    all_goals exact ⟨ret_e rfl⟩
  · rw [chkE_bad _ hp]
    clear h
    refine ax_i Tryz.func132 Tryz.ntmps132 ?_; intro F hG hO
    rw [← hG] at q1
    repeat' ((try (conv => whnf)); first
 | refine ce q1 ?_
 | (refine dG (id := 7) [[0, 1, 3, 4, 2, 5, 6]] ?_)
 | with_reducible first | refine ax_s ?_ | (refine ax_f ?_ ?_ <;> try intro hc) | fail)
    all_goals exact ⟨ret_e rfl⟩
theorem p_thin {g : Gs} (hD : (0, debT.map (Value.int .u8)) ∈ g) {a b : D2} (h : GoodS a b) {p : Int} (hp : 1 ≤ p ∧ p ≤ 70000) : FC Tryz.prog g 91 [SP a b, .val (.int .i64 p)] (· = thinS a b p) := by
  have f0 := p_check1g (G := g) h hp
  have f1 := p_cmp (G := g) h.1 h.2.1
  have f2 := p_Sign (G := g) h
  have sa := D2.sgn a
  have sb := D2.sgn b
  have hab := h.2.2
  unfold thinS
  by_cases hs : a = b
  · rw [if_pos hs]
    have hc : cmpV a.1 a.2 b.1 b.2 = 0 := by unfold cmpV; rw [hs, if_neg (by omega), if_neg (by omega)]
    rw [hc] at f1
    clear hc hs sa sb hab
    refine ax_i Tryz.func91 Tryz.ntmps91 ?_; intro F hG hO
    rw [← hG] at f0 f1
    repeat' ((try (conv => whnf)); first
 | refine ce f0 ?_ | refine ce f1 ?_
 | with_reducible first | refine ax_s ?_ | (refine ax_f ?_ ?_ <;> try intro hc) | fail)
    all_goals exact ⟨ret_e rfl⟩
  · rw [if_neg hs]
    have hlt : a.v < b.v := by
      rcases Int.lt_or_eq_of_le hab with z | z
      · exact z
      · exact absurd (D2.eq h.1 h.2.1 z) hs
    have hc : cmpV a.1 a.2 b.1 b.2 = -1 := by unfold cmpV; rw [if_pos (show VV a.1 a.2 < VV b.1 b.2 from hlt)]
    rw [hc] at f1
    clear hc hs
    by_cases hz : ¬ 0 < a.1 ∧ ¬ b.1 < 0
    · rw [if_pos hz]
      rw [if_neg hz.2, if_neg hz.1] at f2
      clear sa sb hab hlt hz
      refine ax_i Tryz.func91 Tryz.ntmps91 ?_; intro F hG hO
      rw [← hG] at f0 f1 f2
      repeat' ((try (conv => whnf)); first
 | refine ce f0 ?_ | refine ce f1 ?_ | refine ce f2 ?_
 | with_reducible first | refine ax_s ?_ | (refine ax_f ?_ ?_ <;> try intro hc) | fail)
      all_goals exact ⟨ret_e rfl⟩
    · rw [if_neg hz]
      have f3 := y_subP hD h.2.1 h.1
      obtain ⟨_, gu, cu⟩ := (add_ans h.2.1 (D2.neg_good h.1)).eq
      have hV := add_V h.2.1 (D2.neg_good h.1)
      rw [D2.neg_v] at hV
      obtain ⟨u, hu⟩ : ∃ u, u = toAn (addP b a.neg) := ⟨_, rfl⟩
      rw [← hu] at f3 gu cu hV ⊢
      clear hu
      by_cases hc : u.c = 0
      · rw [if_neg (by omega)]
        have hV := hV hc
        have su := D2.sgn u.d
        have un : u.d.1 ≠ 0 := by omega
        rw [hc] at f3
        replace gu : u.d.good := gu
        by_cases hB : b.1 < 0
        · rw [if_pos hB] at f2
          have nn : b.1 ≠ 0 := by omega
          have hmn : (if b.1 < 0 then -b.v else b.v) ≤ (if a.1 < 0 then -a.v else a.v) := by rw [if_pos hB, if_pos (by omega)]; omega
          clear su hV sa sb hab hlt hz cu
          have f5 := p_unit (G := g) (a := u.d) gu un
          have f6 := p_unit (G := g) h.2.1 nn
          have hm : (amV u.d a p && amV u.d b p) = amV u.d b p := by
            cases hq : amV u.d b p with
            | true =>
              have := am_mono (w := u.d) (u := b) (v := a) gu h.2.1 h.1 (by omega) hmn hq
              rw [this]; rfl
            | false => cases amV u.d a p <;> rfl
          rw [hm]
          by_cases hb : (bl u.d.1.natAbs : Int) + (u.d.2 + p) = (bl b.1.natAbs : Int) + b.2
          · rw [am_unit (w := u.d) gu h.2.1 hb]
            have f7 := p_cmp (G := g) (a := ((u.d.1.natAbs : Int), 1 - (bl u.d.1.natAbs : Int))) (b := ((b.1.natAbs : Int), 1 - (bl b.1.natAbs : Int))) ((unit_good (a := u.d) gu).resolve_right un) ((unit_good h.2.1).resolve_right nn)
            dsimp only at f7
            rw [DY_nat, DY_nat] at f7
            obtain ⟨z, hz⟩ : ∃ z, z = cmpV (u.d.1.natAbs : Int) (1 - (bl u.d.1.natAbs : Int)) (b.1.natAbs : Int) (1 - (bl b.1.natAbs : Int)) := ⟨_, rfl⟩
            rw [← hz] at f7 ⊢
            have ht : topN u.d.1 u.d.2 + p = topN b.1 b.2 := by unfold topN; omega
            clear hz hm hmn hb
            obtain ⟨tu, htu⟩ : ∃ t, t = topN u.d.1 u.d.2 := ⟨_, rfl⟩
            obtain ⟨tn, htn⟩ : ∃ t, t = topN b.1 b.2 := ⟨_, rfl⟩
            have bu : -1048576 ≤ tu ∧ tu ≤ 2097152 := by rw [htu]; unfold topN; have := Good.bl gu; have := gu.2.1; have := gu.2.2.1; have := bl_pos (n := u.d.1.natAbs) (by omega); dsimp only [An.d] at *; omega
            have bn : -1048576 ≤ tn ∧ tn ≤ 2097152 := by rw [htn]; unfold topN; have := Good.bl h.2.1; have := h.2.1.2.1; have := h.2.1.2.2.1; have := bl_pos (n := b.1.natAbs) (by omega); omega
            rw [← htu, ← htn] at ht
            rw [← htu] at f5
            rw [← htn] at f6
            clear htu htn gu un nn
            refine ax_i Tryz.func91 Tryz.ntmps91 ?_; intro F hG hO
            rw [← hG] at f0 f1 f2 f3 f5 f6 f7
            repeat' ((try (conv => whnf)); first
 | refine ce f0 ?_ | refine ce f1 ?_ | refine ce f2 ?_ | refine ce f3 ?_ | refine ce f5 ?_ | refine ce f6 ?_ | refine ce f7 ?_
 | with_reducible first | refine ax_s ?_ | (refine ax_f ?_ ?_ <;> try intro hc) | fail)
            all_goals exact ⟨ret_e rfl⟩
          · rw [am_bits (w := u.d) un nn hb]
            have ht : topN u.d.1 u.d.2 + p ≠ topN b.1 b.2 := by unfold topN; omega
            have hd : decide ((bl u.d.1.natAbs : Int) + (u.d.2 + p) < (bl b.1.natAbs : Int) + b.2) = decide (topN u.d.1 u.d.2 + p < topN b.1 b.2) := decide_eq_decide.2 (by unfold topN; omega)
            rw [hd]
            clear hd hb hm hmn
            obtain ⟨tu, htu⟩ : ∃ t, t = topN u.d.1 u.d.2 := ⟨_, rfl⟩
            obtain ⟨tn, htn⟩ : ∃ t, t = topN b.1 b.2 := ⟨_, rfl⟩
            have bu : -1048576 ≤ tu ∧ tu ≤ 2097152 := by rw [htu]; unfold topN; have := Good.bl gu; have := gu.2.1; have := gu.2.2.1; have := bl_pos (n := u.d.1.natAbs) (by omega); dsimp only [An.d] at *; omega
            have bn : -1048576 ≤ tn ∧ tn ≤ 2097152 := by rw [htn]; unfold topN; have := Good.bl h.2.1; have := h.2.1.2.1; have := h.2.1.2.2.1; have := bl_pos (n := b.1.natAbs) (by omega); omega
            rw [← htu, ← htn] at ht ⊢
            rw [← htu] at f5
            rw [← htn] at f6
            clear htu htn gu un nn
            refine ax_i Tryz.func91 Tryz.ntmps91 ?_; intro F hG hO
            rw [← hG] at f0 f1 f2 f3 f5 f6
            repeat' ((try (conv => whnf)); first
 | refine ce f0 ?_ | refine ce f1 ?_ | refine ce f2 ?_ | refine ce f3 ?_ | refine ce f5 ?_ | refine ce f6 ?_
 | with_reducible first | refine ax_s ?_ | (refine ax_f ?_ ?_ <;> try intro hc) | fail)
            all_goals exact ⟨ret_e rfl⟩
        · have hA : 0 < a.1 := by omega
          rw [if_neg hB, if_pos hA] at f2
          have nn : a.1 ≠ 0 := by omega
          have hmn : (if a.1 < 0 then -a.v else a.v) ≤ (if b.1 < 0 then -b.v else b.v) := by rw [if_neg (by omega), if_neg (by omega)]; omega
          clear su hV sa sb hab hlt hz cu
          have f5 := p_unit (G := g) (a := u.d) gu un
          have f6 := p_unit (G := g) h.1 nn
          have hm : (amV u.d a p && amV u.d b p) = amV u.d a p := by
            cases hq : amV u.d a p with
            | true =>
              have := am_mono (w := u.d) (u := a) (v := b) gu h.1 h.2.1 (by omega) hmn hq
              rw [this]; rfl
            | false => cases amV u.d b p <;> rfl
          rw [hm]
          by_cases hb : (bl u.d.1.natAbs : Int) + (u.d.2 + p) = (bl a.1.natAbs : Int) + a.2
          · rw [am_unit (w := u.d) gu h.1 hb]
            have f7 := p_cmp (G := g) (a := ((u.d.1.natAbs : Int), 1 - (bl u.d.1.natAbs : Int))) (b := ((a.1.natAbs : Int), 1 - (bl a.1.natAbs : Int))) ((unit_good (a := u.d) gu).resolve_right un) ((unit_good h.1).resolve_right nn)
            dsimp only at f7
            rw [DY_nat, DY_nat] at f7
            obtain ⟨z, hz⟩ : ∃ z, z = cmpV (u.d.1.natAbs : Int) (1 - (bl u.d.1.natAbs : Int)) (a.1.natAbs : Int) (1 - (bl a.1.natAbs : Int)) := ⟨_, rfl⟩
            rw [← hz] at f7 ⊢
            have ht : topN u.d.1 u.d.2 + p = topN a.1 a.2 := by unfold topN; omega
            clear hz hm hmn hb
            obtain ⟨tu, htu⟩ : ∃ t, t = topN u.d.1 u.d.2 := ⟨_, rfl⟩
            obtain ⟨tn, htn⟩ : ∃ t, t = topN a.1 a.2 := ⟨_, rfl⟩
            have bu : -1048576 ≤ tu ∧ tu ≤ 2097152 := by rw [htu]; unfold topN; have := Good.bl gu; have := gu.2.1; have := gu.2.2.1; have := bl_pos (n := u.d.1.natAbs) (by omega); dsimp only [An.d] at *; omega
            have bn : -1048576 ≤ tn ∧ tn ≤ 2097152 := by rw [htn]; unfold topN; have := Good.bl h.1; have := h.1.2.1; have := h.1.2.2.1; have := bl_pos (n := a.1.natAbs) (by omega); omega
            rw [← htu, ← htn] at ht
            rw [← htu] at f5
            rw [← htn] at f6
            clear htu htn gu un nn
            refine ax_i Tryz.func91 Tryz.ntmps91 ?_; intro F hG hO
            rw [← hG] at f0 f1 f2 f3 f5 f6 f7
            repeat' ((try (conv => whnf)); first
 | refine ce f0 ?_ | refine ce f1 ?_ | refine ce f2 ?_ | refine ce f3 ?_ | refine ce f5 ?_ | refine ce f6 ?_ | refine ce f7 ?_
 | with_reducible first | refine ax_s ?_ | (refine ax_f ?_ ?_ <;> try intro hc) | fail)
            all_goals exact ⟨ret_e rfl⟩
          · rw [am_bits (w := u.d) un nn hb]
            have ht : topN u.d.1 u.d.2 + p ≠ topN a.1 a.2 := by unfold topN; omega
            have hd : decide ((bl u.d.1.natAbs : Int) + (u.d.2 + p) < (bl a.1.natAbs : Int) + a.2) = decide (topN u.d.1 u.d.2 + p < topN a.1 a.2) := decide_eq_decide.2 (by unfold topN; omega)
            rw [hd]
            clear hd hb hm hmn
            obtain ⟨tu, htu⟩ : ∃ t, t = topN u.d.1 u.d.2 := ⟨_, rfl⟩
            obtain ⟨tn, htn⟩ : ∃ t, t = topN a.1 a.2 := ⟨_, rfl⟩
            have bu : -1048576 ≤ tu ∧ tu ≤ 2097152 := by rw [htu]; unfold topN; have := Good.bl gu; have := gu.2.1; have := gu.2.2.1; have := bl_pos (n := u.d.1.natAbs) (by omega); dsimp only [An.d] at *; omega
            have bn : -1048576 ≤ tn ∧ tn ≤ 2097152 := by rw [htn]; unfold topN; have := Good.bl h.1; have := h.1.2.1; have := h.1.2.2.1; have := bl_pos (n := a.1.natAbs) (by omega); omega
            rw [← htu, ← htn] at ht ⊢
            rw [← htu] at f5
            rw [← htn] at f6
            clear htu htn gu un nn
            refine ax_i Tryz.func91 Tryz.ntmps91 ?_; intro F hG hO
            rw [← hG] at f0 f1 f2 f3 f5 f6
            repeat' ((try (conv => whnf)); first
 | refine ce f0 ?_ | refine ce f1 ?_ | refine ce f2 ?_ | refine ce f3 ?_ | refine ce f5 ?_ | refine ce f6 ?_
 | with_reducible first | refine ax_s ?_ | (refine ax_f ?_ ?_ <;> try intro hc) | fail)
            all_goals exact ⟨ret_e rfl⟩
      · rw [if_pos hc]
        have hc5 : u.c = 5 := by omega
        rw [hc5] at f3
        clear hV gu cu
        by_cases hB : b.1 < 0
        · rw [if_pos hB] at f2
          clear sa sb hab hlt hz
          refine ax_i Tryz.func91 Tryz.ntmps91 ?_; intro F hG hO
          rw [← hG] at f0 f1 f2 f3
          repeat' ((try (conv => whnf)); first
 | refine ce f0 ?_ | refine ce f1 ?_ | refine ce f2 ?_ | refine ce f3 ?_
 | with_reducible first | refine ax_s ?_ | (refine ax_f ?_ ?_ <;> try intro hc) | fail)
          all_goals exact ⟨ret_e rfl⟩
        · have hA : 0 < a.1 := by omega
          rw [if_neg hB, if_pos hA] at f2
          clear sa sb hab hlt hz
          refine ax_i Tryz.func91 Tryz.ntmps91 ?_; intro F hG hO
          rw [← hG] at f0 f1 f2 f3
          repeat' ((try (conv => whnf)); first
 | refine ce f0 ?_ | refine ce f1 ?_ | refine ce f2 ?_ | refine ce f3 ?_
 | with_reducible first | refine ax_s ?_ | (refine ax_f ?_ ?_ <;> try intro hc) | fail)
          all_goals exact ⟨ret_e rfl⟩
end Go.Proofs.YtpjbgmafnheomaaGreatDoor.Sim
