/-
  What the statement SpanHoldsCardSaid leans on, part 11: the logic of walks, digits, contracts of the functions, the plain law. Conditions stand in each theorem.
-/
import Derived.Test.YtpjbgmafnheomaaGreatDoorPkSpanHoldsCardSaidJ
namespace Go.Proofs.YtpjbgmafnheomaaGreatDoor.Sim
open Go.RowKit
set_option linter.unusedVariables false
set_option linter.unusedSimpArgs false
set_option maxRecDepth 10000
set_option maxHeartbeats 8000000
variable {G : List (Nat × List Value)}
theorem shlT_nat {X : Nat} {k : Int} (hk : 0 ≤ k) (h : (bl X : Int) + k ≤ 524288) : shlT X k = natR (X * 2 ^ k.toNat) := by
  by_cases h0 : X = 0
  · rw [shlT_0 (by omega) h0, h0, Nat.zero_mul]
    unfold natE natR
    rw [d64_0]
  · rw [shlT_ok (by omega) h0 (by omega), natT_ok]
    rw [L64_bl, bl_mul_pow X k.toNat h0]
    omega
theorem NI_sg {b : Bool} {M : Nat} (h : b = true → M ≠ 0) : NI (sg b M) = .agg [.val (.bool b), .ws .u64 (d64 M)] := by
  unfold NI
  rw [sg_abs]
  have : decide (sg b M < 0) = b := by
    cases b
    · simp only [sg]; exact decide_eq_false (by omega)
    · have := h rfl
      simp only [sg]; exact decide_eq_true (by omega)
  rw [this]; rfl
theorem bl_succ (n : Nat) : bl (n + 1) ≤ bl n + 1 := bl_le (by have := lt_bl n; have : 0 < 2 ^ bl n := Nat.pow_pos (by decide); rw [Nat.pow_succ]; omega)
theorem bl_div (x d : Nat) : bl (x / d) ≤ bl x := bl_mono (Nat.div_le_self _ _)
theorem y_quotient {g : List (Nat × List Value)} (hD : (0, debT.map (Value.int .u8)) ∈ g) {n e m f : Int} (p : Int) (up : Bool) (h : Good n e) (k : Good m f) (hp : inR .i64 p) : FC Tryz.prog g 96 [DY n e, DY m f, .val (.int .i64 p), .val (.bool up)] (· = quoS n e m f p up) := by
  dsimp only [inR] at hp
  have f0 := y_precise (G := g) p
  have f1 := y_form (G := g) h
  have f2 := y_form (G := g) k
  have f3 := y_noughtg (G := g) m f
  have hlx : (d64 n.natAbs).length = L64 n.natAbs := rfl
  have hly : (d64 m.natAbs).length = L64 m.natAbs := rfl
  by_cases hp2 : 1 ≤ p ∧ p ≤ 70000
  rotate_left
  · rw [show (decide (1 ≤ p) && decide (p ≤ 70000)) = false by
      rw [← Bool.not_eq_true, Bool.and_eq_true, decide_eq_true_eq, decide_eq_true_eq]; exact hp2] at f0
    rw [quoS_1 (by omega)]
    refine ax_i Tryz.func96 Tryz.ntmps96 (by rw [Tryz.results96]) ?_; intro F hG hO
    rw [← hG] at f0
    repeat' ((try (conv => whnf)); first
  | ((with_reducible refine cg ?_); first | refine ceq f0 rfl ?_)
  
  | (with_reducible refine draw_g (id := 9) [[0, 1, 2, 3, 4, 7, 8, 9, 5, 6, 10, 11, 12, 13]] tok mixed (by kernel_rfl) ?_)
  | with_reducible first | refine ax_s ?_ | refine BothG.mk ?_ ?_ | (refine ax_f ?_ ?_ <;> intro hc) | refine smk ?_ | fail)
    exact ⟨ret_l _ (lp_dyE 1) rfl⟩
  rw [show (decide (1 ≤ p) && decide (p ≤ 70000)) = true by
    rw [Bool.and_eq_true, decide_eq_true_eq, decide_eq_true_eq]; exact hp2] at f0
  by_cases hm : m = 0
  · rw [quoS_4 hp2 hm]
    rw [decide_eq_true hm] at f3
    refine ax_i Tryz.func96 Tryz.ntmps96 (by rw [Tryz.results96]) ?_; intro F hG hO
    rw [← hG] at f0 f1 f2 f3
    repeat' ((try (conv => whnf)); first
  | ((with_reducible refine cg ?_); first | refine ceq f0 rfl ?_ | refine ceq f1 rfl ?_ | refine ceq f2 rfl ?_ | refine ceq f3 rfl ?_)
  
  | (with_reducible refine draw_g (id := 9) [[0, 1, 2, 3, 4, 7, 8, 9, 5, 6, 10, 11, 12, 13]] tok mixed (by kernel_rfl) ?_)
  | with_reducible first | refine ax_s ?_ | refine BothG.mk ?_ ?_ | (refine ax_f ?_ ?_ <;> intro hc) | refine smk ?_ | fail)
    exact ⟨ret_l _ (lp_dyE 4) rfl⟩
  rw [decide_eq_false hm] at f3
  by_cases hl : L64 n.natAbs ≤ 4096 ∧ L64 m.natAbs ≤ 4096
  rotate_left
  · rw [quoS_5 hp2 hm (by omega)]
    refine ax_i Tryz.func96 Tryz.ntmps96 (by rw [Tryz.results96]) ?_; intro F hG hO
    rw [← hG] at f0 f1 f2 f3
    repeat' ((try (conv => whnf)); first
  | ((with_reducible refine cg ?_); first | refine ceq f0 rfl ?_ | refine ceq f1 rfl ?_ | refine ceq f2 rfl ?_ | refine ceq f3 rfl ?_)
  
  | (with_reducible refine draw_g (id := 9) [[0, 1, 2, 3, 4, 7, 8, 9, 5, 6, 10, 11, 12, 13]] tok mixed (by kernel_rfl) ?_)
  | with_reducible first | refine ax_s ?_ | refine BothG.mk ?_ ?_ | (refine ax_f ?_ ?_ <;> intro hc) | refine smk ?_ | fail)
    all_goals exact ⟨ret_l _ (lp_dyE 5) rfl⟩
  have b1 := bl_L64 n.natAbs
  have b2 := bl_L64 m.natAbs
  have e1 := h.2.1
  have e2 := h.2.2.1
  have e3 := k.2.1
  have e4 := k.2.2.1
  rw [quoS_ok hp2 hm hl.1 hl.2, ← quo_code up hp2 hm (by omega) (by omega) ⟨e1, e2⟩ ⟨e3, e4⟩]
  obtain ⟨K, hK⟩ : ∃ K, K = quoK n m p 2 := ⟨_, rfl⟩
  have hK2 : K = max 0 (p + 2 + bl m.natAbs - bl n.natAbs) := hK
  rw [← hK]
  have hm0 : m.natAbs ≠ 0 := by omega
  obtain ⟨x, hx⟩ : ∃ x, x = n.natAbs * 2 ^ K.toNat := ⟨_, rfl⟩
  have hbx : bl x ≤ 400000 := by
    by_cases h0 : n.natAbs = 0
    · rw [hx, h0, Nat.zero_mul, bl_zero]; omega
    · rw [hx, bl_mul_pow _ _ h0]; omega
  have f4 := n_bits (G := g) n.natAbs (by omega)
  have f5 := n_bits (G := g) m.natAbs (by omega)
  have f6 := n_shl (G := g) n.natAbs K (by omega) (by dsimp only [inR]; omega)
  rw [shlT_nat (by omega) (by omega), ← hx] at f6
  have hxl : L64 x ≤ 8192 := by rw [L64_bl]; omega
  have f7 := d_quorem (G := g) x m.natAbs hxl (by omega) hm0
  have hbq := bl_div x m.natAbs
  obtain ⟨Q, hQ⟩ : ∃ Q, Q = x / m.natAbs := ⟨_, rfl⟩
  obtain ⟨R, hR⟩ : ∃ R, R = x % m.natAbs := ⟨_, rfl⟩
  have hst : stk x m.natAbs = 2 * Q + (if R = 0 then 0 else 1) := by rw [hQ, hR]; rfl
  rw [← hQ, ← hR] at f7
  rw [← hQ] at hbq
  rw [← hx, hst]
  have hQl : L64 Q ≤ 8192 := by rw [L64_bl]; omega
  have f8 := n_shl (G := g) Q 1 hQl (by dsimp only [inR]; omega)
  rw [shlT_nat (by decide) (by omega), show (1 : Int).toNat = 1 from rfl, Nat.pow_one, Nat.mul_comm] at f8
  have hlr := len64_pos R
  have hlR : (d64 R).length = L64 R := rfl
  have hb2 : bl (2 * Q) ≤ 400001 := by
    by_cases h0 : Q = 0
    · rw [h0]; decide
    · have := bl_mul_pow Q 1 h0
      rw [Nat.pow_one, Nat.mul_comm] at this
      omega
  have h2l : L64 (2 * Q) ≤ 8192 := by rw [L64_bl]; omega
  have hb3 : bl (2 * Q + 1) ≤ 400002 := by have := bl_succ (2 * Q); omega
  have h3l : L64 (2 * Q + 1) ≤ 8192 := by rw [L64_bl]; omega
  have f9 := n_word (G := g) 1 (by decide)
  have f10 := n_add (G := g) (2 * Q) 1 h2l (Nat.le_trans (L64_le (n := 1) (by decide)) (by decide))
  rw [natT_ok h3l] at f10
  obtain ⟨s1, hs1⟩ : ∃ b, b = decide (n < 0) := ⟨_, rfl⟩
  obtain ⟨s2, hs2⟩ : ∃ b, b = decide (m < 0) := ⟨_, rfl⟩
  obtain ⟨M, hM⟩ : ∃ M, M = 2 * Q + (if R = 0 then 0 else 1) := ⟨_, rfl⟩
  have hMl : L64 M ≤ 8192 := by
    rw [hM]
    split
    · exact h2l
    · exact h3l
  have hlM := len64_pos M
  have hlM2 : (d64 M).length = L64 M := rfl
  rw [← hM]
  have f11 := y_short hD (sg (s1 != s2) M) (e - f - K - 1) p up (by rw [sg_abs]; exact hMl) (by omega) (by omega)
  obtain ⟨y, z, c, hr, hgd, hcc⟩ := cut_form (sg (s1 != s2) M) (e - f - K - 1) p up
  rw [hr] at f11
  rw [← hs1, ← hs2, hr]
  unfold DY at f1 f2 f3
  unfold DY
  rw [← hs1] at f1
  rw [← hs2] at f2 f3
  rw [← hs1, ← hs2]
  have f12 : Unit → ((s1 != s2) = true → M ≠ 0) → FC Tryz.prog g 144 [.agg [.val (.bool (s1 != s2)), .ws .u64 (d64 M)], .val (.int .i64 (e - f - K - 1)), .val (.int .i64 p), .val (.bool up)] (· = .tup [DY y z, .val (.int .i64 c)]) := fun _ hh => by rw [← NI_sg hh]; exact f11
  have f13 : Unit → M = 0 → FC Tryz.prog g 144 [.agg [.val (.bool false), .ws .u64 (d64 M)], .val (.int .i64 (e - f - K - 1)), .val (.int .i64 p), .val (.bool up)] (· = .tup [DY y z, .val (.int .i64 c)]) := fun _ hh => by
    have e0 : sg (s1 != s2) M = sg false M := by rw [hh]; cases (s1 != s2) <;> rfl
    rw [← NI_sg (b := false) (fun h => by cases h), ← e0]
    exact f11
  have f14 : Unit → (s1 != s2) = true → FC Tryz.prog g 144 [.agg [.val (.bool (decide ((0 : Int) < ((d64 M).length : Int)))), .ws .u64 (d64 M)], .val (.int .i64 (e - f - K - 1)), .val (.int .i64 p), .val (.bool up)] (· = .tup [DY y z, .val (.int .i64 c)]) := fun _ hh => by
    by_cases hM0 : M = 0
    · rw [decide_eq_false (show ¬ (0 : Int) < ((d64 M).length : Int) by omega)]
      exact f13 () hM0
    · rw [decide_eq_true (show (0 : Int) < ((d64 M).length : Int) by omega)]
      have := f12 () (fun _ => hM0)
      rw [hh] at this
      exact this
  unfold DY at f12 f13 f14
  by_cases hR0 : R = 0
  · rw [if_pos hR0, Nat.add_zero] at hM
    rw [← hM] at f8
    cases s1 <;> cases s2
    all_goals
      refine ax_i Tryz.func96 Tryz.ntmps96 (by rw [Tryz.results96]) ?_; intro F hG hO
      rw [← hG] at f0 f1 f2 f3 f4 f5 f6 f7 f8 f12 f13 f14
      repeat' ((try (conv => whnf)); first
  | ((with_reducible refine cg ?_); first | refine ceq f0 rfl ?_ | refine ceq f1 rfl ?_ | refine ceq f2 rfl ?_ | refine ceq f3 rfl ?_ | refine ceq f4 rfl ?_ | refine ceq f5 rfl ?_)
  | ((with_reducible refine cg ?_); rw [← hK2]; refine call_eq f6 (LpL.refl _) rfl ?_)
  | ((with_reducible refine cg ?_); first | refine ceq f7 rfl ?_ | refine ceq f8 rfl ?_)
  | ((with_reducible refine cg ?_); refine call_eq (f14 () rfl) (LpL.refl _) rfl ?_)
  | ((with_reducible refine cg ?_); refine call_eq (f12 () (fun h => absurd h (by decide))) (LpL.refl _) rfl ?_)
  
  | (with_reducible refine draw_g (id := 9) [[0, 1, 2, 3, 4, 7, 8, 9, 5, 6, 10, 11, 12, 13]] tok mixed (by kernel_rfl) ?_)
  | with_reducible first | refine ax_s ?_ | refine BothG.mk ?_ ?_ | (refine ax_f ?_ ?_ <;> intro hc) | refine smk ?_ | fail)
      all_goals exact ⟨ret_e rfl⟩
  · rw [if_neg hR0] at hM
    rw [← hM] at f10
    cases s1 <;> cases s2
    all_goals
      refine ax_i Tryz.func96 Tryz.ntmps96 (by rw [Tryz.results96]) ?_; intro F hG hO
      rw [← hG] at f0 f1 f2 f3 f4 f5 f6 f7 f8 f9 f10 f12 f14
      repeat' ((try (conv => whnf)); first
  | ((with_reducible refine cg ?_); first | refine ceq f0 rfl ?_ | refine ceq f1 rfl ?_ | refine ceq f2 rfl ?_ | refine ceq f3 rfl ?_ | refine ceq f4 rfl ?_ | refine ceq f5 rfl ?_)
  | ((with_reducible refine cg ?_); rw [← hK2]; refine call_eq f6 (LpL.refl _) rfl ?_)
  | ((with_reducible refine cg ?_); first | refine ceq f7 rfl ?_ | refine ceq f8 rfl ?_ | refine ceq f9 rfl ?_ | refine ceq f10 rfl ?_)
  | ((with_reducible refine cg ?_); refine call_eq (f14 () rfl) (LpL.refl _) rfl ?_)
  | ((with_reducible refine cg ?_); refine call_eq (f12 () (fun h => absurd h (by decide))) (LpL.refl _) rfl ?_)
  
  | (with_reducible refine draw_g (id := 9) [[0, 1, 2, 3, 4, 7, 8, 9, 5, 6, 10, 11, 12, 13]] tok mixed (by kernel_rfl) ?_)
  | with_reducible first | refine ax_s ?_ | refine BothG.mk ?_ ?_ | (refine ax_f ?_ ?_ <;> intro hc) | refine smk ?_ | fail)
      all_goals exact ⟨ret_e rfl⟩
theorem y_quodown {g : List (Nat × List Value)} (hD : (0, debT.map (Value.int .u8)) ∈ g) {n e m f : Int} (p : Int) (h : Good n e) (k : Good m f) (hp : inR .i64 p) : FC Tryz.prog g 56 [DY n e, DY m f, .val (.int .i64 p)] (· = quoS n e m f p false) := by
  have f1 := y_quotient hD p false h k hp
  obtain ⟨x, y, c, hr, hgd⟩ := quo_form n e m f p false
  rw [hr] at f1 ⊢
  refine ax_i Tryz.func56 Tryz.ntmps56 (by rw [Tryz.results56]) ?_; intro F hG hO
  rw [← hG] at f1
  repeat' ((try (conv => whnf)); first
  | ((with_reducible refine cg ?_); first | refine ceq f1 rfl ?_)
  
  | with_reducible first | refine ax_s ?_ | refine BothG.mk ?_ ?_ | (refine ax_f ?_ ?_ <;> intro hc) | refine smk ?_ | fail)
  exact ⟨ret_e rfl⟩
theorem y_quoup {g : List (Nat × List Value)} (hD : (0, debT.map (Value.int .u8)) ∈ g) {n e m f : Int} (p : Int) (h : Good n e) (k : Good m f) (hp : inR .i64 p) : FC Tryz.prog g 57 [DY n e, DY m f, .val (.int .i64 p)] (· = quoS n e m f p true) := by
  have f1 := y_quotient hD p true h k hp
  obtain ⟨x, y, c, hr, hgd⟩ := quo_form n e m f p true
  rw [hr] at f1 ⊢
  refine ax_i Tryz.func57 Tryz.ntmps57 (by rw [Tryz.results57]) ?_; intro F hG hO
  rw [← hG] at f1
  repeat' ((try (conv => whnf)); first
  | ((with_reducible refine cg ?_); first | refine ceq f1 rfl ?_)
  
  | with_reducible first | refine ax_s ?_ | refine BothG.mk ?_ ?_ | (refine ax_f ?_ ?_ <;> intro hc) | refine smk ?_ | fail)
  exact ⟨ret_e rfl⟩
theorem precise_no {p : Int} (h : ¬ (1 ≤ p ∧ p ≤ 70000)) : (decide (1 ≤ p) && decide (p ≤ 70000)) = false := by
  rw [← Bool.not_eq_true, Bool.and_eq_true, decide_eq_true_eq, decide_eq_true_eq]; exact h
theorem lp_sp0 : Lp (.agg [.val (.bool false), .nil, .val (.int .i64 0), .val (.bool false), .nil, .val (.int .i64 0)]) (SP (0, 0) (0, 0)) := by
  have e : SP (0, 0) (0, 0) = .agg [.val (.bool false), .ws .u64 [], .val (.int .i64 0), .val (.bool false), .ws .u64 [], .val (.int .i64 0)] := by
    unfold SP
    rw [show d64 (Int.natAbs ((0, 0) : D2).1) = [] from d64_0]
    rfl
  rw [e]
  exact .agg (.cons (.refl _) (.cons (.nil _) (.cons (.refl _) (.cons (.refl _) (.cons (.nil _) (.cons (.refl _) .nil))))))
theorem lp_spE (c : Int) : Lp (.tup [.agg [.val (.bool false), .nil, .val (.int .i64 0), .val (.bool false), .nil, .val (.int .i64 0)], .val (.int .i64 c)]) (spE c) := .tup (.cons lp_sp0 (.cons (.refl _) .nil))
theorem p_cmp {a b : D2} (h : a.good) (g : b.good) : FC Tryz.prog G 70 [DY a.1 a.2, DY b.1 b.2] (· = .val (.int .i64 (cmpV a.1 a.2 b.1 b.2))) := by
  have f1 := y_cmp (G := G) h g
  rw [cmp_V h g] at f1
  refine ax_i Tryz.func70 Tryz.ntmps70 (by rw [Tryz.results70]) ?_; intro F hG hO
  rw [← hG] at f1
  repeat' ((try (conv => whnf)); first
  | ((with_reducible refine cg ?_); first | refine ceq f1 rfl ?_)
  
  | with_reducible first | refine ax_s ?_ | refine BothG.mk ?_ ?_ | (refine ax_f ?_ ?_ <;> intro hc) | refine smk ?_ | fail)
  exact ⟨ret_e rfl⟩
theorem cmpV_0 (n e : Int) : cmpV n e 0 0 = n.sign := by
  have h := VV_sign (n := n) (e := e)
  have h0 := VV_zero 0
  unfold cmpV
  rcases Int.lt_trichotomy n 0 with hn | hn | hn
  · rw [if_pos (by omega), Int.sign_eq_neg_one_of_neg hn]
  · rw [if_neg (by omega), if_neg (by omega), hn]; rfl
  · rw [if_neg (by omega), if_pos (by omega), Int.sign_eq_one_of_pos hn]
theorem p_sign {a : D2} (h : a.good) : FC Tryz.prog G 55 [DY a.1 a.2] (· = .val (.int .i64 a.1.sign)) := by
  have f1 := p_cmp (G := G) (b := (0, 0)) h Good.zero
  rw [cmpV_0] at f1
  refine ax_i Tryz.func55 Tryz.ntmps55 (by rw [Tryz.results55]) ?_; intro F hG hO
  rw [← hG] at f1
  repeat' ((try (conv => whnf)); first
  | ((with_reducible refine cg ?_); refine call_eq f1 (.cons (.refl _) (.cons lp_dy0 .nil)) rfl ?_)
  
  | with_reducible first | refine ax_s ?_ | refine BothG.mk ?_ ?_ | (refine ax_f ?_ ?_ <;> intro hc) | refine smk ?_ | fail)
  exact ⟨ret_e rfl⟩
theorem q_below {a b : D2} (h : a.good) (g : b.good) : FC Tryz.prog G 65 [DY a.1 a.2, DY b.1 b.2] (· = .val (.bool (decide (a.v < b.v)))) := by
  have f1 := r_doccmp (G := G) h g
  rw [cmp_V h g] at f1
  have hc := cmpV_neg (n := a.1) (e := a.2) (m := b.1) (f := b.2)
  refine ax_i Tryz.func65 Tryz.ntmps65 (by rw [Tryz.results65]) ?_; intro F hG hO
  rw [← hG] at f1
  repeat' ((try (conv => whnf)); first
  | ((with_reducible refine cg ?_); first | refine ceq f1 rfl ?_)
  
  | with_reducible first | refine ax_s ?_ | refine BothG.mk ?_ ?_ | (refine ax_f ?_ ?_ <;> intro hc) | refine smk ?_ | fail)
  exact ⟨ret_e (bv_eq (decide_eq_decide.2 hc))⟩
def sgv (b : Bool) (l : List Int) : Int := sg b (vl 18446744073709551616 l).toNat
def spF (b1 : Bool) (l1 : List Int) (e1 : Int) (b2 : Bool) (l2 : List Int) (e2 : Int) : Bool := dyF b1 l1 e1 && (dyF b2 l2 e2 && decide (VV (sgv b1 l1) e1 ≤ VV (sgv b2 l2) e2))
theorem dyF_ex2 {b : Bool} {l : List Int} {e : Int} (ok : okD 18446744073709551616 l) (h : dyF b l e = true) : ∃ n, Good n e ∧ b = decide (n < 0) ∧ l = d64 n.natAbs ∧ sgv b l = n := by
  obtain ⟨n, hg, hd⟩ := dyF_ex ok h
  unfold Dy DY at hd
  simp only [PV.agg.injEq, List.cons.injEq, PV.val.injEq, Value.bool.injEq, PV.ws.injEq, true_and, and_true] at hd
  refine ⟨n, hg, hd.1, hd.2, ?_⟩
  unfold sgv
  rw [hd.1, hd.2, vl_d64, sg_of]
theorem spF_ex {b1 : Bool} {l1 : List Int} {e1 : Int} {b2 : Bool} {l2 : List Int} {e2 : Int} (o1 : okD 18446744073709551616 l1) (o2 : okD 18446744073709551616 l2) (h : spF b1 l1 e1 b2 l2 e2 = true) : ∃ a b : D2, Sp b1 l1 e1 b2 l2 e2 = SP a b ∧ GoodS a b := by
  unfold spF at h
  simp only [Bool.and_eq_true, decide_eq_true_eq] at h
  obtain ⟨h1, h2, h3⟩ := h
  obtain ⟨n, g1, rfl, rfl, s1⟩ := dyF_ex2 o1 h1
  obtain ⟨m, g2, rfl, rfl, s2⟩ := dyF_ex2 o2 h2
  rw [s1, s2] at h3
  exact ⟨(n, e1), (m, e2), rfl, g1, g2, h3⟩
theorem p_form {a b : D2} (h : GoodS a b) : FC Tryz.prog G 66 [SP a b] (· = .val (.bool true)) := by
  obtain ⟨g1, g2, hv⟩ := h
  have f1 := y_form (G := G) g1
  have f2 := y_form (G := G) g2
  have f3 := p_cmp (G := G) g1 g2
  have hc := cmpV_pos (n := a.1) (e := a.2) (m := b.1) (f := b.2)
  have hle : cmpV a.1 a.2 b.1 b.2 ≤ 0 := by unfold D2.v at hv; omega
  refine ax_i Tryz.func66 Tryz.ntmps66 (by rw [Tryz.results66]) ?_; intro F hG hO
  rw [← hG] at f1 f2 f3
  repeat' ((try (conv => whnf)); first
  | ((with_reducible refine cg ?_); first | refine ceq f1 rfl ?_ | refine ceq f2 rfl ?_ | refine ceq f3 rfl ?_)
  
  | with_reducible first | refine ax_s ?_ | refine BothG.mk ?_ ?_ | (refine ax_f ?_ ?_ <;> intro hc) | refine smk ?_ | fail)
  exact ⟨ret_e (bv_eq (decide_eq_true hle))⟩
theorem p_formX (b1 : Bool) (l1 : List Int) (e1 : Int) (b2 : Bool) (l2 : List Int) (e2 : Int) (o1 : okD 18446744073709551616 l1) (o2 : okD 18446744073709551616 l2) : FC Tryz.prog G 66 [Sp b1 l1 e1 b2 l2 e2] (· = .val (.bool (spF b1 l1 e1 b2 l2 e2))) := by
  have hs : spF b1 l1 e1 b2 l2 e2 = (dyF b1 l1 e1 && (dyF b2 l2 e2 && decide (VV (sgv b1 l1) e1 ≤ VV (sgv b2 l2) e2))) := rfl
  cases h1 : dyF b1 l1 e1 with
  | false =>
    rw [hs, h1]
    have f1 := y_formN (G := G) b1 l1 e1 o1 h1
    refine ax_i Tryz.func66 Tryz.ntmps66 (by rw [Tryz.results66]) ?_; intro F hG hO
    rw [← hG] at f1
    repeat' ((try (conv => whnf)); first
  | ((with_reducible refine cg ?_); first | refine ceq f1 rfl ?_)
  
  | with_reducible first | refine ax_s ?_ | refine BothG.mk ?_ ?_ | (refine ax_f ?_ ?_ <;> intro hc) | refine smk ?_ | fail)
    exact ⟨ret_e rfl⟩
  | true =>
    obtain ⟨n, g1, rfl, rfl, s1⟩ := dyF_ex2 o1 h1
    have f1 := y_form (G := G) g1
    cases h2 : dyF b2 l2 e2 with
    | false =>
      rw [hs, h1, h2]
      have f2 := y_formN (G := G) b2 l2 e2 o2 h2
      refine ax_i Tryz.func66 Tryz.ntmps66 (by rw [Tryz.results66]) ?_; intro F hG hO
      rw [← hG] at f1 f2
      repeat' ((try (conv => whnf)); first
  | ((with_reducible refine cg ?_); first | refine ceq f1 rfl ?_ | refine ceq f2 rfl ?_)
  
  | with_reducible first | refine ax_s ?_ | refine BothG.mk ?_ ?_ | (refine ax_f ?_ ?_ <;> intro hc) | refine smk ?_ | fail)
      exact ⟨ret_e rfl⟩
    | true =>
      obtain ⟨m, g2, rfl, rfl, s2⟩ := dyF_ex2 o2 h2
      rw [hs, h1, h2, s1, s2]
      have f2 := y_form (G := G) g2
      have f3 := p_cmp (G := G) (a := (n, e1)) (b := (m, e2)) g1 g2
      have hc := cmpV_pos (n := n) (e := e1) (m := m) (f := e2)
      refine ax_i Tryz.func66 Tryz.ntmps66 (by rw [Tryz.results66]) ?_; intro F hG hO
      rw [← hG] at f1 f2 f3
      repeat' ((try (conv => whnf)); first
  | ((with_reducible refine cg ?_); first | refine ceq f1 rfl ?_ | refine ceq f2 rfl ?_ | refine ceq f3 rfl ?_)
  
  | with_reducible first | refine ax_s ?_ | refine BothG.mk ?_ ?_ | (refine ax_f ?_ ?_ <;> intro hc) | refine smk ?_ | fail)
      all_goals (refine ⟨ret_e (bv_eq ?_)⟩; simp only [Bool.true_and]; exact decide_eq_decide.2 (by omega))
theorem not_dec (x y : Int) : (!decide (x < y)) = (true && (true && decide (y ≤ x))) := by
  simp only [Bool.true_and]
  by_cases h : x < y
  · rw [decide_eq_true h, decide_eq_false (by omega)]; rfl
  · rw [decide_eq_false h, decide_eq_true (by omega)]; rfl
theorem q_form {a b : D2} (h : GoodS a b) : FC Tryz.prog G 20 [SP a b] (· = .val (.bool true)) := by
  obtain ⟨g1, g2, hv⟩ := h
  have f1 := r_formg (G := G) g1
  have f2 := r_formg (G := G) g2
  have f3 := q_below (G := G) g2 g1
  rw [decide_eq_false (by omega)] at f3
  refine ax_i Tryz.func20 Tryz.ntmps20 (by rw [Tryz.results20]) ?_; intro F hG hO
  rw [← hG] at f1 f2 f3
  repeat' ((try (conv => whnf)); first
  | ((with_reducible refine cg ?_); first | refine ceq f1 rfl ?_ | refine ceq f2 rfl ?_ | refine ceq f3 rfl ?_)
  
  | with_reducible first | refine ax_s ?_ | refine BothG.mk ?_ ?_ | (refine ax_f ?_ ?_ <;> intro hc) | refine smk ?_ | fail)
  exact ⟨ret_e rfl⟩
theorem q_formX (b1 : Bool) (l1 : List Int) (e1 : Int) (b2 : Bool) (l2 : List Int) (e2 : Int) (o1 : okD 18446744073709551616 l1) (o2 : okD 18446744073709551616 l2) : FC Tryz.prog G 20 [Sp b1 l1 e1 b2 l2 e2] (· = .val (.bool (spF b1 l1 e1 b2 l2 e2))) := by
  have hs : spF b1 l1 e1 b2 l2 e2 = (dyF b1 l1 e1 && (dyF b2 l2 e2 && decide (VV (sgv b1 l1) e1 ≤ VV (sgv b2 l2) e2))) := rfl
  cases h1 : dyF b1 l1 e1 with
  | false =>
    rw [hs, h1]
    have f1 := r_formN (G := G) b1 l1 e1 o1 h1
    refine ax_i Tryz.func20 Tryz.ntmps20 (by rw [Tryz.results20]) ?_; intro F hG hO
    rw [← hG] at f1
    repeat' ((try (conv => whnf)); first
  | ((with_reducible refine cg ?_); first | refine ceq f1 rfl ?_)
  
  | with_reducible first | refine ax_s ?_ | refine BothG.mk ?_ ?_ | (refine ax_f ?_ ?_ <;> intro hc) | refine smk ?_ | fail)
    exact ⟨ret_e rfl⟩
  | true =>
    obtain ⟨n, g1, rfl, rfl, s1⟩ := dyF_ex2 o1 h1
    have f1 := r_formg (G := G) g1
    cases h2 : dyF b2 l2 e2 with
    | false =>
      rw [hs, h1, h2]
      have f2 := r_formN (G := G) b2 l2 e2 o2 h2
      refine ax_i Tryz.func20 Tryz.ntmps20 (by rw [Tryz.results20]) ?_; intro F hG hO
      rw [← hG] at f1 f2
      repeat' ((try (conv => whnf)); first
  | ((with_reducible refine cg ?_); first | refine ceq f1 rfl ?_ | refine ceq f2 rfl ?_)
  
  | with_reducible first | refine ax_s ?_ | refine BothG.mk ?_ ?_ | (refine ax_f ?_ ?_ <;> intro hc) | refine smk ?_ | fail)
      exact ⟨ret_e rfl⟩
    | true =>
      obtain ⟨m, g2, rfl, rfl, s2⟩ := dyF_ex2 o2 h2
      rw [hs, h1, h2, s1, s2]
      have f2 := r_formg (G := G) g2
      have f3 := q_below (G := G) (a := (m, e2)) (b := (n, e1)) g2 g1
      refine ax_i Tryz.func20 Tryz.ntmps20 (by rw [Tryz.results20]) ?_; intro F hG hO
      rw [← hG] at f1 f2 f3
      repeat' ((try (conv => whnf)); first
  | ((with_reducible refine cg ?_); first | refine ceq f1 rfl ?_ | refine ceq f2 rfl ?_ | refine ceq f3 rfl ?_)
  
  | with_reducible first | refine ax_s ?_ | refine BothG.mk ?_ ?_ | (refine ax_f ?_ ?_ <;> intro hc) | refine smk ?_ | fail)
      all_goals (refine ⟨ret_e (bv_eq ?_)⟩; exact not_dec _ _)
def chkE (p : Int) (b : Bool) : Int := if p < 1 ∨ 70000 < p then 1 else if b then 0 else 2
theorem p_precise (p : Int) : FC Tryz.prog G 95 [.val (.int .i64 p)] (· = .val (.bool (decide (1 ≤ p) && decide (p ≤ 70000)))) := by
  refine ax_i Tryz.func95 Tryz.ntmps95 (by rw [Tryz.results95]) ?_; intro F hG hO
  repeat' ((try (conv => whnf)); first
  
  | with_reducible first | refine ax_s ?_ | refine BothG.mk ?_ ?_ | (refine ax_f ?_ ?_ <;> intro hc) | refine smk ?_ | fail)
  · exact ⟨ret_e (bv_eq (by rw [decide_eq_true hc]; rfl))⟩
  · exact ⟨ret_e (bv_eq (by rw [decide_eq_false hc]; rfl))⟩
theorem p_check1 (p : Int) (b1 : Bool) (l1 : List Int) (e1 : Int) (b2 : Bool) (l2 : List Int) (e2 : Int) (o1 : okD 18446744073709551616 l1) (o2 : okD 18446744073709551616 l2) :
    FC Tryz.prog G 53 [.val (.int .i64 p), .sl 6 [.val (.bool b1), .ws .u64 l1, .val (.int .i64 e1), .val (.bool b2), .ws .u64 l2, .val (.int .i64 e2)]] (· = .val (.int .i64 (chkE p (spF b1 l1 e1 b2 l2 e2)))) := by
  have f1 := p_precise (G := G) p
  have f2 := p_formX (G := G) b1 l1 e1 b2 l2 e2 o1 o2
  unfold chkE
  by_cases hp : p < 1 ∨ 70000 < p
  · rw [precise_no (by omega)] at f1
    rw [if_pos hp]
    refine ax_i Tryz.func53 Tryz.ntmps53 (by rw [Tryz.results53]) ?_; intro F hG hO
    rw [← hG] at f1
    repeat' ((try (conv => whnf)); first
  | ((with_reducible refine cg ?_); first | refine ceq f1 rfl ?_)
  
  | with_reducible first | refine ax_s ?_ | refine BothG.mk ?_ ?_ | (refine ax_f ?_ ?_ <;> intro hc) | refine smk ?_ | fail)
    exact ⟨ret_e rfl⟩
  · rw [show (decide (1 ≤ p) && decide (p ≤ 70000)) = true by rw [decide_eq_true (by omega), decide_eq_true (by omega)]; rfl] at f1
    rw [if_neg hp]
    cases hs : spF b1 l1 e1 b2 l2 e2 with
    | false =>
      rw [hs] at f2
      refine ax_i Tryz.func53 Tryz.ntmps53 (by rw [Tryz.results53]) ?_; intro F hG hO
      rw [← hG] at f1 f2
      repeat' ((try (conv => whnf)); first
  | ((with_reducible refine cg ?_); first | refine ceq f1 rfl ?_ | refine ceq f2 rfl ?_)
  | ((with_reducible refine ilg ?_); refine idx_l 0 (by decide) (by simp [repZ]) ?_)
  | ((with_reducible refine ilg ?_); refine idx_l 1 (by decide) (by simp [repZ]) ?_)
  | ((with_reducible refine ilg ?_); refine idx_l 2 (by decide) (by simp [repZ]) ?_)
  | ((with_reducible refine ilg ?_); refine idx_l 3 (by decide) (by simp [repZ]) ?_)
  | (with_reducible refine Chk.mk' (by simp [repZ]) ?_)
  | ((with_reducible refine lg ?_); refine rounds_g 2 tok ?_)
  
  | with_reducible first | refine ax_s ?_ | refine BothG.mk ?_ ?_ | (refine ax_f ?_ ?_ <;> intro hc) | refine smk ?_ | fail)
      exact ⟨ret_e rfl⟩
    | true =>
      rw [hs] at f2
      refine ax_i Tryz.func53 Tryz.ntmps53 (by rw [Tryz.results53]) ?_; intro F hG hO
      rw [← hG] at f1 f2
      repeat' ((try (conv => whnf)); first
  | ((with_reducible refine cg ?_); first | refine ceq f1 rfl ?_ | refine ceq f2 rfl ?_)
  | ((with_reducible refine ilg ?_); refine idx_l 0 (by decide) (by simp [repZ]) ?_)
  | ((with_reducible refine ilg ?_); refine idx_l 1 (by decide) (by simp [repZ]) ?_)
  | ((with_reducible refine ilg ?_); refine idx_l 2 (by decide) (by simp [repZ]) ?_)
  | ((with_reducible refine ilg ?_); refine idx_l 3 (by decide) (by simp [repZ]) ?_)
  | (with_reducible refine Chk.mk' (by simp [repZ]) ?_)
  | ((with_reducible refine lg ?_); refine rounds_g 2 tok ?_)
  
  | with_reducible first | refine ax_s ?_ | refine BothG.mk ?_ ?_ | (refine ax_f ?_ ?_ <;> intro hc) | refine smk ?_ | fail)
      exact ⟨ret_e rfl⟩
theorem p_check2 (p : Int) (b1 : Bool) (l1 : List Int) (e1 : Int) (b2 : Bool) (l2 : List Int) (e2 : Int) (b3 : Bool) (l3 : List Int) (e3 : Int) (b4 : Bool) (l4 : List Int) (e4 : Int) (o1 : okD 18446744073709551616 l1) (o2 : okD 18446744073709551616 l2) (o3 : okD 18446744073709551616 l3) (o4 : okD 18446744073709551616 l4) :
    FC Tryz.prog G 53 [.val (.int .i64 p), .sl 6 [.val (.bool b1), .ws .u64 l1, .val (.int .i64 e1), .val (.bool b2), .ws .u64 l2, .val (.int .i64 e2), .val (.bool b3), .ws .u64 l3, .val (.int .i64 e3), .val (.bool b4), .ws .u64 l4, .val (.int .i64 e4)]] (· = .val (.int .i64 (chkE p (spF b1 l1 e1 b2 l2 e2 && spF b3 l3 e3 b4 l4 e4)))) := by
  have f1 := p_precise (G := G) p
  have f2 := p_formX (G := G) b1 l1 e1 b2 l2 e2 o1 o2
  have f3 := p_formX (G := G) b3 l3 e3 b4 l4 e4 o3 o4
  unfold chkE
  by_cases hp : p < 1 ∨ 70000 < p
  · rw [precise_no (by omega)] at f1
    rw [if_pos hp]
    refine ax_i Tryz.func53 Tryz.ntmps53 (by rw [Tryz.results53]) ?_; intro F hG hO
    rw [← hG] at f1
    repeat' ((try (conv => whnf)); first
  | ((with_reducible refine cg ?_); first | refine ceq f1 rfl ?_)
  
  | with_reducible first | refine ax_s ?_ | refine BothG.mk ?_ ?_ | (refine ax_f ?_ ?_ <;> intro hc) | refine smk ?_ | fail)
    exact ⟨ret_e rfl⟩
  · rw [show (decide (1 ≤ p) && decide (p ≤ 70000)) = true by rw [decide_eq_true (by omega), decide_eq_true (by omega)]; rfl] at f1
    rw [if_neg hp]
    cases hs : spF b1 l1 e1 b2 l2 e2 with
    | false =>
      rw [hs] at f2
      refine ax_i Tryz.func53 Tryz.ntmps53 (by rw [Tryz.results53]) ?_; intro F hG hO
      rw [← hG] at f1 f2
      repeat' ((try (conv => whnf)); first
  | ((with_reducible refine cg ?_); first | refine ceq f1 rfl ?_ | refine ceq f2 rfl ?_)
  | ((with_reducible refine ilg ?_); refine idx_l 0 (by decide) (by simp [repZ]) ?_)
  | ((with_reducible refine ilg ?_); refine idx_l 1 (by decide) (by simp [repZ]) ?_)
  | ((with_reducible refine ilg ?_); refine idx_l 2 (by decide) (by simp [repZ]) ?_)
  | ((with_reducible refine ilg ?_); refine idx_l 3 (by decide) (by simp [repZ]) ?_)
  | (with_reducible refine Chk.mk' (by simp [repZ]) ?_)
  | ((with_reducible refine lg ?_); refine rounds_g 3 tok ?_)
  
  | with_reducible first | refine ax_s ?_ | refine BothG.mk ?_ ?_ | (refine ax_f ?_ ?_ <;> intro hc) | refine smk ?_ | fail)
      exact ⟨ret_e rfl⟩
    | true =>
      rw [hs] at f2
      cases ht : spF b3 l3 e3 b4 l4 e4 with
      | false =>
        rw [ht] at f3
        refine ax_i Tryz.func53 Tryz.ntmps53 (by rw [Tryz.results53]) ?_; intro F hG hO
        rw [← hG] at f1 f2 f3
        repeat' ((try (conv => whnf)); first
  | ((with_reducible refine cg ?_); first | refine ceq f1 rfl ?_ | refine ceq f2 rfl ?_ | refine ceq f3 rfl ?_)
  | ((with_reducible refine ilg ?_); refine idx_l 0 (by decide) (by simp [repZ]) ?_)
  | ((with_reducible refine ilg ?_); refine idx_l 1 (by decide) (by simp [repZ]) ?_)
  | ((with_reducible refine ilg ?_); refine idx_l 2 (by decide) (by simp [repZ]) ?_)
  | ((with_reducible refine ilg ?_); refine idx_l 3 (by decide) (by simp [repZ]) ?_)
  | (with_reducible refine Chk.mk' (by simp [repZ]) ?_)
  | ((with_reducible refine lg ?_); refine rounds_g 3 tok ?_)
  
  | with_reducible first | refine ax_s ?_ | refine BothG.mk ?_ ?_ | (refine ax_f ?_ ?_ <;> intro hc) | refine smk ?_ | fail)
        exact ⟨ret_e rfl⟩
      | true =>
        rw [ht] at f3
        refine ax_i Tryz.func53 Tryz.ntmps53 (by rw [Tryz.results53]) ?_; intro F hG hO
        rw [← hG] at f1 f2 f3
        repeat' ((try (conv => whnf)); first
  | ((with_reducible refine cg ?_); first | refine ceq f1 rfl ?_ | refine ceq f2 rfl ?_ | refine ceq f3 rfl ?_)
  | ((with_reducible refine ilg ?_); refine idx_l 0 (by decide) (by simp [repZ]) ?_)
  | ((with_reducible refine ilg ?_); refine idx_l 1 (by decide) (by simp [repZ]) ?_)
  | ((with_reducible refine ilg ?_); refine idx_l 2 (by decide) (by simp [repZ]) ?_)
  | ((with_reducible refine ilg ?_); refine idx_l 3 (by decide) (by simp [repZ]) ?_)
  | (with_reducible refine Chk.mk' (by simp [repZ]) ?_)
  | ((with_reducible refine lg ?_); refine rounds_g 3 tok ?_)
  
  | with_reducible first | refine ax_s ?_ | refine BothG.mk ?_ ?_ | (refine ax_f ?_ ?_ <;> intro hc) | refine smk ?_ | fail)
        exact ⟨ret_e rfl⟩
theorem good_len {n e : Int} (h : Good n e) : (d64 n.natAbs).length ≤ 17592186044415 := by
  have : (d64 n.natAbs).length = L64 n.natAbs := rfl
  have := h.1
  omega
theorem bothA_ok {a b : An} (h : a.c = 0) (g : b.c = 0) : bothA a b = spR a.d b.d := if_neg (by omega)
theorem bothA_no {a b : An} (h : a.c ≠ 0 ∨ b.c ≠ 0) : bothA a b = spE 5 := if_pos h
theorem p_both (u v : An) (hu : u.c = 0 ∨ u.c = 5) (hv : v.c = 0 ∨ v.c = 5) : FC Tryz.prog G 58 [DY u.x u.y, .val (.int .i64 u.c), DY v.x v.y, .val (.int .i64 v.c)] (· = bothA u v) := by
  obtain ⟨x, y, c⟩ := u
  obtain ⟨z, w, d⟩ := v
  simp only at hu hv
  show FC Tryz.prog G 58 [DY x y, .val (.int .i64 c), DY z w, .val (.int .i64 d)] (· = bothA ⟨x, y, c⟩ ⟨z, w, d⟩)
  rcases hu with rfl | rfl
  · rcases hv with rfl | rfl
    · rw [bothA_ok rfl rfl]
      refine ax_i Tryz.func58 Tryz.ntmps58 (by rw [Tryz.results58]) ?_; intro F hG hO
      repeat' ((try (conv => whnf)); first
  
  | with_reducible first | refine ax_s ?_ | refine BothG.mk ?_ ?_ | (refine ax_f ?_ ?_ <;> intro hc) | refine smk ?_ | fail)
      exact ⟨ret_e rfl⟩
    · rw [bothA_no (.inr (show (5 : Int) ≠ 0 by decide))]
      refine ax_i Tryz.func58 Tryz.ntmps58 (by rw [Tryz.results58]) ?_; intro F hG hO
      repeat' ((try (conv => whnf)); first
  
  | with_reducible first | refine ax_s ?_ | refine BothG.mk ?_ ?_ | (refine ax_f ?_ ?_ <;> intro hc) | refine smk ?_ | fail)
      exact ⟨ret_l _ (lp_spE 5) rfl⟩
  · rcases hv with rfl | rfl
    · rw [bothA_no (.inl (show (5 : Int) ≠ 0 by decide))]
      refine ax_i Tryz.func58 Tryz.ntmps58 (by rw [Tryz.results58]) ?_; intro F hG hO
      repeat' ((try (conv => whnf)); first
  
  | with_reducible first | refine ax_s ?_ | refine BothG.mk ?_ ?_ | (refine ax_f ?_ ?_ <;> intro hc) | refine smk ?_ | fail)
      exact ⟨ret_l _ (lp_spE 5) rfl⟩
    · rw [bothA_no (.inl (show (5 : Int) ≠ 0 by decide))]
      refine ax_i Tryz.func58 Tryz.ntmps58 (by rw [Tryz.results58]) ?_; intro F hG hO
      repeat' ((try (conv => whnf)); first
  
  | with_reducible first | refine ax_s ?_ | refine BothG.mk ?_ ?_ | (refine ax_f ?_ ?_ <;> intro hc) | refine smk ?_ | fail)
      exact ⟨ret_l _ (lp_spE 5) rfl⟩
theorem tup_eta {P : Program} {f : FuncId} {args : List PV} {p : PV} (h : FC P G f args (· = p)) (hp : Ans p) : FC P G f args (· = .tup [DY (toAn p).x (toAn p).y, .val (.int .i64 (toAn p).c)]) := by
  have := hp.eq.1
  rw [this] at h
  rw [An.pv] at h
  exact h
theorem bothA_form (u v : An) : ∃ x y c, bothA u v = .tup [SP x y, .val (.int .i64 c)] := by
  unfold bothA
  split
  · exact ⟨(0, 0), (0, 0), 5, rfl⟩
  · exact ⟨u.d, v.d, 0, rfl⟩
theorem p_outward {g : List (Nat × List Value)} (hD : (0, debT.map (Value.int .u8)) ∈ g) {a b : D2} (h : a.good) (k : b.good) (p : Int) (hp : 1 ≤ p ∧ p ≤ 70000) : FC Tryz.prog g 59 [DY a.1 a.2, DY b.1 b.2, .val (.int .i64 p)] (· = outP a b p) := by
  have f1 := tup_eta (y_down hD p h) (cuts_ans a hp false)
  have f2 := tup_eta (y_up hD p k) (cuts_ans b hp true)
  have c1 := (cuts_ans a hp false).eq.2.2
  have c2 := (cuts_ans b hp true).eq.2.2
  unfold outP
  obtain ⟨u, hu⟩ : ∃ u, u = toAn (cutsS a.1 a.2 p false) := ⟨_, rfl⟩
  obtain ⟨v, hv⟩ : ∃ v, v = toAn (cutsS b.1 b.2 p true) := ⟨_, rfl⟩
  rw [← hu] at f1 c1 ⊢
  rw [← hv] at f2 c2 ⊢
  have f3 := p_both (G := g) u v c1 c2
  obtain ⟨x, y, c, hr⟩ := bothA_form u v
  rw [hr] at f3 ⊢
  clear hu hv hr
  refine ax_i Tryz.func59 Tryz.ntmps59 (by rw [Tryz.results59]) ?_; intro F hG hO
  rw [← hG] at f1 f2 f3
  repeat' ((try (conv => whnf)); first
  | ((with_reducible refine cg ?_); first | refine ceq f1 rfl ?_ | refine ceq f2 rfl ?_ | refine ceq f3 rfl ?_)
  
  | with_reducible first | refine ax_s ?_ | refine BothG.mk ?_ ?_ | (refine ax_f ?_ ?_ <;> intro hc) | refine smk ?_ | fail)
  exact ⟨ret_e rfl⟩
theorem least4_v (a b c d : D2) : (least4 a b c d).v = min (min (min a.v b.v) c.v) d.v := by unfold least4; rw [lst2_v, lst2_v, lst2_v]
theorem least4_good {a b c d : D2} (h1 : a.good) (h2 : b.good) (h3 : c.good) (h4 : d.good) : (least4 a b c d).good := lst2_good (lst2_good (lst2_good h1 h2) h3) h4
theorem p_leastf {a b : D2} (h : a.good) (g : b.good) : FC Tryz.prog G 103 [DY a.1 a.2, DY b.1 b.2] (· = .val (.bool (decide (a.v < b.v)))) := by
  have f1 := p_cmp (G := G) h g
  have hc := cmpV_neg (n := a.1) (e := a.2) (m := b.1) (f := b.2)
  refine ax_i Tryz.func103 Tryz.ntmps103 (by rw [Tryz.results103]) ?_; intro F hG hO
  rw [← hG] at f1
  repeat' ((try (conv => whnf)); first
  | ((with_reducible refine cg ?_); first | refine ceq f1 rfl ?_)
  
  | with_reducible first | refine ax_s ?_ | refine BothG.mk ?_ ?_ | (refine ax_f ?_ ?_ <;> intro hc) | refine smk ?_ | fail)
  exact ⟨ret_e (bv_eq (decide_eq_decide.2 hc))⟩
theorem p_firstl2 {a b : D2} (ka : a.good) (kb : b.good) : FC Tryz.prog G 102 [.sl 3 [.val (.bool (decide (a.1 < 0))), .ws .u64 (d64 a.1.natAbs), .val (.int .i64 a.2), .val (.bool (decide (b.1 < 0))), .ws .u64 (d64 b.1.natAbs), .val (.int .i64 b.2)], .val (.func (.func 103) #[] #[])] (· = DY (lst2 a b).1 (lst2 a b).2) := by
  have fba := p_leastf (G := G) kb ka
  refine ax_i Tryz.func102 Tryz.ntmps102 (by rw [Tryz.results102]) ?_; intro F hG hO
  rw [← hG] at fba
  repeat' ((try (conv => whnf)); first
  | ((with_reducible refine cg ?_); first | refine ceq fba rfl ?_)
  | ((with_reducible refine ilg ?_); refine idx_l 0 (by decide) (by simp [repZ]) ?_)
  | ((with_reducible refine ilg ?_); refine idx_l 1 (by decide) (by simp [repZ]) ?_)
  | ((with_reducible refine ilg ?_); refine idx_l 2 (by decide) (by simp [repZ]) ?_)
  | ((with_reducible refine ilg ?_); refine idx_l 3 (by decide) (by simp [repZ]) ?_)
  | (with_reducible refine Chk.mk' (by simp [repZ]) ?_)
  | ((with_reducible refine lg ?_); refine rounds_g 2 tok ?_)
  
  | with_reducible first | refine ax_s ?_ | refine BothG.mk ?_ ?_ | (refine ax_f ?_ ?_ <;> intro hc) | refine smk ?_ | fail)
  all_goals (refine ⟨ret_e ?_⟩; first
    | exact congrArg D2.pv (D2.eq ka (lst2_good ka kb) (by rw [lst2_v]; omega))
    | exact congrArg D2.pv (D2.eq kb (lst2_good ka kb) (by rw [lst2_v]; omega)))
theorem p_least2 {a b : D2} (ka : a.good) (kb : b.good) : FC Tryz.prog G 62 [.sl 3 [.val (.bool (decide (a.1 < 0))), .ws .u64 (d64 a.1.natAbs), .val (.int .i64 a.2), .val (.bool (decide (b.1 < 0))), .ws .u64 (d64 b.1.natAbs), .val (.int .i64 b.2)]] (· = DY (lst2 a b).1 (lst2 a b).2) := by
  have f1 := p_firstl2 (G := G) ka kb
  obtain ⟨r, hr⟩ : ∃ r, r = lst2 a b := ⟨_, rfl⟩
  rw [← hr] at f1 ⊢
  clear hr
  refine ax_i Tryz.func62 Tryz.ntmps62 (by rw [Tryz.results62]) ?_; intro F hG hO
  rw [← hG] at f1
  repeat' ((try (conv => whnf)); first
  | ((with_reducible refine cg ?_); first | refine ceq f1 rfl ?_)
  
  | with_reducible first | refine ax_s ?_ | refine BothG.mk ?_ ?_ | (refine ax_f ?_ ?_ <;> intro hc) | refine smk ?_ | fail)
  exact ⟨ret_e rfl⟩
theorem p_firstl4 {a b c d : D2} (ka : a.good) (kb : b.good) (kc : c.good) (kd : d.good) : FC Tryz.prog G 102 [.sl 3 [.val (.bool (decide (a.1 < 0))), .ws .u64 (d64 a.1.natAbs), .val (.int .i64 a.2), .val (.bool (decide (b.1 < 0))), .ws .u64 (d64 b.1.natAbs), .val (.int .i64 b.2), .val (.bool (decide (c.1 < 0))), .ws .u64 (d64 c.1.natAbs), .val (.int .i64 c.2), .val (.bool (decide (d.1 < 0))), .ws .u64 (d64 d.1.natAbs), .val (.int .i64 d.2)], .val (.func (.func 103) #[] #[])] (· = DY (least4 a b c d).1 (least4 a b c d).2) := by
  have fba := p_leastf (G := G) kb ka
  have fca := p_leastf (G := G) kc ka
  have fcb := p_leastf (G := G) kc kb
  have fda := p_leastf (G := G) kd ka
  have fdb := p_leastf (G := G) kd kb
  have fdc := p_leastf (G := G) kd kc
  refine ax_i Tryz.func102 Tryz.ntmps102 (by rw [Tryz.results102]) ?_; intro F hG hO
  rw [← hG] at fba fca fcb fda fdb fdc
  repeat' ((try (conv => whnf)); first
  | ((with_reducible refine cg ?_); first | refine ceq fba rfl ?_ | refine ceq fca rfl ?_ | refine ceq fcb rfl ?_ | refine ceq fda rfl ?_ | refine ceq fdb rfl ?_ | refine ceq fdc rfl ?_)
  | ((with_reducible refine ilg ?_); refine idx_l 0 (by decide) (by simp [repZ]) ?_)
  | ((with_reducible refine ilg ?_); refine idx_l 1 (by decide) (by simp [repZ]) ?_)
  | ((with_reducible refine ilg ?_); refine idx_l 2 (by decide) (by simp [repZ]) ?_)
  | ((with_reducible refine ilg ?_); refine idx_l 3 (by decide) (by simp [repZ]) ?_)
  | (with_reducible refine Chk.mk' (by simp [repZ]) ?_)
  | ((with_reducible refine lg ?_); refine rounds_g 4 tok ?_)
  
  | with_reducible first | refine ax_s ?_ | refine BothG.mk ?_ ?_ | (refine ax_f ?_ ?_ <;> intro hc) | refine smk ?_ | fail)
  all_goals (refine ⟨ret_e ?_⟩; first
    | exact congrArg D2.pv (D2.eq ka (least4_good ka kb kc kd) (by rw [least4_v]; omega))
    | exact congrArg D2.pv (D2.eq kb (least4_good ka kb kc kd) (by rw [least4_v]; omega))
    | exact congrArg D2.pv (D2.eq kc (least4_good ka kb kc kd) (by rw [least4_v]; omega))
    | exact congrArg D2.pv (D2.eq kd (least4_good ka kb kc kd) (by rw [least4_v]; omega)))
theorem p_least4 {a b c d : D2} (ka : a.good) (kb : b.good) (kc : c.good) (kd : d.good) : FC Tryz.prog G 62 [.sl 3 [.val (.bool (decide (a.1 < 0))), .ws .u64 (d64 a.1.natAbs), .val (.int .i64 a.2), .val (.bool (decide (b.1 < 0))), .ws .u64 (d64 b.1.natAbs), .val (.int .i64 b.2), .val (.bool (decide (c.1 < 0))), .ws .u64 (d64 c.1.natAbs), .val (.int .i64 c.2), .val (.bool (decide (d.1 < 0))), .ws .u64 (d64 d.1.natAbs), .val (.int .i64 d.2)]] (· = DY (least4 a b c d).1 (least4 a b c d).2) := by
  have f1 := p_firstl4 (G := G) ka kb kc kd
  obtain ⟨r, hr⟩ : ∃ r, r = least4 a b c d := ⟨_, rfl⟩
  rw [← hr] at f1 ⊢
  clear hr
  refine ax_i Tryz.func62 Tryz.ntmps62 (by rw [Tryz.results62]) ?_; intro F hG hO
  rw [← hG] at f1
  repeat' ((try (conv => whnf)); first
  | ((with_reducible refine cg ?_); first | refine ceq f1 rfl ?_)
  
  | with_reducible first | refine ax_s ?_ | refine BothG.mk ?_ ?_ | (refine ax_f ?_ ?_ <;> intro hc) | refine smk ?_ | fail)
  exact ⟨ret_e rfl⟩
theorem great4_v (a b c d : D2) : (great4 a b c d).v = max (max (max a.v b.v) c.v) d.v := by unfold great4; rw [gst2_v, gst2_v, gst2_v]
theorem great4_good {a b c d : D2} (h1 : a.good) (h2 : b.good) (h3 : c.good) (h4 : d.good) : (great4 a b c d).good := gst2_good (gst2_good (gst2_good h1 h2) h3) h4
theorem p_greatestf {a b : D2} (h : a.good) (g : b.good) : FC Tryz.prog G 104 [DY a.1 a.2, DY b.1 b.2] (· = .val (.bool (decide (b.v < a.v)))) := by
  have f1 := p_cmp (G := G) h g
  have hc := cmpV_pos (n := a.1) (e := a.2) (m := b.1) (f := b.2)
  refine ax_i Tryz.func104 Tryz.ntmps104 (by rw [Tryz.results104]) ?_; intro F hG hO
  rw [← hG] at f1
  repeat' ((try (conv => whnf)); first
  | ((with_reducible refine cg ?_); first | refine ceq f1 rfl ?_)
  
  | with_reducible first | refine ax_s ?_ | refine BothG.mk ?_ ?_ | (refine ax_f ?_ ?_ <;> intro hc) | refine smk ?_ | fail)
  exact ⟨ret_e (bv_eq (decide_eq_decide.2 hc))⟩
theorem p_firstg2 {a b : D2} (ka : a.good) (kb : b.good) : FC Tryz.prog G 102 [.sl 3 [.val (.bool (decide (a.1 < 0))), .ws .u64 (d64 a.1.natAbs), .val (.int .i64 a.2), .val (.bool (decide (b.1 < 0))), .ws .u64 (d64 b.1.natAbs), .val (.int .i64 b.2)], .val (.func (.func 104) #[] #[])] (· = DY (gst2 a b).1 (gst2 a b).2) := by
  have fba := p_greatestf (G := G) kb ka
  refine ax_i Tryz.func102 Tryz.ntmps102 (by rw [Tryz.results102]) ?_; intro F hG hO
  rw [← hG] at fba
  repeat' ((try (conv => whnf)); first
  | ((with_reducible refine cg ?_); first | refine ceq fba rfl ?_)
  | ((with_reducible refine ilg ?_); refine idx_l 0 (by decide) (by simp [repZ]) ?_)
  | ((with_reducible refine ilg ?_); refine idx_l 1 (by decide) (by simp [repZ]) ?_)
  | ((with_reducible refine ilg ?_); refine idx_l 2 (by decide) (by simp [repZ]) ?_)
  | ((with_reducible refine ilg ?_); refine idx_l 3 (by decide) (by simp [repZ]) ?_)
  | (with_reducible refine Chk.mk' (by simp [repZ]) ?_)
  | ((with_reducible refine lg ?_); refine rounds_g 2 tok ?_)
  
  | with_reducible first | refine ax_s ?_ | refine BothG.mk ?_ ?_ | (refine ax_f ?_ ?_ <;> intro hc) | refine smk ?_ | fail)
  all_goals (refine ⟨ret_e ?_⟩; first
    | exact congrArg D2.pv (D2.eq ka (gst2_good ka kb) (by rw [gst2_v]; omega))
    | exact congrArg D2.pv (D2.eq kb (gst2_good ka kb) (by rw [gst2_v]; omega)))
theorem p_greatest2 {a b : D2} (ka : a.good) (kb : b.good) : FC Tryz.prog G 63 [.sl 3 [.val (.bool (decide (a.1 < 0))), .ws .u64 (d64 a.1.natAbs), .val (.int .i64 a.2), .val (.bool (decide (b.1 < 0))), .ws .u64 (d64 b.1.natAbs), .val (.int .i64 b.2)]] (· = DY (gst2 a b).1 (gst2 a b).2) := by
  have f1 := p_firstg2 (G := G) ka kb
  obtain ⟨r, hr⟩ : ∃ r, r = gst2 a b := ⟨_, rfl⟩
  rw [← hr] at f1 ⊢
  clear hr
  refine ax_i Tryz.func63 Tryz.ntmps63 (by rw [Tryz.results63]) ?_; intro F hG hO
  rw [← hG] at f1
  repeat' ((try (conv => whnf)); first
  | ((with_reducible refine cg ?_); first | refine ceq f1 rfl ?_)
  
  | with_reducible first | refine ax_s ?_ | refine BothG.mk ?_ ?_ | (refine ax_f ?_ ?_ <;> intro hc) | refine smk ?_ | fail)
  exact ⟨ret_e rfl⟩
theorem p_firstg4 {a b c d : D2} (ka : a.good) (kb : b.good) (kc : c.good) (kd : d.good) : FC Tryz.prog G 102 [.sl 3 [.val (.bool (decide (a.1 < 0))), .ws .u64 (d64 a.1.natAbs), .val (.int .i64 a.2), .val (.bool (decide (b.1 < 0))), .ws .u64 (d64 b.1.natAbs), .val (.int .i64 b.2), .val (.bool (decide (c.1 < 0))), .ws .u64 (d64 c.1.natAbs), .val (.int .i64 c.2), .val (.bool (decide (d.1 < 0))), .ws .u64 (d64 d.1.natAbs), .val (.int .i64 d.2)], .val (.func (.func 104) #[] #[])] (· = DY (great4 a b c d).1 (great4 a b c d).2) := by
  have fba := p_greatestf (G := G) kb ka
  have fca := p_greatestf (G := G) kc ka
  have fcb := p_greatestf (G := G) kc kb
  have fda := p_greatestf (G := G) kd ka
  have fdb := p_greatestf (G := G) kd kb
  have fdc := p_greatestf (G := G) kd kc
  refine ax_i Tryz.func102 Tryz.ntmps102 (by rw [Tryz.results102]) ?_; intro F hG hO
  rw [← hG] at fba fca fcb fda fdb fdc
  repeat' ((try (conv => whnf)); first
  | ((with_reducible refine cg ?_); first | refine ceq fba rfl ?_ | refine ceq fca rfl ?_ | refine ceq fcb rfl ?_ | refine ceq fda rfl ?_ | refine ceq fdb rfl ?_ | refine ceq fdc rfl ?_)
  | ((with_reducible refine ilg ?_); refine idx_l 0 (by decide) (by simp [repZ]) ?_)
  | ((with_reducible refine ilg ?_); refine idx_l 1 (by decide) (by simp [repZ]) ?_)
  | ((with_reducible refine ilg ?_); refine idx_l 2 (by decide) (by simp [repZ]) ?_)
  | ((with_reducible refine ilg ?_); refine idx_l 3 (by decide) (by simp [repZ]) ?_)
  | (with_reducible refine Chk.mk' (by simp [repZ]) ?_)
  | ((with_reducible refine lg ?_); refine rounds_g 4 tok ?_)
  
  | with_reducible first | refine ax_s ?_ | refine BothG.mk ?_ ?_ | (refine ax_f ?_ ?_ <;> intro hc) | refine smk ?_ | fail)
  all_goals (refine ⟨ret_e ?_⟩; first
    | exact congrArg D2.pv (D2.eq ka (great4_good ka kb kc kd) (by rw [great4_v]; omega))
    | exact congrArg D2.pv (D2.eq kb (great4_good ka kb kc kd) (by rw [great4_v]; omega))
    | exact congrArg D2.pv (D2.eq kc (great4_good ka kb kc kd) (by rw [great4_v]; omega))
    | exact congrArg D2.pv (D2.eq kd (great4_good ka kb kc kd) (by rw [great4_v]; omega)))
theorem p_greatest4 {a b c d : D2} (ka : a.good) (kb : b.good) (kc : c.good) (kd : d.good) : FC Tryz.prog G 63 [.sl 3 [.val (.bool (decide (a.1 < 0))), .ws .u64 (d64 a.1.natAbs), .val (.int .i64 a.2), .val (.bool (decide (b.1 < 0))), .ws .u64 (d64 b.1.natAbs), .val (.int .i64 b.2), .val (.bool (decide (c.1 < 0))), .ws .u64 (d64 c.1.natAbs), .val (.int .i64 c.2), .val (.bool (decide (d.1 < 0))), .ws .u64 (d64 d.1.natAbs), .val (.int .i64 d.2)]] (· = DY (great4 a b c d).1 (great4 a b c d).2) := by
  have f1 := p_firstg4 (G := G) ka kb kc kd
  obtain ⟨r, hr⟩ : ∃ r, r = great4 a b c d := ⟨_, rfl⟩
  rw [← hr] at f1 ⊢
  clear hr
  refine ax_i Tryz.func63 Tryz.ntmps63 (by rw [Tryz.results63]) ?_; intro F hG hO
  rw [← hG] at f1
  repeat' ((try (conv => whnf)); first
  | ((with_reducible refine cg ?_); first | refine ceq f1 rfl ?_)
  
  | with_reducible first | refine ax_s ?_ | refine BothG.mk ?_ ?_ | (refine ax_f ?_ ?_ <;> intro hc) | refine smk ?_ | fail)
  exact ⟨ret_e rfl⟩
theorem spF_SP {a b : D2} (h : GoodS a b) : spF (decide (a.1 < 0)) (d64 a.1.natAbs) a.2 (decide (b.1 < 0)) (d64 b.1.natAbs) b.2 = true := by
  obtain ⟨h1, h2, h3⟩ := h
  unfold spF
  rw [dyF_DY _ _ h1, dyF_DY _ _ h2]
  have e : ∀ n : Int, sgv (decide (n < 0)) (d64 n.natAbs) = n := fun n => by unfold sgv; rw [vl_d64, sg_of]
  rw [e, e]
  simp only [Bool.true_and]
  exact decide_eq_true h3
theorem chkE_ok {p : Int} (hp : 1 ≤ p ∧ p ≤ 70000) : chkE p true = 0 := by unfold chkE; rw [if_neg (by omega)]; rfl
theorem okD64 (n : Nat) : okD 18446744073709551616 (d64 n) := (d64_ok n).1
theorem outP_form (a b : D2) (p : Int) : ∃ x y c, outP a b p = .tup [SP x y, .val (.int .i64 c)] := bothA_form _ _
theorem p_check1g {a b : D2} (h : GoodS a b) {p : Int} (hp : 1 ≤ p ∧ p ≤ 70000) : FC Tryz.prog G 53 [.val (.int .i64 p), .sl 6 [.val (.bool (decide (a.1 < 0))), .ws .u64 (d64 a.1.natAbs), .val (.int .i64 a.2), .val (.bool (decide (b.1 < 0))), .ws .u64 (d64 b.1.natAbs), .val (.int .i64 b.2)]] (· = .val (.int .i64 0)) := by
  have f := p_check1 (G := G) p (decide (a.1 < 0)) (d64 a.1.natAbs) a.2 (decide (b.1 < 0)) (d64 b.1.natAbs) b.2 (okD64 a.1.natAbs) (okD64 b.1.natAbs)
  rw [spF_SP h, chkE_ok hp] at f
  exact f
theorem p_check2g {a b c d : D2} (h : GoodS a b) (k : GoodS c d) {p : Int} (hp : 1 ≤ p ∧ p ≤ 70000) : FC Tryz.prog G 53 [.val (.int .i64 p), .sl 6 [.val (.bool (decide (a.1 < 0))), .ws .u64 (d64 a.1.natAbs), .val (.int .i64 a.2), .val (.bool (decide (b.1 < 0))), .ws .u64 (d64 b.1.natAbs), .val (.int .i64 b.2), .val (.bool (decide (c.1 < 0))), .ws .u64 (d64 c.1.natAbs), .val (.int .i64 c.2), .val (.bool (decide (d.1 < 0))), .ws .u64 (d64 d.1.natAbs), .val (.int .i64 d.2)]] (· = .val (.int .i64 0)) := by
  have f := p_check2 (G := G) p (decide (a.1 < 0)) (d64 a.1.natAbs) a.2 (decide (b.1 < 0)) (d64 b.1.natAbs) b.2 (decide (c.1 < 0)) (d64 c.1.natAbs) c.2 (decide (d.1 < 0)) (d64 d.1.natAbs) d.2 (okD64 a.1.natAbs) (okD64 b.1.natAbs) (okD64 c.1.natAbs) (okD64 d.1.natAbs)
  rw [spF_SP h, spF_SP k, Bool.and_self, chkE_ok hp] at f
  exact f
theorem p_Sign {a b : D2} (h : GoodS a b) : FC Tryz.prog G 54 [SP a b] (· = .tup [.val (.int .i64 (if b.1 < 0 then -1 else if 0 < a.1 then 1 else 0)), .val (.int .i64 0)]) := by
  have f0 := p_form (G := G) h
  have f1 := p_sign (G := G) h.1
  have f2 := p_sign (G := G) h.2.1
  by_cases hb : b.1 < 0
  · rw [if_pos hb]
    rw [Int.sign_eq_neg_one_of_neg hb] at f2
    refine ax_i Tryz.func54 Tryz.ntmps54 (by rw [Tryz.results54]) ?_; intro F hG hO
    rw [← hG] at f0 f2
    repeat' ((try (conv => whnf)); first
  | ((with_reducible refine cg ?_); first | refine ceq f0 rfl ?_ | refine ceq f2 rfl ?_)
  
  | with_reducible first | refine ax_s ?_ | refine BothG.mk ?_ ?_ | (refine ax_f ?_ ?_ <;> intro hc) | refine smk ?_ | fail)
    all_goals exact ⟨ret_e rfl⟩
  · rw [if_neg hb]
    have s2 : 0 ≤ b.1.sign := by rcases Int.lt_trichotomy b.1 0 with h | h | h <;> first | omega | (rw [h]; decide) | (rw [Int.sign_eq_one_of_pos h]; decide)
    obtain ⟨t, ht⟩ : ∃ t, t = b.1.sign := ⟨_, rfl⟩
    rw [← ht] at f2 s2
    clear ht
    by_cases ha : 0 < a.1
    · rw [if_pos ha]
      rw [Int.sign_eq_one_of_pos ha] at f1
      refine ax_i Tryz.func54 Tryz.ntmps54 (by rw [Tryz.results54]) ?_; intro F hG hO
      rw [← hG] at f0 f1 f2
      repeat' ((try (conv => whnf)); first
  | ((with_reducible refine cg ?_); first | refine ceq f0 rfl ?_ | refine ceq f1 rfl ?_ | refine ceq f2 rfl ?_)
  
  | with_reducible first | refine ax_s ?_ | refine BothG.mk ?_ ?_ | (refine ax_f ?_ ?_ <;> intro hc) | refine smk ?_ | fail)
      all_goals exact ⟨ret_e rfl⟩
    · rw [if_neg ha]
      have s1 : a.1.sign ≤ 0 := by rcases Int.lt_trichotomy a.1 0 with h | h | h <;> first | omega | (rw [Int.sign_eq_neg_one_of_neg h]; decide) | (rw [h]; decide)
      obtain ⟨u, hu⟩ : ∃ t, t = a.1.sign := ⟨_, rfl⟩
      rw [← hu] at f1 s1
      clear hu
      refine ax_i Tryz.func54 Tryz.ntmps54 (by rw [Tryz.results54]) ?_; intro F hG hO
      rw [← hG] at f0 f1 f2
      repeat' ((try (conv => whnf)); first
  | ((with_reducible refine cg ?_); first | refine ceq f0 rfl ?_ | refine ceq f1 rfl ?_ | refine ceq f2 rfl ?_)
  
  | with_reducible first | refine ax_s ?_ | refine BothG.mk ?_ ?_ | (refine ax_f ?_ ?_ <;> intro hc) | refine smk ?_ | fail)
      all_goals exact ⟨ret_e rfl⟩
theorem GoodS.neg {a b : D2} (h : GoodS a b) : GoodS b.neg a.neg := ⟨D2.neg_good h.2.1, D2.neg_good h.1, by rw [D2.neg_v, D2.neg_v]; have := h.2.2; omega⟩
theorem p_neg {a b : D2} (h : GoodS a b) : FC Tryz.prog G 22 [SP a b] (· = spR b.neg a.neg) := by
  have f0 := p_form (G := G) h
  have f1 : FC Tryz.prog G 67 [DY a.1 a.2] (· = dyR a.neg.1 a.neg.2) := y_neg (G := G) h.1
  have f2 : FC Tryz.prog G 67 [DY b.1 b.2] (· = dyR b.neg.1 b.neg.2) := y_neg (G := G) h.2.1
  obtain ⟨u, hu⟩ : ∃ u, u = a.neg := ⟨_, rfl⟩
  obtain ⟨v, hv⟩ : ∃ v, v = b.neg := ⟨_, rfl⟩
  rw [← hu] at f1 ⊢
  rw [← hv] at f2 ⊢
  clear hu hv
  refine ax_i Tryz.func22 Tryz.ntmps22 (by rw [Tryz.results22]) ?_; intro F hG hO
  rw [← hG] at f0 f1 f2
  repeat' ((try (conv => whnf)); first
  | ((with_reducible refine cg ?_); first | refine ceq f0 rfl ?_ | refine ceq f1 rfl ?_ | refine ceq f2 rfl ?_)
  
  | with_reducible first | refine ax_s ?_ | refine BothG.mk ?_ ?_ | (refine ax_f ?_ ?_ <;> intro hc) | refine smk ?_ | fail)
  exact ⟨ret_e rfl⟩
theorem y_addP {g : List (Nat × List Value)} (hD : (0, debT.map (Value.int .u8)) ∈ g) {a c : D2} (h : a.good) (k : c.good) : FC Tryz.prog g 69 [DY a.1 a.2, DY c.1 c.2] (· = .tup [DY (toAn (addP a c)).x (toAn (addP a c)).y, .val (.int .i64 (toAn (addP a c)).c)]) := tup_eta (y_add hD h k) (add_ans h k)
theorem y_subP {g : List (Nat × List Value)} (hD : (0, debT.map (Value.int .u8)) ∈ g) {a c : D2} (h : a.good) (k : c.good) : FC Tryz.prog g 68 [DY a.1 a.2, DY c.1 c.2] (· = .tup [DY (toAn (addP a c.neg)).x (toAn (addP a c.neg)).y, .val (.int .i64 (toAn (addP a c.neg)).c)]) := tup_eta (y_sub hD h k) (add_ans h (D2.neg_good k))
theorem y_mulP {g : List (Nat × List Value)} (hD : (0, debT.map (Value.int .u8)) ∈ g) {a c : D2} (h : a.good) (k : c.good) : FC Tryz.prog g 61 [DY a.1 a.2, DY c.1 c.2] (· = .tup [DY (toAn (mulP a c)).x (toAn (mulP a c)).y, .val (.int .i64 (toAn (mulP a c)).c)]) := tup_eta (y_mul hD h k) (mul_ans a c)
theorem y_quoP {g : List (Nat × List Value)} (hD : (0, debT.map (Value.int .u8)) ∈ g) {a c : D2} (h : a.good) (k : c.good) {p : Int} (hp : 1 ≤ p ∧ p ≤ 70000) (h0 : c.1 ≠ 0) : FC Tryz.prog g 56 [DY a.1 a.2, DY c.1 c.2, .val (.int .i64 p)] (· = .tup [DY (toAn (quoP a c p false)).x (toAn (quoP a c p false)).y, .val (.int .i64 (toAn (quoP a c p false)).c)])
    ∧ FC Tryz.prog g 57 [DY a.1 a.2, DY c.1 c.2, .val (.int .i64 p)] (· = .tup [DY (toAn (quoP a c p true)).x (toAn (quoP a c p true)).y, .val (.int .i64 (toAn (quoP a c p true)).c)]) :=
  ⟨tup_eta (y_quodown hD p h k (by dsimp only [inR]; omega)) (quo_ans hp h0 false), tup_eta (y_quoup hD p h k (by dsimp only [inR]; omega)) (quo_ans hp h0 true)⟩
theorem p_add {g : List (Nat × List Value)} (hD : (0, debT.map (Value.int .u8)) ∈ g) {a b c d : D2} (h : GoodS a b) (k : GoodS c d) {p : Int} (hp : 1 ≤ p ∧ p ≤ 70000) : FC Tryz.prog g 24 [SP a b, SP c d, .val (.int .i64 p)] (· = sumP a b c d p) := by
  have f0 := p_check2g (G := g) h k hp
  have f1 := y_addP hD h.1 k.1
  have f2 := y_addP hD h.2.1 k.2.1
  obtain ⟨_, g1, c1⟩ := (add_ans h.1 k.1).eq
  obtain ⟨_, g2, c2⟩ := (add_ans h.2.1 k.2.1).eq
  unfold sumP
  obtain ⟨u, hu⟩ : ∃ u, u = toAn (addP a c) := ⟨_, rfl⟩
  obtain ⟨v, hv⟩ : ∃ v, v = toAn (addP b d) := ⟨_, rfl⟩
  rw [← hu] at f1 g1 c1 ⊢
  rw [← hv] at f2 g2 c2 ⊢
  clear hu hv
  by_cases z1 : u.c = 0
  · by_cases z2 : v.c = 0
    · rw [if_neg (by omega)]
      have f3 := p_outward hD (a := u.d) (b := v.d) g1 g2 p hp
      obtain ⟨x, y, c, hr⟩ := outP_form u.d v.d p
      rw [hr] at f3 ⊢
      rw [z1] at f1
      rw [z2] at f2
      clear hr c1 c2
      refine ax_i Tryz.func24 Tryz.ntmps24 (by rw [Tryz.results24]) ?_; intro F hG hO
      rw [← hG] at f0 f1 f2 f3
      repeat' ((try (conv => whnf)); first
  | ((with_reducible refine cg ?_); first | refine ceq f0 rfl ?_ | refine ceq f1 rfl ?_ | refine ceq f2 rfl ?_ | refine ceq f3 rfl ?_)
  
  | with_reducible first | refine ax_s ?_ | refine BothG.mk ?_ ?_ | (refine ax_f ?_ ?_ <;> intro hc) | refine smk ?_ | fail)
      exact ⟨ret_e rfl⟩
    · rw [if_pos (by omega)]
      rw [z1] at f1
      rw [show v.c = 5 by omega] at f2
      clear c1 c2
      refine ax_i Tryz.func24 Tryz.ntmps24 (by rw [Tryz.results24]) ?_; intro F hG hO
      rw [← hG] at f0 f1 f2
      repeat' ((try (conv => whnf)); first
  | ((with_reducible refine cg ?_); first | refine ceq f0 rfl ?_ | refine ceq f1 rfl ?_ | refine ceq f2 rfl ?_)
  
  | with_reducible first | refine ax_s ?_ | refine BothG.mk ?_ ?_ | (refine ax_f ?_ ?_ <;> intro hc) | refine smk ?_ | fail)
      exact ⟨ret_l _ (lp_spE 5) rfl⟩
  · rw [if_pos (by omega)]
    rw [show u.c = 5 by omega] at f1
    rcases c2 with c2 | c2
    · rw [c2] at f2
      clear c1
      refine ax_i Tryz.func24 Tryz.ntmps24 (by rw [Tryz.results24]) ?_; intro F hG hO
      rw [← hG] at f0 f1 f2
      repeat' ((try (conv => whnf)); first
  | ((with_reducible refine cg ?_); first | refine ceq f0 rfl ?_ | refine ceq f1 rfl ?_ | refine ceq f2 rfl ?_)
  
  | with_reducible first | refine ax_s ?_ | refine BothG.mk ?_ ?_ | (refine ax_f ?_ ?_ <;> intro hc) | refine smk ?_ | fail)
      exact ⟨ret_l _ (lp_spE 5) rfl⟩
    · rw [c2] at f2
      clear c1
      refine ax_i Tryz.func24 Tryz.ntmps24 (by rw [Tryz.results24]) ?_; intro F hG hO
      rw [← hG] at f0 f1 f2
      repeat' ((try (conv => whnf)); first
  | ((with_reducible refine cg ?_); first | refine ceq f0 rfl ?_ | refine ceq f1 rfl ?_ | refine ceq f2 rfl ?_)
  
  | with_reducible first | refine ax_s ?_ | refine BothG.mk ?_ ?_ | (refine ax_f ?_ ?_ <;> intro hc) | refine smk ?_ | fail)
      exact ⟨ret_l _ (lp_spE 5) rfl⟩
theorem p_sub {g : List (Nat × List Value)} (hD : (0, debT.map (Value.int .u8)) ∈ g) {a b c d : D2} (h : GoodS a b) (k : GoodS c d) {p : Int} (hp : 1 ≤ p ∧ p ≤ 70000) : FC Tryz.prog g 23 [SP a b, SP c d, .val (.int .i64 p)] (· = sumP a b d.neg c.neg p) := by
  have f0 := p_check2g (G := g) h k hp
  have f1 := y_subP hD h.1 k.2.1
  have f2 := y_subP hD h.2.1 k.1
  obtain ⟨_, g1, c1⟩ := (add_ans h.1 (D2.neg_good k.2.1)).eq
  obtain ⟨_, g2, c2⟩ := (add_ans h.2.1 (D2.neg_good k.1)).eq
  unfold sumP
  obtain ⟨u, hu⟩ : ∃ u, u = toAn (addP a d.neg) := ⟨_, rfl⟩
  obtain ⟨v, hv⟩ : ∃ v, v = toAn (addP b c.neg) := ⟨_, rfl⟩
  rw [← hu] at f1 g1 c1 ⊢
  rw [← hv] at f2 g2 c2 ⊢
  clear hu hv
  by_cases z1 : u.c = 0
  · by_cases z2 : v.c = 0
    · rw [if_neg (by omega)]
      have f3 := p_outward hD (a := u.d) (b := v.d) g1 g2 p hp
      obtain ⟨x, y, c, hr⟩ := outP_form u.d v.d p
      rw [hr] at f3 ⊢
      rw [z1] at f1
      rw [z2] at f2
      clear hr c1 c2
      refine ax_i Tryz.func23 Tryz.ntmps23 (by rw [Tryz.results23]) ?_; intro F hG hO
      rw [← hG] at f0 f1 f2 f3
      repeat' ((try (conv => whnf)); first
  | ((with_reducible refine cg ?_); first | refine ceq f0 rfl ?_ | refine ceq f1 rfl ?_ | refine ceq f2 rfl ?_ | refine ceq f3 rfl ?_)
  
  | with_reducible first | refine ax_s ?_ | refine BothG.mk ?_ ?_ | (refine ax_f ?_ ?_ <;> intro hc) | refine smk ?_ | fail)
      exact ⟨ret_e rfl⟩
    · rw [if_pos (by omega)]
      rw [z1] at f1
      rw [show v.c = 5 by omega] at f2
      clear c1 c2
      refine ax_i Tryz.func23 Tryz.ntmps23 (by rw [Tryz.results23]) ?_; intro F hG hO
      rw [← hG] at f0 f1 f2
      repeat' ((try (conv => whnf)); first
  | ((with_reducible refine cg ?_); first | refine ceq f0 rfl ?_ | refine ceq f1 rfl ?_ | refine ceq f2 rfl ?_)
  
  | with_reducible first | refine ax_s ?_ | refine BothG.mk ?_ ?_ | (refine ax_f ?_ ?_ <;> intro hc) | refine smk ?_ | fail)
      exact ⟨ret_l _ (lp_spE 5) rfl⟩
  · rw [if_pos (by omega)]
    rw [show u.c = 5 by omega] at f1
    rcases c2 with c2 | c2
    · rw [c2] at f2
      clear c1
      refine ax_i Tryz.func23 Tryz.ntmps23 (by rw [Tryz.results23]) ?_; intro F hG hO
      rw [← hG] at f0 f1 f2
      repeat' ((try (conv => whnf)); first
  | ((with_reducible refine cg ?_); first | refine ceq f0 rfl ?_ | refine ceq f1 rfl ?_ | refine ceq f2 rfl ?_)
  
  | with_reducible first | refine ax_s ?_ | refine BothG.mk ?_ ?_ | (refine ax_f ?_ ?_ <;> intro hc) | refine smk ?_ | fail)
      exact ⟨ret_l _ (lp_spE 5) rfl⟩
    · rw [c2] at f2
      clear c1
      refine ax_i Tryz.func23 Tryz.ntmps23 (by rw [Tryz.results23]) ?_; intro F hG hO
      rw [← hG] at f0 f1 f2
      repeat' ((try (conv => whnf)); first
  | ((with_reducible refine cg ?_); first | refine ceq f0 rfl ?_ | refine ceq f1 rfl ?_ | refine ceq f2 rfl ?_)
  
  | with_reducible first | refine ax_s ?_ | refine BothG.mk ?_ ?_ | (refine ax_f ?_ ?_ <;> intro hc) | refine smk ?_ | fail)
      exact ⟨ret_l _ (lp_spE 5) rfl⟩
end Go.Proofs.YtpjbgmafnheomaaGreatDoor.Sim
namespace Go.Proofs.YtpjbgmafnheomaaGreatDoor.Sim
open Go.RowKit
set_option linter.unusedVariables false
set_option linter.unusedSimpArgs false
theorem tup_inj {x y c x' y' c' : Int} (h : PV.tup [DY x y, .val (.int .i64 c)] = .tup [DY x' y', .val (.int .i64 c')]) : x = x' ∧ y = y' ∧ c = c' := by
  simp only [PV.tup.injEq, List.cons.injEq, PV.val.injEq, Value.int.injEq, true_and, and_true] at h
  obtain ⟨h1, h2⟩ := h
  obtain ⟨h3, h4⟩ := DY_inj h1
  exact ⟨h3, h4, h2⟩
theorem told_inv {s k x y : Int} (h : toldS s k = .tup [DY x y, .val (.int .i64 0)]) : (s = 0 ∧ x = 0 ∧ y = 0) ∨ (s ≠ 0 ∧ x = s / 2 ^ tz s.natAbs ∧ y = k + tz s.natAbs ∧ s = x * 2 ^ tz s.natAbs) := by
  have hE : dyE 5 ≠ .tup [DY x y, .val (.int .i64 0)] := fun hh => by
    have := (tup_inj hh).2.2
    exact absurd this (by decide)
  unfold toldS at h
  by_cases h0 : s = 0
  · rw [if_pos h0] at h
    have := tup_inj h
    exact .inl ⟨h0, this.1.symm, this.2.1.symm⟩
  · rw [if_neg h0] at h
    split at h
    · exact absurd h hE
    · split at h
      · exact absurd h hE
      · split at h
        · exact absurd h hE
        · split at h
          · exact absurd h hE
          · split at h
            · exact absurd h hE
            · have h1 := tup_inj h
              obtain ⟨h2, _⟩ := odd_div (n := s.natAbs) (by omega)
              obtain ⟨t, ht⟩ : ∃ t, t = tz s.natAbs := ⟨_, rfl⟩
              rw [← ht] at h1 h2 ⊢
              refine .inr ⟨h0, h1.1.symm, h1.2.1.symm, ?_⟩
              have hs : s = sg (decide (s < 0)) (s.natAbs / 2 ^ t) * 2 ^ t := by rw [← sg_pow, ← h2, sg_of]
              rw [← h1.1]
              have hd : s / 2 ^ t = sg (decide (s < 0)) (s.natAbs / 2 ^ t) := by
                conv => lhs; rw [hs]
                exact Int.mul_ediv_cancel _ (Int.ne_of_gt (p2_pos t))
              rw [hd]
              exact hs
theorem told_Vc {c s k x y : Int} (hk : -c ≤ k) (h : toldS s k = .tup [DY x y, .val (.int .i64 0)]) : Vc c x y = Vc c s k := by
  rcases told_inv h with ⟨h1, h2, h3⟩ | ⟨h1, h2, h3, h4⟩
  · rw [h1, h2]; unfold Vc; rw [Int.zero_mul, Int.zero_mul]
  · obtain ⟨t, ht⟩ : ∃ t, t = tz s.natAbs := ⟨_, rfl⟩
    rw [← ht] at h3 h4
    unfold Vc
    rw [h3, show (k + (t : Int) + c).toNat = t + (k + c).toNat by omega, Int.pow_add, ← Int.mul_assoc, ← h4]
def An.neg (a : An) : An := ⟨-a.x, a.y, a.c⟩
theorem An.neg_d (a : An) : a.neg.d = a.d.neg := rfl
theorem dyR_an (n e : Int) : toAn (dyR n e) = ⟨n, e, 0⟩ := toAn_tup n e 0
theorem dyE_an (c : Int) : toAn (dyE c) = ⟨0, 0, c⟩ := toAn_tup 0 0 c
theorem told_neg (s k : Int) : toAn (toldS (-s) k) = (toAn (toldS s k)).neg := by
  have hE : (⟨0, 0, 5⟩ : An) = An.neg ⟨0, 0, 5⟩ := rfl
  unfold toldS
  rw [Int.natAbs_neg]
  by_cases h0 : s = 0
  · rw [if_pos h0, if_pos (by omega), dyE_an]; rfl
  · rw [if_neg h0, if_neg (by omega)]
    repeat' split
    all_goals first
      | (rw [dyE_an]; exact hE)
      | (rw [dyR_an, dyR_an]
         obtain ⟨h2, _⟩ := odd_div (n := s.natAbs) (by omega)
         obtain ⟨t, ht⟩ : ∃ t, t = tz s.natAbs := ⟨_, rfl⟩
         rw [← ht] at h2 ⊢
         have hs : s = sg (decide (s < 0)) (s.natAbs / 2 ^ t) * 2 ^ t := by rw [← sg_pow, ← h2, sg_of]
         have hp : (2 : Int) ^ t ≠ 0 := Int.ne_of_gt (p2_pos t)
         have hd : (-s) / 2 ^ t = -(s / 2 ^ t) := by
           obtain ⟨z, hz⟩ : ∃ z, z = sg (decide (s < 0)) (s.natAbs / 2 ^ t) := ⟨_, rfl⟩
           rw [← hz] at hs
           rw [hs, ← Int.neg_mul, Int.mul_ediv_cancel _ hp, Int.mul_ediv_cancel _ hp]
         rw [hd]
         rfl)
theorem whole_neg (n k : Int) (up : Bool) : wholeS (-n) k up = -wholeS n k (!up) := by
  cases up
  · show (-n) / 2 ^ k.toNat = -(-((-n) / 2 ^ k.toNat)); rw [Int.neg_neg]
  · show -((- -n) / 2 ^ k.toNat) = -(n / 2 ^ k.toNat); rw [Int.neg_neg]
theorem cuts_neg (n e p : Int) (up : Bool) : toAn (cutsS (-n) e p up) = (toAn (cutsS n e p (!up))).neg := by
  unfold cutsS cutS
  rw [Int.natAbs_neg, whole_neg]
  repeat' split
  · rw [dyE_an]; rfl
  · rw [dyE_an]; rfl
  · exact told_neg _ _
  · exact told_neg _ _
theorem cut_low {a : D2} (h : a.good) {p : Int} (hp : 1 ≤ p ∧ p ≤ 70000) (hc : (toAn (cutsS a.1 a.2 p false)).c = 0) : (toAn (cutsS a.1 a.2 p false)).d.v ≤ a.v := by
  obtain ⟨h1, _, _⟩ := (cuts_ans a hp false).eq
  obtain ⟨u, hu⟩ : ∃ u, u = toAn (cutsS a.1 a.2 p false) := ⟨_, rfl⟩
  rw [← hu] at h1 hc ⊢
  unfold An.pv at h1
  rw [hc] at h1
  by_cases hb : (bl a.1.natAbs : Int) ≤ p
  · rw [cuts_same false h hp hb] at h1
    have := tup_inj h1
    show VV u.x u.y ≤ VV a.1 a.2
    rw [← this.1, ← this.2.1]
    exact Int.le_refl _
  · rw [cuts_down hp (by omega)] at h1
    have e1 := h.2.1
    have hv := told_Vc (c := 1048576) (by omega) h1
    obtain ⟨j, hj⟩ : ∃ j : Nat, (j : Int) = (bl a.1.natAbs : Int) - p := ⟨((bl a.1.natAbs : Int) - p).toNat, by omega⟩
    rw [← hj, Int.toNat_natCast] at hv
    show Vc 1048576 u.x u.y ≤ Vc 1048576 a.1 a.2
    rw [hv]
    unfold Vc
    rw [show (a.2 + (j : Int) + 1048576).toNat = j + (a.2 + 1048576).toNat by omega, Int.pow_add, ← Int.mul_assoc]
    exact mr (Int.ediv_mul_le _ (Int.ne_of_gt (p2_pos j))) (Int.le_of_lt (p2_pos _))
theorem cut_high {a : D2} (h : a.good) {p : Int} (hp : 1 ≤ p ∧ p ≤ 70000) (hc : (toAn (cutsS a.1 a.2 p true)).c = 0) : a.v ≤ (toAn (cutsS a.1 a.2 p true)).d.v := by
  have e : toAn (cutsS a.neg.1 a.neg.2 p false) = (toAn (cutsS a.1 a.2 p true)).neg := cuts_neg a.1 a.2 p false
  have h1 := cut_low (D2.neg_good h) hp (by rw [e]; exact hc)
  rw [e, An.neg_d, D2.neg_v, D2.neg_v] at h1
  omega
theorem out_res {a b : D2} (h : a.good) (k : b.good) (hv : a.v ≤ b.v) {p : Int} (hp : 1 ≤ p ∧ p ≤ 70000) : (outP a b p = spE 5 ∧ outP b.neg a.neg p = spE 5) ∨ ∃ x y : D2, outP a b p = spR x y ∧ outP b.neg a.neg p = spR y.neg x.neg ∧ GoodS x y ∧ x.v ≤ a.v ∧ b.v ≤ y.v := by
  have n1 : toAn (cutsS b.neg.1 b.neg.2 p false) = (toAn (cutsS b.1 b.2 p true)).neg := cuts_neg b.1 b.2 p false
  have n2 : toAn (cutsS a.neg.1 a.neg.2 p true) = (toAn (cutsS a.1 a.2 p false)).neg := cuts_neg a.1 a.2 p true
  have l1 := cut_low h hp
  have l2 := cut_high k hp
  obtain ⟨_, g1, _⟩ := (cuts_ans a hp false).eq
  obtain ⟨_, g2, _⟩ := (cuts_ans b hp true).eq
  unfold outP
  rw [n1, n2]
  obtain ⟨u, hu⟩ : ∃ u, u = toAn (cutsS a.1 a.2 p false) := ⟨_, rfl⟩
  obtain ⟨v, hv2⟩ : ∃ v, v = toAn (cutsS b.1 b.2 p true) := ⟨_, rfl⟩
  rw [← hu] at l1 g1 ⊢
  rw [← hv2] at l2 g2 ⊢
  by_cases hc : u.c = 0 ∧ v.c = 0
  · refine .inr ⟨u.d, v.d, bothA_ok hc.1 hc.2, bothA_ok hc.2 hc.1, ⟨g1, g2, ?_⟩, l1 hc.1, l2 hc.2⟩
    have := l1 hc.1
    have := l2 hc.2
    omega
  · refine .inl ⟨bothA_no (by omega), bothA_no ?_⟩
    show v.c ≠ 0 ∨ u.c ≠ 0
    omega
theorem least4_le (a b c d : D2) : (least4 a b c d).v ≤ (great4 a b c d).v := by rw [least4_v, great4_v]; omega
theorem An.d_good {p : PV} (h : Ans p) : (toAn p).d.good := h.eq.2.1
theorem add_V {a c : D2} (h : a.good) (k : c.good) (hc : (toAn (addP a c)).c = 0) : (toAn (addP a c)).d.v = a.v + c.v := by
  obtain ⟨h1, _, _⟩ := (add_ans h k).eq
  obtain ⟨u, hu⟩ : ∃ u, u = toAn (addP a c) := ⟨_, rfl⟩
  rw [← hu] at h1 hc ⊢
  unfold An.pv at h1
  rw [hc] at h1
  have e1 := h.2.1
  have e2 := k.2.1
  have hE : dyE 5 ≠ .tup [DY u.x u.y, .val (.int .i64 0)] := fun hh => absurd (tup_inj hh).2.2 (by decide)
  show VV u.x u.y = VV a.1 a.2 + VV c.1 c.2
  unfold addP addS at h1
  by_cases ha : a.1 = 0
  · rw [if_pos ha] at h1
    have := tup_inj h1
    rw [← this.1, ← this.2.1, ha, VV_zero, Int.zero_add]
  · rw [if_neg ha] at h1
    by_cases hb : c.1 = 0
    · rw [if_pos hb] at h1
      have := tup_inj h1
      rw [← this.1, ← this.2.1, hb, VV_zero, Int.add_zero]
    · rw [if_neg hb] at h1
      split at h1
      · exact absurd h1 hE
      · split at h1
        · exact absurd h1 hE
        · have hv := told_Vc (c := 1048576) (by omega) h1
          have hv2 : VV u.x u.y = VV (a.1 * 2 ^ (a.2 - min a.2 c.2).toNat + c.1 * 2 ^ (c.2 - min a.2 c.2).toNat) (min a.2 c.2) := hv
          rw [hv2, VV_add, ← VV_low (by omega) (by omega), ← VV_low (by omega) (by omega)]
theorem sum_res {a b c d : D2} (h : GoodS a b) (k : GoodS c d) {p : Int} (hp : 1 ≤ p ∧ p ≤ 70000) : sumP a b c d p = spE 5 ∨
    ∃ x y : D2, sumP a b c d p = spR x y ∧ GoodS x y ∧ x.v ≤ a.v + c.v ∧ b.v + d.v ≤ y.v := by
  have v1 := add_V h.1 k.1
  have v2 := add_V h.2.1 k.2.1
  have g1 := An.d_good (add_ans h.1 k.1)
  have g2 := An.d_good (add_ans h.2.1 k.2.1)
  unfold sumP
  obtain ⟨u, hu⟩ : ∃ u, u = toAn (addP a c) := ⟨_, rfl⟩
  obtain ⟨v, hv⟩ : ∃ v, v = toAn (addP b d) := ⟨_, rfl⟩
  rw [← hu] at v1 g1 ⊢
  rw [← hv] at v2 g2 ⊢
  by_cases hz : u.c = 0 ∧ v.c = 0
  · rw [if_neg (by omega)]
    have w1 := v1 hz.1
    have w2 := v2 hz.2
    have h3 := h.2.2
    have k3 := k.2.2
    rcases out_res g1 g2 (by omega) hp with h | ⟨x, y, h1, h2, h3, h4, h5⟩
    · exact .inl h.1
    · exact .inr ⟨x, y, h1, h3, by omega, by omega⟩
  · exact .inl (if_pos (by omega))
theorem Vc_two {n e : Int} (he : -1048576 ≤ e) : Vc 2097152 n e = VV n e * 2 ^ 1048576 := by
  unfold Vc VV
  rw [Int.mul_assoc, ← Int.pow_add]
  congr 2
  omega
theorem mul_V {a c : D2} (h : a.good) (k : c.good) (hc : (toAn (mulP a c)).c = 0) : (toAn (mulP a c)).d.v * 2 ^ 1048576 = a.v * c.v := by
  obtain ⟨h1, g, _⟩ := (mul_ans a c).eq
  obtain ⟨u, hu⟩ : ∃ u, u = toAn (mulP a c) := ⟨_, rfl⟩
  rw [← hu] at h1 hc g ⊢
  unfold An.pv at h1
  rw [hc] at h1
  have e1 := h.2.1
  have e2 := k.2.1
  have hE : dyE 5 ≠ .tup [DY u.x u.y, .val (.int .i64 0)] := fun hh => absurd (tup_inj hh).2.2 (by decide)
  unfold mulP mulS at h1
  split at h1
  · exact absurd h1 hE
  · have hv := told_Vc (c := 2097152) (by omega) h1
    show VV u.x u.y * 2 ^ 1048576 = VV a.1 a.2 * VV c.1 c.2
    rw [← Vc_two g.2.1, hv, Vc_mul e1 e2]
theorem cut_Vc {s E p c : Int} {x y : Int} (hE : -c ≤ E) (h : cutS s E p false = .tup [DY x y, .val (.int .i64 0)]) : Vc c x y ≤ Vc c s E := by
  unfold cutS at h
  split at h
  · exact Int.le_of_eq (told_Vc hE h)
  · rename_i hb
    obtain ⟨j, hj⟩ : ∃ j : Nat, (j : Int) = (bl s.natAbs : Int) - p := ⟨((bl s.natAbs : Int) - p).toNat, by omega⟩
    rw [← hj] at h
    have hv := told_Vc (c := c) (by omega) h
    rw [hv]
    have hw : wholeS s (j : Int) false = s / 2 ^ j := by show s / 2 ^ ((j : Int)).toNat = _; rw [Int.toNat_natCast]
    rw [hw]
    unfold Vc
    rw [show (E + (j : Int) + c).toNat = j + (E + c).toNat by omega, Int.pow_add, ← Int.mul_assoc]
    exact mr (Int.ediv_mul_le _ (Int.ne_of_gt (p2_pos j))) (Int.le_of_lt (p2_pos _))
theorem quo_low {a b : D2} (h : a.good) (g : b.good) (hb : 0 < b.1) {p : Int} (hp : 1 ≤ p ∧ p ≤ 70000) (hc : (toAn (quoP a b p false)).c = 0) : (toAn (quoP a b p false)).d.v * b.v ≤ a.v * 2 ^ 1048576 := by
  obtain ⟨h1, gu, _⟩ := (quo_ans (a := a) (b := b) hp (by omega) false).eq
  obtain ⟨u, hu⟩ : ∃ u, u = toAn (quoP a b p false) := ⟨_, rfl⟩
  rw [← hu] at h1 hc gu ⊢
  unfold An.pv at h1
  rw [hc] at h1
  have hE : dyE 5 ≠ .tup [DY u.x u.y, .val (.int .i64 0)] := fun hh => absurd (tup_inj hh).2.2 (by decide)
  have e1 := h.2.1
  have e2 := g.2.1
  have e3 := g.2.2.1
  have e4 := gu.2.1
  unfold quoP quoS at h1
  rw [if_neg (by omega), if_neg (by omega), if_neg (by omega)] at h1
  split at h1
  · exact absurd h1 hE
  · rename_i l1
    split at h1
    · exact absurd h1 hE
    · rename_i l2
      have hbl := bl_L64 b.1.natAbs
      have hk : quoK a.1 b.1 p 1 = max 0 (p + 1 + bl b.1.natAbs - bl a.1.natAbs) := rfl
      obtain ⟨k, hkk⟩ : ∃ k : Nat, (k : Int) = quoK a.1 b.1 p 1 := ⟨(quoK a.1 b.1 p 1).toNat, by omega⟩
      rw [← hkk, Int.toNat_natCast] at h1
      obtain ⟨c, hcc⟩ : ∃ c : Int, c = 4194304 := ⟨_, rfl⟩
      have hv := cut_Vc (c := c) (by omega) h1
      obtain ⟨s, hs⟩ : ∃ s, s = docQ a.1 b.1 k false := ⟨_, rfl⟩
      have hsm : s * b.1 ≤ a.1 * 2 ^ k := by
        rw [hs]
        show (a.1 * 2 ^ k).fdiv b.1 * b.1 ≤ a.1 * 2 ^ k
        rw [Int.fdiv_eq_ediv_of_nonneg _ (by omega)]
        exact Int.ediv_mul_le _ (by omega)
      rw [← hs] at hv
      -- everything in parts of 2^-c
      have k1 : u.x * 2 ^ (u.y + c).toNat * b.1 ≤ a.1 * 2 ^ (a.2 - b.2 + c).toNat := by
        unfold Vc at hv
        have m1 := mr hv (Int.le_of_lt hb)
        refine Int.le_trans m1 ?_
        rw [Int.mul_right_comm]
        have m2 := mr hsm (Int.le_of_lt (p2_pos (a.2 - b.2 - (k : Int) + c).toNat))
        refine Int.le_trans m2 ?_
        rw [Int.mul_assoc, ← Int.pow_add, show k + (a.2 - b.2 - (k : Int) + c).toNat = (a.2 - b.2 + c).toNat by omega]
        exact Int.le_refl _
      have k2 := mr k1 (Int.le_of_lt (p2_pos (b.2 + 2097152).toNat))
      have t1 : (VV u.x u.y * VV b.1 b.2) * 2 ^ c.toNat = u.x * 2 ^ (u.y + c).toNat * b.1 * 2 ^ (b.2 + 2097152).toNat := by
        have r : u.x * 2 ^ (u.y + c).toNat * b.1 * 2 ^ (b.2 + 2097152).toNat = u.x * b.1 * 2 ^ ((u.y + c).toNat + (b.2 + 2097152).toNat) := by
          rw [Int.mul_right_comm u.x, Int.mul_assoc, ← Int.pow_add]
        rw [r, Vc_mul e4 e2]
        unfold Vc
        rw [Int.mul_assoc, ← Int.pow_add, show (u.y + b.2 + 2097152).toNat + c.toNat = (u.y + c).toNat + (b.2 + 2097152).toNat by omega]
      have t2 : (VV a.1 a.2 * 2 ^ 1048576) * 2 ^ c.toNat = a.1 * 2 ^ (a.2 - b.2 + c).toNat * 2 ^ (b.2 + 2097152).toNat := by
        rw [← Vc_two e1]
        unfold Vc
        rw [Int.mul_assoc, ← Int.pow_add, Int.mul_assoc a.1, ← Int.pow_add, show (a.2 + 2097152).toNat + c.toNat = (a.2 - b.2 + c).toNat + (b.2 + 2097152).toNat by omega]
      show VV u.x u.y * VV b.1 b.2 ≤ VV a.1 a.2 * 2 ^ 1048576
      refine Int.le_of_mul_le_mul_right ?_ (p2_pos c.toNat)
      rw [t1, t2]
      exact k2
theorem docQ_neg (n m : Int) (s : Nat) (up : Bool) : docQ (-n) m s up = -docQ n m s (!up) := by
  cases up
  · show ((-n) * 2 ^ s).fdiv m = - -((-(n * 2 ^ s)).fdiv m)
    rw [Int.neg_neg, Int.neg_mul]
  · show -((-((-n) * 2 ^ s)).fdiv m) = -((n * 2 ^ s).fdiv m)
    rw [Int.neg_mul, Int.neg_neg]
theorem cutS_neg (n e p : Int) (up : Bool) : toAn (cutS (-n) e p up) = (toAn (cutS n e p (!up))).neg := by
  unfold cutS
  rw [Int.natAbs_neg, whole_neg]
  split
  · exact told_neg _ _
  · exact told_neg _ _
theorem quo_neg1 (a b : D2) (p : Int) (up : Bool) (hp : 1 ≤ p ∧ p ≤ 70000) (h0 : b.1 ≠ 0) : toAn (quoP a.neg b p up) = (toAn (quoP a b p (!up))).neg := by
  have e1 : quoK (-a.1) b.1 p 1 = quoK a.1 b.1 p 1 := by unfold quoK; rw [Int.natAbs_neg]
  have en : L64 (-a.1).natAbs = L64 a.1.natAbs := by rw [Int.natAbs_neg]
  show toAn (quoS (-a.1) a.2 b.1 b.2 p up) = (toAn (quoS a.1 a.2 b.1 b.2 p (!up))).neg
  by_cases hl : L64 a.1.natAbs ≤ 4096 ∧ L64 b.1.natAbs ≤ 4096
  · rw [quoS_ok hp h0 (by omega) hl.2, quoS_ok hp h0 hl.1 hl.2, e1, docQ_neg]
    exact cutS_neg _ _ _ _
  · rw [quoS_5 hp h0 (by omega), quoS_5 hp h0 (by omega), dyE_an]
    rfl
theorem quo_high {a b : D2} (h : a.good) (g : b.good) (hb : 0 < b.1) {p : Int} (hp : 1 ≤ p ∧ p ≤ 70000) (hc : (toAn (quoP a b p true)).c = 0) : a.v * 2 ^ 1048576 ≤ (toAn (quoP a b p true)).d.v * b.v := by
  have e := quo_neg1 a b p false hp (by omega)
  have h1 := quo_low (D2.neg_good h) g hb hp (by rw [e]; exact hc)
  rw [e, An.neg_d, D2.neg_v, D2.neg_v, Int.neg_mul, Int.neg_mul] at h1
  have : (!false) = true := rfl
  rw [this] at h1
  omega
theorem spR_inj {a b x y : D2} (h : spR a b = spR x y) (ha : a.good) (hx : x.good) (hb : b.good) (hy : y.good) : a = x ∧ b = y := by
  unfold spR SP at h
  simp only [PV.tup.injEq, PV.agg.injEq, List.cons.injEq, PV.val.injEq, Value.bool.injEq, PV.ws.injEq, Value.int.injEq, true_and, and_true] at h
  obtain ⟨h1, h2, h3, h4, h5, h6⟩ := h
  have k1 : DY a.1 a.2 = DY x.1 x.2 := by unfold DY; rw [h1, h2, h3]
  have k2 : DY b.1 b.2 = DY y.1 y.2 := by unfold DY; rw [h4, h5, h6]
  exact ⟨Prod.ext (DY_inj k1).1 (DY_inj k1).2, Prod.ext (DY_inj k2).1 (DY_inj k2).2⟩
theorem D2.sgn (a : D2) : (a.1 < 0 ↔ a.v < 0) ∧ (0 < a.1 ↔ 0 < a.v) := by
  have h := VV_sign (n := a.1) (e := a.2)
  unfold D2.v
  exact ⟨h.2.symm, h.1.symm⟩
theorem quo_pos {a b c d : D2} (h : GoodS a b) (k : GoodS c d) (hc : 0 < c.1) {p : Int} (hp : 1 ≤ p ∧ p ≤ 70000) : spQuoPos a b c d p = spE 5 ∨ ∃ x y : D2, spQuoPos a b c d p = spR x y ∧ GoodS x y
    ∧ (x.v * c.v ≤ a.v * 2 ^ 1048576 ∨ x.v * d.v ≤ a.v * 2 ^ 1048576) ∧ (b.v * 2 ^ 1048576 ≤ y.v * c.v ∨ b.v * 2 ^ 1048576 ≤ y.v * d.v) := by
  have sc := D2.sgn c
  have sd := D2.sgn d
  have sa := D2.sgn a
  have sb := D2.sgn b
  have hcd := k.2.2
  have hab := h.2.2
  have hcv : 0 < c.v := sc.2.1 hc
  have hdv : 0 < d.v := by omega
  have hd1 : 0 < d.1 := sd.2.2 hdv
  unfold spQuoPos
  obtain ⟨un, hun⟩ : ∃ r, r = (if a.1 < 0 then c else d) := ⟨_, rfl⟩
  obtain ⟨ov, hov⟩ : ∃ r, r = (if b.1 < 0 then d else c) := ⟨_, rfl⟩
  rw [← hun, ← hov]
  have u1 : un.good ∧ 0 < un.1 := by rw [hun]; split <;> first | exact ⟨k.1, hc⟩ | exact ⟨k.2.1, hd1⟩
  have u2 : ov.good ∧ 0 < ov.1 := by rw [hov]; split <;> first | exact ⟨k.1, hc⟩ | exact ⟨k.2.1, hd1⟩
  have l1 := quo_low h.1 u1.1 u1.2 hp
  have l2 := quo_high h.2.1 u2.1 u2.2 hp
  have g1 := An.d_good (quo_ans (a := a) (b := un) hp (by omega) false)
  have g2 := An.d_good (quo_ans (a := b) (b := ov) hp (by omega) true)
  obtain ⟨u, hu⟩ : ∃ u, u = toAn (quoP a un p false) := ⟨_, rfl⟩
  obtain ⟨v, hv⟩ : ∃ v, v = toAn (quoP b ov p true) := ⟨_, rfl⟩
  rw [← hu] at l1 g1 ⊢
  rw [← hv] at l2 g2 ⊢
  by_cases hz : u.c = 0 ∧ v.c = 0
  · refine .inr ⟨u.d, v.d, bothA_ok hz.1 hz.2, ⟨g1, g2, ?_⟩, ?_, ?_⟩
    · have m1 := l1 hz.1
      have m2 := l2 hz.2
      obtain ⟨C, hC⟩ : ∃ C : Int, C = 2 ^ 1048576 := ⟨_, rfl⟩
      have hC0 : 0 < C := hC ▸ p2_pos 1048576
      rw [← hC] at m1 m2
      have ab := mr hab (Int.le_of_lt hC0)
      obtain ⟨X, hX⟩ : ∃ X, X = u.d.v := ⟨_, rfl⟩
      obtain ⟨Y, hY⟩ : ∃ Y, Y = v.d.v := ⟨_, rfl⟩
      rw [← hX] at m1 ⊢
      rw [← hY] at m2 ⊢
      rcases Int.lt_or_le Y X with hlt | hle
      · exfalso
        by_cases ha : a.1 < 0
        · rw [if_pos ha] at hun
          subst hun
          have hav := sa.1.1 ha
          have hx0 : X < 0 := by
            rcases Int.lt_or_le X 0 with q | q
            · exact q
            · exfalso
              have n1 := Int.mul_nonneg q (Int.le_of_lt hcv)
              have n2 := Int.mul_neg_of_neg_of_pos hav hC0
              omega
          by_cases hb : b.1 < 0
          · rw [if_pos hb] at hov
            subst hov
            have n1 := mln hcd (show Y ≤ 0 by omega)
            have n2 := Int.mul_lt_mul_of_pos_right hlt hcv
            omega
          · rw [if_neg hb] at hov
            subst hov
            have hbv : 0 ≤ b.v := by have := sb.1; omega
            have n1 := Int.mul_nonneg hbv (Int.le_of_lt hC0)
            have n2 := Int.mul_neg_of_neg_of_pos (show Y < 0 by omega) hcv
            omega
        · rw [if_neg ha] at hun
          subst hun
          have hav : 0 ≤ a.v := by have := sa.1; omega
          have hb : ¬ b.1 < 0 := fun hh => by have := sb.1.1 hh; omega
          rw [if_neg hb] at hov
          subst hov
          have n0 := Int.mul_nonneg hav (Int.le_of_lt hC0)
          have hy0 : 0 ≤ Y := by
            rcases Int.lt_or_le Y 0 with q | q
            · exfalso
              have n2 := Int.mul_neg_of_neg_of_pos q hcv
              omega
            · exact q
          have n1 := ml hcd (show 0 ≤ X by omega)
          have n2 := Int.mul_lt_mul_of_pos_right hlt hcv
          omega
      · exact hle
    · have m1 := l1 hz.1
      rw [hun] at m1
      split at m1
      · exact .inl m1
      · exact .inr m1
    · have m2 := l2 hz.2
      rw [hov] at m2
      split at m2
      · exact .inr m2
      · exact .inl m2
  · exact .inl (bothA_no (by omega))
theorem pow_half {P : Nat} (h : 1 ≤ P) : (2 : Int) ^ P = 2 ^ (P - 1) * 2 := by rw [← Int.pow_succ]; congr 1; omega
theorem abs_lt_pow {n : Int} {P : Nat} (h : bl n.natAbs ≤ P) : -(2 ^ P) < n ∧ n < 2 ^ P := by
  have h1 := lt_bl n.natAbs
  have h2 : 2 ^ bl n.natAbs ≤ 2 ^ P := Nat.pow_le_pow_right (by decide) h
  have h3 : ((2 ^ P : Nat) : Int) = 2 ^ P := by simp
  omega
theorem abs_ge_pow {s : Int} {m : Nat} (h : m < bl s.natAbs) : s ≤ -(2 ^ m) ∨ 2 ^ m ≤ s := by
  have h1 := le_of_bl (n := s.natAbs) (fun hh => by rw [hh, bl_zero] at h; omega)
  have h2 : 2 ^ m ≤ 2 ^ (bl s.natAbs - 1) := Nat.pow_le_pow_right (by decide) (by omega)
  have h3 : ((2 ^ m : Nat) : Int) = 2 ^ m := by simp
  omega
theorem cutS_max {s E p c x y n e : Int} (hE : -c ≤ E) (hp : 1 ≤ p) (h : cutS s E p false = .tup [DY x y, .val (.int .i64 0)]) (he : -c ≤ e) (hn : (bl n.natAbs : Int) ≤ p) (hz : Vc c n e ≤ Vc c s E) : Vc c n e ≤ Vc c x y := by
  unfold cutS at h
  split at h
  · rw [told_Vc hE h]; exact hz
  · rename_i hb
    obtain ⟨j, hj⟩ : ∃ j : Nat, (j : Int) = (bl s.natAbs : Int) - p := ⟨((bl s.natAbs : Int) - p).toNat, by omega⟩
    obtain ⟨P, hP⟩ : ∃ P : Nat, (P : Int) = p := ⟨p.toNat, by omega⟩
    rw [← hj] at h
    have hw : wholeS s (j : Int) false = s / 2 ^ j := by show s / 2 ^ ((j : Int)).toNat = _; rw [Int.toNat_natCast]
    rw [hw] at h
    rw [told_Vc (c := c) (by omega) h]
    obtain ⟨q, hq⟩ : ∃ q, q = s / 2 ^ j := ⟨_, rfl⟩
    rw [← hq]
    have hpj := p2_pos j
    have hqd := Int.mul_ediv_add_emod s (2 ^ j)
    have hm0 := Int.emod_nonneg s (Int.ne_of_gt hpj)
    have hm1 := Int.emod_lt_of_pos s hpj
    rw [← hq] at hqd
    unfold Vc at hz ⊢
    by_cases hej : E + (j : Int) ≤ e
    · have e1 : (e + c).toNat = (e - E - (j : Int)).toNat + (j + (E + c).toNat) := by omega
      have e2 : (E + (j : Int) + c).toNat = j + (E + c).toNat := by omega
      rw [e1, Int.pow_add, ← Int.mul_assoc, Int.pow_add, ← Int.mul_assoc] at hz
      have k1 := (mul_le_iff (p2_pos (E + c).toNat)).1 hz
      have k2 : n * 2 ^ (e - E - (j : Int)).toNat ≤ q := by rw [hq]; exact Int.le_ediv_of_mul_le hpj k1
      rw [e1, e2, Int.pow_add, ← Int.mul_assoc]
      exact mr k2 (Int.le_of_lt (p2_pos _))
    · have hP1 : 1 ≤ P := by omega
      have hl := abs_lt_pow (n := n) (P := P) (by omega)
      have hh := pow_half hP1
      -- 2^P 2^(e+c) is at most 2^(P-1) 2^(E+j+c)
      have k1 : (2 : Int) ^ P * 2 ^ (e + c).toNat ≤ 2 ^ (P - 1) * 2 ^ (E + (j : Int) + c).toNat := by
        rw [hh, Int.mul_assoc]
        refine ml ?_ (Int.le_of_lt (p2_pos _))
        have : (2 : Int) * 2 ^ (e + c).toNat = 2 ^ ((e + c).toNat + 1) := by rw [Int.pow_succ, Int.mul_comm]
        rw [this]
        have h1 : (2 : Nat) ^ ((e + c).toNat + 1) ≤ 2 ^ (E + (j : Int) + c).toNat := Nat.pow_le_pow_right (by decide) (by omega)
        have h2 : ∀ k : Nat, ((2 ^ k : Nat) : Int) = 2 ^ k := fun k => by simp
        rw [← h2, ← h2]
        omega
      have k2 := Int.mul_lt_mul_of_pos_right hl.2 (p2_pos (e + c).toNat)
      have k3 := Int.mul_lt_mul_of_pos_right hl.1 (p2_pos (e + c).toNat)
      rw [Int.neg_mul] at k3
      have e2 : (E + (j : Int) + c).toNat = j + (E + c).toNat := by omega
      rcases abs_ge_pow (s := s) (m := P - 1 + j) (by omega) with hs | hs
      · exfalso
        have m1 := mr hs (Int.le_of_lt (p2_pos (E + c).toNat))
        rw [Int.neg_mul, Int.pow_add, Int.mul_assoc, ← Int.pow_add, ← e2] at m1
        omega
      · have m1 : (2 : Int) ^ (P - 1) ≤ q := by
          rw [hq]
          refine Int.le_ediv_of_mul_le hpj ?_
          rw [← Int.pow_add]
          exact hs
        have m2 := mr m1 (Int.le_of_lt (p2_pos (E + (j : Int) + c).toNat))
        omega
theorem cutS_bits {s E p x y : Int} (hp : 1 ≤ p) (g : Good x y) (h : cutS s E p false = .tup [DY x y, .val (.int .i64 0)]) : (bl x.natAbs : Int) ≤ p := by
  by_cases hx : x = 0
  · rw [hx, show Int.natAbs 0 = 0 from rfl, bl_zero]; omega
  have hodd := g.2.2.2.2 hx
  have key : ∀ {t k : Int}, toldS t k = .tup [DY x y, .val (.int .i64 0)] → x.natAbs ≤ t.natAbs := fun {t k} ht => by
    rcases told_inv ht with ⟨h1, h2, _⟩ | ⟨h1, _, _, h4⟩
    · exact absurd h2 hx
    · rw [h4, abs_shl]
      exact Nat.le_mul_of_pos_right _ (Nat.pow_pos (by decide))
  unfold cutS at h
  split at h
  · have := bl_mono (key h)
    omega
  · rename_i hb
    have h1 := key h
    obtain ⟨j, hj⟩ : ∃ j : Nat, (j : Int) = (bl s.natAbs : Int) - p := ⟨((bl s.natAbs : Int) - p).toNat, by omega⟩
    obtain ⟨P, hP⟩ : ∃ P : Nat, (P : Int) = p := ⟨p.toNat, by omega⟩
    rw [← hj] at h1
    have hw : wholeS s (j : Int) false = s / 2 ^ j := by show s / 2 ^ ((j : Int)).toNat = _; rw [Int.toNat_natCast]
    rw [hw] at h1
    have hpj := p2_pos j
    have hl := abs_lt_pow (n := s) (P := P + j) (by omega)
    have h3 : ((2 ^ P : Nat) : Int) = 2 ^ P := by simp
    have u1 : s / 2 ^ j < 2 ^ P := Int.ediv_lt_of_lt_mul hpj (by rw [← Int.pow_add]; exact hl.2)
    have u2 : -(2 ^ P) ≤ s / 2 ^ j := Int.le_ediv_of_mul_le hpj (by rw [Int.neg_mul, ← Int.pow_add]; omega)
    have h5 : x.natAbs ≤ 2 ^ P := by omega
    have := odd_bl hodd (m := P) (by omega) h5
    omega
def QLo (p : Int) (B : D2 → Prop) (x : D2) : Prop := x.good ∧ (bl x.1.natAbs : Int) ≤ p ∧ B x ∧ ∀ z : D2, z.good → (bl z.1.natAbs : Int) ≤ p → B z → z.v ≤ x.v
def QHi (p : Int) (B : D2 → Prop) (x : D2) : Prop := x.good ∧ (bl x.1.natAbs : Int) ≤ p ∧ B x ∧ ∀ z : D2, z.good → (bl z.1.natAbs : Int) ≤ p → B z → x.v ≤ z.v
theorem QLo.mono {p : Int} {B B' : D2 → Prop} {x x' : D2} (h : QLo p B x) (k : QLo p B' x') (hB : B' x' → B x') : x'.v ≤ x.v := h.2.2.2 x' k.1 k.2.1 (hB k.2.2.1)
theorem QHi.mono {p : Int} {B B' : D2 → Prop} {x x' : D2} (h : QHi p B x) (k : QHi p B' x') (hB : B' x' → B x') : x.v ≤ x'.v := h.2.2.2 x' k.1 k.2.1 (hB k.2.2.1)
theorem bl_neg (a : D2) : bl a.neg.1.natAbs = bl a.1.natAbs := by unfold D2.neg; simp only [Int.natAbs_neg]
theorem QLo.neg {p : Int} {B B' : D2 → Prop} {x : D2} (h : QLo p B x) (hB : ∀ z, B' z ↔ B z.neg) : QHi p B' x.neg := by
  refine ⟨D2.neg_good h.1, by rw [bl_neg]; exact h.2.1, (hB _).2 (by rw [D2.neg_neg]; exact h.2.2.1), fun z g hb k => ?_⟩
  have := h.2.2.2 z.neg (D2.neg_good g) (by rw [bl_neg]; exact hb) ((hB z).1 k)
  rw [D2.neg_v] at this ⊢
  omega
theorem cuts_lo {a : D2} (h : a.good) {p : Int} (hp : 1 ≤ p ∧ p ≤ 70000) (hc : (toAn (cutsS a.1 a.2 p false)).c = 0) : QLo p (fun z => z.v ≤ a.v) (toAn (cutsS a.1 a.2 p false)).d := by
  have hl := cut_low h hp hc
  obtain ⟨h1, g, _⟩ := (cuts_ans a hp false).eq
  obtain ⟨u, hu⟩ : ∃ u, u = toAn (cutsS a.1 a.2 p false) := ⟨_, rfl⟩
  rw [← hu] at h1 hc g hl ⊢
  unfold An.pv at h1
  rw [hc] at h1
  unfold cutsS at h1
  rw [if_neg (by omega), if_neg (by omega)] at h1
  exact ⟨g, cutS_bits hp.1 g h1, hl, fun z gz bz hz => cutS_max (c := 1048576) h.2.1 hp.1 h1 gz.2.1 bz hz⟩
theorem cuts_hi {a : D2} (h : a.good) {p : Int} (hp : 1 ≤ p ∧ p ≤ 70000) (hc : (toAn (cutsS a.1 a.2 p true)).c = 0) : QHi p (fun z => a.v ≤ z.v) (toAn (cutsS a.1 a.2 p true)).d := by
  have e : toAn (cutsS a.neg.1 a.neg.2 p false) = (toAn (cutsS a.1 a.2 p true)).neg := cuts_neg a.1 a.2 p false
  have h1 := cuts_lo (D2.neg_good h) hp (by rw [e]; exact hc)
  rw [e, An.neg_d] at h1
  have h2 := h1.neg (B' := fun z => a.v ≤ z.v) (fun z => by
    show a.v ≤ z.v ↔ z.neg.v ≤ a.neg.v
    rw [D2.neg_v, D2.neg_v]; omega)
  rw [D2.neg_neg] at h2
  exact h2
theorem out_q {a b : D2} (h : a.good) (k : b.good) (hv : a.v ≤ b.v) {p : Int} (hp : 1 ≤ p ∧ p ≤ 70000) : outP a b p = spE 5 ∨ ∃ x y : D2, outP a b p = spR x y ∧ GoodS x y ∧ QLo p (fun z => z.v ≤ a.v) x ∧ QHi p (fun z => b.v ≤ z.v) y := by
  have l1 := cuts_lo h hp
  have l2 := cuts_hi k hp
  unfold outP
  obtain ⟨u, hu⟩ : ∃ u, u = toAn (cutsS a.1 a.2 p false) := ⟨_, rfl⟩
  obtain ⟨v, hv2⟩ : ∃ v, v = toAn (cutsS b.1 b.2 p true) := ⟨_, rfl⟩
  rw [← hu] at l1 ⊢
  rw [← hv2] at l2 ⊢
  by_cases hc : u.c = 0 ∧ v.c = 0
  · have q1 := l1 hc.1
    have q2 := l2 hc.2
    have w1 : u.d.v ≤ a.v := q1.2.2.1
    have w2 : b.v ≤ v.d.v := q2.2.2.1
    exact .inr ⟨u.d, v.d, bothA_ok hc.1 hc.2, ⟨q1.1, q2.1, by omega⟩, q1, q2⟩
  · exact .inl (bothA_no (by omega))
def Grow (r r' : PV) : Prop := ∃ x y x' y' : D2, ∃ e f : Int, r = .tup [SP x y, .val (.int .i64 e)] ∧ r' = .tup [SP x' y', .val (.int .i64 f)] ∧ (e = 0 ∨ e = 4 ∨ e = 5) ∧ (f = 0 ∨ f = 4 ∨ f = 5) ∧ (e = 0 → f = 0 → GoodS x y ∧ GoodS x' y' ∧ x'.v ≤ x.v ∧ y.v ≤ y'.v)
theorem Grow.of {r r' : PV} (h : (∃ e, r = spE e ∧ (e = 4 ∨ e = 5)) ∨ ∃ x y : D2, r = spR x y ∧ GoodS x y) (k : (∃ e, r' = spE e ∧ (e = 4 ∨ e = 5)) ∨ ∃ x y : D2, r' = spR x y ∧ GoodS x y) (hw : ∀ x y x' y' : D2, r = spR x y → r' = spR x' y' → GoodS x y → GoodS x' y' → x'.v ≤ x.v ∧ y.v ≤ y'.v) : Grow r r' := by
  rcases h with ⟨e, h1, h2⟩ | ⟨x, y, h1, g1⟩ <;> rcases k with ⟨f, k1, k2⟩ | ⟨x', y', k1, g2⟩
  · exact ⟨_, _, _, _, e, f, h1, k1, by omega, by omega, fun a _ => by omega⟩
  · exact ⟨_, _, _, _, e, 0, h1, k1, by omega, by omega, fun a _ => by omega⟩
  · exact ⟨_, _, _, _, 0, f, h1, k1, by omega, by omega, fun _ a => by omega⟩
  · exact ⟨_, _, _, _, 0, 0, h1, k1, by omega, by omega, fun _ _ => ⟨g1, g2, hw x y x' y' h1 k1 g1 g2⟩⟩
set_option maxHeartbeats 2000000
theorem bil (a b u v : Int) (h1 : a ≤ u) (h2 : u ≤ b) : min (a * v) (b * v) ≤ u * v ∧ u * v ≤ max (a * v) (b * v) := by
  rcases Int.le_total 0 v with hv | hv
  · have k1 := mr h1 hv
    have k2 := mr h2 hv
    omega
  · have k1 := mrn h1 hv
    have k2 := mrn h2 hv
    omega
theorem corners {a b c d u v : Int} (h1 : a ≤ u) (h2 : u ≤ b) (k1 : c ≤ v) (k2 : v ≤ d) : min (min (min (a * c) (a * d)) (b * c)) (b * d) ≤ u * v ∧ u * v ≤ max (max (max (a * c) (a * d)) (b * c)) (b * d) := by
  have m1 := bil a b u v h1 h2
  have m2 := bil c d v a k1 k2
  have m3 := bil c d v b k1 k2
  rw [Int.mul_comm c a, Int.mul_comm d a, Int.mul_comm v a] at m2
  rw [Int.mul_comm c b, Int.mul_comm d b, Int.mul_comm v b] at m3
  omega
theorem mul_q {a b c d : D2} (h : GoodS a b) (k : GoodS c d) {p : Int} (hp : 1 ≤ p ∧ p ≤ 70000) : spMul a b c d p = spE 5 ∨ ∃ l m : D2, l.v * 2 ^ 1048576 = min (min (min (a.v * c.v) (a.v * d.v)) (b.v * c.v)) (b.v * d.v) ∧ m.v * 2 ^ 1048576 = max (max (max (a.v * c.v) (a.v * d.v)) (b.v * c.v)) (b.v * d.v) ∧
    ∃ x y : D2, spMul a b c d p = spR x y ∧ GoodS x y ∧ QLo p (fun z => z.v ≤ l.v) x ∧ QHi p (fun z => m.v ≤ z.v) y := by
  have g1 := An.d_good (mul_ans a c)
  have g2 := An.d_good (mul_ans a d)
  have g3 := An.d_good (mul_ans b c)
  have g4 := An.d_good (mul_ans b d)
  have v1 := mul_V h.1 k.1
  have v2 := mul_V h.1 k.2.1
  have v3 := mul_V h.2.1 k.1
  have v4 := mul_V h.2.1 k.2.1
  unfold spMul
  obtain ⟨u1, e1⟩ : ∃ u, u = toAn (mulP a c) := ⟨_, rfl⟩
  obtain ⟨u2, e2⟩ : ∃ u, u = toAn (mulP a d) := ⟨_, rfl⟩
  obtain ⟨u3, e3⟩ : ∃ u, u = toAn (mulP b c) := ⟨_, rfl⟩
  obtain ⟨u4, e4⟩ : ∃ u, u = toAn (mulP b d) := ⟨_, rfl⟩
  rw [← e1] at g1 v1 ⊢
  rw [← e2] at g2 v2 ⊢
  rw [← e3] at g3 v3 ⊢
  rw [← e4] at g4 v4 ⊢
  clear e1 e2 e3 e4
  by_cases hz : u1.c = 0 ∧ u2.c = 0 ∧ u3.c = 0 ∧ u4.c = 0
  · obtain ⟨z1, z2, z3, z4⟩ := hz
    rw [if_neg (by omega)]
    have gl := least4_good g1 g2 g3 g4
    have gg := great4_good g1 g2 g3 g4
    have vl := least4_v u1.d u2.d u3.d u4.d
    have vg := great4_v u1.d u2.d u3.d u4.d
    have w1 := v1 z1
    have w2 := v2 z2
    have w3 := v3 z3
    have w4 := v4 z4
    rcases out_q gl gg (least4_le _ _ _ _) hp with q | q
    · exact .inl q
    · obtain ⟨C, hC⟩ : ∃ C : Int, C = 2 ^ 1048576 := ⟨_, rfl⟩
      have hC0 : 0 < C := hC ▸ p2_pos 1048576
      have mm : ∀ x y : Int, min x y * C = min (x * C) (y * C) := fun x y => by
        rcases Int.le_total x y with hh | hh
        · have := mr hh (Int.le_of_lt hC0); rw [Int.min_eq_left hh, Int.min_eq_left this]
        · have := mr hh (Int.le_of_lt hC0); rw [Int.min_eq_right hh, Int.min_eq_right this]
      have mx : ∀ x y : Int, max x y * C = max (x * C) (y * C) := fun x y => by
        rcases Int.le_total x y with hh | hh
        · have := mr hh (Int.le_of_lt hC0); rw [Int.max_eq_right hh, Int.max_eq_right this]
        · have := mr hh (Int.le_of_lt hC0); rw [Int.max_eq_left hh, Int.max_eq_left this]
      refine .inr ⟨_, _, ?_, ?_, q⟩
      · rw [vl, ← w1, ← w2, ← w3, ← w4, ← hC, mm, mm, mm]
      · rw [vg, ← w1, ← w2, ← w3, ← w4, ← hC, mx, mx, mx]
  · exact .inl (if_pos (by omega))
theorem sqr_nn (x : Int) : 0 ≤ x * x := by
  rcases Int.le_total 0 x with h | h
  · exact Int.mul_nonneg h h
  · exact Int.mul_nonneg_of_nonpos_of_nonpos h h
theorem sqr_q {a b : D2} (h : GoodS a b) {p : Int} (hp : 1 ≤ p ∧ p ≤ 70000) : spSqr a b p = spE 5 ∨ ∃ l m : D2, (l.v * 2 ^ 1048576 = if a.1 ≤ 0 ∧ 0 ≤ b.1 then 0 else min (a.v * a.v) (b.v * b.v)) ∧ m.v * 2 ^ 1048576 = max (a.v * a.v) (b.v * b.v) ∧
    ∃ x y : D2, spSqr a b p = spR x y ∧ GoodS x y ∧ QLo p (fun z => z.v ≤ l.v) x ∧ QHi p (fun z => m.v ≤ z.v) y := by
  have g1 := An.d_good (mul_ans a a)
  have g2 := An.d_good (mul_ans b b)
  have v1 := mul_V h.1 h.1
  have v2 := mul_V h.2.1 h.2.1
  unfold spSqr
  obtain ⟨u1, e1⟩ : ∃ u, u = toAn (mulP a a) := ⟨_, rfl⟩
  obtain ⟨u2, e2⟩ : ∃ u, u = toAn (mulP b b) := ⟨_, rfl⟩
  rw [← e1] at g1 v1 ⊢
  rw [← e2] at g2 v2 ⊢
  clear e1 e2
  by_cases hz : u1.c = 0 ∧ u2.c = 0
  · obtain ⟨z1, z2⟩ := hz
    rw [if_neg (by omega)]
    have w1 := v1 z1
    have w2 := v2 z2
    have gg := gst2_good g1 g2
    have vl := lst2_v u1.d u2.d
    have vg := gst2_v u1.d u2.d
    have n1 := sqr_nn a.v
    have n2 := sqr_nn b.v
    obtain ⟨C, hC⟩ : ∃ C : Int, C = 2 ^ 1048576 := ⟨_, rfl⟩
    have hC0 : 0 < C := hC ▸ p2_pos 1048576
    rw [← hC] at w1 w2
    have p1 : 0 ≤ u1.d.v := by
      rcases Int.lt_or_le u1.d.v 0 with q | q
      · have := Int.mul_neg_of_neg_of_pos q hC0; omega
      · exact q
    have mm : min u1.d.v u2.d.v * C = min (u1.d.v * C) (u2.d.v * C) := by
      rcases Int.le_total u1.d.v u2.d.v with hh | hh
      · have := mr hh (Int.le_of_lt hC0); rw [Int.min_eq_left hh, Int.min_eq_left this]
      · have := mr hh (Int.le_of_lt hC0); rw [Int.min_eq_right hh, Int.min_eq_right this]
    have mx : max u1.d.v u2.d.v * C = max (u1.d.v * C) (u2.d.v * C) := by
      rcases Int.le_total u1.d.v u2.d.v with hh | hh
      · have := mr hh (Int.le_of_lt hC0); rw [Int.max_eq_right hh, Int.max_eq_right this]
      · have := mr hh (Int.le_of_lt hC0); rw [Int.max_eq_left hh, Int.max_eq_left this]
    have hm : (gst2 u1.d u2.d).v * 2 ^ 1048576 = max (a.v * a.v) (b.v * b.v) := by rw [vg, ← hC, mx, w1, w2]
    by_cases h0 : a.1 ≤ 0 ∧ 0 ≤ b.1
    · rw [if_pos h0, if_pos h0]
      have z0 : D2.v (0, 0) = 0 := VV_zero 0
      rcases out_q (a := (0, 0)) Good.zero gg (by rw [z0, vg]; omega) hp with q | q
      · exact .inl q
      · exact .inr ⟨(0, 0), _, by rw [z0, Int.zero_mul], hm, q⟩
    · rw [if_neg h0, if_neg h0]
      rcases out_q (lst2_good g1 g2) gg (by rw [vl, vg]; omega) hp with q | q
      · exact .inl q
      · exact .inr ⟨_, _, by rw [vl, ← hC, mm, w1, w2], hm, q⟩
  · exact .inl (if_pos (by omega))
variable {G : List (Nat × List Value)}
set_option maxRecDepth 10000
set_option maxHeartbeats 8000000
def qTQ : Tm := .take 0 (.take 2 (.alt 1 (.alt 3 (.alt 4 (.alt 5 (.alt 6 (.alt 7 (.fin) (.non)) (.non)) (.non)) (.alt 5 (.alt 4 (.alt 6 (.alt 7 (.fin) (.non)) (.non)) (.non)) (.non))) (.alt 4 (.alt 3 (.alt 5 (.alt 6 (.alt 7 (.fin) (.non)) (.non)) (.non)) (.alt 5 (.alt 3 (.alt 6 (.alt 7 (.fin) (.non)) (.non)) (.alt 6 (.alt 3 (.alt 7 (.fin) (.non)) (.non)) (.non))) (.non))) (.alt 5 (.alt 3 (.alt 4 (.alt 6 (.alt 7 (.fin) (.non)) (.non)) (.non)) (.alt 4 (.alt 3 (.alt 6 (.alt 7 (.fin) (.non)) (.non)) (.alt 6 (.alt 3 (.alt 7 (.fin) (.non)) (.non)) (.non))) (.non))) (.non)))) (.alt 3 (.alt 1 (.alt 4 (.alt 5 (.alt 6 (.alt 7 (.fin) (.non)) (.non)) (.non)) (.alt 5 (.alt 4 (.alt 6 (.alt 7 (.fin) (.non)) (.non)) (.non)) (.non))) (.alt 4 (.alt 1 (.alt 5 (.alt 6 (.alt 7 (.fin) (.non)) (.non)) (.non)) (.alt 5 (.alt 1 (.alt 6 (.alt 7 (.fin) (.non)) (.non)) (.non)) (.non))) (.alt 5 (.alt 1 (.alt 4 (.alt 6 (.alt 7 (.fin) (.non)) (.non)) (.non)) (.alt 4 (.alt 1 (.alt 6 (.alt 7 (.fin) (.non)) (.non)) (.non)) (.non))) (.non)))) (.alt 4 (.alt 1 (.alt 3 (.alt 5 (.alt 6 (.alt 7 (.fin) (.non)) (.non)) (.non)) (.alt 5 (.alt 3 (.alt 6 (.alt 7 (.fin) (.non)) (.non)) (.alt 6 (.alt 3 (.alt 7 (.fin) (.non)) (.non)) (.non))) (.non))) (.alt 3 (.alt 1 (.alt 5 (.alt 6 (.alt 7 (.fin) (.non)) (.non)) (.non)) (.alt 5 (.alt 1 (.alt 6 (.alt 7 (.fin) (.non)) (.non)) (.non)) (.non))) (.alt 5 (.alt 1 (.alt 3 (.alt 6 (.alt 7 (.fin) (.non)) (.non)) (.alt 6 (.alt 3 (.alt 7 (.fin) (.non)) (.non)) (.non))) (.alt 3 (.alt 1 (.alt 6 (.alt 7 (.fin) (.non)) (.non)) (.non)) (.non))) (.non)))) (.alt 5 (.alt 1 (.alt 3 (.alt 4 (.alt 6 (.alt 7 (.fin) (.non)) (.non)) (.non)) (.alt 4 (.alt 3 (.alt 6 (.alt 7 (.fin) (.non)) (.non)) (.alt 6 (.alt 3 (.alt 7 (.fin) (.non)) (.non)) (.non))) (.non))) (.alt 3 (.alt 1 (.alt 4 (.alt 6 (.alt 7 (.fin) (.non)) (.non)) (.non)) (.alt 4 (.alt 1 (.alt 6 (.alt 7 (.fin) (.non)) (.non)) (.non)) (.non))) (.alt 4 (.alt 1 (.alt 3 (.alt 6 (.alt 7 (.fin) (.non)) (.non)) (.alt 6 (.alt 3 (.alt 7 (.fin) (.non)) (.non)) (.non))) (.alt 3 (.alt 1 (.alt 6 (.alt 7 (.fin) (.non)) (.non)) (.non)) (.non))) (.non)))) (.non))))))
theorem elDy : elT Tryz.prog 94 = some (26, 3) := by kernel_rfl
theorem zeDy : zeroT Tryz.prog 26 = some [.val (.bool false), .nil, .val (.int .i64 0)] := by kernel_rfl
theorem sign3 (n : Int) : (n.sign = -1 ∧ n < 0) ∨ (n.sign = 0 ∧ n = 0) ∨ (n.sign = 1 ∧ 0 < n) := by
  rcases Int.lt_trichotomy n 0 with h | h | h
  · exact .inl ⟨Int.sign_eq_neg_one_of_neg h, h⟩
  · exact .inr (.inl ⟨by rw [h]; rfl, h⟩)
  · exact .inr (.inr ⟨Int.sign_eq_one_of_pos h, h⟩)
theorem byDy : byT Tryz.prog 26 = some 40 := by kernel_rfl
theorem p_mul {g : List (Nat × List Value)} (hD : (0, debT.map (Value.int .u8)) ∈ g) {a b c d : D2} (h : GoodS a b) (k : GoodS c d) {p : Int} (hp : 1 ≤ p ∧ p ≤ 70000) : FC Tryz.prog g 19 [SP a b, SP c d, .val (.int .i64 p)] (· = spMul a b c d p) := by
  have f0 := p_check2g (G := g) h k hp
  have f1 := y_mulP hD h.1 k.1
  obtain ⟨_, g1, c1⟩ := (mul_ans a c).eq
  have f2 := y_mulP hD h.1 k.2.1
  obtain ⟨_, g2, c2⟩ := (mul_ans a d).eq
  have f3 := y_mulP hD h.2.1 k.1
  obtain ⟨_, g3, c3⟩ := (mul_ans b c).eq
  have f4 := y_mulP hD h.2.1 k.2.1
  obtain ⟨_, g4, c4⟩ := (mul_ans b d).eq
  unfold spMul
  obtain ⟨u1, hu1⟩ : ∃ u, u = toAn (mulP a c) := ⟨_, rfl⟩
  rw [← hu1] at f1 g1 c1 ⊢
  clear hu1
  obtain ⟨u2, hu2⟩ : ∃ u, u = toAn (mulP a d) := ⟨_, rfl⟩
  rw [← hu2] at f2 g2 c2 ⊢
  clear hu2
  obtain ⟨u3, hu3⟩ : ∃ u, u = toAn (mulP b c) := ⟨_, rfl⟩
  rw [← hu3] at f3 g3 c3 ⊢
  clear hu3
  obtain ⟨u4, hu4⟩ : ∃ u, u = toAn (mulP b d) := ⟨_, rfl⟩
  rw [← hu4] at f4 g4 c4 ⊢
  clear hu4
  by_cases z1 : u1.c = 0
  · skip
    by_cases z2 : u2.c = 0
    · skip
      by_cases z3 : u3.c = 0
      · skip
        by_cases z4 : u4.c = 0
        · skip
          rw [if_neg (by omega)]
          have e1 := p_least4 (G := g) (a := u1.d) (b := u2.d) (c := u3.d) (d := u4.d) g1 g2 g3 g4
          have e2 := p_greatest4 (G := g) (a := u1.d) (b := u2.d) (c := u3.d) (d := u4.d) g1 g2 g3 g4
          have gl := least4_good (a := u1.d) (b := u2.d) (c := u3.d) (d := u4.d) g1 g2 g3 g4
          have gg := great4_good (a := u1.d) (b := u2.d) (c := u3.d) (d := u4.d) g1 g2 g3 g4
          obtain ⟨lo, hlo⟩ : ∃ r, r = least4 u1.d u2.d u3.d u4.d := ⟨_, rfl⟩
          obtain ⟨hi, hhi⟩ : ∃ r, r = great4 u1.d u2.d u3.d u4.d := ⟨_, rfl⟩
          rw [← hlo] at e1 gl ⊢
          rw [← hhi] at e2 gg ⊢
          have e3 := p_outward hD gl gg p hp
          obtain ⟨x, y, c, hr⟩ := outP_form lo hi p
          rw [hr] at e3 ⊢
          rw [z1] at f1
          rw [z2] at f2
          rw [z3] at f3
          rw [z4] at f4
          clear hr hlo hhi c1 c2 c3 c4
          refine ax_i Tryz.func19 Tryz.ntmps19 (by rw [Tryz.results19]) ?_; intro F hG hO
          rw [← hG] at f0 f1 f2 f3 f4 e1 e2 e3
          repeat' ((try (conv => whnf)); first
  | ((with_reducible refine cg ?_); first | refine ceq f0 rfl ?_ | refine ceq f1 rfl ?_ | refine ceq f2 rfl ?_ | refine ceq f3 rfl ?_ | refine ceq f4 rfl ?_)
  | ((with_reducible refine cg ?_); refine call_frz 0 (z := 3) rfl (by decide) (by rw [hO]; exact Nat.zero_le _) ?_; refine call_eq e1 (LpL.refl _) rfl ?_)
  | ((with_reducible refine cg ?_); first | refine ceq e2 rfl ?_ | refine ceq e3 rfl ?_)
  | (refine RawG.mk ?_; refine Sem.wr rfl (Does.appN (z := 3) (m := 1) rfl rfl rfl elDy zeDy rfl byDy rfl (by decide) (by decide) rfl rfl ?_))
  | (refine RawG.mk ?_; refine Sem.wr rfl (Does.appG (z := 3) (m := 1) rfl rfl rfl rfl elDy zeDy rfl byDy rfl rfl (by decide) rfl (by decide) (by rw [hO]; exact Nat.zero_le _) rfl rfl ?_))
  | ((with_reducible refine ilg ?_); refine idx_l 0 (by decide) (by simp [repZ]) ?_)
  | ((with_reducible refine ilg ?_); refine idx_l 1 (by decide) (by simp [repZ]) ?_)
  | ((with_reducible refine ilg ?_); refine idx_l 2 (by decide) (by simp [repZ]) ?_)
  | ((with_reducible refine ilg ?_); refine idx_l 3 (by decide) (by simp [repZ]) ?_)
  | (with_reducible refine Chk.mk' (by simp [repZ]) ?_)
  | ((with_reducible refine lg ?_); refine rounds_g 3 tok ?_)
  
  | with_reducible first | refine ax_s ?_ | refine BothG.mk ?_ ?_ | (refine ax_f ?_ ?_ <;> intro hc) | refine smk ?_ | fail)
          all_goals exact ⟨ret_e rfl⟩
        · rw [if_pos (by omega)]
          rw [z1] at f1
          rw [z2] at f2
          rw [z3] at f3
          rw [show u4.c = 5 by omega] at f4
          clear c1 c2 c3 c4
          refine ax_i Tryz.func19 Tryz.ntmps19 (by rw [Tryz.results19]) ?_; intro F hG hO
          rw [← hG] at f0 f1 f2 f3 f4
          repeat' ((try (conv => whnf)); first
  | ((with_reducible refine cg ?_); first | refine ceq f0 rfl ?_ | refine ceq f1 rfl ?_ | refine ceq f2 rfl ?_ | refine ceq f3 rfl ?_ | refine ceq f4 rfl ?_)
  | (refine RawG.mk ?_; refine Sem.wr rfl (Does.appN (z := 3) (m := 1) rfl rfl rfl elDy zeDy rfl byDy rfl (by decide) (by decide) rfl rfl ?_))
  | (refine RawG.mk ?_; refine Sem.wr rfl (Does.appG (z := 3) (m := 1) rfl rfl rfl rfl elDy zeDy rfl byDy rfl rfl (by decide) rfl (by decide) (by rw [hO]; exact Nat.zero_le _) rfl rfl ?_))
  | ((with_reducible refine ilg ?_); refine idx_l 0 (by decide) (by simp [repZ]) ?_)
  | ((with_reducible refine ilg ?_); refine idx_l 1 (by decide) (by simp [repZ]) ?_)
  | ((with_reducible refine ilg ?_); refine idx_l 2 (by decide) (by simp [repZ]) ?_)
  | ((with_reducible refine ilg ?_); refine idx_l 3 (by decide) (by simp [repZ]) ?_)
  | (with_reducible refine Chk.mk' (by simp [repZ]) ?_)
  | ((with_reducible refine lg ?_); refine rounds_g 3 tok ?_)
  
  | with_reducible first | refine ax_s ?_ | refine BothG.mk ?_ ?_ | (refine ax_f ?_ ?_ <;> intro hc) | refine smk ?_ | fail)
          all_goals exact ⟨ret_l _ (lp_spE 5) rfl⟩
      · rw [if_pos (by omega)]
        rw [z1] at f1
        rw [z2] at f2
        rw [show u3.c = 5 by omega] at f3
        clear c1 c2 c3 c4
        refine ax_i Tryz.func19 Tryz.ntmps19 (by rw [Tryz.results19]) ?_; intro F hG hO
        rw [← hG] at f0 f1 f2 f3
        repeat' ((try (conv => whnf)); first
  | ((with_reducible refine cg ?_); first | refine ceq f0 rfl ?_ | refine ceq f1 rfl ?_ | refine ceq f2 rfl ?_ | refine ceq f3 rfl ?_)
  | (refine RawG.mk ?_; refine Sem.wr rfl (Does.appN (z := 3) (m := 1) rfl rfl rfl elDy zeDy rfl byDy rfl (by decide) (by decide) rfl rfl ?_))
  | (refine RawG.mk ?_; refine Sem.wr rfl (Does.appG (z := 3) (m := 1) rfl rfl rfl rfl elDy zeDy rfl byDy rfl rfl (by decide) rfl (by decide) (by rw [hO]; exact Nat.zero_le _) rfl rfl ?_))
  | ((with_reducible refine ilg ?_); refine idx_l 0 (by decide) (by simp [repZ]) ?_)
  | ((with_reducible refine ilg ?_); refine idx_l 1 (by decide) (by simp [repZ]) ?_)
  | ((with_reducible refine ilg ?_); refine idx_l 2 (by decide) (by simp [repZ]) ?_)
  | ((with_reducible refine ilg ?_); refine idx_l 3 (by decide) (by simp [repZ]) ?_)
  | (with_reducible refine Chk.mk' (by simp [repZ]) ?_)
  | ((with_reducible refine lg ?_); refine rounds_g 3 tok ?_)
  
  | with_reducible first | refine ax_s ?_ | refine BothG.mk ?_ ?_ | (refine ax_f ?_ ?_ <;> intro hc) | refine smk ?_ | fail)
        all_goals exact ⟨ret_l _ (lp_spE 5) rfl⟩
    · rw [if_pos (by omega)]
      rw [z1] at f1
      rw [show u2.c = 5 by omega] at f2
      clear c1 c2 c3 c4
      refine ax_i Tryz.func19 Tryz.ntmps19 (by rw [Tryz.results19]) ?_; intro F hG hO
      rw [← hG] at f0 f1 f2
      repeat' ((try (conv => whnf)); first
  | ((with_reducible refine cg ?_); first | refine ceq f0 rfl ?_ | refine ceq f1 rfl ?_ | refine ceq f2 rfl ?_)
  | (refine RawG.mk ?_; refine Sem.wr rfl (Does.appN (z := 3) (m := 1) rfl rfl rfl elDy zeDy rfl byDy rfl (by decide) (by decide) rfl rfl ?_))
  | (refine RawG.mk ?_; refine Sem.wr rfl (Does.appG (z := 3) (m := 1) rfl rfl rfl rfl elDy zeDy rfl byDy rfl rfl (by decide) rfl (by decide) (by rw [hO]; exact Nat.zero_le _) rfl rfl ?_))
  | ((with_reducible refine ilg ?_); refine idx_l 0 (by decide) (by simp [repZ]) ?_)
  | ((with_reducible refine ilg ?_); refine idx_l 1 (by decide) (by simp [repZ]) ?_)
  | ((with_reducible refine ilg ?_); refine idx_l 2 (by decide) (by simp [repZ]) ?_)
  | ((with_reducible refine ilg ?_); refine idx_l 3 (by decide) (by simp [repZ]) ?_)
  | (with_reducible refine Chk.mk' (by simp [repZ]) ?_)
  | ((with_reducible refine lg ?_); refine rounds_g 3 tok ?_)
  
  | with_reducible first | refine ax_s ?_ | refine BothG.mk ?_ ?_ | (refine ax_f ?_ ?_ <;> intro hc) | refine smk ?_ | fail)
      all_goals exact ⟨ret_l _ (lp_spE 5) rfl⟩
  · rw [if_pos (by omega)]
    rw [show u1.c = 5 by omega] at f1
    clear c1 c2 c3 c4
    refine ax_i Tryz.func19 Tryz.ntmps19 (by rw [Tryz.results19]) ?_; intro F hG hO
    rw [← hG] at f0 f1
    repeat' ((try (conv => whnf)); first
  | ((with_reducible refine cg ?_); first | refine ceq f0 rfl ?_ | refine ceq f1 rfl ?_)
  | (refine RawG.mk ?_; refine Sem.wr rfl (Does.appN (z := 3) (m := 1) rfl rfl rfl elDy zeDy rfl byDy rfl (by decide) (by decide) rfl rfl ?_))
  | (refine RawG.mk ?_; refine Sem.wr rfl (Does.appG (z := 3) (m := 1) rfl rfl rfl rfl elDy zeDy rfl byDy rfl rfl (by decide) rfl (by decide) (by rw [hO]; exact Nat.zero_le _) rfl rfl ?_))
  | ((with_reducible refine ilg ?_); refine idx_l 0 (by decide) (by simp [repZ]) ?_)
  | ((with_reducible refine ilg ?_); refine idx_l 1 (by decide) (by simp [repZ]) ?_)
  | ((with_reducible refine ilg ?_); refine idx_l 2 (by decide) (by simp [repZ]) ?_)
  | ((with_reducible refine ilg ?_); refine idx_l 3 (by decide) (by simp [repZ]) ?_)
  | (with_reducible refine Chk.mk' (by simp [repZ]) ?_)
  | ((with_reducible refine lg ?_); refine rounds_g 3 tok ?_)
  
  | with_reducible first | refine ax_s ?_ | refine BothG.mk ?_ ?_ | (refine ax_f ?_ ?_ <;> intro hc) | refine smk ?_ | fail)
    all_goals exact ⟨ret_l _ (lp_spE 5) rfl⟩
theorem p_sqr {g : List (Nat × List Value)} (hD : (0, debT.map (Value.int .u8)) ∈ g) {a b : D2} (h : GoodS a b) {p : Int} (hp : 1 ≤ p ∧ p ≤ 70000) : FC Tryz.prog g 36 [SP a b, .val (.int .i64 p)] (· = spSqr a b p) := by
  have f0 := p_check1g (G := g) h hp
  have f1 := y_mulP hD h.1 h.1
  obtain ⟨_, g1, c1⟩ := (mul_ans a a).eq
  have f2 := y_mulP hD h.2.1 h.2.1
  obtain ⟨_, g2, c2⟩ := (mul_ans b b).eq
  have s1 := p_sign (G := g) h.1
  have s2 := p_sign (G := g) h.2.1
  have sa := sign3 a.1
  have sb := sign3 b.1
  unfold spSqr
  obtain ⟨u1, hu1⟩ : ∃ u, u = toAn (mulP a a) := ⟨_, rfl⟩
  rw [← hu1] at f1 g1 c1 ⊢
  clear hu1
  obtain ⟨u2, hu2⟩ : ∃ u, u = toAn (mulP b b) := ⟨_, rfl⟩
  rw [← hu2] at f2 g2 c2 ⊢
  clear hu2
  obtain ⟨t1, ht1⟩ : ∃ t, t = a.1.sign := ⟨_, rfl⟩
  obtain ⟨t2, ht2⟩ : ∃ t, t = b.1.sign := ⟨_, rfl⟩
  rw [← ht1] at s1 sa
  rw [← ht2] at s2 sb
  clear ht1 ht2
  have e1 := p_least2 (G := g) (a := u1.d) (b := u2.d) g1 g2
  have e2 := p_greatest2 (G := g) (a := u1.d) (b := u2.d) g1 g2
  have gl := lst2_good (a := u1.d) (b := u2.d) g1 g2
  have gg := gst2_good (a := u1.d) (b := u2.d) g1 g2
  obtain ⟨lo, hlo⟩ : ∃ r, r = lst2 u1.d u2.d := ⟨_, rfl⟩
  obtain ⟨hi, hhi⟩ : ∃ r, r = gst2 u1.d u2.d := ⟨_, rfl⟩
  rw [← hlo] at e1 gl ⊢
  rw [← hhi] at e2 gg ⊢
  clear hlo hhi
  by_cases z1 : u1.c = 0
  · by_cases z2 : u2.c = 0
    · rw [if_neg (by omega)]
      rw [z1] at f1
      rw [z2] at f2
      clear c1 c2
      by_cases hz : a.1 ≤ 0 ∧ 0 ≤ b.1
      · rw [if_pos hz]
        have q1 : t1 ≤ 0 := by omega
        have q2 : 0 ≤ t2 := by omega
        have e3 := p_outward hD (a := (0, 0)) Good.zero gg p hp
        obtain ⟨x, y, c, hr⟩ := outP_form (0, 0) hi p
        rw [hr] at e3 ⊢
        clear hr hz sa sb
        refine ax_i Tryz.func36 Tryz.ntmps36 (by rw [Tryz.results36]) ?_; intro F hG hO
        rw [← hG] at f0 f1 f2 s1 s2 e1 e2 e3
        repeat' ((try (conv => whnf)); first
  | ((with_reducible refine cg ?_); first | refine ceq f0 rfl ?_ | refine ceq f1 rfl ?_ | refine ceq f2 rfl ?_ | refine ceq s1 rfl ?_ | refine ceq s2 rfl ?_ | refine ceq e1 rfl ?_ | refine ceq e2 rfl ?_)
  | ((with_reducible refine cg ?_); refine call_eq e3 (.cons lp_dy0 (.cons (.refl _) (.cons (.refl _) .nil))) rfl ?_)
  
  | (with_reducible refine draw_g (id := 11) [[0, 1, 2, 5, 3, 4, 6, 7, 8], [9, 10]] tok mixed (by kernel_rfl) ?_)
  | with_reducible first | refine ax_s ?_ | refine BothG.mk ?_ ?_ | (refine ax_f ?_ ?_ <;> intro hc) | refine smk ?_ | fail)
        all_goals exact ⟨ret_e rfl⟩
      · rw [if_neg hz]
        have e3 := p_outward hD gl gg p hp
        obtain ⟨x, y, c, hr⟩ := outP_form lo hi p
        rw [hr] at e3 ⊢
        by_cases q1 : t1 ≤ 0
        · have q2 : t2 < 0 := by omega
          clear hr hz sa sb
          refine ax_i Tryz.func36 Tryz.ntmps36 (by rw [Tryz.results36]) ?_; intro F hG hO
          rw [← hG] at f0 f1 f2 s1 s2 e1 e2 e3
          repeat' ((try (conv => whnf)); first
  | ((with_reducible refine cg ?_); first | refine ceq f0 rfl ?_ | refine ceq f1 rfl ?_ | refine ceq f2 rfl ?_ | refine ceq s1 rfl ?_ | refine ceq s2 rfl ?_ | refine ceq e1 rfl ?_ | refine ceq e2 rfl ?_ | refine ceq e3 rfl ?_)
  
  | (with_reducible refine draw_g (id := 11) [[0, 1, 2, 5, 3, 4, 6, 7, 8], [9, 10]] tok mixed (by kernel_rfl) ?_)
  | with_reducible first | refine ax_s ?_ | refine BothG.mk ?_ ?_ | (refine ax_f ?_ ?_ <;> intro hc) | refine smk ?_ | fail)
          all_goals exact ⟨ret_e rfl⟩
        · clear hr hz sa sb
          refine ax_i Tryz.func36 Tryz.ntmps36 (by rw [Tryz.results36]) ?_; intro F hG hO
          rw [← hG] at f0 f1 f2 s1 s2 e1 e2 e3
          repeat' ((try (conv => whnf)); first
  | ((with_reducible refine cg ?_); first | refine ceq f0 rfl ?_ | refine ceq f1 rfl ?_ | refine ceq f2 rfl ?_ | refine ceq s1 rfl ?_ | refine ceq s2 rfl ?_ | refine ceq e1 rfl ?_ | refine ceq e2 rfl ?_ | refine ceq e3 rfl ?_)
  
  | (with_reducible refine draw_g (id := 11) [[0, 1, 2, 5, 3, 4, 6, 7, 8], [9, 10]] tok mixed (by kernel_rfl) ?_)
  | with_reducible first | refine ax_s ?_ | refine BothG.mk ?_ ?_ | (refine ax_f ?_ ?_ <;> intro hc) | refine smk ?_ | fail)
          all_goals exact ⟨ret_e rfl⟩
    · rw [if_pos (by omega)]
      rw [z1] at f1
      rw [show u2.c = 5 by omega] at f2
      clear c1 c2 sa sb
      refine ax_i Tryz.func36 Tryz.ntmps36 (by rw [Tryz.results36]) ?_; intro F hG hO
      rw [← hG] at f0 f1 f2
      repeat' ((try (conv => whnf)); first
  | ((with_reducible refine cg ?_); first | refine ceq f0 rfl ?_ | refine ceq f1 rfl ?_ | refine ceq f2 rfl ?_)
  
  | (with_reducible refine draw_g (id := 11) [[0, 1, 2, 5, 3, 4, 6, 7, 8], [9, 10]] tok mixed (by kernel_rfl) ?_)
  | with_reducible first | refine ax_s ?_ | refine BothG.mk ?_ ?_ | (refine ax_f ?_ ?_ <;> intro hc) | refine smk ?_ | fail)
      all_goals exact ⟨ret_l _ (lp_spE 5) rfl⟩
  · rw [if_pos (by omega)]
    rw [show u1.c = 5 by omega] at f1
    rcases c2 with c2 | c2
    · rw [c2] at f2
      clear c1 sa sb
      refine ax_i Tryz.func36 Tryz.ntmps36 (by rw [Tryz.results36]) ?_; intro F hG hO
      rw [← hG] at f0 f1 f2
      repeat' ((try (conv => whnf)); first
  | ((with_reducible refine cg ?_); first | refine ceq f0 rfl ?_ | refine ceq f1 rfl ?_ | refine ceq f2 rfl ?_)
  
  | (with_reducible refine draw_g (id := 11) [[0, 1, 2, 5, 3, 4, 6, 7, 8], [9, 10]] tok mixed (by kernel_rfl) ?_)
  | with_reducible first | refine ax_s ?_ | refine BothG.mk ?_ ?_ | (refine ax_f ?_ ?_ <;> intro hc) | refine smk ?_ | fail)
      all_goals exact ⟨ret_l _ (lp_spE 5) rfl⟩
    · rw [c2] at f2
      clear c1 sa sb
      refine ax_i Tryz.func36 Tryz.ntmps36 (by rw [Tryz.results36]) ?_; intro F hG hO
      rw [← hG] at f0 f1 f2
      repeat' ((try (conv => whnf)); first
  | ((with_reducible refine cg ?_); first | refine ceq f0 rfl ?_ | refine ceq f1 rfl ?_ | refine ceq f2 rfl ?_)
  
  | (with_reducible refine draw_g (id := 11) [[0, 1, 2, 5, 3, 4, 6, 7, 8], [9, 10]] tok mixed (by kernel_rfl) ?_)
  | with_reducible first | refine ax_s ?_ | refine BothG.mk ?_ ?_ | (refine ax_f ?_ ?_ <;> intro hc) | refine smk ?_ | fail)
      all_goals exact ⟨ret_l _ (lp_spE 5) rfl⟩
theorem p_quo {g : List (Nat × List Value)} (hD : (0, debT.map (Value.int .u8)) ∈ g) {a b c d : D2} (h : GoodS a b) (k : GoodS c d) {p : Int} (hp : 1 ≤ p ∧ p ≤ 70000) : FC Tryz.prog g 14 [SP a b, SP c d, .val (.int .i64 p)] (· = spQuo a b c d p) := by
  have f0 := p_check2g (G := g) h k hp
  have f1 := p_Sign (G := g) k
  have hcd : ∀ z : Int, (z = 1 → 0 < c.1 → ¬ d.1 < 0) := fun z _ hh hd => by
    have e1 := VV_pos (e := c.2) hh
    have e2 := VV_negs (e := d.2) hd
    have e3 := k.2.2
    unfold D2.v at e3
    omega
  unfold spQuo
  by_cases hc : 0 < c.1
  · have hd0 : ¬ d.1 < 0 := hcd 1 rfl hc
    have hdp : 0 < d.1 := by
      have e1 := VV_pos (e := c.2) hc
      have e2 := k.2.2
      have e3 := VV_sign (n := d.1) (e := d.2)
      unfold D2.v at e2
      exact e3.1.1 (by omega)
    clear hcd
    rw [if_pos hc]
    rw [if_neg hd0, if_pos hc] at f1
    have s1 := p_sign (G := g) h.1
    have s2 := p_sign (G := g) h.2.1
    have sa := sign3 a.1
    have sb := sign3 b.1
    obtain ⟨t1, ht1⟩ : ∃ t, t = a.1.sign := ⟨_, rfl⟩
    obtain ⟨t2, ht2⟩ : ∃ t, t = b.1.sign := ⟨_, rfl⟩
    rw [← ht1] at s1 sa
    rw [← ht2] at s2 sb
    clear ht1 ht2
    by_cases ha : a.1 < 0
    · by_cases hb : b.1 < 0
      · skip
        have w1 := (y_quoP hD h.1 k.1 hp (show c.1 ≠ 0 by omega)).1
        have w2 := (y_quoP hD h.2.1 k.2.1 hp (show d.1 ≠ 0 by omega)).2
        have c1 := (quo_ans (a := a) (b := c) hp (show c.1 ≠ 0 by omega) false).eq.2.2
        have c2' := (quo_ans (a := b) (b := d) hp (show d.1 ≠ 0 by omega) true).eq.2.2
        unfold spQuoPos
        rw [if_pos ha, if_pos hb]
        obtain ⟨u, hu⟩ : ∃ u, u = toAn (quoP a c p false) := ⟨_, rfl⟩
        obtain ⟨v, hv⟩ : ∃ v, v = toAn (quoP b d p true) := ⟨_, rfl⟩
        rw [← hu] at w1 c1 ⊢
        rw [← hv] at w2 c2' ⊢
        have w3 := p_both (G := g) u v c1 c2'
        obtain ⟨x, y, c0, hr⟩ := bothA_form u v
        rw [hr] at w3 ⊢
        clear hu hv hr c1 c2'
        have q1 : t1 < 0 := by omega
        have q2 : t2 < 0 := by omega
        clear sa sb
        refine ax_i Tryz.func14 Tryz.ntmps14 (by rw [Tryz.results14]) ?_; intro F hG hO
        rw [← hG] at f0 f1 s1 s2 w1 w2 w3
        repeat' ((try (conv => whnf)); first
  | ((with_reducible refine cg ?_); first | refine ceq f0 rfl ?_ | refine ceq f1 rfl ?_ | refine ceq s1 rfl ?_ | refine ceq s2 rfl ?_ | refine ceq w1 rfl ?_ | refine ceq w2 rfl ?_ | refine ceq w3 rfl ?_)
  | ((with_reducible refine dg ?_); refine draw_j (A := Bool) (id := 11) (N := 86) (fun x => [(2, .val (.int .i64 p)), (3, .ptr 0 0), (4, .ptr 1 0), (6, .ptr 2 0), (7, .val (.int .i64 0)), (11, .ptr (cond x 3 4) 0), (12, .ptr (cond x 4 3) 0)]) (fun x => [[.val (.bool (decide (a.1 < 0))), .ws .u64 (d64 a.1.natAbs), .val (.int .i64 a.2), .val (.bool (decide (b.1 < 0))), .ws .u64 (d64 b.1.natAbs), .val (.int .i64 b.2)], [.val (.bool (decide (c.1 < 0))), .ws .u64 (d64 c.1.natAbs), .val (.int .i64 c.2), .val (.bool (decide (d.1 < 0))), .ws .u64 (d64 d.1.natAbs), .val (.int .i64 d.2)], [.val (.bool false), .nil, .val (.int .i64 0), .val (.bool false), .nil, .val (.int .i64 0)], [.val (.bool (decide ((cond x d c).1 < 0))), .ws .u64 (d64 (cond x d c).1.natAbs), .val (.int .i64 (cond x d c).2)], [.val (.bool (decide ((cond x c d).1 < 0))), .ws .u64 (d64 (cond x c d).1.natAbs), .val (.int .i64 (cond x c d).2)]]) (fun _ => []) (qTQ) tok mixed (by kernel_rfl) (by kernel_rfl) (by intro x; cases x <;> (refine ⟨?_, ?_, ?_⟩ <;> simp [inS, inBB, inBL, inB, hO])) ?_ ?_; rotate_left; intro x; cases x)
  | exact join true ⟨rfl, rfl, rfl, rfl, rfl, rfl, rfl, trivial⟩ ⟨[], rfl⟩ ⟨[], rfl⟩
  | exact join false ⟨rfl, rfl, rfl, rfl, rfl, rfl, rfl, trivial⟩ ⟨[], rfl⟩ ⟨[], rfl⟩
  
  | (with_reducible refine draw_t (id := 11) (.one 0 (.one 1 (.one 2 (.one 3 (.two (.one 4 (.one 5 (.st (.one 6 (.st (.one 7 (.fin))))))) (.one 5 (.one 4 (.st (.one 6 (.st (.one 7 (.fin)))))))))))) tok mixed (by kernel_rfl) (by kernel_rfl) ?_)
  | with_reducible first | refine ax_s ?_ | refine BothG.mk ?_ ?_ | (refine ax_f ?_ ?_ <;> intro hc) | refine smk ?_ | fail)
        all_goals exact ⟨ret_e rfl⟩
      · skip
        have w1 := (y_quoP hD h.1 k.1 hp (show c.1 ≠ 0 by omega)).1
        have w2 := (y_quoP hD h.2.1 k.1 hp (show c.1 ≠ 0 by omega)).2
        have c1 := (quo_ans (a := a) (b := c) hp (show c.1 ≠ 0 by omega) false).eq.2.2
        have c2' := (quo_ans (a := b) (b := c) hp (show c.1 ≠ 0 by omega) true).eq.2.2
        unfold spQuoPos
        rw [if_pos ha, if_neg hb]
        obtain ⟨u, hu⟩ : ∃ u, u = toAn (quoP a c p false) := ⟨_, rfl⟩
        obtain ⟨v, hv⟩ : ∃ v, v = toAn (quoP b c p true) := ⟨_, rfl⟩
        rw [← hu] at w1 c1 ⊢
        rw [← hv] at w2 c2' ⊢
        have w3 := p_both (G := g) u v c1 c2'
        obtain ⟨x, y, c0, hr⟩ := bothA_form u v
        rw [hr] at w3 ⊢
        clear hu hv hr c1 c2'
        have q1 : t1 < 0 := by omega
        have q2 : ¬ t2 < 0 := by omega
        clear sa sb
        refine ax_i Tryz.func14 Tryz.ntmps14 (by rw [Tryz.results14]) ?_; intro F hG hO
        rw [← hG] at f0 f1 s1 s2 w1 w2 w3
        repeat' ((try (conv => whnf)); first
  | ((with_reducible refine cg ?_); first | refine ceq f0 rfl ?_ | refine ceq f1 rfl ?_ | refine ceq s1 rfl ?_ | refine ceq s2 rfl ?_ | refine ceq w1 rfl ?_ | refine ceq w2 rfl ?_ | refine ceq w3 rfl ?_)
  | ((with_reducible refine dg ?_); refine draw_j (A := Bool) (id := 11) (N := 86) (fun x => [(2, .val (.int .i64 p)), (3, .ptr 0 0), (4, .ptr 1 0), (6, .ptr 2 0), (7, .val (.int .i64 0)), (11, .ptr (cond x 3 4) 0), (12, .ptr (cond x 4 3) 0)]) (fun x => [[.val (.bool (decide (a.1 < 0))), .ws .u64 (d64 a.1.natAbs), .val (.int .i64 a.2), .val (.bool (decide (b.1 < 0))), .ws .u64 (d64 b.1.natAbs), .val (.int .i64 b.2)], [.val (.bool (decide (c.1 < 0))), .ws .u64 (d64 c.1.natAbs), .val (.int .i64 c.2), .val (.bool (decide (d.1 < 0))), .ws .u64 (d64 d.1.natAbs), .val (.int .i64 d.2)], [.val (.bool false), .nil, .val (.int .i64 0), .val (.bool false), .nil, .val (.int .i64 0)], [.val (.bool (decide ((cond x d c).1 < 0))), .ws .u64 (d64 (cond x d c).1.natAbs), .val (.int .i64 (cond x d c).2)], [.val (.bool (decide ((cond x c d).1 < 0))), .ws .u64 (d64 (cond x c d).1.natAbs), .val (.int .i64 (cond x c d).2)]]) (fun _ => []) (qTQ) tok mixed (by kernel_rfl) (by kernel_rfl) (by intro x; cases x <;> (refine ⟨?_, ?_, ?_⟩ <;> simp [inS, inBB, inBL, inB, hO])) ?_ ?_; rotate_left; intro x; cases x)
  | exact join true ⟨rfl, rfl, rfl, rfl, rfl, rfl, rfl, trivial⟩ ⟨[], rfl⟩ ⟨[], rfl⟩
  | exact join false ⟨rfl, rfl, rfl, rfl, rfl, rfl, rfl, trivial⟩ ⟨[], rfl⟩ ⟨[], rfl⟩
  
  | (with_reducible refine draw_t (id := 11) (.one 0 (.one 1 (.one 2 (.one 3 (.two (.one 4 (.one 5 (.st (.one 6 (.st (.one 7 (.fin))))))) (.one 5 (.one 4 (.st (.one 6 (.st (.one 7 (.fin)))))))))))) tok mixed (by kernel_rfl) (by kernel_rfl) ?_)
  | with_reducible first | refine ax_s ?_ | refine BothG.mk ?_ ?_ | (refine ax_f ?_ ?_ <;> intro hc) | refine smk ?_ | fail)
        all_goals exact ⟨ret_e rfl⟩
    · have hb : ¬ b.1 < 0 := fun hh => by have := VV_negs (e := b.2) hh; have := VV_sign (n := a.1) (e := a.2); have := h.2.2; unfold D2.v at this; omega
      have w1 := (y_quoP hD h.1 k.2.1 hp (show d.1 ≠ 0 by omega)).1
      have w2 := (y_quoP hD h.2.1 k.1 hp (show c.1 ≠ 0 by omega)).2
      have c1 := (quo_ans (a := a) (b := d) hp (show d.1 ≠ 0 by omega) false).eq.2.2
      have c2' := (quo_ans (a := b) (b := c) hp (show c.1 ≠ 0 by omega) true).eq.2.2
      unfold spQuoPos
      rw [if_neg ha, if_neg hb]
      obtain ⟨u, hu⟩ : ∃ u, u = toAn (quoP a d p false) := ⟨_, rfl⟩
      obtain ⟨v, hv⟩ : ∃ v, v = toAn (quoP b c p true) := ⟨_, rfl⟩
      rw [← hu] at w1 c1 ⊢
      rw [← hv] at w2 c2' ⊢
      have w3 := p_both (G := g) u v c1 c2'
      obtain ⟨x, y, c0, hr⟩ := bothA_form u v
      rw [hr] at w3 ⊢
      clear hu hv hr c1 c2'
      have q1 : ¬ t1 < 0 := by omega
      have q2 : ¬ t2 < 0 := by omega
      clear sa sb
      refine ax_i Tryz.func14 Tryz.ntmps14 (by rw [Tryz.results14]) ?_; intro F hG hO
      rw [← hG] at f0 f1 s1 s2 w1 w2 w3
      repeat' ((try (conv => whnf)); first
  | ((with_reducible refine cg ?_); first | refine ceq f0 rfl ?_ | refine ceq f1 rfl ?_ | refine ceq s1 rfl ?_ | refine ceq s2 rfl ?_ | refine ceq w1 rfl ?_ | refine ceq w2 rfl ?_ | refine ceq w3 rfl ?_)
  | ((with_reducible refine dg ?_); refine draw_j (A := Bool) (id := 11) (N := 86) (fun x => [(2, .val (.int .i64 p)), (3, .ptr 0 0), (4, .ptr 1 0), (6, .ptr 2 0), (7, .val (.int .i64 0)), (11, .ptr (cond x 3 4) 0), (12, .ptr (cond x 4 3) 0)]) (fun x => [[.val (.bool (decide (a.1 < 0))), .ws .u64 (d64 a.1.natAbs), .val (.int .i64 a.2), .val (.bool (decide (b.1 < 0))), .ws .u64 (d64 b.1.natAbs), .val (.int .i64 b.2)], [.val (.bool (decide (c.1 < 0))), .ws .u64 (d64 c.1.natAbs), .val (.int .i64 c.2), .val (.bool (decide (d.1 < 0))), .ws .u64 (d64 d.1.natAbs), .val (.int .i64 d.2)], [.val (.bool false), .nil, .val (.int .i64 0), .val (.bool false), .nil, .val (.int .i64 0)], [.val (.bool (decide ((cond x d c).1 < 0))), .ws .u64 (d64 (cond x d c).1.natAbs), .val (.int .i64 (cond x d c).2)], [.val (.bool (decide ((cond x c d).1 < 0))), .ws .u64 (d64 (cond x c d).1.natAbs), .val (.int .i64 (cond x c d).2)]]) (fun _ => []) (qTQ) tok mixed (by kernel_rfl) (by kernel_rfl) (by intro x; cases x <;> (refine ⟨?_, ?_, ?_⟩ <;> simp [inS, inBB, inBL, inB, hO])) ?_ ?_; rotate_left; intro x; cases x)
  | exact join true ⟨rfl, rfl, rfl, rfl, rfl, rfl, rfl, trivial⟩ ⟨[], rfl⟩ ⟨[], rfl⟩
  | exact join false ⟨rfl, rfl, rfl, rfl, rfl, rfl, rfl, trivial⟩ ⟨[], rfl⟩ ⟨[], rfl⟩
  
  | (with_reducible refine draw_t (id := 11) (.one 0 (.one 1 (.one 2 (.one 3 (.two (.one 4 (.one 5 (.st (.one 6 (.st (.one 7 (.fin))))))) (.one 5 (.one 4 (.st (.one 6 (.st (.one 7 (.fin)))))))))))) tok mixed (by kernel_rfl) (by kernel_rfl) ?_)
  | with_reducible first | refine ax_s ?_ | refine BothG.mk ?_ ?_ | (refine ax_f ?_ ?_ <;> intro hc) | refine smk ?_ | fail)
      all_goals exact ⟨ret_e rfl⟩
  · rw [if_neg hc]
    clear hcd
    by_cases hdn : d.1 < 0
    · rw [if_pos hdn]
      rw [if_pos hdn] at f1
      have hcn : c.1 < 0 := by
        have e1 := VV_negs (e := d.2) hdn
        have e2 := k.2.2
        have e3 := VV_sign (n := c.1) (e := c.2)
        unfold D2.v at e2
        exact e3.2.1 (by omega)
      have n1 := p_neg (G := g) h
      have n2 := p_neg (G := g) k
      have h2 := h.neg
      have k2 := k.neg
      have hc2 : 0 < d.neg.1 := by show 0 < -d.1; omega
      have hd2 : 0 < c.neg.1 := by show 0 < -c.1; omega
      obtain ⟨a2, ha2⟩ : ∃ r, r = b.neg := ⟨_, rfl⟩
      obtain ⟨b2, hb2⟩ : ∃ r, r = a.neg := ⟨_, rfl⟩
      obtain ⟨c2, hc2e⟩ : ∃ r, r = d.neg := ⟨_, rfl⟩
      obtain ⟨d2, hd2e⟩ : ∃ r, r = c.neg := ⟨_, rfl⟩
      rw [← ha2, ← hb2] at n1 h2 ⊢
      rw [← hc2e, ← hd2e] at n2 k2 ⊢
      rw [← hc2e] at hc2
      rw [← hd2e] at hd2
      clear ha2 hb2 hc2e hd2e
      have s1 := p_sign (G := g) h2.1
      have s2 := p_sign (G := g) h2.2.1
      have sa := sign3 a2.1
      have sb := sign3 b2.1
      obtain ⟨t1, ht1⟩ : ∃ t, t = a2.1.sign := ⟨_, rfl⟩
      obtain ⟨t2, ht2⟩ : ∃ t, t = b2.1.sign := ⟨_, rfl⟩
      rw [← ht1] at s1 sa
      rw [← ht2] at s2 sb
      clear ht1 ht2
      by_cases ha : a2.1 < 0
      · by_cases hb : b2.1 < 0
        · skip
          have w1 := (y_quoP hD h2.1 k2.1 hp (show c2.1 ≠ 0 by omega)).1
          have w2 := (y_quoP hD h2.2.1 k2.2.1 hp (show d2.1 ≠ 0 by omega)).2
          have c1 := (quo_ans (a := a2) (b := c2) hp (show c2.1 ≠ 0 by omega) false).eq.2.2
          have c2' := (quo_ans (a := b2) (b := d2) hp (show d2.1 ≠ 0 by omega) true).eq.2.2
          unfold spQuoPos
          rw [if_pos ha, if_pos hb]
          obtain ⟨u, hu⟩ : ∃ u, u = toAn (quoP a2 c2 p false) := ⟨_, rfl⟩
          obtain ⟨v, hv⟩ : ∃ v, v = toAn (quoP b2 d2 p true) := ⟨_, rfl⟩
          rw [← hu] at w1 c1 ⊢
          rw [← hv] at w2 c2' ⊢
          have w3 := p_both (G := g) u v c1 c2'
          obtain ⟨x, y, c0, hr⟩ := bothA_form u v
          rw [hr] at w3 ⊢
          clear hu hv hr c1 c2'
          have q1 : t1 < 0 := by omega
          have q2 : t2 < 0 := by omega
          clear sa sb
          refine ax_i Tryz.func14 Tryz.ntmps14 (by rw [Tryz.results14]) ?_; intro F hG hO
          rw [← hG] at f0 f1 n1 n2 s1 s2 w1 w2 w3
          repeat' ((try (conv => whnf)); first
  | ((with_reducible refine cg ?_); first | refine ceq f0 rfl ?_ | refine ceq f1 rfl ?_ | refine ceq n1 rfl ?_ | refine ceq n2 rfl ?_ | refine ceq s1 rfl ?_ | refine ceq s2 rfl ?_ | refine ceq w1 rfl ?_ | refine ceq w2 rfl ?_ | refine ceq w3 rfl ?_)
  | ((with_reducible refine dg ?_); refine draw_j (A := Bool) (id := 11) (N := 86) (fun x => [(2, .val (.int .i64 p)), (3, .ptr 0 0), (4, .ptr 1 0), (6, .ptr 2 0), (7, .val (.int .i64 0)), (11, .ptr (cond x 3 4) 0), (12, .ptr (cond x 4 3) 0)]) (fun x => [[.val (.bool (decide (a2.1 < 0))), .ws .u64 (d64 a2.1.natAbs), .val (.int .i64 a2.2), .val (.bool (decide (b2.1 < 0))), .ws .u64 (d64 b2.1.natAbs), .val (.int .i64 b2.2)], [.val (.bool (decide (c2.1 < 0))), .ws .u64 (d64 c2.1.natAbs), .val (.int .i64 c2.2), .val (.bool (decide (d2.1 < 0))), .ws .u64 (d64 d2.1.natAbs), .val (.int .i64 d2.2)], [.val (.bool false), .nil, .val (.int .i64 0), .val (.bool false), .nil, .val (.int .i64 0)], [.val (.bool (decide ((cond x d2 c2).1 < 0))), .ws .u64 (d64 (cond x d2 c2).1.natAbs), .val (.int .i64 (cond x d2 c2).2)], [.val (.bool (decide ((cond x c2 d2).1 < 0))), .ws .u64 (d64 (cond x c2 d2).1.natAbs), .val (.int .i64 (cond x c2 d2).2)]]) (fun _ => []) (qTQ) tok mixed (by kernel_rfl) (by kernel_rfl) (by intro x; cases x <;> (refine ⟨?_, ?_, ?_⟩ <;> simp [inS, inBB, inBL, inB, hO])) ?_ ?_; rotate_left; intro x; cases x)
  | exact join true ⟨rfl, rfl, rfl, rfl, rfl, rfl, rfl, trivial⟩ ⟨[], rfl⟩ ⟨[], rfl⟩
  | exact join false ⟨rfl, rfl, rfl, rfl, rfl, rfl, rfl, trivial⟩ ⟨[], rfl⟩ ⟨[], rfl⟩
  
  | (with_reducible refine draw_t (id := 11) (.one 0 (.one 1 (.one 2 (.one 3 (.two (.one 4 (.one 5 (.st (.one 6 (.st (.one 7 (.fin))))))) (.one 5 (.one 4 (.st (.one 6 (.st (.one 7 (.fin)))))))))))) tok mixed (by kernel_rfl) (by kernel_rfl) ?_)
  | with_reducible first | refine ax_s ?_ | refine BothG.mk ?_ ?_ | (refine ax_f ?_ ?_ <;> intro hc) | refine smk ?_ | fail)
          all_goals exact ⟨ret_e rfl⟩
        · skip
          have w1 := (y_quoP hD h2.1 k2.1 hp (show c2.1 ≠ 0 by omega)).1
          have w2 := (y_quoP hD h2.2.1 k2.1 hp (show c2.1 ≠ 0 by omega)).2
          have c1 := (quo_ans (a := a2) (b := c2) hp (show c2.1 ≠ 0 by omega) false).eq.2.2
          have c2' := (quo_ans (a := b2) (b := c2) hp (show c2.1 ≠ 0 by omega) true).eq.2.2
          unfold spQuoPos
          rw [if_pos ha, if_neg hb]
          obtain ⟨u, hu⟩ : ∃ u, u = toAn (quoP a2 c2 p false) := ⟨_, rfl⟩
          obtain ⟨v, hv⟩ : ∃ v, v = toAn (quoP b2 c2 p true) := ⟨_, rfl⟩
          rw [← hu] at w1 c1 ⊢
          rw [← hv] at w2 c2' ⊢
          have w3 := p_both (G := g) u v c1 c2'
          obtain ⟨x, y, c0, hr⟩ := bothA_form u v
          rw [hr] at w3 ⊢
          clear hu hv hr c1 c2'
          have q1 : t1 < 0 := by omega
          have q2 : ¬ t2 < 0 := by omega
          clear sa sb
          refine ax_i Tryz.func14 Tryz.ntmps14 (by rw [Tryz.results14]) ?_; intro F hG hO
          rw [← hG] at f0 f1 n1 n2 s1 s2 w1 w2 w3
          repeat' ((try (conv => whnf)); first
  | ((with_reducible refine cg ?_); first | refine ceq f0 rfl ?_ | refine ceq f1 rfl ?_ | refine ceq n1 rfl ?_ | refine ceq n2 rfl ?_ | refine ceq s1 rfl ?_ | refine ceq s2 rfl ?_ | refine ceq w1 rfl ?_ | refine ceq w2 rfl ?_ | refine ceq w3 rfl ?_)
  | ((with_reducible refine dg ?_); refine draw_j (A := Bool) (id := 11) (N := 86) (fun x => [(2, .val (.int .i64 p)), (3, .ptr 0 0), (4, .ptr 1 0), (6, .ptr 2 0), (7, .val (.int .i64 0)), (11, .ptr (cond x 3 4) 0), (12, .ptr (cond x 4 3) 0)]) (fun x => [[.val (.bool (decide (a2.1 < 0))), .ws .u64 (d64 a2.1.natAbs), .val (.int .i64 a2.2), .val (.bool (decide (b2.1 < 0))), .ws .u64 (d64 b2.1.natAbs), .val (.int .i64 b2.2)], [.val (.bool (decide (c2.1 < 0))), .ws .u64 (d64 c2.1.natAbs), .val (.int .i64 c2.2), .val (.bool (decide (d2.1 < 0))), .ws .u64 (d64 d2.1.natAbs), .val (.int .i64 d2.2)], [.val (.bool false), .nil, .val (.int .i64 0), .val (.bool false), .nil, .val (.int .i64 0)], [.val (.bool (decide ((cond x d2 c2).1 < 0))), .ws .u64 (d64 (cond x d2 c2).1.natAbs), .val (.int .i64 (cond x d2 c2).2)], [.val (.bool (decide ((cond x c2 d2).1 < 0))), .ws .u64 (d64 (cond x c2 d2).1.natAbs), .val (.int .i64 (cond x c2 d2).2)]]) (fun _ => []) (qTQ) tok mixed (by kernel_rfl) (by kernel_rfl) (by intro x; cases x <;> (refine ⟨?_, ?_, ?_⟩ <;> simp [inS, inBB, inBL, inB, hO])) ?_ ?_; rotate_left; intro x; cases x)
  | exact join true ⟨rfl, rfl, rfl, rfl, rfl, rfl, rfl, trivial⟩ ⟨[], rfl⟩ ⟨[], rfl⟩
  | exact join false ⟨rfl, rfl, rfl, rfl, rfl, rfl, rfl, trivial⟩ ⟨[], rfl⟩ ⟨[], rfl⟩
  
  | (with_reducible refine draw_t (id := 11) (.one 0 (.one 1 (.one 2 (.one 3 (.two (.one 4 (.one 5 (.st (.one 6 (.st (.one 7 (.fin))))))) (.one 5 (.one 4 (.st (.one 6 (.st (.one 7 (.fin)))))))))))) tok mixed (by kernel_rfl) (by kernel_rfl) ?_)
  | with_reducible first | refine ax_s ?_ | refine BothG.mk ?_ ?_ | (refine ax_f ?_ ?_ <;> intro hc) | refine smk ?_ | fail)
          all_goals exact ⟨ret_e rfl⟩
      · have hb : ¬ b2.1 < 0 := fun hh => by have := VV_negs (e := b2.2) hh; have := VV_sign (n := a2.1) (e := a2.2); have := h2.2.2; unfold D2.v at this; omega
        have w1 := (y_quoP hD h2.1 k2.2.1 hp (show d2.1 ≠ 0 by omega)).1
        have w2 := (y_quoP hD h2.2.1 k2.1 hp (show c2.1 ≠ 0 by omega)).2
        have c1 := (quo_ans (a := a2) (b := d2) hp (show d2.1 ≠ 0 by omega) false).eq.2.2
        have c2' := (quo_ans (a := b2) (b := c2) hp (show c2.1 ≠ 0 by omega) true).eq.2.2
        unfold spQuoPos
        rw [if_neg ha, if_neg hb]
        obtain ⟨u, hu⟩ : ∃ u, u = toAn (quoP a2 d2 p false) := ⟨_, rfl⟩
        obtain ⟨v, hv⟩ : ∃ v, v = toAn (quoP b2 c2 p true) := ⟨_, rfl⟩
        rw [← hu] at w1 c1 ⊢
        rw [← hv] at w2 c2' ⊢
        have w3 := p_both (G := g) u v c1 c2'
        obtain ⟨x, y, c0, hr⟩ := bothA_form u v
        rw [hr] at w3 ⊢
        clear hu hv hr c1 c2'
        have q1 : ¬ t1 < 0 := by omega
        have q2 : ¬ t2 < 0 := by omega
        clear sa sb
        refine ax_i Tryz.func14 Tryz.ntmps14 (by rw [Tryz.results14]) ?_; intro F hG hO
        rw [← hG] at f0 f1 n1 n2 s1 s2 w1 w2 w3
        repeat' ((try (conv => whnf)); first
  | ((with_reducible refine cg ?_); first | refine ceq f0 rfl ?_ | refine ceq f1 rfl ?_ | refine ceq n1 rfl ?_ | refine ceq n2 rfl ?_ | refine ceq s1 rfl ?_ | refine ceq s2 rfl ?_ | refine ceq w1 rfl ?_ | refine ceq w2 rfl ?_ | refine ceq w3 rfl ?_)
  | ((with_reducible refine dg ?_); refine draw_j (A := Bool) (id := 11) (N := 86) (fun x => [(2, .val (.int .i64 p)), (3, .ptr 0 0), (4, .ptr 1 0), (6, .ptr 2 0), (7, .val (.int .i64 0)), (11, .ptr (cond x 3 4) 0), (12, .ptr (cond x 4 3) 0)]) (fun x => [[.val (.bool (decide (a2.1 < 0))), .ws .u64 (d64 a2.1.natAbs), .val (.int .i64 a2.2), .val (.bool (decide (b2.1 < 0))), .ws .u64 (d64 b2.1.natAbs), .val (.int .i64 b2.2)], [.val (.bool (decide (c2.1 < 0))), .ws .u64 (d64 c2.1.natAbs), .val (.int .i64 c2.2), .val (.bool (decide (d2.1 < 0))), .ws .u64 (d64 d2.1.natAbs), .val (.int .i64 d2.2)], [.val (.bool false), .nil, .val (.int .i64 0), .val (.bool false), .nil, .val (.int .i64 0)], [.val (.bool (decide ((cond x d2 c2).1 < 0))), .ws .u64 (d64 (cond x d2 c2).1.natAbs), .val (.int .i64 (cond x d2 c2).2)], [.val (.bool (decide ((cond x c2 d2).1 < 0))), .ws .u64 (d64 (cond x c2 d2).1.natAbs), .val (.int .i64 (cond x c2 d2).2)]]) (fun _ => []) (qTQ) tok mixed (by kernel_rfl) (by kernel_rfl) (by intro x; cases x <;> (refine ⟨?_, ?_, ?_⟩ <;> simp [inS, inBB, inBL, inB, hO])) ?_ ?_; rotate_left; intro x; cases x)
  | exact join true ⟨rfl, rfl, rfl, rfl, rfl, rfl, rfl, trivial⟩ ⟨[], rfl⟩ ⟨[], rfl⟩
  | exact join false ⟨rfl, rfl, rfl, rfl, rfl, rfl, rfl, trivial⟩ ⟨[], rfl⟩ ⟨[], rfl⟩
  
  | (with_reducible refine draw_t (id := 11) (.one 0 (.one 1 (.one 2 (.one 3 (.two (.one 4 (.one 5 (.st (.one 6 (.st (.one 7 (.fin))))))) (.one 5 (.one 4 (.st (.one 6 (.st (.one 7 (.fin)))))))))))) tok mixed (by kernel_rfl) (by kernel_rfl) ?_)
  | with_reducible first | refine ax_s ?_ | refine BothG.mk ?_ ?_ | (refine ax_f ?_ ?_ <;> intro hc) | refine smk ?_ | fail)
        all_goals exact ⟨ret_e rfl⟩
    · rw [if_neg hdn]
      rw [if_neg hdn, if_neg hc] at f1
      refine ax_i Tryz.func14 Tryz.ntmps14 (by rw [Tryz.results14]) ?_; intro F hG hO
      rw [← hG] at f0 f1
      repeat' ((try (conv => whnf)); first
  | ((with_reducible refine cg ?_); first | refine ceq f0 rfl ?_ | refine ceq f1 rfl ?_)
  
  | (with_reducible refine draw_t (id := 11) (.one 0 (.one 1 (.one 2 (.one 3 (.two (.one 4 (.one 5 (.st (.one 6 (.st (.one 7 (.fin))))))) (.one 5 (.one 4 (.st (.one 6 (.st (.one 7 (.fin)))))))))))) tok mixed (by kernel_rfl) (by kernel_rfl) ?_)
  | with_reducible first | refine ax_s ?_ | refine BothG.mk ?_ ?_ | (refine ax_f ?_ ?_ <;> intro hc) | refine smk ?_ | fail)
      exact ⟨ret_l _ (lp_spE 4) rfl⟩
def hasV (a b d : D2) : Bool := decide (a.v ≤ d.v) && decide (d.v ≤ b.v)
end Go.Proofs.YtpjbgmafnheomaaGreatDoor.Sim
namespace Go.Proofs.YtpjbgmafnheomaaGreatDoor.Sim
open Go.RowKit
set_option linter.unusedVariables false
set_option linter.unusedSimpArgs false
set_option maxHeartbeats 4000000
def HoldR (r : PV) (t : Int) : Prop := r = spE 5 ∨ ∃ x y : D2, r = spR x y ∧ GoodS x y ∧ x.v * 2 ^ 1048576 ≤ t ∧ t ≤ y.v * 2 ^ 1048576
theorem HoldR.x {r : PV} {t : Int} (h : HoldR r t) : ∃ (x y : D2) (c d : Int), r = .tup [SP x y, .val (.int .i64 c)] ∧ c = 5 * d ∧ (0 ≤ d ∧ d ≤ 1) ∧ (Unit → c = 0 → GoodS x y ∧ x.v * 2 ^ 1048576 ≤ t ∧ t ≤ y.v * 2 ^ 1048576) := by
  rcases h with h | ⟨x, y, h, g⟩
  · exact ⟨(0, 0), (0, 0), 5, 1, h, rfl, by omega, fun _ h => by omega⟩
  · exact ⟨x, y, 0, 0, h, rfl, by omega, fun _ _ => g⟩
theorem C_pos : (0 : Int) ≤ 2 ^ 1048576 := Int.le_of_lt (p2_pos 1048576)
theorem hold_sum {a b c d : D2} (h : GoodS a b) (k : GoodS c d) {u v : Int} (hu : a.v ≤ u ∧ u ≤ b.v) (hv : c.v ≤ v ∧ v ≤ d.v) {p : Int} (hp : 1 ≤ p ∧ p ≤ 70000) : HoldR (sumP a b c d p) ((u + v) * 2 ^ 1048576) := by
  rcases sum_res h k hp with q | ⟨x, y, q, g, h1, h2⟩
  · exact .inl q
  · exact .inr ⟨x, y, q, g, mr (by omega) C_pos, mr (by omega) C_pos⟩
theorem hold_mul {a b c d : D2} (h : GoodS a b) (k : GoodS c d) {u v : Int} (hu : a.v ≤ u ∧ u ≤ b.v) (hv : c.v ≤ v ∧ v ≤ d.v) {p : Int} (hp : 1 ≤ p ∧ p ≤ 70000) : HoldR (spMul a b c d p) (u * v) := by
  have cr := corners hu.1 hu.2 hv.1 hv.2
  rcases mul_q h k hp with q | ⟨l, m, e1, e2, x, y, q, g, q1, q2⟩
  · exact .inl q
  · have w1 : x.v ≤ l.v := q1.2.2.1
    have w2 : m.v ≤ y.v := q2.2.2.1
    have w3 := mr w1 C_pos
    have w4 := mr w2 C_pos
    rw [e1] at w3
    rw [e2] at w4
    exact .inr ⟨x, y, q, g, Int.le_trans w3 cr.1, Int.le_trans cr.2 w4⟩
theorem hold_sqr {a b : D2} (h : GoodS a b) {u : Int} (hu : a.v ≤ u ∧ u ≤ b.v) {p : Int} (hp : 1 ≤ p ∧ p ≤ 70000) : HoldR (spSqr a b p) (u * u) := by
  have sa := D2.sgn a
  have sb := D2.sgn b
  rcases sqr_q h hp with q | ⟨l, m, e1, e2, x, y, q, g, q1, q2⟩
  · exact .inl q
  · have w1 : x.v ≤ l.v := q1.2.2.1
    have w2 : m.v ≤ y.v := q2.2.2.1
    have w3 := mr w1 C_pos
    have w4 := mr w2 C_pos
    rw [e1] at w3
    rw [e2] at w4
    have nu := sqr_nn u
    refine .inr ⟨x, y, q, g, Int.le_trans w3 ?_, Int.le_trans ?_ w4⟩
    · split
      · exact nu
      · rename_i h0
        rcases Int.lt_or_le 0 a.1 with hs | hs
        · have k1 := sa.2.1 hs
          have m1 := mr hu.1 (show 0 ≤ a.v by omega)
          have m2 := ml hu.1 (show 0 ≤ u by omega)
          omega
        · have k1 := sb.1.1 (show b.1 < 0 by omega)
          have m1 := mrn hu.2 (show b.v ≤ 0 by omega)
          have m2 := mln hu.2 (show u ≤ 0 by omega)
          omega
    · rcases Int.le_total 0 u with hs | hs
      · have m1 := mr hu.2 hs
        have m2 := ml hu.2 (show 0 ≤ b.v by omega)
        omega
      · have m1 := mrn hu.1 hs
        have m2 := mln hu.1 (show a.v ≤ 0 by omega)
        omega
def HoldQ (r : PV) (u v : Int) : Prop := r = spE 5 ∨ ∃ x y : D2, r = spR x y ∧ GoodS x y ∧ x.v * v ≤ u * 2 ^ 1048576 ∧ u * 2 ^ 1048576 ≤ y.v * v
theorem HoldQ.x {r : PV} {u v : Int} (h : HoldQ r u v) : ∃ (x y : D2) (c d : Int), r = .tup [SP x y, .val (.int .i64 c)] ∧ c = 5 * d ∧ (0 ≤ d ∧ d ≤ 1) ∧ (Unit → c = 0 → GoodS x y ∧ x.v * v ≤ u * 2 ^ 1048576 ∧ u * 2 ^ 1048576 ≤ y.v * v) := by
  rcases h with h | ⟨x, y, h, g⟩
  · exact ⟨(0, 0), (0, 0), 5, 1, h, rfl, by omega, fun _ h => by omega⟩
  · exact ⟨x, y, 0, 0, h, rfl, by omega, fun _ _ => g⟩
theorem quo_bounds {a b c d u v X Y C un ov : Int} (hC : 0 < C) (hu : a ≤ u ∧ u ≤ b) (hv : c ≤ v ∧ v ≤ d) (hc : 0 < c) (hun : un = if a < 0 then c else d) (hov : ov = if b < 0 then d else c) (m1 : X * un ≤ a * C) (m2 : b * C ≤ Y * ov) : X * v ≤ u * C ∧ u * C ≤ Y * v := by
  have ua := mr hu.1 (Int.le_of_lt hC)
  have ub := mr hu.2 (Int.le_of_lt hC)
  constructor
  · by_cases ha : a < 0
    · rw [if_pos ha] at hun
      subst hun
      have aC := Int.mul_neg_of_neg_of_pos ha hC
      rcases Int.lt_or_le 0 X with hx | hx
      · have := Int.mul_pos hx hc
        omega
      · have := mln hv.1 hx
        omega
    · rw [if_neg ha] at hun
      subst hun
      have aC := Int.mul_nonneg (show 0 ≤ a by omega) (Int.le_of_lt hC)
      rcases Int.lt_or_le X 0 with hx | hx
      · have := Int.mul_neg_of_neg_of_pos hx (show 0 < v by omega)
        omega
      · have := ml hv.2 hx
        omega
  · by_cases hb : b < 0
    · rw [if_pos hb] at hov
      subst hov
      have bC := Int.mul_neg_of_neg_of_pos hb hC
      rcases Int.lt_or_le Y 0 with hy | hy
      · have := mln hv.2 (Int.le_of_lt hy)
        omega
      · have := Int.mul_nonneg hy (show 0 ≤ v by omega)
        omega
    · rw [if_neg hb] at hov
      subst hov
      have bC := Int.mul_nonneg (show 0 ≤ b by omega) (Int.le_of_lt hC)
      rcases Int.lt_or_le Y 0 with hy | hy
      · have := Int.mul_neg_of_neg_of_pos hy hc
        omega
      · have := ml hv.1 hy
        omega
theorem hold_quoPos {a b c d : D2} (h : GoodS a b) (k : GoodS c d) (hc : 0 < c.1) {u v : Int} (hu : a.v ≤ u ∧ u ≤ b.v) (hv : c.v ≤ v ∧ v ≤ d.v) {p : Int} (hp : 1 ≤ p ∧ p ≤ 70000) : HoldQ (spQuoPos a b c d p) u v := by
  have sc := D2.sgn c
  have sd := D2.sgn d
  have sa := D2.sgn a
  have sb := D2.sgn b
  have hcd := k.2.2
  have hcv : 0 < c.v := sc.2.1 hc
  have hd1 : 0 < d.1 := sd.2.2 (by omega)
  unfold spQuoPos
  obtain ⟨un, hun⟩ : ∃ r, r = (if a.1 < 0 then c else d) := ⟨_, rfl⟩
  obtain ⟨ov, hov⟩ : ∃ r, r = (if b.1 < 0 then d else c) := ⟨_, rfl⟩
  have v1 : un.v = if a.v < 0 then c.v else d.v := by rw [hun]; by_cases q : a.1 < 0 <;> first | rw [if_pos q, if_pos (sa.1.1 q)] | rw [if_neg q, if_neg (fun z => q (sa.1.2 z))]
  have v2 : ov.v = if b.v < 0 then d.v else c.v := by rw [hov]; by_cases q : b.1 < 0 <;> first | rw [if_pos q, if_pos (sb.1.1 q)] | rw [if_neg q, if_neg (fun z => q (sb.1.2 z))]
  rw [← hun, ← hov]
  have u1 : un.good ∧ 0 < un.1 := by rw [hun]; split <;> first | exact ⟨k.1, hc⟩ | exact ⟨k.2.1, hd1⟩
  have u2 : ov.good ∧ 0 < ov.1 := by rw [hov]; split <;> first | exact ⟨k.1, hc⟩ | exact ⟨k.2.1, hd1⟩
  have l1 := quo_low h.1 u1.1 u1.2 hp
  have l2 := quo_high h.2.1 u2.1 u2.2 hp
  have g1 := An.d_good (quo_ans (a := a) (b := un) hp (by omega) false)
  have g2 := An.d_good (quo_ans (a := b) (b := ov) hp (by omega) true)
  rcases quo_pos h k hc hp with q | ⟨x, y, q, g, _⟩
  · unfold spQuoPos at q
    rw [← hun, ← hov] at q
    exact .inl q
  unfold spQuoPos at q
  rw [← hun, ← hov] at q
  obtain ⟨A, hA⟩ : ∃ u, u = toAn (quoP a un p false) := ⟨_, rfl⟩
  obtain ⟨B, hB⟩ : ∃ v, v = toAn (quoP b ov p true) := ⟨_, rfl⟩
  rw [← hA] at l1 g1 q ⊢
  rw [← hB] at l2 g2 q ⊢
  by_cases hz : A.c = 0 ∧ B.c = 0
  · rw [bothA_ok hz.1 hz.2] at q ⊢
    obtain ⟨e1, e2⟩ := spR_inj q g1 g.1 g2 g.2.1
    have m := quo_bounds (p2_pos 1048576) hu hv hcv v1 v2 (l1 hz.1) (l2 hz.2)
    exact .inr ⟨_, _, rfl, by rw [e1, e2]; exact g, m.1, m.2⟩
  · exact .inl (bothA_no (by omega))
theorem hold_quo {a b c d : D2} (h : GoodS a b) (k : GoodS c d) {u v : D2} (hu : a.v ≤ u.v ∧ u.v ≤ b.v) (hv : c.v ≤ v.v ∧ v.v ≤ d.v) {p : Int} (hp : 1 ≤ p ∧ p ≤ 70000) (h0 : hasV c d (0, 0) = false) :
    (0 < v.1 ∧ HoldQ (spQuo a b c d p) u.v v.v) ∨ (v.1 < 0 ∧ HoldQ (spQuo a b c d p) (-u.v) (-v.v)) := by
  have sc := D2.sgn c
  have sd := D2.sgn d
  have sv := D2.sgn v
  have z0 : D2.v (0, 0) = 0 := VV_zero 0
  have hn : ¬ (c.v ≤ 0 ∧ 0 ≤ d.v) := fun hh => by
    unfold hasV at h0
    rw [z0, decide_eq_true hh.1, decide_eq_true hh.2] at h0
    exact absurd h0 (by decide)
  have hcd := k.2.2
  unfold spQuo
  by_cases hc : 0 < c.1
  · rw [if_pos hc]
    have := sc.2.1 hc
    exact .inl ⟨sv.2.2 (by omega), hold_quoPos h k hc hu hv hp⟩
  · rw [if_neg hc]
    have n1 : ¬ 0 < c.v := fun q => hc (sc.2.2 q)
    have n2 : d.v < 0 := by omega
    rw [if_pos (sd.1.2 n2)]
    exact .inr ⟨sv.1.2 (by omega), hold_quoPos h.neg k.neg (show 0 < d.neg.1 by have := sd.1.2 n2; show 0 < -d.1; omega) (by rw [D2.neg_v, D2.neg_v]; omega) (by rw [D2.neg_v, D2.neg_v]; omega) hp⟩
theorem quo_nought {a b c d : D2} (k : GoodS c d) {p : Int} (h0 : hasV c d (0, 0) = true) : spQuo a b c d p = spE 4 := by
  have sc := D2.sgn c
  have sd := D2.sgn d
  have z0 : D2.v (0, 0) = 0 := VV_zero 0
  unfold hasV at h0
  rw [z0] at h0
  simp only [Bool.and_eq_true, decide_eq_true_eq] at h0
  unfold spQuo
  rw [if_neg (fun q => by have := sc.2.1 q; omega), if_neg (fun q => by have := sd.1.1 q; omega)]
def insd (a b d : D2) : D2 := if hasV a b d = true then d else a
theorem insd_ok {a b d : D2} (h : GoodS a b) (k : d.good) : (insd a b d).good ∧ a.v ≤ (insd a b d).v ∧ (insd a b d).v ≤ b.v := by
  unfold insd
  have hab := h.2.2
  split
  · rename_i h0
    unfold hasV at h0
    simp only [Bool.and_eq_true, decide_eq_true_eq] at h0
    exact ⟨k, h0.1, h0.2⟩
  · exact ⟨h.1, Int.le_refl _, hab⟩
variable {G : List (Nat × List Value)}
set_option maxRecDepth 10000
set_option maxHeartbeats 8000000
theorem q_holds {a b d : D2} (h : GoodS a b) (k : d.good) : FC Tryz.prog G 37 [SP a b, DY d.1 d.2] (· = .val (.bool (hasV a b d))) := by
  have f1 := q_below (G := G) k h.1
  have f2 := q_below (G := G) h.2.1 k
  have e : hasV a b d = (!decide (d.v < a.v) && !decide (b.v < d.v)) := by
    unfold hasV
    have n1 := not_dec d.v a.v
    have n2 := not_dec b.v d.v
    rw [Bool.true_and, Bool.true_and] at n1 n2
    rw [n1, n2]
  rw [e]
  clear e
  by_cases q : d.v < a.v
  · rw [decide_eq_true q]
    refine ax_i Tryz.func37 Tryz.ntmps37 (by rw [Tryz.results37]) ?_; intro F hG hO
    rw [← hG] at f1 f2
    repeat' ((try (conv => whnf)); first
  | ((with_reducible refine cg ?_); first | refine ceq f1 rfl ?_ | refine ceq f2 rfl ?_)
  
  | with_reducible first | refine ax_s ?_ | refine BothG.mk ?_ ?_ | (refine ax_f ?_ ?_ <;> intro hc) | refine smk ?_ | fail)
    all_goals exact ⟨ret_e rfl⟩
  · rw [decide_eq_false q]
    refine ax_i Tryz.func37 Tryz.ntmps37 (by rw [Tryz.results37]) ?_; intro F hG hO
    rw [← hG] at f1 f2
    repeat' ((try (conv => whnf)); first
  | ((with_reducible refine cg ?_); first | refine ceq f1 rfl ?_ | refine ceq f2 rfl ?_)
  
  | with_reducible first | refine ax_s ?_ | refine BothG.mk ?_ ?_ | (refine ax_f ?_ ?_ <;> intro hc) | refine smk ?_ | fail)
    all_goals exact ⟨ret_e rfl⟩
theorem LZ_bound {a : Int} (h : (bl a.natAbs : Int) ≤ 2097152) : LZ a ≤ 65537 := by
  have := L32_bl a.natAbs
  unfold LZ
  omega
theorem s_hold (a i b j : Int) (ha : (bl a.natAbs : Int) ≤ 2097152) (hb : (bl b.natAbs : Int) ≤ 2097152) (hi : -8388608 ≤ i ∧ i ≤ 8388608) (hj : -8388608 ≤ j ∧ j ≤ 8388608) : FC Tryz.prog G 39 [ZI a, .val (.int .i64 i), ZI b, .val (.int .i64 j)] (· = .val (.int .i64 (holdS a i b j))) := by
  rw [← hold_eq]
  have la := LZ_bound ha
  have lb := LZ_bound hb
  have f1 := r_sign (G := G) a
  have f2 := r_sign (G := G) b
  have sa := sign_bd a
  have sb := sign_bd b
  have f3 := r_of (G := G) a.sign (by dsimp only [inR]; omega)
  have f4 := r_of (G := G) b.sign (by dsimp only [inR]; omega)
  have f5 := r_zcmp (G := G) a.sign b.sign (Nat.le_trans (LZ_small _ (by omega)) (by decide)) (Nat.le_trans (LZ_small _ (by omega)) (by decide))
  have f6 := r_bits (G := G) a.natAbs (by unfold LZ at la; omega)
  have f7 := r_bits (G := G) b.natAbs (by unfold LZ at lb; omega)
  unfold holdC
  by_cases hs : a.sign ≠ b.sign ∨ a.sign = 0
  · rw [if_pos hs]
    obtain ⟨s, hs1⟩ : ∃ s, s = a.sign := ⟨_, rfl⟩
    obtain ⟨t, ht1⟩ : ∃ s, s = b.sign := ⟨_, rfl⟩
    rw [← hs1] at f1 f3 f5 hs sa ⊢
    rw [← ht1] at f2 f4 f5 hs sb ⊢
    clear hs1 ht1
    by_cases hne : s = t
    · have h0 : s = 0 := by omega
      clear hs
      refine ax_i Tryz.func39 Tryz.ntmps39 (by rw [Tryz.results39]) ?_; intro F hG hO
      rw [← hG] at f1 f2 f3 f4 f5
      repeat' ((try (conv => whnf)); first
  | ((with_reducible refine cg ?_); first | refine ceq f1 rfl ?_ | refine ceq f2 rfl ?_ | refine ceq f3 rfl ?_ | refine ceq f4 rfl ?_ | refine ceq f5 rfl ?_)
  
  | (with_reducible refine draw_g (id := 3) [[0, 2, 1, 3, 4, 5, 6]] tok mixed (by kernel_rfl) ?_)
  | (with_reducible refine draw_g (id := 4) [[0, 1, 3, 5, 6, 8, 2, 4, 7, 9, 10, 11]] tok mixed (by kernel_rfl) ?_)
  | (with_reducible refine draw_g (id := 10) [[0, 1, 2, 3, 5, 4, 6, 7]] tok mixed (by kernel_rfl) ?_)
  | (with_reducible refine draw_g (id := 11) [[0, 1, 2, 3, 4, 5, 6, 7]] tok mixed (by kernel_rfl) ?_)
  | with_reducible first | refine ax_s ?_ | refine BothG.mk ?_ ?_ | (refine ax_f ?_ ?_ <;> intro hc) | refine smk ?_ | fail)
      all_goals exact ⟨ret_e rfl⟩
    · clear hs
      refine ax_i Tryz.func39 Tryz.ntmps39 (by rw [Tryz.results39]) ?_; intro F hG hO
      rw [← hG] at f1 f2 f3 f4 f5
      repeat' ((try (conv => whnf)); first
  | ((with_reducible refine cg ?_); first | refine ceq f1 rfl ?_ | refine ceq f2 rfl ?_ | refine ceq f3 rfl ?_ | refine ceq f4 rfl ?_ | refine ceq f5 rfl ?_)
  
  | (with_reducible refine draw_g (id := 3) [[0, 2, 1, 3, 4, 5, 6]] tok mixed (by kernel_rfl) ?_)
  | (with_reducible refine draw_g (id := 4) [[0, 1, 3, 5, 6, 8, 2, 4, 7, 9, 10, 11]] tok mixed (by kernel_rfl) ?_)
  | (with_reducible refine draw_g (id := 10) [[0, 1, 2, 3, 5, 4, 6, 7]] tok mixed (by kernel_rfl) ?_)
  | (with_reducible refine draw_g (id := 11) [[0, 1, 2, 3, 4, 5, 6, 7]] tok mixed (by kernel_rfl) ?_)
  | with_reducible first | refine ax_s ?_ | refine BothG.mk ?_ ?_ | (refine ax_f ?_ ?_ <;> intro hc) | refine smk ?_ | fail)
      all_goals exact ⟨ret_e rfl⟩
  · rw [if_neg hs]
    have h1 : a.sign = b.sign := by omega
    have h2 : a.sign ≠ 0 := by omega
    clear hs f3 f4 f5
    have d1 := LZ_shl a (i - j).toNat
    have d2 := LZ_shl b (j - i).toNat
    by_cases ht : (bl a.natAbs : Int) + i = (bl b.natAbs : Int) + j
    · rw [if_neg (by omega)]
      by_cases hij : j ≤ i
      · have g1 := r_zshl (G := G) a (i - j) (by omega) (by dsimp only [inR]; omega) (by omega)
        have g2 := r_zcmp (G := G) (a * 2 ^ (i - j).toNat) b (by omega) (by omega)
        rw [show min i j = j by omega, show (j - j).toNat = 0 by omega, Int.pow_zero, Int.mul_one]
        obtain ⟨s, hs1⟩ : ∃ s, s = a.sign := ⟨_, rfl⟩
        obtain ⟨t, ht1⟩ : ∃ s, s = b.sign := ⟨_, rfl⟩
        rw [← hs1] at f1 h1 h2
        rw [← ht1] at f2 h1
        clear hs1 ht1 d1 d2
        refine ax_i Tryz.func39 Tryz.ntmps39 (by rw [Tryz.results39]) ?_; intro F hG hO
        rw [← hG] at f1 f2 f6 f7 g1 g2
        repeat' ((try (conv => whnf)); first
  | ((with_reducible refine cg ?_); first | refine ceq f1 rfl ?_ | refine ceq f2 rfl ?_ | refine ceq f6 rfl ?_ | refine ceq f7 rfl ?_ | refine ceq g1 rfl ?_ | refine ceq g2 rfl ?_)
  
  | (with_reducible refine draw_g (id := 3) [[0, 2, 1, 3, 4, 5, 6]] tok mixed (by kernel_rfl) ?_)
  | (with_reducible refine draw_g (id := 4) [[0, 1, 3, 5, 6, 8, 2, 4, 7, 9, 10, 11]] tok mixed (by kernel_rfl) ?_)
  | (with_reducible refine draw_g (id := 10) [[0, 1, 2, 3, 5, 4, 6, 7]] tok mixed (by kernel_rfl) ?_)
  | (with_reducible refine draw_g (id := 11) [[0, 1, 2, 3, 4, 5, 6, 7]] tok mixed (by kernel_rfl) ?_)
  | with_reducible first | refine ax_s ?_ | refine BothG.mk ?_ ?_ | (refine ax_f ?_ ?_ <;> intro hc) | refine smk ?_ | fail)
        all_goals exact ⟨ret_e rfl⟩
      · have g1 := r_zshl (G := G) b (j - i) (by omega) (by dsimp only [inR]; omega) (by omega)
        have g2 := r_zcmp (G := G) a (b * 2 ^ (j - i).toNat) (by omega) (by omega)
        rw [show min i j = i by omega, show (i - i).toNat = 0 by omega, Int.pow_zero, Int.mul_one]
        obtain ⟨s, hs1⟩ : ∃ s, s = a.sign := ⟨_, rfl⟩
        obtain ⟨t, ht1⟩ : ∃ s, s = b.sign := ⟨_, rfl⟩
        rw [← hs1] at f1 h1 h2
        rw [← ht1] at f2 h1
        clear hs1 ht1 d1 d2
        refine ax_i Tryz.func39 Tryz.ntmps39 (by rw [Tryz.results39]) ?_; intro F hG hO
        rw [← hG] at f1 f2 f6 f7 g1 g2
        repeat' ((try (conv => whnf)); first
  | ((with_reducible refine cg ?_); first | refine ceq f1 rfl ?_ | refine ceq f2 rfl ?_ | refine ceq f6 rfl ?_ | refine ceq f7 rfl ?_ | refine ceq g1 rfl ?_ | refine ceq g2 rfl ?_)
  
  | (with_reducible refine draw_g (id := 3) [[0, 2, 1, 3, 4, 5, 6]] tok mixed (by kernel_rfl) ?_)
  | (with_reducible refine draw_g (id := 4) [[0, 1, 3, 5, 6, 8, 2, 4, 7, 9, 10, 11]] tok mixed (by kernel_rfl) ?_)
  | (with_reducible refine draw_g (id := 10) [[0, 1, 2, 3, 5, 4, 6, 7]] tok mixed (by kernel_rfl) ?_)
  | (with_reducible refine draw_g (id := 11) [[0, 1, 2, 3, 4, 5, 6, 7]] tok mixed (by kernel_rfl) ?_)
  | with_reducible first | refine ax_s ?_ | refine BothG.mk ?_ ?_ | (refine ax_f ?_ ?_ <;> intro hc) | refine smk ?_ | fail)
        all_goals exact ⟨ret_e rfl⟩
    · rw [if_pos ht]
      obtain ⟨s, hs1⟩ : ∃ s, s = a.sign := ⟨_, rfl⟩
      obtain ⟨t, ht1⟩ : ∃ s, s = b.sign := ⟨_, rfl⟩
      rw [← hs1] at f1 h1 h2 sa ⊢
      rw [← ht1] at f2 h1
      clear hs1 ht1 d1 d2
      by_cases hlt : (bl a.natAbs : Int) + i < (bl b.natAbs : Int) + j
      · rw [if_pos hlt]
        refine ax_i Tryz.func39 Tryz.ntmps39 (by rw [Tryz.results39]) ?_; intro F hG hO
        rw [← hG] at f1 f2 f6 f7
        repeat' ((try (conv => whnf)); first
  | ((with_reducible refine cg ?_); first | refine ceq f1 rfl ?_ | refine ceq f2 rfl ?_ | refine ceq f6 rfl ?_ | refine ceq f7 rfl ?_)
  
  | (with_reducible refine draw_g (id := 3) [[0, 2, 1, 3, 4, 5, 6]] tok mixed (by kernel_rfl) ?_)
  | (with_reducible refine draw_g (id := 4) [[0, 1, 3, 5, 6, 8, 2, 4, 7, 9, 10, 11]] tok mixed (by kernel_rfl) ?_)
  | (with_reducible refine draw_g (id := 10) [[0, 1, 2, 3, 5, 4, 6, 7]] tok mixed (by kernel_rfl) ?_)
  | (with_reducible refine draw_g (id := 11) [[0, 1, 2, 3, 4, 5, 6, 7]] tok mixed (by kernel_rfl) ?_)
  | with_reducible first | refine ax_s ?_ | refine BothG.mk ?_ ?_ | (refine ax_f ?_ ?_ <;> intro hc) | refine smk ?_ | fail)
        all_goals exact ⟨ret_e (by rw [show -s = 0 - s by omega])⟩
      · rw [if_neg hlt]
        refine ax_i Tryz.func39 Tryz.ntmps39 (by rw [Tryz.results39]) ?_; intro F hG hO
        rw [← hG] at f1 f2 f6 f7
        repeat' ((try (conv => whnf)); first
  | ((with_reducible refine cg ?_); first | refine ceq f1 rfl ?_ | refine ceq f2 rfl ?_ | refine ceq f6 rfl ?_ | refine ceq f7 rfl ?_)
  
  | (with_reducible refine draw_g (id := 3) [[0, 2, 1, 3, 4, 5, 6]] tok mixed (by kernel_rfl) ?_)
  | (with_reducible refine draw_g (id := 4) [[0, 1, 3, 5, 6, 8, 2, 4, 7, 9, 10, 11]] tok mixed (by kernel_rfl) ?_)
  | (with_reducible refine draw_g (id := 10) [[0, 1, 2, 3, 5, 4, 6, 7]] tok mixed (by kernel_rfl) ?_)
  | (with_reducible refine draw_g (id := 11) [[0, 1, 2, 3, 4, 5, 6, 7]] tok mixed (by kernel_rfl) ?_)
  | with_reducible first | refine ax_s ?_ | refine BothG.mk ?_ ?_ | (refine ax_f ?_ ?_ <;> intro hc) | refine smk ?_ | fail)
        all_goals exact ⟨ret_e rfl⟩
theorem s_inside {a b d : D2} (h : GoodS a b) (k : d.good) : FC Tryz.prog G 30 [SP a b, DY d.1 d.2] (· = DY (insd a b d).1 (insd a b d).2) := by
  have f := q_holds (G := G) h k
  unfold insd
  cases q : hasV a b d with
  | true =>
    rw [q] at f
    rw [if_pos rfl]
    clear q
    refine ax_i Tryz.func30 Tryz.ntmps30 (by rw [Tryz.results30]) ?_; intro F hG hO
    rw [← hG] at f
    repeat' ((try (conv => whnf)); first
  | ((with_reducible refine cg ?_); first | refine ceq f rfl ?_)
  
  | with_reducible first | refine ax_s ?_ | refine BothG.mk ?_ ?_ | (refine ax_f ?_ ?_ <;> intro hc) | refine smk ?_ | fail)
    all_goals exact ⟨ret_e rfl⟩
  | false =>
    rw [q] at f
    rw [if_neg (by decide)]
    clear q
    refine ax_i Tryz.func30 Tryz.ntmps30 (by rw [Tryz.results30]) ?_; intro F hG hO
    rw [← hG] at f
    repeat' ((try (conv => whnf)); first
  | ((with_reducible refine cg ?_); first | refine ceq f rfl ?_)
  
  | with_reducible first | refine ax_s ?_ | refine BothG.mk ?_ ?_ | (refine ax_f ?_ ?_ <;> intro hc) | refine smk ?_ | fail)
    all_goals exact ⟨ret_e rfl⟩
theorem bl_shl_le {a : Int} {t m : Nat} (h : bl a.natAbs + t ≤ m) : bl (a * 2 ^ t).natAbs ≤ m := by
  refine bl_le ?_
  have h1 := lt_bl a.natAbs
  have h2 : (a * 2 ^ t).natAbs = a.natAbs * 2 ^ t := abs_shl a t
  have h3 : a.natAbs * 2 ^ t < 2 ^ bl a.natAbs * 2 ^ t := Nat.mul_lt_mul_of_pos_right h1 (Nat.pow_pos (by decide))
  rw [← Nat.pow_add] at h3
  have h4 : 2 ^ (bl a.natAbs + t) ≤ 2 ^ m := Nat.pow_le_pow_right (by decide) h
  rw [h2]
  exact Nat.lt_of_lt_of_le h3 h4
theorem bl_add_le {a b : Int} {m : Nat} (h : bl a.natAbs ≤ m) (k : bl b.natAbs ≤ m) : bl (a + b).natAbs ≤ m + 1 := by
  refine bl_le ?_
  have h1 := lt_bl a.natAbs
  have h2 := lt_bl b.natAbs
  have h3 : 2 ^ bl a.natAbs ≤ 2 ^ m := Nat.pow_le_pow_right (by decide) h
  have h4 : 2 ^ bl b.natAbs ≤ 2 ^ m := Nat.pow_le_pow_right (by decide) k
  rw [Nat.pow_succ]
  generalize 2 ^ m = M at *
  generalize 2 ^ bl a.natAbs = A at *
  generalize 2 ^ bl b.natAbs = B at *
  omega
theorem bl_mul_le {a b : Int} {m n : Nat} (h : bl a.natAbs ≤ m) (k : bl b.natAbs ≤ n) : bl (a * b).natAbs ≤ m + n := by
  refine bl_le ?_
  rw [Int.natAbs_mul, Nat.pow_add]
  have h1 := lt_bl a.natAbs
  have h2 := lt_bl b.natAbs
  have h3 : 2 ^ bl a.natAbs ≤ 2 ^ m := Nat.pow_le_pow_right (by decide) h
  have h4 : 2 ^ bl b.natAbs ≤ 2 ^ n := Nat.pow_le_pow_right (by decide) k
  exact Nat.mul_lt_mul'' (Nat.lt_of_lt_of_le h1 h3) (Nat.lt_of_lt_of_le h2 h4)
def nearP (u v : D2) : Prop := u.1 = 0 ∨ v.1 = 0 ∨ (u.2 - v.2 ≤ 524288 ∧ v.2 - u.2 ≤ 524288)
theorem len_nil (n : Int) : (((d64 n.natAbs).length : Int) = 0 ↔ n = 0) := by
  have h := lenB_eq_zero (B := 18446744073709551616) (x := n.natAbs) (by decide)
  have hl : (d64 n.natAbs).length = lenB 18446744073709551616 n.natAbs := rfl
  constructor
  · intro q
    have := h.1 (by omega)
    omega
  · intro q
    rw [q, show Int.natAbs 0 = 0 from rfl, d64_0]; rfl
theorem s_near {u v : D2} (h : u.good) (k : v.good) : (nearP u v ∧ FC Tryz.prog G 32 [DY u.1 u.2, DY v.1 v.2] (· = .val (.bool true))) ∨ (¬ nearP u v ∧ FC Tryz.prog G 32 [DY u.1 u.2, DY v.1 v.2] (· = .val (.bool false))) := by
  have l1 := len_nil u.1
  have l2 := len_nil v.1
  have e1 := h.2.1
  have e2 := h.2.2.1
  have e3 := k.2.1
  have e4 := k.2.2.1
  by_cases hn : nearP u v
  · refine .inl ⟨hn, ?_⟩
    unfold nearP at hn
    by_cases h1 : u.1 = 0
    · have q1 := l1.2 h1
      clear hn l1 l2
      refine ax_i Tryz.func32 Tryz.ntmps32 (by rw [Tryz.results32]) ?_; intro F hG hO
      repeat' ((try (conv => whnf)); first
  
  | with_reducible first | refine ax_s ?_ | refine BothG.mk ?_ ?_ | (refine ax_f ?_ ?_ <;> intro hc) | refine smk ?_ | fail)
      all_goals exact ⟨ret_e rfl⟩
    · have q1 : ((d64 u.1.natAbs).length : Int) ≠ 0 := fun q => h1 (l1.1 q)
      by_cases h2 : v.1 = 0
      · have q2 := l2.2 h2
        clear hn l1 l2
        refine ax_i Tryz.func32 Tryz.ntmps32 (by rw [Tryz.results32]) ?_; intro F hG hO
        repeat' ((try (conv => whnf)); first
  
  | with_reducible first | refine ax_s ?_ | refine BothG.mk ?_ ?_ | (refine ax_f ?_ ?_ <;> intro hc) | refine smk ?_ | fail)
        all_goals exact ⟨ret_e rfl⟩
      · have q2 : ((d64 v.1.natAbs).length : Int) ≠ 0 := fun q => h2 (l2.1 q)
        have q3 : u.2 - v.2 ≤ 524288 ∧ v.2 - u.2 ≤ 524288 := by omega
        clear hn l1 l2
        refine ax_i Tryz.func32 Tryz.ntmps32 (by rw [Tryz.results32]) ?_; intro F hG hO
        repeat' ((try (conv => whnf)); first
  
  | with_reducible first | refine ax_s ?_ | refine BothG.mk ?_ ?_ | (refine ax_f ?_ ?_ <;> intro hc) | refine smk ?_ | fail)
        all_goals first
          | exact ⟨ret_e rfl⟩
          | exact ⟨ret_e (by rw [decide_eq_true (by omega)])⟩
  · refine .inr ⟨hn, ?_⟩
    unfold nearP at hn
    have q1 : ((d64 u.1.natAbs).length : Int) ≠ 0 := fun q => hn (.inl (l1.1 q))
    have q2 : ((d64 v.1.natAbs).length : Int) ≠ 0 := fun q => hn (.inr (.inl (l2.1 q)))
    by_cases h3 : u.2 - v.2 ≤ 524288
    · have h4 : ¬ v.2 - u.2 ≤ 524288 := fun q => hn (.inr (.inr ⟨h3, q⟩))
      clear hn l1 l2
      refine ax_i Tryz.func32 Tryz.ntmps32 (by rw [Tryz.results32]) ?_; intro F hG hO
      repeat' ((try (conv => whnf)); first
  
  | with_reducible first | refine ax_s ?_ | refine BothG.mk ?_ ?_ | (refine ax_f ?_ ?_ <;> intro hc) | refine smk ?_ | fail)
      all_goals first
        | exact ⟨ret_e rfl⟩
        | exact ⟨ret_e (by rw [decide_eq_false (by omega)])⟩
    · clear hn l1 l2
      refine ax_i Tryz.func32 Tryz.ntmps32 (by rw [Tryz.results32]) ?_; intro F hG hO
      repeat' ((try (conv => whnf)); first
  
  | with_reducible first | refine ax_s ?_ | refine BothG.mk ?_ ?_ | (refine ax_f ?_ ?_ <;> intro hc) | refine smk ?_ | fail)
      all_goals exact ⟨ret_e rfl⟩
def rsv12 (u : D2) (v : D2) (c : Bool) (w : Int) : PV := .ptr 0 0
def rsv13 (u : D2) (v : D2) (c : Bool) (w : Int) : PV := .agg [.val (.bool (decide (u.1 < 0))), .ws .u64 (d64 u.1.natAbs)]
def rsv14 (u : D2) (v : D2) (c : Bool) (w : Int) : PV := .agg [.val (.bool (decide (u.1 < 0))), .ws .u32 (d32 (u.1).natAbs)]
def rsv15 (u : D2) (v : D2) (c : Bool) (w : Int) : PV := .ptr 0 2
def rsv16 (u : D2) (v : D2) (c : Bool) (w : Int) : PV := .val (.int .i64 (u.2))
def rsv17 (u : D2) (v : D2) (c : Bool) (w : Int) : PV := .val (.int .i64 (min u.2 v.2))
def rsv18 (u : D2) (v : D2) (c : Bool) (w : Int) : PV := .val (.int .i64 (u.2 - min u.2 v.2))
def rsv19 (u : D2) (v : D2) (c : Bool) (w : Int) : PV := .agg [.val (.bool (decide (u.1 * 2 ^ (u.2 - min u.2 v.2).toNat < 0))), .ws .u32 (d32 (u.1 * 2 ^ (u.2 - min u.2 v.2).toNat).natAbs)]
def rsv20 (u : D2) (v : D2) (c : Bool) (w : Int) : PV := .ptr 1 0
def rsv21 (u : D2) (v : D2) (c : Bool) (w : Int) : PV := .agg [.val (.bool c), .ws .u64 (d64 v.1.natAbs)]
def rsv22 (u : D2) (v : D2) (c : Bool) (w : Int) : PV := .agg [.val (.bool (decide (w < 0))), .ws .u32 (d32 (w).natAbs)]
def rsv23 (u : D2) (v : D2) (c : Bool) (w : Int) : PV := .ptr 1 2
def rsv24 (u : D2) (v : D2) (c : Bool) (w : Int) : PV := .val (.int .i64 (v.2))
def rsv25 (u : D2) (v : D2) (c : Bool) (w : Int) : PV := .val (.int .i64 (min u.2 v.2))
def rsv26 (u : D2) (v : D2) (c : Bool) (w : Int) : PV := .val (.int .i64 (v.2 - min u.2 v.2))
def rsv27 (u : D2) (v : D2) (c : Bool) (w : Int) : PV := .agg [.val (.bool (decide (w * 2 ^ (v.2 - min u.2 v.2).toNat < 0))), .ws .u32 (d32 (w * 2 ^ (v.2 - min u.2 v.2).toNat).natAbs)]
def rsv28 (u : D2) (v : D2) (c : Bool) (w : Int) : PV := .agg [.val (.bool (decide (u.1 * 2 ^ (u.2 - min u.2 v.2).toNat + w * 2 ^ (v.2 - min u.2 v.2).toNat < 0))), .ws .u32 (d32 (u.1 * 2 ^ (u.2 - min u.2 v.2).toNat + w * 2 ^ (v.2 - min u.2 v.2).toNat).natAbs)]
def rsv29 (u : D2) (v : D2) (c : Bool) (w : Int) : PV := .val (.int .i64 (min u.2 v.2))
def rsv5 (u : D2) (v : D2) (c : Bool) (w : Int) : PV := .val (.int .i64 (min u.2 v.2))
def rss (u : D2) (v : D2) (c : Bool) (w : Int) : List (Nat × PV) := [(2, .ptr 0 0), (3, .ptr 1 0), (4, .ptr 2 0), (6, .val (.int .i64 (min u.2 v.2)))]
def rsb0 (u : D2) (v : D2) (c : Bool) (w : Int) : List (List PV) := [[.val (.bool (decide (u.1 < 0))), .ws .u64 (d64 u.1.natAbs), .val (.int .i64 u.2)], [.val (.bool c), .ws .u64 (d64 v.1.natAbs), .val (.int .i64 v.2)], [.val (.bool false), .nil]]
def rsb1 (u : D2) (v : D2) (c : Bool) (w : Int) : List (List PV) := [[.val (.bool (decide (u.1 < 0))), .ws .u64 (d64 u.1.natAbs), .val (.int .i64 u.2)], [.val (.bool c), .ws .u64 (d64 v.1.natAbs), .val (.int .i64 v.2)], [.val (.bool (decide (u.1 * 2 ^ (u.2 - min u.2 v.2).toNat + w * 2 ^ (v.2 - min u.2 v.2).toNat < 0))), .ws .u32 (d32 (u.1 * 2 ^ (u.2 - min u.2 v.2).toNat + w * 2 ^ (v.2 - min u.2 v.2).toNat).natAbs)]]
def rsn (u : D2) (v : D2) (c : Bool) (w : Int) : List Nd := [⟨0, rss u v c w, rsb0 u v c w, .take 0 (.take 3 (.take 5 (.take 8 (.take 11 (.take 13 (.take 17 (.alt 1 (.cut 4) (.alt 4 (.cut 3) (.alt 9 (.cut 2) (.alt 12 (.cut 1) .non))))))))))⟩,
  ⟨145705, (12, rsv12 u v c w) :: (15, rsv15 u v c w) :: (17, rsv17 u v c w) :: (20, rsv20 u v c w) :: (24, rsv24 u v c w) :: (25, rsv25 u v c w) :: (29, rsv29 u v c w) :: rss u v c w, rsb0 u v c w, .take 14 (.alt 1 (.cut 7) (.alt 4 (.cut 6) (.alt 9 (.cut 5) .non)))⟩,
  ⟨142121, (12, rsv12 u v c w) :: (15, rsv15 u v c w) :: (17, rsv17 u v c w) :: (21, rsv21 u v c w) :: (23, rsv23 u v c w) :: (25, rsv25 u v c w) :: (29, rsv29 u v c w) :: rss u v c w, rsb0 u v c w, .alt 1 (.cut 10) (.alt 4 (.cut 9) (.alt 12 (.cut 8) .non))⟩,
  ⟨141625, (12, rsv12 u v c w) :: (16, rsv16 u v c w) :: (17, rsv17 u v c w) :: (20, rsv20 u v c w) :: (23, rsv23 u v c w) :: (25, rsv25 u v c w) :: (29, rsv29 u v c w) :: rss u v c w, rsb0 u v c w, .take 6 (.alt 1 (.cut 13) (.alt 9 (.cut 12) (.alt 12 (.cut 11) .non)))⟩,
  ⟨141611, (13, rsv13 u v c w) :: (15, rsv15 u v c w) :: (17, rsv17 u v c w) :: (20, rsv20 u v c w) :: (23, rsv23 u v c w) :: (25, rsv25 u v c w) :: (29, rsv29 u v c w) :: rss u v c w, rsb0 u v c w, .alt 2 (.cut 16) (.alt 4 (.cut 15) (.alt 9 (.cut 10) (.alt 12 (.cut 14) .non)))⟩,
  ⟨162601, (12, rsv12 u v c w) :: (15, rsv15 u v c w) :: (17, rsv17 u v c w) :: (21, rsv21 u v c w) :: (26, rsv26 u v c w) :: (29, rsv29 u v c w) :: rss u v c w, rsb0 u v c w, .alt 1 (.cut 18) (.alt 4 (.cut 17) .non)⟩,
  ⟨162105, (12, rsv12 u v c w) :: (16, rsv16 u v c w) :: (17, rsv17 u v c w) :: (20, rsv20 u v c w) :: (26, rsv26 u v c w) :: (29, rsv29 u v c w) :: rss u v c w, rsb0 u v c w, .take 6 (.alt 1 (.cut 20) (.alt 9 (.cut 19) .non))⟩,
  ⟨162091, (13, rsv13 u v c w) :: (15, rsv15 u v c w) :: (17, rsv17 u v c w) :: (20, rsv20 u v c w) :: (26, rsv26 u v c w) :: (29, rsv29 u v c w) :: rss u v c w, rsb0 u v c w, .alt 2 (.cut 22) (.alt 4 (.cut 21) (.alt 9 (.cut 18) .non))⟩,
  ⟨146217, (12, rsv12 u v c w) :: (15, rsv15 u v c w) :: (17, rsv17 u v c w) :: (21, rsv21 u v c w) :: (24, rsv24 u v c w) :: (25, rsv25 u v c w) :: (29, rsv29 u v c w) :: rss u v c w, rsb0 u v c w, .take 14 (.alt 1 (.cut 18) (.alt 4 (.cut 17) .non))⟩,
  ⟨142137, (12, rsv12 u v c w) :: (16, rsv16 u v c w) :: (17, rsv17 u v c w) :: (21, rsv21 u v c w) :: (23, rsv23 u v c w) :: (25, rsv25 u v c w) :: (29, rsv29 u v c w) :: rss u v c w, rsb0 u v c w, .take 6 (.alt 1 (.cut 24) (.alt 12 (.cut 23) .non))⟩,
  ⟨142123, (13, rsv13 u v c w) :: (15, rsv15 u v c w) :: (17, rsv17 u v c w) :: (21, rsv21 u v c w) :: (23, rsv23 u v c w) :: (25, rsv25 u v c w) :: (29, rsv29 u v c w) :: rss u v c w, rsb0 u v c w, .alt 2 (.cut 27) (.alt 4 (.cut 26) (.alt 12 (.cut 25) .non))⟩,
  ⟨145785, (12, rsv12 u v c w) :: (18, rsv18 u v c w) :: (20, rsv20 u v c w) :: (24, rsv24 u v c w) :: (25, rsv25 u v c w) :: (29, rsv29 u v c w) :: rss u v c w, rsb0 u v c w, .take 14 (.alt 1 (.cut 20) (.alt 9 (.cut 19) .non))⟩,
  ⟨142201, (12, rsv12 u v c w) :: (18, rsv18 u v c w) :: (21, rsv21 u v c w) :: (23, rsv23 u v c w) :: (25, rsv25 u v c w) :: (29, rsv29 u v c w) :: rss u v c w, rsb0 u v c w, .alt 1 (.cut 24) (.alt 12 (.cut 23) .non)⟩,
  ⟨141691, (13, rsv13 u v c w) :: (18, rsv18 u v c w) :: (20, rsv20 u v c w) :: (23, rsv23 u v c w) :: (25, rsv25 u v c w) :: (29, rsv29 u v c w) :: rss u v c w, rsb0 u v c w, .alt 2 (.cut 29) (.alt 9 (.cut 24) (.alt 12 (.cut 28) .non))⟩,
  ⟨145707, (13, rsv13 u v c w) :: (15, rsv15 u v c w) :: (17, rsv17 u v c w) :: (20, rsv20 u v c w) :: (24, rsv24 u v c w) :: (25, rsv25 u v c w) :: (29, rsv29 u v c w) :: rss u v c w, rsb0 u v c w, .take 14 (.alt 2 (.cut 22) (.alt 4 (.cut 21) (.alt 9 (.cut 18) .non)))⟩,
  ⟨141627, (13, rsv13 u v c w) :: (16, rsv16 u v c w) :: (17, rsv17 u v c w) :: (20, rsv20 u v c w) :: (23, rsv23 u v c w) :: (25, rsv25 u v c w) :: (29, rsv29 u v c w) :: rss u v c w, rsb0 u v c w, .take 6 (.alt 2 (.cut 29) (.alt 9 (.cut 24) (.alt 12 (.cut 28) .non)))⟩,
  ⟨141615, (14, rsv14 u v c w) :: (15, rsv15 u v c w) :: (17, rsv17 u v c w) :: (20, rsv20 u v c w) :: (23, rsv23 u v c w) :: (25, rsv25 u v c w) :: (29, rsv29 u v c w) :: rss u v c w, rsb0 u v c w, .alt 4 (.cut 31) (.alt 9 (.cut 27) (.alt 12 (.cut 30) .non))⟩,
  ⟨162617, (12, rsv12 u v c w) :: (16, rsv16 u v c w) :: (17, rsv17 u v c w) :: (21, rsv21 u v c w) :: (26, rsv26 u v c w) :: (29, rsv29 u v c w) :: rss u v c w, rsb0 u v c w, .take 6 (.alt 1 (.cut 32) .non)⟩,
  ⟨162603, (13, rsv13 u v c w) :: (15, rsv15 u v c w) :: (17, rsv17 u v c w) :: (21, rsv21 u v c w) :: (26, rsv26 u v c w) :: (29, rsv29 u v c w) :: rss u v c w, rsb0 u v c w, .alt 2 (.cut 34) (.alt 4 (.cut 33) .non)⟩,
  ⟨162681, (12, rsv12 u v c w) :: (18, rsv18 u v c w) :: (21, rsv21 u v c w) :: (26, rsv26 u v c w) :: (29, rsv29 u v c w) :: rss u v c w, rsb0 u v c w, .alt 1 (.cut 32) .non⟩,
  ⟨162171, (13, rsv13 u v c w) :: (18, rsv18 u v c w) :: (20, rsv20 u v c w) :: (26, rsv26 u v c w) :: (29, rsv29 u v c w) :: rss u v c w, rsb0 u v c w, .alt 2 (.cut 35) (.alt 9 (.cut 32) .non)⟩,
  ⟨162107, (13, rsv13 u v c w) :: (16, rsv16 u v c w) :: (17, rsv17 u v c w) :: (20, rsv20 u v c w) :: (26, rsv26 u v c w) :: (29, rsv29 u v c w) :: rss u v c w, rsb0 u v c w, .take 6 (.alt 2 (.cut 35) (.alt 9 (.cut 32) .non))⟩,
  ⟨162095, (14, rsv14 u v c w) :: (15, rsv15 u v c w) :: (17, rsv17 u v c w) :: (20, rsv20 u v c w) :: (26, rsv26 u v c w) :: (29, rsv29 u v c w) :: rss u v c w, rsb0 u v c w, .alt 4 (.cut 36) (.alt 9 (.cut 34) .non)⟩,
  ⟨146297, (12, rsv12 u v c w) :: (18, rsv18 u v c w) :: (21, rsv21 u v c w) :: (24, rsv24 u v c w) :: (25, rsv25 u v c w) :: (29, rsv29 u v c w) :: rss u v c w, rsb0 u v c w, .take 14 (.alt 1 (.cut 32) .non)⟩,
  ⟨142203, (13, rsv13 u v c w) :: (18, rsv18 u v c w) :: (21, rsv21 u v c w) :: (23, rsv23 u v c w) :: (25, rsv25 u v c w) :: (29, rsv29 u v c w) :: rss u v c w, rsb0 u v c w, .alt 2 (.cut 38) (.alt 12 (.cut 37) .non)⟩,
  ⟨146219, (13, rsv13 u v c w) :: (15, rsv15 u v c w) :: (17, rsv17 u v c w) :: (21, rsv21 u v c w) :: (24, rsv24 u v c w) :: (25, rsv25 u v c w) :: (29, rsv29 u v c w) :: rss u v c w, rsb0 u v c w, .take 14 (.alt 2 (.cut 34) (.alt 4 (.cut 33) .non))⟩,
  ⟨142139, (13, rsv13 u v c w) :: (16, rsv16 u v c w) :: (17, rsv17 u v c w) :: (21, rsv21 u v c w) :: (23, rsv23 u v c w) :: (25, rsv25 u v c w) :: (29, rsv29 u v c w) :: rss u v c w, rsb0 u v c w, .take 6 (.alt 2 (.cut 38) (.alt 12 (.cut 37) .non))⟩,
  ⟨142127, (14, rsv14 u v c w) :: (15, rsv15 u v c w) :: (17, rsv17 u v c w) :: (21, rsv21 u v c w) :: (23, rsv23 u v c w) :: (25, rsv25 u v c w) :: (29, rsv29 u v c w) :: rss u v c w, rsb0 u v c w, .alt 4 (.cut 40) (.alt 12 (.cut 39) .non)⟩,
  ⟨145787, (13, rsv13 u v c w) :: (18, rsv18 u v c w) :: (20, rsv20 u v c w) :: (24, rsv24 u v c w) :: (25, rsv25 u v c w) :: (29, rsv29 u v c w) :: rss u v c w, rsb0 u v c w, .take 14 (.alt 2 (.cut 35) (.alt 9 (.cut 32) .non))⟩,
  ⟨141695, (14, rsv14 u v c w) :: (18, rsv18 u v c w) :: (20, rsv20 u v c w) :: (23, rsv23 u v c w) :: (25, rsv25 u v c w) :: (29, rsv29 u v c w) :: rss u v c w, rsb0 u v c w, .alt 7 (.cut 42) (.alt 9 (.cut 38) (.alt 12 (.cut 41) .non))⟩,
  ⟨145711, (14, rsv14 u v c w) :: (15, rsv15 u v c w) :: (17, rsv17 u v c w) :: (20, rsv20 u v c w) :: (24, rsv24 u v c w) :: (25, rsv25 u v c w) :: (29, rsv29 u v c w) :: rss u v c w, rsb0 u v c w, .take 14 (.alt 4 (.cut 36) (.alt 9 (.cut 34) .non))⟩,
  ⟨141631, (14, rsv14 u v c w) :: (16, rsv16 u v c w) :: (17, rsv17 u v c w) :: (20, rsv20 u v c w) :: (23, rsv23 u v c w) :: (25, rsv25 u v c w) :: (29, rsv29 u v c w) :: rss u v c w, rsb0 u v c w, .take 6 (.alt 7 (.cut 42) (.alt 9 (.cut 38) (.alt 12 (.cut 41) .non)))⟩,
  ⟨162683, (13, rsv13 u v c w) :: (18, rsv18 u v c w) :: (21, rsv21 u v c w) :: (26, rsv26 u v c w) :: (29, rsv29 u v c w) :: rss u v c w, rsb0 u v c w, .alt 2 (.cut 43) .non⟩,
  ⟨162619, (13, rsv13 u v c w) :: (16, rsv16 u v c w) :: (17, rsv17 u v c w) :: (21, rsv21 u v c w) :: (26, rsv26 u v c w) :: (29, rsv29 u v c w) :: rss u v c w, rsb0 u v c w, .take 6 (.alt 2 (.cut 43) .non)⟩,
  ⟨162607, (14, rsv14 u v c w) :: (15, rsv15 u v c w) :: (17, rsv17 u v c w) :: (21, rsv21 u v c w) :: (26, rsv26 u v c w) :: (29, rsv29 u v c w) :: rss u v c w, rsb0 u v c w, .alt 4 (.cut 44) .non⟩,
  ⟨162175, (14, rsv14 u v c w) :: (18, rsv18 u v c w) :: (20, rsv20 u v c w) :: (26, rsv26 u v c w) :: (29, rsv29 u v c w) :: rss u v c w, rsb0 u v c w, .alt 7 (.cut 45) (.alt 9 (.cut 43) .non)⟩,
  ⟨162111, (14, rsv14 u v c w) :: (16, rsv16 u v c w) :: (17, rsv17 u v c w) :: (20, rsv20 u v c w) :: (26, rsv26 u v c w) :: (29, rsv29 u v c w) :: rss u v c w, rsb0 u v c w, .take 6 (.alt 7 (.cut 45) (.alt 9 (.cut 43) .non))⟩,
  ⟨146299, (13, rsv13 u v c w) :: (18, rsv18 u v c w) :: (21, rsv21 u v c w) :: (24, rsv24 u v c w) :: (25, rsv25 u v c w) :: (29, rsv29 u v c w) :: rss u v c w, rsb0 u v c w, .take 14 (.alt 2 (.cut 43) .non)⟩,
  ⟨142207, (14, rsv14 u v c w) :: (18, rsv18 u v c w) :: (21, rsv21 u v c w) :: (23, rsv23 u v c w) :: (25, rsv25 u v c w) :: (29, rsv29 u v c w) :: rss u v c w, rsb0 u v c w, .alt 7 (.cut 47) (.alt 12 (.cut 46) .non)⟩,
  ⟨146223, (14, rsv14 u v c w) :: (15, rsv15 u v c w) :: (17, rsv17 u v c w) :: (21, rsv21 u v c w) :: (24, rsv24 u v c w) :: (25, rsv25 u v c w) :: (29, rsv29 u v c w) :: rss u v c w, rsb0 u v c w, .take 14 (.alt 4 (.cut 44) .non)⟩,
  ⟨142143, (14, rsv14 u v c w) :: (16, rsv16 u v c w) :: (17, rsv17 u v c w) :: (21, rsv21 u v c w) :: (23, rsv23 u v c w) :: (25, rsv25 u v c w) :: (29, rsv29 u v c w) :: rss u v c w, rsb0 u v c w, .take 6 (.alt 7 (.cut 47) (.alt 12 (.cut 46) .non))⟩,
  ⟨145791, (14, rsv14 u v c w) :: (18, rsv18 u v c w) :: (20, rsv20 u v c w) :: (24, rsv24 u v c w) :: (25, rsv25 u v c w) :: (29, rsv29 u v c w) :: rss u v c w, rsb0 u v c w, .take 14 (.alt 7 (.cut 45) (.alt 9 (.cut 43) .non))⟩,
  ⟨141823, (19, rsv19 u v c w) :: (20, rsv20 u v c w) :: (23, rsv23 u v c w) :: (25, rsv25 u v c w) :: (29, rsv29 u v c w) :: rss u v c w, rsb0 u v c w, .alt 9 (.cut 47) (.alt 12 (.cut 48) .non)⟩,
  ⟨162687, (14, rsv14 u v c w) :: (18, rsv18 u v c w) :: (21, rsv21 u v c w) :: (26, rsv26 u v c w) :: (29, rsv29 u v c w) :: rss u v c w, rsb0 u v c w, .alt 7 (.cut 49) .non⟩,
  ⟨162623, (14, rsv14 u v c w) :: (16, rsv16 u v c w) :: (17, rsv17 u v c w) :: (21, rsv21 u v c w) :: (26, rsv26 u v c w) :: (29, rsv29 u v c w) :: rss u v c w, rsb0 u v c w, .take 6 (.alt 7 (.cut 49) .non)⟩,
  ⟨162303, (19, rsv19 u v c w) :: (20, rsv20 u v c w) :: (26, rsv26 u v c w) :: (29, rsv29 u v c w) :: rss u v c w, rsb0 u v c w, .alt 9 (.cut 49) .non⟩,
  ⟨146303, (14, rsv14 u v c w) :: (18, rsv18 u v c w) :: (21, rsv21 u v c w) :: (24, rsv24 u v c w) :: (25, rsv25 u v c w) :: (29, rsv29 u v c w) :: rss u v c w, rsb0 u v c w, .take 14 (.alt 7 (.cut 49) .non)⟩,
  ⟨142335, (19, rsv19 u v c w) :: (21, rsv21 u v c w) :: (23, rsv23 u v c w) :: (25, rsv25 u v c w) :: (29, rsv29 u v c w) :: rss u v c w, rsb0 u v c w, .alt 10 (.cut 51) (.alt 12 (.cut 50) .non)⟩,
  ⟨145919, (19, rsv19 u v c w) :: (20, rsv20 u v c w) :: (24, rsv24 u v c w) :: (25, rsv25 u v c w) :: (29, rsv29 u v c w) :: rss u v c w, rsb0 u v c w, .take 14 (.alt 9 (.cut 49) .non)⟩,
  ⟨162815, (19, rsv19 u v c w) :: (21, rsv21 u v c w) :: (26, rsv26 u v c w) :: (29, rsv29 u v c w) :: rss u v c w, rsb0 u v c w, .alt 10 (.cut 52) .non⟩,
  ⟨146431, (19, rsv19 u v c w) :: (21, rsv21 u v c w) :: (24, rsv24 u v c w) :: (25, rsv25 u v c w) :: (29, rsv29 u v c w) :: rss u v c w, rsb0 u v c w, .take 14 (.alt 10 (.cut 52) .non)⟩,
  ⟨143359, (19, rsv19 u v c w) :: (22, rsv22 u v c w) :: (23, rsv23 u v c w) :: (25, rsv25 u v c w) :: (29, rsv29 u v c w) :: rss u v c w, rsb0 u v c w, .alt 12 (.cut 53) .non⟩,
  ⟨163839, (19, rsv19 u v c w) :: (22, rsv22 u v c w) :: (26, rsv26 u v c w) :: (29, rsv29 u v c w) :: rss u v c w, rsb0 u v c w, .alt 15 (.cut 54) .non⟩,
  ⟨147455, (19, rsv19 u v c w) :: (22, rsv22 u v c w) :: (24, rsv24 u v c w) :: (25, rsv25 u v c w) :: (29, rsv29 u v c w) :: rss u v c w, rsb0 u v c w, .take 14 (.alt 15 (.cut 54) .non)⟩,
  ⟨196607, (19, rsv19 u v c w) :: (27, rsv27 u v c w) :: (29, rsv29 u v c w) :: rss u v c w, rsb0 u v c w, .alt 16 (.cut 55) .non⟩,
  ⟨262143, (28, rsv28 u v c w) :: (29, rsv29 u v c w) :: rss u v c w, rsb0 u v c w, .alt 18 (.cut 56) .non⟩,
  ⟨524287, (29, rsv29 u v c w) :: rss u v c w, rsb1 u v c w, .alt 19 (.fin) .non⟩]
theorem s_sum {u v : D2} (h : u.good) (k : v.good) (hn : nearP u v) (c : Bool) {w : Int} (hw : w.natAbs = v.1.natAbs) (hc : sg c v.1.natAbs = w) :
    FC Tryz.prog G 33 [DY u.1 u.2, .agg [.val (.bool c), .ws .u64 (d64 v.1.natAbs), .val (.int .i64 v.2)]] (· = .tup [ZI (u.1 * 2 ^ (u.2 - min u.2 v.2).toNat + w * 2 ^ (v.2 - min u.2 v.2).toNat), .val (.int .i64 (min u.2 v.2))])
      ∧ (bl (u.1 * 2 ^ (u.2 - min u.2 v.2).toNat + w * 2 ^ (v.2 - min u.2 v.2).toNat).natAbs : Int) ≤ 2097152 := by
  have z1 := h.1
  have z2 := k.1
  have e1 := h.2.1
  have e2 := h.2.2.1
  have e3 := k.2.1
  have e4 := k.2.2.1
  have n1 := h.2.2.2.1
  have n2 := k.2.2.2.1
  have f1 := r_zfromN (G := G) u.1 (by omega)
  have f2 : FC Tryz.prog G 31 [.agg [.val (.bool c), .ws .u64 (d64 v.1.natAbs)]] (· = ZI w) := by
    have := r_zfrom (G := G) c (d64 v.1.natAbs) (okD64 _) (by show L64 v.1.natAbs ≤ _; omega)
    rw [vl_d64, hc] at this
    exact this
  have bu := bl_L64 u.1.natAbs
  have bv := bl_L64 v.1.natAbs
  have s1 : u.1 = 0 ∨ u.2 - min u.2 v.2 ≤ 1048576 := by
    rcases hn with q | q | q
    · exact .inl q
    · have := n2 q; omega
    · omega
  have s2 : w = 0 ∨ v.2 - min u.2 v.2 ≤ 1048576 := by
    rcases hn with q | q | q
    · have := n1 q; omega
    · exact .inl (by omega)
    · omega
  have t1 : bl (u.1 * 2 ^ (u.2 - min u.2 v.2).toNat).natAbs ≤ 1572864 := by
    rcases s1 with q | q
    · rw [q, Int.zero_mul, show Int.natAbs 0 = 0 from rfl, bl_zero]; omega
    · exact bl_shl_le (a := u.1) (by omega)
  have t2 : bl (w * 2 ^ (v.2 - min u.2 v.2).toNat).natAbs ≤ 1572864 := by
    rcases s2 with q | q
    · rw [q, Int.zero_mul, show Int.natAbs 0 = 0 from rfl, bl_zero]; omega
    · exact bl_shl_le (a := w) (by rw [hw]; omega)
  have k1 : LZ u.1 ≤ 65537 := LZ_bound (by omega)
  have k2 : LZ w ≤ 65537 := LZ_bound (by rw [hw]; omega)
  have k3 := LZ_bound (a := u.1 * 2 ^ (u.2 - min u.2 v.2).toNat) (by omega)
  have k4 := LZ_bound (a := w * 2 ^ (v.2 - min u.2 v.2).toNat) (by omega)
  refine ⟨?_, ?_⟩
  · have g1 := r_zshl (G := G) u.1 (u.2 - min u.2 v.2) (by omega) (by dsimp only [inR]; omega) (by omega)
    have g2 := r_zshl (G := G) w (v.2 - min u.2 v.2) (by omega) (by dsimp only [inR]; omega) (by omega)
    have g3 := r_zadd (G := G) (u.1 * 2 ^ (u.2 - min u.2 v.2).toNat) (w * 2 ^ (v.2 - min u.2 v.2).toNat) (by omega) (by omega)
    clear hn z1 z2 n1 n2 bu bv s1 s2 t1 t2 k1 k2 k3 k4 hw hc
    refine ax_i Tryz.func33 Tryz.ntmps33 (by rw [Tryz.results33]) ?_; intro F hG hO
    rw [← hG] at f1 f2 g1 g2 g3
    repeat' ((try (conv => whnf)); first
  | ((with_reducible refine cg ?_); first | refine ceq f1 rfl ?_ | refine ceq f2 rfl ?_ | refine ceq g1 rfl ?_ | refine ceq g2 rfl ?_ | refine ceq g3 rfl ?_)
  | ((with_reducible refine dg ?_); refine draw_dp (A := Unit) (id := 2) (N := 30) (rsn u v c w) [] (fun _ => [(5, rsv5 u v c w), (2, .ptr 0 0), (3, .ptr 1 0), (4, .ptr 2 0), (6, .val (.int .i64 (min u.2 v.2)))]) (fun _ => rsb1 u v c w) (fun _ => []) tok mixed (by kernel_rfl) (by kernel_rfl) (by simp [hO]) ⟨_, rfl, by kernel_rfl, cutj rfl ⟨_, rfl⟩ ⟨_, rfl⟩⟩ (by intro ju; simp [hO]) ?_ ?_; rotate_left; intro ju)
  | exact joinp () [(0, []), (1, []), (2, [])] rfl rfl rfl ⟨_, rfl⟩
  | ((with_reducible refine ct ?_); exact cutj rfl ⟨_, rfl⟩ ⟨_, rfl⟩)
  
  | (with_reducible refine draw_g (id := 2) [[], [5], [13], [17, 0, 1, 3, 4], [6, 8, 9, 11, 12], [14, 2, 7, 10, 15, 16], [18, 19]] tok mixed (by kernel_rfl) ?_)
  | with_reducible first | refine ax_s ?_ | refine BothG.mk ?_ ?_ | (refine ax_f ?_ ?_ <;> intro hc) | refine smk ?_ | fail)
    all_goals exact ⟨ret_e rfl⟩
  · have := bl_add_le (a := u.1 * 2 ^ (u.2 - min u.2 v.2).toNat) (b := w * 2 ^ (v.2 - min u.2 v.2).toNat) (m := 1572864) t1 t2
    clear hn hw hc
    omega
theorem s_between {x y : D2} (g : GoodS x y) {m e : Int} (hm : (bl m.natAbs : Int) ≤ 2097152) (he : -2097152 ≤ e ∧ e ≤ 8388608) (h1 : x.v * 2 ^ 1048576 ≤ Vc 2097152 m e) (h2 : Vc 2097152 m e ≤ y.v * 2 ^ 1048576) : FC Tryz.prog G 34 [SP x y, ZI m, .val (.int .i64 e)] (· = .val (.bool true)) := by
  have z1 := g.1.1
  have z2 := g.2.1.1
  have e1 := g.1.2.1
  have e2 := g.1.2.2.1
  have e3 := g.2.1.2.1
  have e4 := g.2.1.2.2.1
  have b1 := bl_L64 x.1.natAbs
  have b2 := bl_L64 y.1.natAbs
  have f1 := r_zfromN (G := G) x.1 (by omega)
  have f2 := r_zfromN (G := G) y.1 (by omega)
  have g1 := s_hold (G := G) x.1 x.2 m e (by omega) hm (by omega) (by omega)
  have g2 := s_hold (G := G) m e y.1 y.2 hm (by omega) (by omega) (by omega)
  have r1 : ¬ 0 < holdS x.1 x.2 m e := fun q => by
    have := (hold_pos (c := 2097152) (by omega) (by omega)).1 q
    rw [Vc_two (n := x.1) e1] at this
    exact absurd h1 (Int.not_le.2 this)
  have r2 : ¬ 0 < holdS m e y.1 y.2 := fun q => by
    have := (hold_pos (c := 2097152) (by omega) (by omega)).1 q
    rw [Vc_two (n := y.1) e3] at this
    exact absurd h2 (Int.not_le.2 this)
  obtain ⟨k1, hk1⟩ : ∃ k, k = holdS x.1 x.2 m e := ⟨_, rfl⟩
  obtain ⟨k2, hk2⟩ : ∃ k, k = holdS m e y.1 y.2 := ⟨_, rfl⟩
  rw [← hk1] at g1 r1
  rw [← hk2] at g2 r2
  clear hk1 hk2 z1 z2 b1 b2 h1 h2 g
  refine ax_i Tryz.func34 Tryz.ntmps34 (by rw [Tryz.results34]) ?_; intro F hG hO
  rw [← hG] at f1 f2 g1 g2
  repeat' ((try (conv => whnf)); first
  | ((with_reducible refine cg ?_); first | refine ceq f1 rfl ?_ | refine ceq f2 rfl ?_ | refine ceq g1 rfl ?_ | refine ceq g2 rfl ?_)
  
  | (with_reducible refine draw_g (id := 1) [[0, 1, 2, 4, 5, 6, 7, 8, 3, 9, 10, 11, 12, 13, 14, 15, 16, 18, 19, 20, 17, 21, 22, 23, 24]] tok mixed (by kernel_rfl) ?_)
  | with_reducible first | refine ax_s ?_ | refine BothG.mk ?_ ?_ | (refine ax_f ?_ ?_ <;> intro hc) | refine smk ?_ | fail)
  all_goals first
    | exact ⟨ret_e rfl⟩
    | exact ⟨ret_e (by rw [decide_eq_true (by omega)])⟩
end Go.Proofs.YtpjbgmafnheomaaGreatDoor.Sim
namespace Go.Proofs.YtpjbgmafnheomaaGreatDoor.Sim
open Go.RowKit
set_option linter.unusedVariables false
set_option linter.unusedSimpArgs false
def opsC (id : Nat) : Code → Option (List Oper)
  | .region i ops _ => cond (Nat.beq i id) (some ops.toList) none
  | .seq a b => match opsC id a with
    | some l => some l
    | none => opsC id b
  | .cond _ a b => match opsC id a with
    | some l => some l
    | none => opsC id b
  | .block _ c => opsC id c
  | .loop c => opsC id c
  | _ => none
def opsB (b : Option Code) (id : Nat) : List Oper := match b with
  | some c => match opsC id c with
    | some l => l
    | none => []
  | none => []
structure Reg {A : Type} (P : Program) (TT : List TI) (X : List FuncId) (G : List (Nat × List Value)) (id : Nat) (ops : List Oper) (N : Nat) (S : List (Nat × PV)) (B : List (List PV)) (S' : A → List (Nat × PV)) (B' : A → List (List PV)) : Prop where
  h : ∀ F : Fr, F.G = G → F.c0.ob.length = 0 → ∀ (s : St) (K : St → Prop), CutG N S B [] s → (∀ x, K ⟨N, tab (S' x), B' x, []⟩) → DrawG P F TT X id ops s K
theorem Reg.use {A : Type} {P : Program} {F : Fr} {TT : List TI} {X : List FuncId} {id N : Nat} {ops : List Oper} {S : List (Nat × PV)} {B : List (List PV)} {S' : A → List (Nat × PV)} {B' : A → List (List PV)} {s : St} {K : St → Prop} (h : Reg P TT X F.G id ops N S B S' B') (hO : F.c0.ob.length = 0) (hs : CutG N S B [] s) (k : ∀ x, K ⟨N, tab (S' x), B' x, []⟩) : DrawG P F TT X id ops s K := h.h F rfl hO s K hs k
section
variable {P : Program} {F : Fr} {TT : List TI} {X : List FuncId} {s : St}
structure RndG (P : Program) (F : Fr) (TT : List TI) (X : List FuncId) (c : Code) (kr : St → Prop) (kx : Nat → St → Prop) (n : Nat) (s : St) : Prop where
  h : vR P F TT X c kr kx n s
end
theorem LpL.len : ∀ {l l' : List PV}, LpL l l' → l.length = l'.length
  | _, _, .nil => rfl
  | _, _, .cons _ t => by simp [LpL.len t]
end Go.Proofs.YtpjbgmafnheomaaGreatDoor.Sim
