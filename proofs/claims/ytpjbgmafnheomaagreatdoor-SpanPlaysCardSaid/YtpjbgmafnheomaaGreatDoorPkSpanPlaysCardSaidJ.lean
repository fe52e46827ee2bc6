/-
  Lemmas of SpanPlaysCardSaid, part 10.
-/
import Derived.Test.YtpjbgmafnheomaaGreatDoorPkSpanPlaysCardSaidI
namespace Go.Proofs.YtpjbgmafnheomaaGreatDoor.Sim
open Go.RowKit
set_option linter.unusedVariables false
set_option linter.unusedSimpArgs false
set_option maxRecDepth 10000
set_option maxHeartbeats 8000000
variable {G : Gs}
theorem topN_bd {n e : Int} (h : Good n e) : -2000000 ≤ topN n e ∧ topN n e ≤ 2000000 := by
  have b1 := h.bl
  unfold topN
  have := h.2.1
  have := h.2.2.1
  omega
theorem L64_L32 (x : Nat) : L64 x ≤ (L32 x + 1) / 2 := L64_le (Nat.lt_of_lt_of_le (L32_lt x) (Nat.pow_le_pow_right (by decide) (by omega)))
theorem Good.zero : Good 0 0 := ⟨by rw [show Int.natAbs 0 = 0 from rfl, L64, lenB_zero]; omega, by decide, by decide, fun _ => rfl, fun h => absurd rfl h⟩
theorem told_form (n e : Int) : ∃ x y c, toldS n e = .tup [DY x y, .val (.int .i64 c)] ∧ Good x y ∧ (c = 0 ∨ c = 5) := by
  unfold toldS
  split
  · exact ⟨0, 0, 0, rfl, Good.zero, .inl rfl⟩
  · rename_i h0
    have h1 := odd_div (n := n.natAbs) (by omega)
    obtain ⟨t, ht⟩ : ∃ t, t = tz n.natAbs := ⟨_, rfl⟩
    rw [← ht] at h1 ⊢
    obtain ⟨q, hq⟩ : ∃ q, q = n.natAbs / 2 ^ t := ⟨_, rfl⟩
    rw [← hq] at h1 ⊢
    have hx := exact_div (n := n) (q := q) (t := t) h1.1
    repeat' split
    · exact ⟨0, 0, 5, rfl, Good.zero, .inr rfl⟩
    · exact ⟨0, 0, 5, rfl, Good.zero, .inr rfl⟩
    · exact ⟨0, 0, 5, rfl, Good.zero, .inr rfl⟩
    · exact ⟨0, 0, 5, rfl, Good.zero, .inr rfl⟩
    · exact ⟨0, 0, 5, rfl, Good.zero, .inr rfl⟩
    · refine ⟨_, _, 0, rfl, ?_, .inl rfl⟩
      rw [hx]
      have h3 := L64_L32 q
      have h2 := h1.2
      refine ⟨by rw [sg_abs]; omega, by omega, by omega, fun h => ?_, fun _ => ?_⟩
      · have := sg_abs (decide (n < 0)) q
        rw [h] at this
        have : q = 0 := by simpa using this.symm
        omega
      · generalize decide (n < 0) = b
        cases b <;> simp only [sg] <;> omega
theorem r_docadd {n e m f : Int} (h : Good n e) (g : Good m f) : FC Tryz.prog G 158 [DY n e, DY m f] (· = addS n e m f) := by
  have l1 := h.lz
  have l2 := g.lz
  have t1 := topN_bd h
  have t2 := topN_bd g
  have k1 := LZ_shl n (e - min e f).toNat
  have k2 := LZ_shl m (f - min e f).toNat
  have e1 := h.2.1
  have e2 := h.2.2.1
  have e3 := g.2.1
  have e4 := g.2.2.1
  have ka := LZ_add (n * 2 ^ (e - min e f).toNat) (m * 2 ^ (f - min e f).toNat)
  unfold addS
  obtain ⟨s, hs⟩ : ∃ s, s = n * 2 ^ (e - min e f).toNat + m * 2 ^ (f - min e f).toNat := ⟨_, rfl⟩
  have z1 := r_zshl (G := G) n (e - min e f) (by omega) (by dsimp only [inR]; omega) (by omega)
  have z2 := r_zshl (G := G) m (f - min e f) (by omega) (by dsimp only [inR]; omega) (by omega)
  have z3 := r_zadd (G := G) (n * 2 ^ (e - min e f).toNat) (m * 2 ^ (f - min e f).toNat) (by omega) (by omega)
  rw [← hs] at z3 ka ⊢
  have z4 := r_told (G := G) s (min e f) (by omega) (by dsimp only [inR]; omega)
  obtain ⟨x, y, c, hr, hgd, hcc⟩ := told_form s (min e f)
  rw [hr] at z4 ⊢
  have z5 := r_bits (G := G) s.natAbs (by have : LZ s = L32 s.natAbs := rfl; omega)
  refine ax_i Tryz.func158 Tryz.ntmps158 ?_; intro F hG hO
  rw [← hG] at z1 z2 z3 z4 z5
  repeat' ((try (conv => whnf)); first
 | (refine cg ?_; refine ce (r_formg h) ?_)
 | (refine cg ?_; refine ce (r_formg g) ?_)
 | (refine cg ?_; refine ce (r_noughtg n e) ?_)
 | (refine cg ?_; refine ce (r_noughtg m f) ?_)
 | (refine cg ?_; refine ce (r_twing h) ?_)
 | (refine cg ?_; refine ce (r_twing g) ?_)
 | (refine cg ?_; refine ce (r_dtop h) ?_)
 | (refine cg ?_; refine ce (r_dtop g) ?_)
 | (refine cg ?_; refine ce (r_zfromN n (Nat.le_trans h.1 (by decide))) ?_)
 | (refine cg ?_; refine ce (r_zfromN m (Nat.le_trans g.1 (by decide))) ?_)
 | refine ce z1 ?_ | refine ce z2 ?_ | refine ce z3 ?_ | refine ce z4 ?_ | refine ce z5 ?_
 | (refine dT (id := 10) (.one 0 (.one 1 (.one 3 (.one 4 (.one 5 (.one 6 (.one 8 (.one 9 (.one 11 (.one 12 (.one 13 (.one 14 (.two (.one 2 (.two (.one 7 (.two (.one 10 (.two (.one 15 (.two (.one 16 (.one 17 (.st (.one 18 (.fin))))) (.one 17 (.one 16 (.st (.one 18 (.fin))))))) (.one 17 (.one 15 (.one 16 (.st (.one 18 (.fin)))))))) (.one 17 (.one 10 (.one 15 (.one 16 (.st (.one 18 (.fin))))))))) (.one 17 (.one 7 (.one 10 (.one 15 (.one 16 (.st (.one 18 (.fin)))))))))) (.one 17 (.one 2 (.one 7 (.one 10 (.one 15 (.one 16 (.st (.one 18 (.fin)))))))))))))))))))))) ?_)
 | with_reducible first | refine ax_s ?_ | (refine ax_f ?_ ?_ <;> try intro hc) | fail)
  all_goals first
    | (refine ⟨ret_e ?_⟩; rw [if_pos (by omega)]; rfl)
    | (refine ⟨ret_e ?_⟩; rw [if_neg (by omega), if_pos (by omega)]; rfl)
    | (refine ⟨ret_l _ (lp_dyE 5) ?_⟩; rw [if_neg (by omega), if_neg (by omega), if_pos (by omega)])
    | (refine ⟨ret_l _ (lp_dyE 5) ?_⟩; rw [if_neg (by omega), if_neg (by omega), if_neg (by omega), if_pos (by omega)])
    | (refine ⟨ret_e ?_⟩; rw [if_neg (by omega), if_neg (by omega), if_neg (by omega), if_neg (by omega)]; rfl)
theorem add_form {n e m f : Int} (h : Good n e) (g : Good m f) : ∃ x y c, addS n e m f = .tup [DY x y, .val (.int .i64 c)] ∧ Good x y ∧ (c = 0 ∨ c = 5) := by
  unfold addS
  repeat' split
  · exact ⟨m, f, 0, rfl, g, .inl rfl⟩
  · exact ⟨n, e, 0, rfl, h, .inl rfl⟩
  · exact ⟨0, 0, 5, rfl, Good.zero, .inr rfl⟩
  · exact ⟨0, 0, 5, rfl, Good.zero, .inr rfl⟩
  · exact told_form _ _
theorem r_docsub {n e m f : Int} (h : Good n e) (g : Good m f) : FC Tryz.prog G 170 [DY n e, DY m f] (· = addS n e (-m) f) := by
  have f1 := r_docadd (G := G) h g.neg
  obtain ⟨x, y, c, hr, hgd, hcc⟩ := add_form h g.neg
  rw [hr] at f1 ⊢
  have f2 := r_docneg (G := G) g
  refine ax_i Tryz.func170 Tryz.ntmps170 ?_; intro F hG hO
  rw [← hG] at f1 f2
  repeat' ((try (conv => whnf)); first
 | (refine cg ?_; refine ce (r_formg h) ?_)
 | (refine cg ?_; refine ce (r_formg g) ?_)
 | refine ce f1 ?_ | refine ce f2 ?_
 | with_reducible first | refine ax_s ?_ | (refine ax_f ?_ ?_ <;> try intro hc) | fail)
  exact ⟨ret_e rfl⟩
def scaleS (n e k : Int) : PV := if n = 0 then dyE 0 else if 2097152 < k then dyE 5 else if k < -2097152 then dyE 5 else toldS n (e + k)
theorem r_docscale {n e : Int} (k : Int) (h : Good n e) (hk : inR .i64 k) : FC Tryz.prog G 169 [DY n e, .val (.int .i64 k)] (· = scaleS n e k) := by
  dsimp only [inR] at hk
  have l1 := h.lz
  have e1 := h.2.1
  have e2 := h.2.2.1
  unfold scaleS
  obtain ⟨x, y, c, hr, hgd, hcc⟩ := told_form n (e + k)
  have f1 : -2097152 ≤ k ∧ k ≤ 2097152 → FC Tryz.prog G 161 [ZI n, .val (.int .i64 (e + k))] (· = .tup [DY x y, .val (.int .i64 c)]) := fun hk => by rw [← hr]; exact r_told (G := G) n (e + k) (by omega) (by dsimp only [inR]; omega)
  rw [hr]
  refine ax_i Tryz.func169 Tryz.ntmps169 ?_; intro F hG hO
  rw [← hG] at f1
  repeat' ((try (conv => whnf)); first
 | (refine cg ?_; refine ce (r_formg h) ?_)
 | (refine cg ?_; refine ce (r_noughtg n e) ?_)
 | (refine cg ?_; refine ce (r_zfromN n (Nat.le_trans h.1 (by decide))) ?_)
 | (refine cg ?_; refine ce (f1 (by omega)) ?_)
 | (refine dG (id := 7) [[0, 1, 3, 4, 5, 6, 2, 7, 8, 9], [10, 11]] ?_)
 | with_reducible first | refine ax_s ?_ | (refine ax_f ?_ ?_ <;> try intro hc) | fail)
  all_goals first
    | (refine ⟨ret_l _ (lp_dyE 0) ?_⟩; rw [if_pos (by omega)])
    | (refine ⟨ret_l _ (lp_dyE 5) ?_⟩; rw [if_neg (by omega), if_pos (by omega)])
    | (refine ⟨ret_l _ (lp_dyE 5) ?_⟩; rw [if_neg (by omega), if_neg (by omega), if_pos (by omega)])
    | (refine ⟨ret_e ?_⟩; rw [if_neg (by omega), if_neg (by omega), if_neg (by omega)]; rfl)
def wholeS (n k : Int) (up : Bool) : Int := match up with
 | true => -((-n) / 2 ^ k.toNat)
 | false => n / 2 ^ k.toNat
theorem wholeS_L (n k : Int) (up : Bool) : LZ (wholeS n k up) ≤ LZ n + 2 := by
  cases up
  · exact LZ_shr n k.toNat
  · show LZ (-((-n) / 2 ^ k.toNat)) ≤ _
    rw [LZ_neg, ← LZ_neg n]
    exact LZ_shr (-n) k.toNat
theorem r_whole (n k : Int) (up : Bool) (h : LZ n ≤ 268435454) (hk : inR .i64 k) : FC Tryz.prog G 219 [ZI n, .val (.int .i64 k), .val (.bool up)] (· = ZI (wholeS n k up)) := by
  cases up
  · refine ax_i Tryz.func219 Tryz.ntmps219 ?_; intro F hG hO
    repeat' ((try (conv => whnf)); first
 | (refine cg ?_; refine ce (r_zfshr n k h hk) ?_)
 | with_reducible first | refine ax_s ?_ | (refine ax_f ?_ ?_ <;> try intro hc) | fail)
    exact ⟨ret_e rfl⟩
  · refine ax_i Tryz.func219 Tryz.ntmps219 ?_; intro F hG hO
    repeat' ((try (conv => whnf)); first
 | (refine cg ?_; refine ce (r_zcshr n k h hk) ?_)
 | with_reducible first | refine ax_s ?_ | (refine ax_f ?_ ?_ <;> try intro hc) | fail)
    exact ⟨ret_e rfl⟩
def cutS (n e p : Int) (up : Bool) : PV := if (bl n.natAbs : Int) - p ≤ 0 then toldS n e else toldS (wholeS n ((bl n.natAbs : Int) - p) up) (e + ((bl n.natAbs : Int) - p))
theorem cut_form (n e p : Int) (up : Bool) : ∃ x y c, cutS n e p up = .tup [DY x y, .val (.int .i64 c)] ∧ Good x y ∧ (c = 0 ∨ c = 5) := by
  unfold cutS
  split <;> exact told_form _ _
theorem r_cut (n e p : Int) (up : Bool) (h : LZ n ≤ 134217728) (he : -1099511627776 ≤ e ∧ e ≤ 1099511627776) (hp : 0 ≤ p ∧ p ≤ 1099511627776) : FC Tryz.prog G 212 [ZI n, .val (.int .i64 e), .val (.int .i64 p), .val (.bool up)] (· = cutS n e p up) := by
  have hb := bl_L64 n.natAbs
  have hb2 := L64_L32 n.natAbs
  have hLZ : LZ n = L32 n.natAbs := rfl
  have f0 := r_bits (G := G) n.natAbs (by omega)
  unfold cutS
  obtain ⟨b, hbb⟩ : ∃ b, b = bl n.natAbs := ⟨_, rfl⟩
  rw [← hbb] at hb f0 ⊢
  have hw := wholeS_L n ((b : Int) - p) up
  have f1 := r_told (G := G) n e (by omega) (by dsimp only [inR]; omega)
  have f2 := r_told (G := G) (wholeS n ((b : Int) - p) up) (e + ((b : Int) - p)) (by omega) (by dsimp only [inR]; omega)
  obtain ⟨x, y, c, hr, hgd, hcc⟩ := told_form n e
  obtain ⟨x2, y2, c2, hr2, hgd2, hcc2⟩ := told_form (wholeS n ((b : Int) - p) up) (e + ((b : Int) - p))
  rw [hr] at f1 ⊢
  rw [hr2] at f2 ⊢
  have f3 := r_whole (G := G) n ((b : Int) - p) up (by omega) (by dsimp only [inR]; omega)
  obtain ⟨v, hv⟩ : ∃ v, v = wholeS n ((b : Int) - p) up := ⟨_, rfl⟩
  rw [← hv] at f2 f3
  refine ax_i Tryz.func212 Tryz.ntmps212 ?_; intro F hG hO
  rw [← hG] at f0 f1 f2 f3
  repeat' ((try (conv => whnf)); first
 | refine ce f0 ?_ | refine ce f1 ?_ | refine ce f2 ?_ | refine ce f3 ?_
 | with_reducible first | refine ax_s ?_ | (refine ax_f ?_ ?_ <;> try intro hc) | fail)
  · exact ⟨ret_e (by rw [if_pos (by omega)]; rfl)⟩
  · exact ⟨ret_e (by rw [if_neg (by omega)]; rfl)⟩
def cutsS (n e p : Int) (up : Bool) : PV := if p < 1 then dyE 1 else if 70000 < p then dyE 1 else cutS n e p up
theorem cuts_form (n e p : Int) (up : Bool) : ∃ x y c, cutsS n e p up = .tup [DY x y, .val (.int .i64 c)] ∧ Good x y := by
  unfold cutsS
  repeat' split
  · exact ⟨0, 0, 1, rfl, Good.zero⟩
  · exact ⟨0, 0, 1, rfl, Good.zero⟩
  · obtain ⟨x, y, c, h, g, _⟩ := cut_form n e p up
    exact ⟨x, y, c, h, g⟩
theorem r_cuts {n e : Int} (p : Int) (up : Bool) (h : Good n e) (hp : inR .i64 p) : FC Tryz.prog G 207 [DY n e, .val (.int .i64 p), .val (.bool up)] (· = cutsS n e p up) := by
  dsimp only [inR] at hp
  have l1 := h.lz
  have e1 := h.2.1
  have e2 := h.2.2.1
  unfold cutsS
  obtain ⟨x, y, c, hr, hgd, hcc⟩ := cut_form n e p up
  have f1 : 0 ≤ p ∧ p ≤ 70000 → FC Tryz.prog G 212 [ZI n, .val (.int .i64 e), .val (.int .i64 p), .val (.bool up)] (· = .tup [DY x y, .val (.int .i64 c)]) := fun hk => by rw [← hr]; exact r_cut (G := G) n e p up (by omega) (by omega) (by omega)
  rw [hr]
  refine ax_i Tryz.func207 Tryz.ntmps207 ?_; intro F hG hO
  rw [← hG] at f1
  repeat' ((try (conv => whnf)); first
 | (refine cg ?_; refine ce (r_formg h) ?_)
 | (refine cg ?_; refine ce (r_zfromN n (Nat.le_trans h.1 (by decide))) ?_)
 | (refine cg ?_; refine ce (f1 (by omega)) ?_)
 | (refine dG (id := 5) [[0, 1, 3, 4, 5, 6, 2, 7, 8, 9], [10, 11]] ?_)
 | with_reducible first | refine ax_s ?_ | (refine ax_f ?_ ?_ <;> try intro hc) | fail)
  all_goals first
    | (refine ⟨ret_l _ (lp_dyE 1) ?_⟩; rw [if_pos (by omega)])
    | (refine ⟨ret_l _ (lp_dyE 1) ?_⟩; rw [if_neg (by omega), if_pos (by omega)])
    | (refine ⟨ret_e ?_⟩; rw [if_neg (by omega), if_neg (by omega)]; rfl)
theorem r_docdown {n e : Int} (k : Int) (h : Good n e) (hk : inR .i64 k) : FC Tryz.prog G 191 [DY n e, .val (.int .i64 k)] (· = cutsS n e k false) := by
  obtain ⟨x, y, c, hr, hgd⟩ := cuts_form n e k false
  have f1 := r_cuts (G := G) k false h hk
  rw [hr] at f1 ⊢
  refine ax_i Tryz.func191 Tryz.ntmps191 ?_; intro F hG hO
  rw [← hG] at f1
  repeat' ((try (conv => whnf)); first
 | refine ce f1 ?_
 | with_reducible first | refine ax_s ?_ | (refine ax_f ?_ ?_ <;> try intro hc) | fail)
  exact ⟨ret_e rfl⟩
theorem r_docup {n e : Int} (k : Int) (h : Good n e) (hk : inR .i64 k) : FC Tryz.prog G 192 [DY n e, .val (.int .i64 k)] (· = cutsS n e k true) := by
  obtain ⟨x, y, c, hr, hgd⟩ := cuts_form n e k true
  have f1 := r_cuts (G := G) k true h hk
  rw [hr] at f1 ⊢
  refine ax_i Tryz.func192 Tryz.ntmps192 ?_; intro F hG hO
  rw [← hG] at f1
  repeat' ((try (conv => whnf)); first
 | refine ce f1 ?_
 | with_reducible first | refine ax_s ?_ | (refine ax_f ?_ ?_ <;> try intro hc) | fail)
  exact ⟨ret_e rfl⟩
def shlC (X : Nat) (n : Int) : Int := if n < 0 then 1 else if X = 0 then 0 else if 524288 - (bl X : Int) < n then 5 else 0
def shlL (X : Nat) (n : Int) : List Int := if shlC X n = 0 then d64 (X * 2 ^ n.toNat) else []
def shlT (X : Nat) (n : Int) : PV := .tup [.ws .u64 (shlL X n), .val (.int .i64 (shlC X n))]
theorem shl_word (a k : Nat) (ha : a < 18446744073709551616) (hk : k < 64) : a * 2 ^ k % 18446744073709551616 + 18446744073709551616 * (a / 2 / 2 ^ (63 - k)) = a * 2 ^ k ∧ a / 2 / 2 ^ (63 - k) < 2 ^ k ∧ a * 2 ^ k % 18446744073709551616 % 2 ^ k = 0 ∧ a * 2 ^ k % 18446744073709551616 + 2 ^ k ≤ 18446744073709551616 := by
  have e1 : a / 2 / 2 ^ (63 - k) = a * 2 ^ k / 18446744073709551616 := by
    rw [Nat.div_div_eq_div_mul, show 2 * 2 ^ (63 - k) = 2 ^ (64 - k) by rw [Nat.mul_comm, ← Nat.pow_succ]; congr 1; omega]
    rw [show (18446744073709551616 : Nat) = 2 ^ (64 - k) * 2 ^ k by rw [← Nat.pow_add, show 64 - k + k = 64 by omega], Nat.mul_div_mul_right _ _ (Nat.pow_pos (by decide))]
  have e2 : (18446744073709551616 : Nat) = 2 ^ (64 - k) * 2 ^ k := by rw [← Nat.pow_add, show 64 - k + k = 64 by omega]
  have h3 : a * 2 ^ k % 18446744073709551616 % 2 ^ k = 0 := by
    rw [Nat.mod_mod_of_dvd _ (by rw [e2]; exact Nat.dvd_mul_left _ _), Nat.mul_mod_left]
  refine ⟨by rw [e1]; exact Nat.mod_add_div _ _, ?_, h3, ?_⟩
  · rw [e1, Nat.div_lt_iff_lt_mul (by decide), Nat.mul_comm]
    exact Nat.mul_lt_mul_of_pos_left ha (Nat.pow_pos (by decide))
  · have h4 := Nat.mod_lt (a * 2 ^ k) (show 0 < 18446744073709551616 by decide)
    have h5 := Nat.div_add_mod (a * 2 ^ k % 18446744073709551616) (2 ^ k)
    rw [h3, Nat.add_zero] at h5
    rw [← h5] at h4 ⊢
    generalize a * 2 ^ k % 18446744073709551616 / 2 ^ k = q at *
    rw [e2, Nat.mul_comm] at h4
    have h6 : q < 2 ^ (64 - k) := Nat.lt_of_mul_lt_mul_right h4
    have h7 : 2 ^ k * (q + 1) ≤ 2 ^ k * 2 ^ (64 - k) := Nat.mul_le_mul_left _ h6
    rw [Nat.mul_add, Nat.mul_one, Nat.mul_comm (2 ^ k) (2 ^ (64 - k)), ← e2] at h7
    exact h7
def ShlI (a t : List Int) (k : Nat) (c : Int) : Prop := t.length ≤ a.length ∧ okD 18446744073709551616 t ∧ (0 ≤ c ∧ c < 2 ^ k) ∧ vl 18446744073709551616 t + 18446744073709551616 ^ t.length * c = vl 18446744073709551616 (a.take t.length) * 2 ^ k
theorem ShlI.step {a t : List Int} {k : Nat} {c : Int} (h : ShlI a t k c) (hlt : t.length < a.length) (ok : okD 18446744073709551616 a) (hk : k < 64) :
    (0 ≤ rd a t.length * 2 ^ k % 18446744073709551616 ∧ rd a t.length * 2 ^ k % 18446744073709551616 < 18446744073709551616) ∧ rd a t.length * 2 ^ k % 18446744073709551616 % 2 ^ k = 0 ∧ c + rd a t.length * 2 ^ k % 18446744073709551616 < 18446744073709551616 ∧ ShlI a (t ++ [c + rd a t.length * 2 ^ k % 18446744073709551616]) k (rd a t.length / 2 / 2 ^ (63 - k)) := by
  obtain ⟨h1, h2, h3, h4⟩ := h
  obtain ⟨x, hx⟩ := Int.eq_ofNat_of_zero_le (rd_bd (by decide) ok (t.length : Int)).1
  have hb := (rd_bd (by decide) ok (t.length : Int)).2
  rw [hx] at hb
  obtain ⟨g1, g2, g3, g4⟩ := shl_word x k (by omega) hk
  have p1 : ((2 : Int) ^ k) = ((2 ^ k : Nat) : Int) := by simp
  have p2 : ((2 : Int) ^ (63 - k)) = ((2 ^ (63 - k) : Nat) : Int) := by simp
  rw [p1] at h3 h4
  rw [hx, p1, p2]
  have q1 : ((x : Int) * ((2 ^ k : Nat) : Int) % 18446744073709551616) = ((x * 2 ^ k % 18446744073709551616 : Nat) : Int) := by simp
  have q2 : ((x : Int) / 2 / ((2 ^ (63 - k) : Nat) : Int)) = ((x / 2 / 2 ^ (63 - k) : Nat) : Int) := by simp
  rw [q1, q2]
  have q3 : (((x * 2 ^ k % 18446744073709551616 : Nat) : Int) % ((2 ^ k : Nat) : Int)) = ((x * 2 ^ k % 18446744073709551616 % 2 ^ k : Nat) : Int) := by simp
  rw [q3, g3]
  refine ⟨by omega, rfl, by omega, ?_⟩
  refine ⟨by rw [len_snoc]; omega, okD_append.2 ⟨h2, okD_cons.2 ⟨by omega, okD_nil _⟩⟩, by rw [p1]; omega, ?_⟩
  have g5 : ((x * 2 ^ k % 18446744073709551616 : Nat) : Int) + 18446744073709551616 * ((x / 2 / 2 ^ (63 - k) : Nat) : Int) = (x : Int) * ((2 ^ k : Nat) : Int) := by
    rw [← Int.natCast_mul, ← g1]; simp
  rw [p1, vl_snoc, len_snoc, sum_step (T := c + (x : Int) * ((2 ^ k : Nat) : Int)) t.length (by omega), Int.mul_add, ← Int.add_assoc, h4, vl_take_step, hx, Int.add_mul, Int.mul_assoc]
theorem ins_end {p s : List Int} {lo : Nat} (h : lo + s.length = p.length) : ins p lo s = p.take lo ++ s := by
  unfold ins
  rw [List.drop_eq_nil_of_le (by omega), List.append_nil]
theorem ShlI.done {a t : List Int} {k : Nat} {c : Int} (h : ShlI a t k c) (hk : (2 : Int) ^ k < 18446744073709551616) (hl : t.length = a.length) (lo : Nat) : okD 18446744073709551616 (List.replicate lo 0 ++ (t ++ [c])) ∧ vl 18446744073709551616 (List.replicate lo 0 ++ (t ++ [c])) = 18446744073709551616 ^ lo * (vl 18446744073709551616 a * 2 ^ k) := by
  obtain ⟨h1, h2, h3, h4⟩ := h
  rw [List.take_of_length_le (by omega)] at h4
  refine ⟨okD_append.2 ⟨fun x hx => by rw [List.eq_of_mem_replicate hx]; decide, okD_append.2 ⟨h2, okD_cons.2 ⟨by omega, okD_nil _⟩⟩⟩, ?_⟩
  rw [vl_append, vl_zero, List.length_replicate, Int.zero_add, vl_snoc, h4]
theorem shlT_1 {X : Nat} {n : Int} (h : n < 0) : shlT X n = natE 1 := by unfold shlT shlL shlC; rw [if_pos h]; rfl
theorem shlT_0 {X : Nat} {n : Int} (h : ¬ n < 0) (h0 : X = 0) : shlT X n = natE 0 := by
  unfold shlT shlL shlC
  rw [if_neg h, if_pos h0, if_pos rfl, h0, Nat.zero_mul, d64_0]; rfl
theorem shlT_5 {X : Nat} {n : Int} (h : ¬ n < 0) (h0 : X ≠ 0) (h1 : 524288 - (bl X : Int) < n) : shlT X n = natE 5 := by unfold shlT shlL shlC; rw [if_neg h, if_neg h0, if_pos h1]; rfl
theorem shlT_ok {X : Nat} {n : Int} (h : ¬ n < 0) (h0 : X ≠ 0) (h1 : ¬ 524288 - (bl X : Int) < n) : shlT X n = natT (X * 2 ^ n.toNat) := by
  rw [natT_ok]
  · unfold shlT shlL shlC; rw [if_neg h, if_neg h0, if_neg h1, if_pos rfl]; rfl
  · rw [L64_bl, bl_mul_pow X n.toNat h0]; omega
theorem shl_final (X : Nat) (n : Int) (h : 0 ≤ n) : ((18446744073709551616 : Int) ^ (n / 64).toNat * ((X : Int) * 2 ^ (n % 64).toNat)).toNat = X * 2 ^ n.toNat := by
  have e : ((18446744073709551616 : Int) ^ (n / 64).toNat * ((X : Int) * 2 ^ (n % 64).toNat)) = ((18446744073709551616 ^ (n / 64).toNat * (X * 2 ^ (n % 64).toNat) : Nat) : Int) := by simp
  rw [e, Int.toNat_natCast, pow64, Nat.mul_left_comm, ← Nat.pow_add]
  congr 2
  omega
theorem n_shl (X : Nat) (n : Int) (hX : L64 X ≤ 8192) (hn : inR .i64 n) : FC Tryz.prog G 140 [.ws .u64 (d64 X), .val (.int .i64 n)] (· = shlT X n) := by
  dsimp only [inR] at hn
  have fa := n_formN (G := G) X hX
  have fb := n_bits (G := G) X (by omega)
  have hbl : bl X ≤ 524288 := by have := bl_L64 X; omega
  have hp := len64_pos X
  obtain ⟨a, ea⟩ : ∃ a, a = d64 X := ⟨_, rfl⟩
  obtain ⟨oka, va⟩ := d64_ok X
  replace hX : (d64 X).length ≤ 8192 := hX
  rw [← ea] at hX oka va fa fb hp
  rw [← ea]
  have hk : (n % 64).toNat < 64 := by omega
  have hw := pw64 hk
  refine ax_i Tryz.func140 Tryz.ntmps140 ?_; intro F hG hO
  rw [← hG] at fa fb
  repeat' ((try (conv => whnf)); first
 | refine ce fa ?_ | refine ce fb ?_
 | (refine lg ?_; refine loop_g (A := List Int × Int) (fun (t, c) => ShlI a t (n % 64).toNat c) (fun (t, c) => a.length - t.length) (fun (t, c) => [(0, .ws .u64 a), (6, .val (.int .i64 (n / 64))), (7, .val (.int .i64 (n % 64))), (8, .arr 0 0 ((n / 64).toNat + a.length + 1)), (34, .val (.int .i64 (a.length : Int))), (35, .val (.int .i64 (t.length : Int)))]) (fun _ => []) (fun (t, c) => [some ⟨1, 82, .w .u64 (ins (List.replicate ((n / 64).toNat + a.length + 1) 0) (n / 64).toNat (t ++ [c]))⟩]) ([], 0) tok (fun (t, c) => ⟨⟨trivial, trivial, trivial, Nat.one_pos, trivial, trivial, trivial⟩, trivial, by simp only [List.length_cons]; omega⟩) ?_ ⟨rfl, rfl, rfl, congrArg (PV.arr 0 0) (by omega), rfl, rfl, trivial⟩ ⟨[], rfl⟩ ⟨[], (by dsimp only; rw [List.nil_append, ins_zero _ _ (by omega), show (n / 64 + (a.length : Int) + 1).toNat = (n / 64).toNat + a.length + 1 by omega]; rfl)⟩ ?_; rotate_left; rintro ⟨t, c⟩ hI; have hI2 := hI; obtain ⟨i1, i2, i3, i4⟩ := hI2; have ra := rd_bd (by decide) oka (t.length : Int); have hil : (ins (List.replicate ((n / 64).toNat + a.length + 1) 0) (n / 64).toNat (t ++ [c])).length = (n / 64).toNat + a.length + 1 := (by rw [ins_len (by simp; omega)]; simp))
 | (with_reducible refine shl_m (by omega) ?_)
 | (with_reducible refine shr_g (m := 2) 1 rfl (by decide) (by omega) rfl ?_)
 | (with_reducible refine shr_p (by omega) (by dsimp only [IntKind.bits]; omega) ?_)
 | (have hst := hI.step (by omega) oka hk; rw [show 0 + (n / 64 + (t.length : Int)).toNat = (n / 64).toNat + t.length by omega, ins_getE c (by simp; omega)]; refine or_g (n % 64).toNat (by omega) hst.1 i3.2 hst.2.1 hst.2.2.1 ?_)
 | (refine cg ?_; have hdn := hI.done hw.2 (by omega) (n / 64).toNat; refine call_fz 0 (A := ins (List.replicate ((n / 64).toNat + a.length + 1) 0) (n / 64).toNat (t ++ [c])) (B := List.replicate (n / 64).toNat 0 ++ (t ++ [c])) rfl rfl (by omega) (by rw [List.drop_zero, ins_end (by simp; omega), List.take_replicate, Nat.min_eq_left (by omega)]; exact List.take_of_length_le (by simp; omega)) (by omega) ?_; refine call_eq (n_told (List.replicate (n / 64).toNat 0 ++ (t ++ [c])) hdn.1 (by simp; omega)) (LpL.refl _) rfl ?_; rw [hdn.2])
 | (refine dG (id := 14) [[0, 1, 2, 3, 4, 5, 6, 7, 8, 9, 10, 11, 12, 13], [14]] ?_)
 | with_reducible first | refine ax_s ?_ | (refine ax_f ?_ ?_ <;> try intro hc) | fail)
  · exact ⟨ret_l _ (lp_natE 1) (shlT_1 hc).symm⟩
  · exact ⟨ret_l _ (lp_natE 0) (shlT_0 (by omega) (by omega)).symm⟩
  · exact ⟨ret_l _ (lp_natE 5) (shlT_5 (by omega) (by omega) (by omega)).symm⟩
  · have hst := hI.step (by omega) oka hk
    have e3 : (63 - n % 64).toNat = 63 - (n % 64).toNat := by omega
    refine ⟨again (t ++ [c + rd a (t.length : Int) * 2 ^ (n % 64).toNat % 18446744073709551616], rd a (t.length : Int) / 2 / 2 ^ (63 - (n % 64).toNat)) hst.2.2.2 (by dsimp only; rw [len_snoc]; omega) ⟨rfl, rfl, rfl, rfl, rfl, iv_eq (by rw [len_snoc]; omega), trivial⟩ ⟨[], rfl⟩ ⟨[], ?_⟩⟩
    have hs1 := ins_over (p := List.replicate ((n / 64).toNat + a.length + 1) (0 : Int)) (t := t) (lo := (n / 64).toNat) c (c + rd a (t.length : Int) * 2 ^ (n % 64).toNat % 18446744073709551616) (by simp; omega)
    have hs2 := ins_set (p := List.replicate ((n / 64).toNat + a.length + 1) (0 : Int)) (s := t ++ [c + rd a (t.length : Int) * 2 ^ (n % 64).toNat % 18446744073709551616]) (lo := (n / 64).toNat) (rd a (t.length : Int) / 2 / 2 ^ (63 - (n % 64).toNat)) (by simp; omega)
    rw [len_snoc] at hs2
    dsimp only
    rw [← hs2, ← hs1, e3, show 0 + (n / 64 + (t.length : Int)).toNat = (n / 64).toNat + t.length by omega, show 0 + (n / 64 + (t.length : Int) + 1).toNat = (n / 64).toNat + (t.length + 1) by omega]; rfl
  · refine ⟨ret_e ?_⟩
    rw [va, shlT_ok (by omega) (by omega) (by omega), shl_final X n (by omega)]; rfl
  · exact ⟨Nat.zero_le _, okD_nil _, ⟨Int.le_refl _, hw.1⟩, by simp [vl]⟩
theorem shr_word (Z k : Nat) (hk : k < 64) : Z / 2 ^ k % 18446744073709551616 = Z % 18446744073709551616 / 2 ^ k + Z / 18446744073709551616 % 18446744073709551616 * 2 % 18446744073709551616 * 2 ^ (63 - k) % 18446744073709551616 ∧ Z % 18446744073709551616 / 2 ^ k < 2 ^ (64 - k) ∧ Z / 18446744073709551616 % 18446744073709551616 * 2 % 18446744073709551616 * 2 ^ (63 - k) % 18446744073709551616 % 2 ^ (64 - k) = 0 := by
  have e2 : (18446744073709551616 : Nat) = 2 ^ (64 - k) * 2 ^ k := by rw [← Nat.pow_add, show 64 - k + k = 64 by omega]
  have hp : 0 < 2 ^ k := Nat.pow_pos (by decide)
  have h1 : Z % 18446744073709551616 / 2 ^ k < 2 ^ (64 - k) := by
    rw [Nat.div_lt_iff_lt_mul hp, ← e2]; exact Nat.mod_lt _ (by decide)
  have h2 : Z / 18446744073709551616 % 18446744073709551616 * 2 % 18446744073709551616 * 2 ^ (63 - k) % 18446744073709551616 = Z / 18446744073709551616 * 2 ^ (64 - k) % 18446744073709551616 := by
    rw [Nat.mod_mul_mod, Nat.mul_assoc, Nat.mod_mul_mod, show 2 * 2 ^ (63 - k) = 2 ^ (64 - k) by rw [Nat.mul_comm, ← Nat.pow_succ]; congr 1; omega]
  have h3 : Z / 18446744073709551616 * 2 ^ (64 - k) % 18446744073709551616 % 2 ^ (64 - k) = 0 := by
    rw [Nat.mod_mod_of_dvd _ (by rw [e2]; exact Nat.dvd_mul_right _ _), Nat.mul_mod_left]
  rw [h2]
  refine ⟨?_, h1, h3⟩
  have h4 : Z / 2 ^ k = Z % 18446744073709551616 / 2 ^ k + Z / 18446744073709551616 * 2 ^ (64 - k) := by
    have h5 := Nat.mod_add_div Z 18446744073709551616
    conv => lhs; rw [← h5]
    have h6 : 18446744073709551616 * (Z / 18446744073709551616) = 2 ^ k * (Z / 18446744073709551616 * 2 ^ (64 - k)) := by
      generalize Z / 18446744073709551616 = q
      rw [e2, Nat.mul_comm (2 ^ (64 - k)), Nat.mul_assoc, Nat.mul_comm (2 ^ (64 - k))]
    rw [h6, Nat.add_mul_div_left _ _ hp]
  have h7 : Z / 18446744073709551616 * 2 ^ (64 - k) % 18446744073709551616 + 2 ^ (64 - k) ≤ 18446744073709551616 := by
    have h8 := Nat.mod_lt (Z / 18446744073709551616 * 2 ^ (64 - k)) (show 0 < 18446744073709551616 by decide)
    have h9 := Nat.div_add_mod (Z / 18446744073709551616 * 2 ^ (64 - k) % 18446744073709551616) (2 ^ (64 - k))
    rw [h3, Nat.add_zero] at h9
    rw [← h9] at h8 ⊢
    generalize Z / 18446744073709551616 * 2 ^ (64 - k) % 18446744073709551616 / 2 ^ (64 - k) = q at *
    have h10 : q < 2 ^ k := by
      rw [e2] at h8
      exact Nat.lt_of_mul_lt_mul_left h8
    have h11 : 2 ^ (64 - k) * (q + 1) ≤ 2 ^ (64 - k) * 2 ^ k := Nat.mul_le_mul_left _ h10
    rw [← e2, Nat.mul_add, Nat.mul_one] at h11
    exact h11
  rw [h4, Nat.add_mod, Nat.mod_eq_of_lt (show Z % 18446744073709551616 / 2 ^ k < 18446744073709551616 from Nat.lt_of_le_of_lt (Nat.div_le_self _ _) (Nat.mod_lt _ (by decide)))]
  exact Nat.mod_eq_of_lt (by omega)
def ShrI (Y m : Nat) (s : List Int) : Prop := s.length ≤ m ∧ okD 18446744073709551616 s ∧ vl 18446744073709551616 s = ((Y % 2 ^ (64 * s.length) : Nat) : Int)
theorem ShrI.step {Y m : Nat} {s : List Int} {d : Int} (h : ShrI Y m s) (hlt : s.length < m) (hd : d = ((Y / 2 ^ (64 * s.length) % 18446744073709551616 : Nat) : Int)) : ShrI Y m (s ++ [d]) := by
  obtain ⟨h1, h2, h3⟩ := h
  have hm := Nat.mod_lt (Y / 2 ^ (64 * s.length)) (show 0 < 18446744073709551616 by decide)
  refine ⟨by rw [len_snoc]; omega, okD_append.2 ⟨h2, okD_cons.2 ⟨by omega, okD_nil _⟩⟩, ?_⟩
  rw [vl_snoc, len_snoc, h3, hd, show 64 * (s.length + 1) = 64 * s.length + 64 by omega, Nat.pow_add, Nat.mod_mul]
  have e : ((18446744073709551616 : Int) ^ s.length) = ((2 ^ (64 * s.length) : Nat) : Int) := by rw [← pow64]; simp
  rw [e, ← Int.natCast_mul, ← Int.natCast_add]
def shrT (X : Nat) (n : Int) : PV := .tup [.ws .u64 (if n < 0 then [] else d64 (X / 2 ^ n.toNat)), .val (.int .i64 (if n < 0 then 1 else 0))]
theorem shr_dig {X : Nat} {a : List Int} (hdig : ∀ j : Nat, rd a (j : Int) = ((X / 2 ^ (64 * j) % 18446744073709551616 : Nat) : Int)) (l i k : Nat) (hk : k < 64) {u v : Int} (hu : u = rd a ((l + i : Nat) : Int)) (hv : v = rd a ((l + i + 1 : Nat) : Int)) :
    (0 ≤ u / 2 ^ k ∧ u / 2 ^ k < 18446744073709551616) ∧ (0 ≤ v * 2 % 18446744073709551616 * 2 ^ (63 - k) % 18446744073709551616 ∧ v * 2 % 18446744073709551616 * 2 ^ (63 - k) % 18446744073709551616 < 18446744073709551616) ∧ u / 2 ^ k < 2 ^ (64 - k) ∧ v * 2 % 18446744073709551616 * 2 ^ (63 - k) % 18446744073709551616 % 2 ^ (64 - k) = 0 ∧
    u / 2 ^ k + v * 2 % 18446744073709551616 * 2 ^ (63 - k) % 18446744073709551616 = ((X / 2 ^ (64 * l + k) / 2 ^ (64 * i) % 18446744073709551616 : Nat) : Int) := by
  obtain ⟨Z, hZ⟩ : ∃ Z, Z = X / 2 ^ (64 * (l + i)) := ⟨_, rfl⟩
  rw [hdig] at hu hv
  rw [← hZ] at hu
  have e1 : X / 2 ^ (64 * (l + i + 1)) = Z / 18446744073709551616 := by
    rw [hZ, Nat.div_div_eq_div_mul, show (18446744073709551616 : Nat) = 2 ^ 64 by decide, ← Nat.pow_add]; congr 2
  rw [e1] at hv
  have e2 : X / 2 ^ (64 * l + k) / 2 ^ (64 * i) = Z / 2 ^ k := by
    rw [hZ, Nat.div_div_eq_div_mul, Nat.div_div_eq_div_mul, ← Nat.pow_add, ← Nat.pow_add]; congr 2; omega
  obtain ⟨g1, g2, g3⟩ := shr_word Z k hk
  rw [e2, g1]
  have p1 : ((2 : Int) ^ k) = ((2 ^ k : Nat) : Int) := by simp
  have p2 : ((2 : Int) ^ (63 - k)) = ((2 ^ (63 - k) : Nat) : Int) := by simp
  have p3 : ((2 : Int) ^ (64 - k)) = ((2 ^ (64 - k) : Nat) : Int) := by simp
  have q1 : u / 2 ^ k = ((Z % 18446744073709551616 / 2 ^ k : Nat) : Int) := by rw [hu, p1]; simp
  have q2 : v * 2 % 18446744073709551616 * 2 ^ (63 - k) % 18446744073709551616 = ((Z / 18446744073709551616 % 18446744073709551616 * 2 % 18446744073709551616 * 2 ^ (63 - k) % 18446744073709551616 : Nat) : Int) := by rw [hv, p2]; simp only [Int.natCast_mul, Int.natCast_emod, Int.natCast_ediv]; rfl
  rw [q1, q2, p3, ← Int.natCast_emod, g3]
  have h5 := Nat.mod_lt (Z / 18446744073709551616 % 18446744073709551616 * 2 % 18446744073709551616 * 2 ^ (63 - k)) (show 0 < 18446744073709551616 by decide)
  have h6 := Nat.lt_of_le_of_lt (Nat.div_le_self (Z % 18446744073709551616) (2 ^ k)) (Nat.mod_lt Z (show 0 < 18446744073709551616 by decide))
  exact ⟨⟨Int.natCast_nonneg _, Int.ofNat_lt.2 h6⟩, ⟨Int.natCast_nonneg _, Int.ofNat_lt.2 h5⟩, Int.ofNat_lt.2 g2, rfl, (Int.natCast_add _ _).symm⟩
theorem lp_shr1 {X : Nat} {n : Int} (h : n < 0) : shrT X n = natE 1 := by unfold shrT; rw [if_pos h, if_pos h]; rfl
theorem shrT_ok {X : Nat} {n : Int} (h : ¬ n < 0) : shrT X n = natR (X / 2 ^ n.toNat) := by unfold shrT; rw [if_neg h, if_neg h]; rfl
theorem n_shr (X : Nat) (n : Int) (hX : L64 X ≤ 8192) (hn : inR .i64 n) : FC Tryz.prog G 149 [.ws .u64 (d64 X), .val (.int .i64 n)] (· = shrT X n) := by
  dsimp only [inR] at hn
  have fa := n_formN (G := G) X hX
  have hlt := L64_lt X
  have hk : (n % 64).toNat < 64 := by omega
  have hw := pw64 hk
  have hres : natT (X / 2 ^ n.toNat) = natR (X / 2 ^ n.toNat) := natT_ok (Nat.le_trans (lenB_mono (by decide) (Nat.div_le_self _ _)) hX)
  have hdig : ∀ j : Nat, rd (d64 X) (j : Int) = ((X / 2 ^ (64 * j) % 18446744073709551616 : Nat) : Int) := fun j => d64_rd X j
  obtain ⟨a, ea⟩ : ∃ a, a = d64 X := ⟨_, rfl⟩
  obtain ⟨oka, va⟩ := d64_ok X
  have hL : a.length = L64 X := by rw [ea]; rfl
  rw [← ea] at oka va fa hdig
  rw [← ea]
  refine ax_i Tryz.func149 Tryz.ntmps149 ?_; intro F hG hO
  rw [← hG] at fa
  repeat' ((try (conv => whnf)); first
 | refine ce fa ?_
 | (refine lg ?_; refine loop_g (A := List Int) (fun s => ShrI (X / 2 ^ n.toNat) (a.length - (n / 64).toNat) s) (fun s => a.length - (n / 64).toNat - s.length) (fun s => [(0, .ws .u64 a), (6, .val (.int .i64 (n / 64))), (7, .val (.int .i64 (n % 64))), (8, .arr 0 0 (a.length - (n / 64).toNat)), (29, .val (.int .i64 ((a.length - (n / 64).toNat : Nat) : Int))), (30, .val (.int .i64 (s.length : Int)))]) (fun _ => []) (fun s => [some ⟨1, 82, .w .u64 (ins (List.replicate (a.length - (n / 64).toNat) 0) 0 s)⟩]) [] tok (fun s => ⟨⟨trivial, trivial, trivial, Nat.one_pos, trivial, trivial, trivial⟩, trivial, by simp only [List.length_cons]; omega⟩) ?_ ⟨rfl, rfl, rfl, congrArg (PV.arr 0 0) (by omega), iv_eq (by omega), rfl, trivial⟩ ⟨[], rfl⟩ ⟨[], (by rw [ins_nil, show ((a.length : Int) - n / 64).toNat = a.length - (n / 64).toNat by omega]; rfl)⟩ ?_; rotate_left; rintro s hI; have hI2 := hI; obtain ⟨i1, i2, i3⟩ := hI2; have ra := rd_bd (by decide) oka (n / 64 + (s.length : Int)); have rb := rd_bd (by decide) oka (n / 64 + (s.length : Int) + 1); have hil : (ins (List.replicate (a.length - (n / 64).toNat) 0) 0 s).length = a.length - (n / 64).toNat := (by rw [ins_len (by simp; omega)]; simp))
 | (with_reducible refine shl_m (by omega) ?_)
 | (with_reducible refine shr_p (by omega) (by dsimp only [IntKind.bits]; omega) ?_)
 | (have hz := shr_dig hdig (n / 64).toNat s.length (n % 64).toNat hk (u := rd a (n / 64 + (s.length : Int))) (v := rd a (n / 64 + (s.length : Int) + 1)) (by congr 1; omega) (by congr 1; omega); have hs1 := ins_set (p := List.replicate (a.length - (n / 64).toNat) (0 : Int)) (s := s) (lo := 0) (rd a (n / 64 + (s.length : Int)) / 2 ^ (n % 64).toNat) (by simp; omega); rw [show (63 - n % 64).toNat = 63 - (n % 64).toNat by omega, show Int.toNat 1 = 1 from rfl, Int.pow_succ, Int.pow_zero, Int.one_mul, show 0 + ((s.length : Nat) : Int).toNat = 0 + s.length by omega, hs1, ins_getE _ (by simp)]; refine or_g (64 - (n % 64).toNat) hz.1 hz.2.1 hz.2.2.1 hz.2.2.2.1 (by have := hz.2.2.2.2; omega) ?_; rw [hz.2.2.2.2]; have hil2 : (ins (List.replicate (a.length - (n / 64).toNat) (0 : Int)) 0 (s ++ [rd a (n / 64 + (s.length : Int)) / 2 ^ (n % 64).toNat])).length = a.length - (n / 64).toNat := (by rw [ins_len (by simp; omega)]; simp))
 | (refine cg ?_; refine call_fz 0 (A := ins (List.replicate (a.length - (n / 64).toNat) 0) 0 s) (B := s) rfl rfl (by omega) (by rw [List.drop_zero, ins_full (by simp; omega)]; exact List.take_of_length_le (by omega)) (by omega) ?_; refine ce (n_told s i2 (by omega)) ?_; rw [i3])
 | (refine dG (id := 14) [[0, 1, 2, 3, 4, 5, 6, 7, 8, 9, 10, 11, 12, 13, 14, 15, 16], [17]] ?_)
 | with_reducible first | refine ax_s ?_ | (refine ax_f ?_ ?_ <;> try intro hc) | fail)
  · exact ⟨ret_l _ (lp_natE 1) (lp_shr1 hc).symm⟩
  · refine ⟨ret_l _ (lp_natE 0) ?_⟩
    have h2 : X < 2 ^ n.toNat := Nat.lt_of_lt_of_le hlt (Nat.pow_le_pow_right (by decide) (by omega))
    rw [shrT_ok (by omega), Nat.div_eq_of_lt h2]
    unfold natE natR
    rw [d64_0]
  · have hd := shr_dig hdig (n / 64).toNat s.length (n % 64).toNat hk (u := rd a (n / 64 + (s.length : Int))) (v := rd a (n / 64 + (s.length : Int) + 1)) (by congr 1; omega) (by congr 1; omega)
    rw [show 64 * (n / 64).toNat + (n % 64).toNat = n.toNat by omega]
    refine ⟨again (s ++ [((X / 2 ^ n.toNat / 2 ^ (64 * s.length) % 18446744073709551616 : Nat) : Int)]) (hI.step (by omega) rfl) (by rw [len_snoc]; omega) ⟨rfl, rfl, rfl, rfl, rfl, iv_eq (by rw [len_snoc]; omega), trivial⟩ ⟨[], rfl⟩ ⟨[], ?_⟩⟩
    have hs2 := ins_over (p := List.replicate (a.length - (n / 64).toNat) (0 : Int)) (t := s) (lo := 0) (rd a (n / 64 + (s.length : Int)) / 2 ^ (n % 64).toNat) ((X / 2 ^ n.toNat / 2 ^ (64 * s.length) % 18446744073709551616 : Nat) : Int) (by simp; omega)
    rw [← hs2]; rfl
  · have hd := shr_dig hdig (n / 64).toNat s.length (n % 64).toNat hk (u := rd a (n / 64 + (s.length : Int))) (v := rd a (n / 64 + (s.length : Int) + 1)) (by congr 1; omega) (by congr 1; omega)
    have hv0 : rd a (n / 64 + (s.length : Int) + 1) = 0 := by
      have := rd_out a ((n / 64).toNat + s.length + 1) (by omega)
      rw [← this]; congr 1; omega
    have hd2 := hd.2.2.2.2
    rw [hv0, show 64 * (n / 64).toNat + (n % 64).toNat = n.toNat by omega] at hd2
    simp only [Int.zero_mul, Int.zero_emod, Int.add_zero] at hd2
    refine ⟨again (s ++ [rd a (n / 64 + (s.length : Int)) / 2 ^ (n % 64).toNat]) (hI.step (by omega) hd2) (by rw [len_snoc]; omega) ⟨rfl, rfl, rfl, rfl, rfl, iv_eq (by rw [len_snoc]; omega), trivial⟩ ⟨[], rfl⟩ ⟨[], ?_⟩⟩
    have hs2 := ins_set (p := List.replicate (a.length - (n / 64).toNat) (0 : Int)) (s := s) (lo := 0) (rd a (n / 64 + (s.length : Int)) / 2 ^ (n % 64).toNat) (by simp; omega)
    rw [← hs2]; rfl
  · refine ⟨ret_e ?_⟩
    have hY : X / 2 ^ n.toNat < 2 ^ (64 * s.length) := by
      rw [Nat.div_lt_iff_lt_mul (Nat.pow_pos (by decide)), ← Nat.pow_add]
      exact Nat.lt_of_lt_of_le hlt (Nat.pow_le_pow_right (by decide) (by omega))
    rw [shrT_ok (by omega), Nat.mod_eq_of_lt hY, Int.toNat_natCast, ← hres]; rfl
  · exact ⟨Nat.zero_le _, okD_nil _, by rw [List.length_nil, Nat.mul_zero, Nat.pow_zero, Nat.mod_one]; rfl⟩
theorem ni_sg (b : Bool) (m : Nat) (c : Bool) (h : c = (b && decide (0 < m))) : PV.agg [.val (.bool c), .ws .u64 (d64 m)] = NI (sg b m) := by
  subst h
  unfold NI N64
  rw [sg_abs]
  congr 4
  cases b
  · simp only [sg, Bool.false_and]
    exact (decide_eq_false (by omega)).symm
  · simp [sg]
theorem NI_zero : NI 0 = .agg [.val (.bool false), .ws .u64 []] := by
  unfold NI N64
  rw [show d64 (Int.natAbs 0) = [] from d64_0]
  rfl
theorem lp_ni0 : Lp (.agg [.val (.bool false), .nil]) (NI 0) := by
  rw [NI_zero]
  exact .agg (.cons (.refl _) (.cons (.nil _) .nil))
def numE (c : Int) : PV := .tup [NI 0, .val (.int .i64 c)]
def numR (n : Int) : PV := .tup [NI n, .val (.int .i64 0)]
theorem lp_numE (c : Int) : Lp (.tup [.agg [.val (.bool false), .nil], .val (.int .i64 c)]) (numE c) := .tup (.cons lp_ni0 (.cons (.refl _) .nil))
theorem n_whole (b : Bool) (X : Nat) : FC Tryz.prog G 185 [.val (.bool b), .ws .u64 (d64 X)] (· = NI (sg b X)) := by
  have hp := len64_pos X
  cases b
  · refine ax_i Tryz.func185 Tryz.ntmps185 ?_; intro F hG hO
    repeat' ((try (conv => whnf)); first
 | with_reducible first | refine ax_s ?_ | (refine ax_f ?_ ?_ <;> try intro hc) | fail)
    all_goals exact ⟨ret_e (ni_sg _ X _ (by simp))⟩
  · refine ax_i Tryz.func185 Tryz.ntmps185 ?_; intro F hG hO
    repeat' ((try (conv => whnf)); first
 | with_reducible first | refine ax_s ?_ | (refine ax_f ?_ ?_ <;> try intro hc) | fail)
    all_goals exact ⟨ret_e (ni_sg _ X _ (by rw [Bool.true_and]; exact decide_eq_decide.2 (by omega)))⟩
theorem n_ntoldE (b : Bool) (l : List Int) (c : Int) (hc : c ≠ 0) : FC Tryz.prog G 147 [.val (.bool b), .ws .u64 l, .val (.int .i64 c)] (· = numE c) := by
  refine ax_i Tryz.func147 Tryz.ntmps147 ?_; intro F hG hO
  repeat' ((try (conv => whnf)); first
 | with_reducible first | refine ax_s ?_ | (refine ax_f ?_ ?_ <;> try intro hc) | fail)
  exact ⟨ret_l _ (lp_numE c) rfl⟩
theorem n_ntold (b : Bool) (X : Nat) : FC Tryz.prog G 147 [.val (.bool b), .ws .u64 (d64 X), .val (.int .i64 0)] (· = numR (sg b X)) := by
  refine ax_i Tryz.func147 Tryz.ntmps147 ?_; intro F hG hO
  repeat' ((try (conv => whnf)); first
 | (refine cg ?_; refine ce (n_whole b X) ?_)
 | with_reducible first | refine ax_s ?_ | (refine ax_f ?_ ?_ <;> try intro hc) | fail)
  exact ⟨ret_e rfl⟩
theorem n_nform (n : Int) (h : L64 n.natAbs ≤ 8192) : FC Tryz.prog G 113 [NI n] (· = .val (.bool true)) := by
  have hp := len64_pos n.natAbs
  have f1 := n_formN (G := G) n.natAbs h
  refine ax_i Tryz.func113 Tryz.ntmps113 ?_; intro F hG hO
  rw [← hG] at f1
  repeat' ((try (conv => whnf)); first
 | refine ce f1 ?_
 | with_reducible first | refine ax_s ?_ | (refine ax_f ?_ ?_ <;> try intro hc) | fail)
  · exact ⟨ret_e (bv_eq (by rw [decide_eq_false (by omega)]; rfl))⟩
  · exact ⟨ret_e rfl⟩
theorem n_sign (n : Int) (h : L64 n.natAbs ≤ 8192) : FC Tryz.prog G 155 [NI n] (· = .val (.int .i64 n.sign)) := by
  have hb : bl n.natAbs = 0 ↔ n.natAbs = 0 := bl_eq_zero
  have f1 := n_bits (G := G) n.natAbs (by omega)
  refine ax_i Tryz.func155 Tryz.ntmps155 ?_; intro F hG hO
  rw [← hG] at f1
  repeat' ((try (conv => whnf)); first
 | refine ce f1 ?_
 | with_reducible first | refine ax_s ?_ | (refine ax_f ?_ ?_ <;> try intro hc) | fail)
  · exact ⟨ret_e (iv_eq (by rw [show n = 0 by omega]; rfl))⟩
  · exact ⟨ret_e (iv_eq (Int.sign_eq_neg_one_of_neg hc).symm)⟩
  · exact ⟨ret_e (iv_eq (Int.sign_eq_one_of_pos (by omega)).symm)⟩
theorem by_signN {a : Int} {p : PV → Prop} (h1 : a < 0 → p (.agg [.val (.bool true), N64 a.natAbs])) (h2 : ¬ a < 0 → p (.agg [.val (.bool false), N64 a.natAbs])) : p (NI a) := by
  unfold NI
  by_cases h : a < 0
  · rw [decide_eq_true h]; exact h1 h
  · rw [decide_eq_false h]; exact h2 h
def nshlS (n k : Int) : PV := if shlC n.natAbs k = 0 then numR (n * 2 ^ k.toNat) else numE (shlC n.natAbs k)
theorem numR_eq {a b : Int} (h : a = b) : numR a = numR b := by rw [h]
theorem n_nshl (n k : Int) (h : L64 n.natAbs ≤ 8192) (hk : inR .i64 k) : FC Tryz.prog G 109 [NI n, .val (.int .i64 k)] (· = nshlS n k) := by
  have f0 := n_nform (G := G) n h
  have f1 := n_shl (G := G) n.natAbs k h hk
  have hs := sg_of n
  unfold nshlS
  unfold shlT shlL at f1
  dsimp only [inR] at hk
  have hneg : Unit → k < 0 → shlC n.natAbs k = 1 := fun _ h => by unfold shlC; rw [if_pos h]
  by_cases hc0 : shlC n.natAbs k = 0
  · rw [if_pos hc0]
    rw [hc0, if_pos rfl] at f1
    have f2 := n_ntold (G := G) (decide (n < 0)) (n.natAbs * 2 ^ k.toNat)
    rw [sg_pow, hs] at f2
    refine ax_i Tryz.func109 Tryz.ntmps109 ?_; intro F hG hO
    rw [← hG] at f0 f1 f2
    repeat' ((try (conv => whnf)); first
 | refine ce f0 ?_ | refine ce f1 ?_ | refine ce f2 ?_
 | with_reducible first | refine ax_s ?_ | (refine ax_f ?_ ?_ <;> try intro hc) | fail)
    · rw [hneg () hc] at hc0; cases hc0
    · exact ⟨ret_e rfl⟩
  · rw [if_neg hc0]
    rw [if_neg hc0] at f1
    have f2 := n_ntoldE (G := G) (decide (n < 0)) [] (shlC n.natAbs k) hc0
    refine ax_i Tryz.func109 Tryz.ntmps109 ?_; intro F hG hO
    rw [← hG] at f0 f1 f2
    repeat' ((try (conv => whnf)); first
 | refine ce f0 ?_ | refine ce f1 ?_ | refine ce f2 ?_
 | with_reducible first | refine ax_s ?_ | (refine ax_f ?_ ?_ <;> try intro hc) | fail)
    · rw [hneg () hc]; exact ⟨ret_l _ (lp_numE 1) rfl⟩
    · exact ⟨ret_e rfl⟩
def naddS (n m : Int) : PV := if 8192 < L64 (n + m).natAbs then numE 5 else numR (n + m)
theorem ni_neg {a : Int} (h : a < 0) : NI a = .agg [.val (.bool true), N64 a.natAbs] := by unfold NI; rw [decide_eq_true h]
theorem ni_pos {a : Int} (h : ¬ a < 0) : NI a = .agg [.val (.bool false), N64 a.natAbs] := by unfold NI; rw [decide_eq_false h]
theorem n_nadd (n m : Int) (hn : L64 n.natAbs ≤ 8192) (hm : L64 m.natAbs ≤ 8192) : FC Tryz.prog G 110 [NI n, NI m] (· = naddS n m) := by
  have f0 := n_nform (G := G) n hn
  have g0 := n_nform (G := G) m hm
  have f1 := n_add (G := G) n.natAbs m.natAbs hn hm
  have f2 := n_cmp (G := G) n.natAbs m.natAbs (by omega) (by omega)
  have hcm := cmpN_ge n.natAbs m.natAbs
  have f3 : Unit → m.natAbs ≤ n.natAbs → FC Tryz.prog G 154 [.ws .u64 (d64 n.natAbs), .ws .u64 (d64 m.natAbs)] (· = natR (n.natAbs - m.natAbs)) := fun _ h => n_sub (G := G) n.natAbs m.natAbs hn hm h
  have f4 : Unit → n.natAbs ≤ m.natAbs → FC Tryz.prog G 154 [.ws .u64 (d64 m.natAbs), .ws .u64 (d64 n.natAbs)] (· = natR (m.natAbs - n.natAbs)) := fun _ h => n_sub (G := G) m.natAbs n.natAbs hm hn h
  refine by_signN (a := n) (p := fun p => FC _ _ _ [p, _] _) (fun hs => ?_) (fun hs => ?_)
  all_goals
    refine by_signN (a := m) (p := fun p => FC _ _ _ [_, p] _) (fun ht => ?_) (fun ht => ?_)
  · have e : n + m = sg true (n.natAbs + m.natAbs) := by simp only [sg]; omega
    have ea : (n + m).natAbs = n.natAbs + m.natAbs := by omega
    unfold naddS
    rw [ea]
    rw [ni_neg hs] at f0
    rw [ni_neg ht] at g0
    by_cases hL : 8192 < L64 (n.natAbs + m.natAbs)
    · rw [if_pos hL]
      rw [natT_no hL] at f1
      have f5 := n_ntoldE (G := G) true [] 5 (by decide)
      refine ax_i Tryz.func110 Tryz.ntmps110 ?_; intro F hG hO
      rw [← hG] at f0 g0 f1 f5
      repeat' ((try (conv => whnf)); first
 | refine ce f0 ?_ | refine ce g0 ?_ | refine ce f1 ?_ | refine ce f5 ?_
 | with_reducible first | refine ax_s ?_ | (refine ax_f ?_ ?_ <;> try intro hc) | fail)
      exact ⟨ret_e rfl⟩
    · rw [if_neg hL, e]
      rw [natT_ok (by omega)] at f1
      have f5 := n_ntold (G := G) true (n.natAbs + m.natAbs)
      refine ax_i Tryz.func110 Tryz.ntmps110 ?_; intro F hG hO
      rw [← hG] at f0 g0 f1 f5
      repeat' ((try (conv => whnf)); first
 | refine ce f0 ?_ | refine ce g0 ?_ | refine ce f1 ?_ | refine ce f5 ?_
 | with_reducible first | refine ax_s ?_ | (refine ax_f ?_ ?_ <;> try intro hc) | fail)
      exact ⟨ret_e rfl⟩
  · rw [ni_neg hs] at f0
    rw [ni_pos ht] at g0
    have hle : L64 (n + m).natAbs ≤ 8192 := by
      rcases Nat.le_total n.natAbs m.natAbs with h | h
      · exact Nat.le_trans (lenB_mono (by decide) (show (n + m).natAbs ≤ m.natAbs by omega)) hm
      · exact Nat.le_trans (lenB_mono (by decide) (show (n + m).natAbs ≤ n.natAbs by omega)) hn
    unfold naddS
    rw [if_neg (by omega)]
    have f5 := n_ntold (G := G) true (n.natAbs - m.natAbs)
    have f6 := n_ntold (G := G) false (m.natAbs - n.natAbs)
    refine ax_i Tryz.func110 Tryz.ntmps110 ?_; intro F hG hO
    rw [← hG] at f0 g0 f2 f3 f4 f5 f6
    repeat' ((try (conv => whnf)); first
 | refine ce f0 ?_ | refine ce g0 ?_ | refine ce f2 ?_
 | (refine cg ?_; refine ce (f3 () (hcm.1 (by omega))) ?_)
 | (refine cg ?_; refine call_eq (f4 () (by rcases Nat.le_total n.natAbs m.natAbs with h | h; exact h; have := hcm.2 h; omega)) (LpL.refl _) rfl ?_)
 | refine ce f5 ?_ | refine ce f6 ?_
 | with_reducible first | refine ax_s ?_ | (refine ax_f ?_ ?_ <;> try intro hc) | fail)
    · have hlt : ¬ m.natAbs ≤ n.natAbs := fun h => (by have := hcm.2 h; omega)
      exact ⟨ret_e (numR_eq (a := sg false (m.natAbs - n.natAbs)) (by simp only [sg]; omega))⟩
    · have hge := hcm.1 (by omega)
      exact ⟨ret_e (numR_eq (a := sg true (n.natAbs - m.natAbs)) (by simp only [sg]; omega))⟩
  · rw [ni_pos hs] at f0
    rw [ni_neg ht] at g0
    have hle : L64 (n + m).natAbs ≤ 8192 := by
      rcases Nat.le_total n.natAbs m.natAbs with h | h
      · exact Nat.le_trans (lenB_mono (by decide) (show (n + m).natAbs ≤ m.natAbs by omega)) hm
      · exact Nat.le_trans (lenB_mono (by decide) (show (n + m).natAbs ≤ n.natAbs by omega)) hn
    unfold naddS
    rw [if_neg (by omega)]
    have f5 := n_ntold (G := G) false (n.natAbs - m.natAbs)
    have f6 := n_ntold (G := G) true (m.natAbs - n.natAbs)
    refine ax_i Tryz.func110 Tryz.ntmps110 ?_; intro F hG hO
    rw [← hG] at f0 g0 f2 f3 f4 f5 f6
    repeat' ((try (conv => whnf)); first
 | refine ce f0 ?_ | refine ce g0 ?_ | refine ce f2 ?_
 | (refine cg ?_; refine ce (f3 () (hcm.1 (by omega))) ?_)
 | (refine cg ?_; refine call_eq (f4 () (by rcases Nat.le_total n.natAbs m.natAbs with h | h; exact h; have := hcm.2 h; omega)) (LpL.refl _) rfl ?_)
 | refine ce f5 ?_ | refine ce f6 ?_
 | with_reducible first | refine ax_s ?_ | (refine ax_f ?_ ?_ <;> try intro hc) | fail)
    · have hlt : ¬ m.natAbs ≤ n.natAbs := fun h => (by have := hcm.2 h; omega)
      exact ⟨ret_e (numR_eq (a := sg true (m.natAbs - n.natAbs)) (by simp only [sg]; omega))⟩
    · have hge := hcm.1 (by omega)
      exact ⟨ret_e (numR_eq (a := sg false (n.natAbs - m.natAbs)) (by simp only [sg]; omega))⟩
  · have e : n + m = sg false (n.natAbs + m.natAbs) := by simp only [sg]; omega
    have ea : (n + m).natAbs = n.natAbs + m.natAbs := by omega
    unfold naddS
    rw [ea]
    rw [ni_pos hs] at f0
    rw [ni_pos ht] at g0
    by_cases hL : 8192 < L64 (n.natAbs + m.natAbs)
    · rw [if_pos hL]
      rw [natT_no hL] at f1
      have f5 := n_ntoldE (G := G) false [] 5 (by decide)
      refine ax_i Tryz.func110 Tryz.ntmps110 ?_; intro F hG hO
      rw [← hG] at f0 g0 f1 f5
      repeat' ((try (conv => whnf)); first
 | refine ce f0 ?_ | refine ce g0 ?_ | refine ce f1 ?_ | refine ce f5 ?_
 | with_reducible first | refine ax_s ?_ | (refine ax_f ?_ ?_ <;> try intro hc) | fail)
      exact ⟨ret_e rfl⟩
    · rw [if_neg hL, e]
      rw [natT_ok (by omega)] at f1
      have f5 := n_ntold (G := G) false (n.natAbs + m.natAbs)
      refine ax_i Tryz.func110 Tryz.ntmps110 ?_; intro F hG hO
      rw [← hG] at f0 g0 f1 f5
      repeat' ((try (conv => whnf)); first
 | refine ce f0 ?_ | refine ce g0 ?_ | refine ce f1 ?_ | refine ce f5 ?_
 | with_reducible first | refine ax_s ?_ | (refine ax_f ?_ ?_ <;> try intro hc) | fail)
      exact ⟨ret_e rfl⟩
def moreB (up b s : Bool) : Bool := match up with
 | true => !b && s
 | false => b && s
def wayV (up : Bool) : Int := match up with
 | true => 1
 | false => 0
theorem n_more (up b o s : Bool) (h : Int) : FC Tryz.prog G 229 [.val (.int .i64 (wayV up)), .val (.bool b), .val (.bool o), .val (.bool s), .val (.int .i64 h)] (· = .val (.bool (moreB up b s))) := by
  cases up <;> cases b
  all_goals
    refine ax_i Tryz.func229 Tryz.ntmps229 ?_; intro F hG hO
    repeat' ((try (conv => whnf)); first
 | with_reducible first | refine ax_s ?_ | (refine ax_f ?_ ?_ <;> try intro hc) | fail)
    exact ⟨ret_e rfl⟩
theorem n_made (up b : Bool) (Q : Nat) (s : Bool) (h : Int) (hQ : L64 Q ≤ 8192) (hQ1 : s = true → L64 (Q + 1) ≤ 8192) : FC Tryz.prog G 221 [.val (.int .i64 (wayV up)), .val (.bool b), .ws .u64 (d64 Q), .val (.bool s), .val (.int .i64 h)] (· = numR (sg b (if moreB up b s = true then Q + 1 else Q))) := by
  have f1 := n_bit (G := G) Q 0 (by omega) (by dsimp only [inR]; omega)
  obtain ⟨o, ho⟩ : ∃ o, o = decide (0 ≤ (0 : Int) ∧ Q / 2 ^ (Int.toNat 0) % 2 = 1) := ⟨_, rfl⟩
  rw [← ho] at f1
  clear ho
  have f2 := n_more (G := G) up b o s h
  have f3 := n_word (G := G) 1 (by decide)
  have f4 := n_ntold (G := G) b Q
  obtain ⟨r, hr⟩ : ∃ r, r = moreB up b s := ⟨_, rfl⟩
  rw [← hr] at f2 ⊢
  have hrs : r = true → s = true := fun h => by rw [h] at hr; cases up <;> cases b <;> cases s <;> first | rfl | exact absurd hr (by decide)
  cases r
  · rw [if_neg (by decide)]
    clear hQ1 hrs hr
    refine ax_i Tryz.func221 Tryz.ntmps221 ?_; intro F hG hO
    rw [← hG] at f1 f2 f3 f4
    repeat' ((try (conv => whnf)); first
 | refine ce f1 ?_ | refine ce f2 ?_ | refine ce f4 ?_
 | with_reducible first | refine ax_s ?_ | (refine ax_f ?_ ?_ <;> try intro hc) | fail)
    exact ⟨ret_e rfl⟩
  · rw [if_pos rfl]
    have hq := hQ1 (hrs rfl)
    have l1 : L64 1 ≤ 8192 := Nat.le_trans (L64_le (n := 1) (by decide)) (by decide)
    have f5 := n_add (G := G) Q 1 hQ l1
    rw [natT_ok hq] at f5
    have f6 := n_ntold (G := G) b (Q + 1)
    clear hQ1 hrs hr
    refine ax_i Tryz.func221 Tryz.ntmps221 ?_; intro F hG hO
    rw [← hG] at f1 f2 f3 f5 f6
    repeat' ((try (conv => whnf)); first
 | refine ce f1 ?_ | refine ce f2 ?_ | refine ce f3 ?_ | refine ce f5 ?_ | refine ce f6 ?_
 | with_reducible first | refine ax_s ?_ | (refine ax_f ?_ ?_ <;> try intro hc) | fail)
    exact ⟨ret_e rfl⟩
theorem tz_lt_iff {X k : Nat} (h : X ≠ 0) : tz X < k ↔ X % 2 ^ k ≠ 0 := by
  obtain ⟨m, h1, h2⟩ := tz_ok h
  obtain ⟨t, ht⟩ : ∃ t, t = tz X := ⟨_, rfl⟩
  rw [← ht] at h1 ⊢
  constructor
  · intro hlt h0
    obtain ⟨j, hj⟩ : ∃ j, k = t + (j + 1) := ⟨k - t - 1, by omega⟩
    have hd : 2 ^ k ∣ X := Nat.dvd_of_mod_eq_zero h0
    obtain ⟨q, hq⟩ := hd
    rw [hj, Nat.pow_add, h1] at hq
    have h3 : m = 2 ^ (j + 1) * q := by
      have h4 : m * 2 ^ t = 2 ^ (j + 1) * q * 2 ^ t := by rw [hq, Nat.mul_assoc, Nat.mul_comm]
      exact Nat.eq_of_mul_eq_mul_right (Nat.pow_pos (by decide)) h4
    rw [Nat.pow_succ] at h3
    have : m % 2 = 0 := by rw [h3, Nat.mul_right_comm, Nat.mul_mod_left]
    omega
  · intro hne
    rcases Nat.lt_or_ge t k with h3 | h3
    · exact h3
    · exfalso
      apply hne
      rw [h1, show t = (t - k) + k by omega, Nat.pow_add, ← Nat.mul_assoc, Nat.mul_mod_left]
theorem shr_way (up : Bool) (n : Int) (k : Nat) (s : Bool) (hs : s = decide (n.natAbs % 2 ^ k ≠ 0)) : sg (decide (n < 0)) (if moreB up (decide (n < 0)) s = true then n.natAbs / 2 ^ k + 1 else n.natAbs / 2 ^ k) = wholeS n (k : Int) up := by
  unfold wholeS
  rw [Int.toNat_natCast]
  have hP0 : 0 < 2 ^ k := Nat.pow_pos (by decide)
  have hPi : (2 : Int) ^ k = ((2 ^ k : Nat) : Int) := by simp
  obtain ⟨d1, d2⟩ := nat_dm n.natAbs (2 ^ k) hP0
  rw [hPi]
  obtain ⟨P, hP⟩ : ∃ P, P = 2 ^ k := ⟨_, rfl⟩
  rw [← hP] at hs hP0 d1 d2 ⊢
  obtain ⟨q, hq⟩ : ∃ q, q = n.natAbs / P := ⟨_, rfl⟩
  obtain ⟨r, hr⟩ : ∃ r, r = n.natAbs % P := ⟨_, rfl⟩
  rw [← hq] at d1 ⊢
  rw [← hr] at d1 d2 hs
  by_cases hn : n < 0 <;> by_cases h0 : r = 0
  · rw [decide_eq_true hn]
    rw [decide_eq_false (by omega)] at hs
    subst hs
    cases up
    · exact (div_of (a := n) (b := (P : Int)) (q := -(q : Int)) (r := r) (by omega) (by rw [Int.mul_neg]; omega) (by omega) (by omega)).1.symm
    · show -(q : Int) = -((-n) / (P : Int))
      rw [(div_of (a := -n) (b := (P : Int)) (q := (q : Int)) (r := r) (by omega) (by omega) (by omega) (by omega)).1]
  · rw [decide_eq_true hn]
    rw [decide_eq_true (by omega)] at hs
    subst hs
    cases up
    · exact (div_of (a := n) (b := (P : Int)) (q := -((q + 1 : Nat) : Int)) (r := (P : Int) - r) (by omega) (by rw [Int.mul_neg, Int.natCast_add, Int.mul_add]; omega) (by omega) (by omega)).1.symm
    · show -(q : Int) = -((-n) / (P : Int))
      rw [(div_of (a := -n) (b := (P : Int)) (q := (q : Int)) (r := r) (by omega) (by omega) (by omega) (by omega)).1]
  · rw [decide_eq_false hn]
    rw [decide_eq_false (by omega)] at hs
    subst hs
    cases up
    · exact (div_of (a := n) (b := (P : Int)) (q := (q : Int)) (r := r) (by omega) (by omega) (by omega) (by omega)).1.symm
    · show (q : Int) = -((-n) / (P : Int))
      rw [(div_of (a := -n) (b := (P : Int)) (q := -(q : Int)) (r := r) (by omega) (by rw [Int.mul_neg]; omega) (by omega) (by omega)).1, Int.neg_neg]
  · rw [decide_eq_false hn]
    rw [decide_eq_true (by omega)] at hs
    subst hs
    cases up
    · exact (div_of (a := n) (b := (P : Int)) (q := (q : Int)) (r := r) (by omega) (by omega) (by omega) (by omega)).1.symm
    · show ((q + 1 : Nat) : Int) = -((-n) / (P : Int))
      rw [(div_of (a := -n) (b := (P : Int)) (q := -((q + 1 : Nat) : Int)) (r := (P : Int) - r) (by omega) (by rw [Int.mul_neg, Int.natCast_add, Int.mul_add]; omega) (by omega) (by omega)).1, Int.neg_neg]
theorem shr_one {X k : Nat} (h0 : X ≠ 0) (hk : tz X < k) : X / 2 ^ k + 1 ≤ X := by
  have h1 : 2 ^ 1 ≤ 2 ^ k := Nat.pow_le_pow_right (by decide) (by omega)
  have h2 : X / 2 ^ k ≤ X / 2 ^ 1 := Nat.div_le_div_left h1 (by decide)
  rw [Nat.pow_one] at h2
  omega
theorem n_wshr {g : Gs} (hD : (0, debT.map (Value.int .u8)) ∈ g) (up : Bool) (n k : Int) (h : L64 n.natAbs ≤ 8192) (hk : inR .i64 k) (hk0 : 0 ≤ k) : FC Tryz.prog g 214 [.val (.int .i64 (wayV up)), NI n, .val (.int .i64 k)] (· = numR (wholeS n k up)) := by
  have hk1 := hk
  dsimp only [inR] at hk
  have hp := len64_pos n.natAbs
  have f0 := n_nform (G := g) n h
  have f1 := n_shr (G := g) n.natAbs k h hk1
  rw [shrT_ok (by omega)] at f1
  have f2 := n_trail hD n.natAbs (by omega)
  have f3 := n_bit (G := g) n.natAbs (k - 1) (by omega) (by dsimp only [inR]; omega)
  have hQ : L64 (n.natAbs / 2 ^ k.toNat) ≤ 8192 := Nat.le_trans (lenB_mono (by decide) (Nat.div_le_self _ _)) h
  have hw0 : Unit → n.natAbs = 0 → sg (decide (n < 0)) (if moreB up (decide (n < 0)) false = true then n.natAbs / 2 ^ k.toNat + 1 else n.natAbs / 2 ^ k.toNat) = wholeS n ((k.toNat : Nat) : Int) up := fun _ h0 => shr_way up n k.toNat false (decide_eq_false (by rw [h0]; simp)).symm
  have hw1 : Unit → n.natAbs ≠ 0 → sg (decide (n < 0)) (if moreB up (decide (n < 0)) (decide ((tz n.natAbs : Int) < k)) = true then n.natAbs / 2 ^ k.toNat + 1 else n.natAbs / 2 ^ k.toNat) = wholeS n ((k.toNat : Nat) : Int) up := fun _ h0 => shr_way up n k.toNat (decide ((tz n.natAbs : Int) < k)) (decide_eq_decide.2 (by rw [← tz_lt_iff h0]; omega))
  rw [show ((k.toNat : Nat) : Int) = k by omega] at hw0 hw1
  have f4 := fun b s c hs => n_made (G := g) up b (n.natAbs / 2 ^ k.toNat) s c hQ hs
  have hs1 : Unit → n.natAbs ≠ 0 → decide ((tz n.natAbs : Int) < k) = true → L64 (n.natAbs / 2 ^ k.toNat + 1) ≤ 8192 := fun _ h0 hd => Nat.le_trans (lenB_mono (by decide) (shr_one h0 (by have := of_decide_eq_true hd; omega))) h
  have hbo : PV.val (.int .i64 (wayV up)) = PV.val (.int .i64 (wayV up)) := rfl
  obtain ⟨w, hw⟩ : ∃ w, w = wayV up := ⟨_, rfl⟩
  rw [← hw] at f4 ⊢
  refine ax_i Tryz.func214 Tryz.ntmps214 ?_; intro F hG hO
  rw [← hG] at f0 f1 f2 f3 f4
  repeat' ((try (conv => whnf)); first
 | refine ce f0 ?_ | refine ce f1 ?_ | refine ce f2 ?_ | refine ce f3 ?_
 | (refine cg ?_; refine call_eq (f4 _ _ _ (by first | exact hs1 () (by omega) | (intro hx; cases hx))) (LpL.refl _) rfl ?_)
 | with_reducible first | refine ax_s ?_ | (refine ax_f ?_ ?_ <;> try intro hc) | fail)
  all_goals first
    | exact ⟨ret_e (numR_eq (hw1 () (by omega)))⟩
    | exact ⟨ret_e (numR_eq (hw0 () (by omega)))⟩
theorem n_floorshr {g : Gs} (hD : (0, debT.map (Value.int .u8)) ∈ g) (n k : Int) (h : L64 n.natAbs ≤ 8192) (hk : inR .i64 k) (hk0 : 0 ≤ k) : FC Tryz.prog g 204 [NI n, .val (.int .i64 k)] (· = numR (wholeS n k false)) := by
  have f1 := n_wshr hD false n k h hk hk0
  refine ax_i Tryz.func204 Tryz.ntmps204 ?_; intro F hG hO
  rw [← hG] at f1
  repeat' ((try (conv => whnf)); first
 | refine ce f1 ?_
 | with_reducible first | refine ax_s ?_ | (refine ax_f ?_ ?_ <;> try intro hc) | fail)
  exact ⟨ret_e rfl⟩
theorem n_ceilshr {g : Gs} (hD : (0, debT.map (Value.int .u8)) ∈ g) (n k : Int) (h : L64 n.natAbs ≤ 8192) (hk : inR .i64 k) (hk0 : 0 ≤ k) : FC Tryz.prog g 203 [NI n, .val (.int .i64 k)] (· = numR (wholeS n k true)) := by
  have f1 := n_wshr hD true n k h hk hk0
  refine ax_i Tryz.func203 Tryz.ntmps203 ?_; intro F hG hO
  rw [← hG] at f1
  repeat' ((try (conv => whnf)); first
 | refine ce f1 ?_
 | with_reducible first | refine ax_s ?_ | (refine ax_f ?_ ?_ <;> try intro hc) | fail)
  exact ⟨ret_e rfl⟩
theorem run_equalIn_nil {P : Program} {t e : TypeId} (ht : P.underlying t = some (.slice e)) (d : Nat) (A : Option Addr) (n c : Nat) (w : World) : (Op.equalIn (d + 1) t (.slice A n c) (.slice none 0 0)).run P w = .ok A.isNone w := by
  cases A <;> simp only [Op.equalIn, Go.Sem.run_bind, run_underlying ht, Result.andThen_ok] <;> rfl
theorem run_eql_nil {P : Program} {t e : TypeId} (ht : P.underlying t = some (.slice e)) (A : Option Addr) (n c : Nat) (w : World) : (Go.binOp .eql t (.slice A n c) (.slice none 0 0)).run P w = .ok (.bool A.isNone) w := by
  simp only [Go.binOp, Op.equal, Op.maxDepth, Go.Sem.run_bind, run_equalIn_nil ht 9999, Result.andThen_ok]
  rfl
theorem run_guard_nil {P : Program} {t : TypeId} {x y : Operand} (A : Option Addr) (n c : Nat) (w : World) : (eqGuard .eql t x y (.slice A n c) (.slice none 0 0)).run P w = .ok () w := rfl
theorem does_eqnil {P : Program} {F : Fr} {o : Oper} {s : St} {K : St → Prop} {t e t' : TypeId} {x y : Operand} {k : IntKind} {l : List Int} (ho : o.op = .binOp .eql t x y t') (hx : pev s x = .ws k l) (hy : pev s y = .nil) (ht : P.underlying t = some (.slice e)) (hd : s.fits o.dst = true) (h1 : l = [] → K (s.put o.dst (.val (.bool true)))) (h2 : K (s.put o.dst (.val (.bool false)))) : Does P F o true s K := by
  intro Q c a w hi
  have rx := pev_rep hi x
  have ry := pev_rep hi y
  rw [hx] at rx
  rw [hy] at ry
  generalize hvx : a.eval x = vx at rx
  generalize hvy : a.eval y = vy at ry
  cases ry
  cases rx with
 | ws g1 g2 g4 =>
    rename_i n cap A
    have hrun : (execOp a.eval o).run P w = .ok (.value (.bool A.isNone)) w := by
      simp only [execOp, ho, hvx, hvy, Go.Sem.run_bind, run_guard_nil, run_eql_nil ht, Result.andThen_ok]
      rfl
    unfold Oper.wp
    rw [hrun]
    cases A with
    | none =>
      have hl : l = [] := by
        cases l with
        | nil => rfl
        | cons z l =>
          obtain ⟨ad, h, _⟩ := g4 0 z rfl
          cases h
      exact ⟨c, _, hi.put hd (.val _), h1 hl, fun _ => Ext.refl w⟩
    | some A => exact ⟨c, _, hi.put hd (.val _), h2, fun _ => Ext.refl w⟩
theorem Does.lit0 {P : Program} {F : Fr} {o : Oper} {N : Nat} {t : Nat → PV} {bx : List (List PV)} {ob : List (Option Row)} {K : St → Prop} {ty e : TypeId} {d : Nat} {k : IntKind} (ho : o.op = .buildSlice ty 0 #[]) (ht : elT P ty = some (e, 1)) (hz : zeroT P e = some [.val (.int k 0)]) (hd : o.dst = some d) (hn : Nat.blt d N = true)
    (h : K ⟨N, upd t d (.arr ob.length 0 0), bx, ob ++ [some (rw_ k e [])]⟩) : Does P F o true ⟨N, t, bx, ob⟩ K := by
  intro R c a w hi
  obtain ⟨hu, hs⟩ := elT_ok ht
  cases hq : P.info? e with
 | none => simp [szT, hq] at hs
 | some i =>
    cases hv : i.zero with
    | none => simp [zeroT, hq, hv] at hz
    | some v =>
      unfold Oper.wp
      have hrun : (execOp a.eval o).run P w = .ok (.value (.slice (some ⟨w.heap.size, 0, none⟩) 0 0)) (w.alloc (.cells #[] e)) := by
        have hs1 : i.size = 1 := by simpa [szT, hq] using hs
        have e0 : ∀ f : Nat → Value, Array.map f (Array.range 0) = #[] := fun f => by simp
        simp [execOp, ho, Instr.buildSlice, run_underlying hu, sizeOf, typeInfo, hq, hs1, newRow, zeroValue, hv, e0, Instr.fill]
      rw [hrun]
      have hn' := hi.newrow (r := rw_ k e []) (us := []) (by simp [rw_, cs_w]) (by simp [rw_, cs_w]; exact .nil)
      refine ⟨_, _, hn'.put (d := o.dst) (p := .arr ob.length 0 0) (by simpa [St.fits, hd] using hn) ?_, by simpa [St.put, hd] using h, fun _ => cell_grow fun j h => heap_alloc_old w _ _ h⟩
      have hol : c.ob.length = ob.length := hi.W.ol
      exact .arr (x := ⟨w.heap.size, 0, 1, e⟩) (by have := idx_new c.ob (⟨w.heap.size, 0, 1, e⟩ : Ob); rw [hol] at this; simpa [rw_] using this) Nat.one_pos (by omega) (fun _ => by simp) (fun _ => by simp)
theorem s_clone (l : List Int) (hl : l.length ≤ 17592186044415) : FC Tryz.prog G 152 [.ws .u64 l] (· = .ws .u64 l) := by
  refine ax_i Tryz.func152 Tryz.ntmps152 ?_; intro F hG hO
  repeat' ((try (conv => whnf)); first
 | (refine RawG.mk ?_; refine Sem.does rfl (does_eqnil rfl rfl rfl (show Tryz.prog.underlying 22 = some (.slice 82) by kernel_rfl) rfl ?_ ?_))
 | (intro hnil)
 | (refine AppG.mk rfl (by dsimp only; omega) (by rw [hO]; exact Nat.zero_le _) ?_)
 | (refine RawG.mk ?_; refine Sem.does rfl (Does.lit0 (k := .u64) rfl (show elT Tryz.prog 22 = some (82, 1) by kernel_rfl) (show zeroT Tryz.prog 82 = some [.val (.int .u64 0)] by kernel_rfl) rfl rfl ?_))
 | with_reducible first | refine ax_s ?_ | (refine ax_f ?_ ?_ <;> try intro hc) | fail)
  · exact ⟨ret_l _ (.nil .u64) (by rw [hnil])⟩
  · exact ⟨fz_all (by simp) (ret_e (by simp))⟩
theorem y_nought (b : Bool) (l : List Int) (e : Int) : FC Tryz.prog G 108 [Dy b l e] (· = .val (.bool (decide ((l.length : Int) = 0)))) := by
  refine ax_i Tryz.func108 Tryz.ntmps108 ?_; intro F hG hO
  repeat' ((try (conv => whnf)); first
 | with_reducible first | refine ax_s ?_ | (refine ax_f ?_ ?_ <;> try intro hc) | fail)
  exact ⟨ret_e rfl⟩
theorem y_twin (b : Bool) (l : List Int) (e : Int) (h : l.length ≤ 17592186044415) : FC Tryz.prog G 107 [Dy b l e] (· = Dy b l e) := by
  have f1 := s_clone (G := G) l h
  refine ax_i Tryz.func107 Tryz.ntmps107 ?_; intro F hG hO
  rw [← hG] at f1
  repeat' ((try (conv => whnf)); first
 | refine ce f1 ?_
 | with_reducible first | refine ax_s ?_ | (refine ax_f ?_ ?_ <;> try intro hc) | fail)
  exact ⟨ret_e rfl⟩
theorem y_top {n e : Int} (h : Good n e) : FC Tryz.prog G 188 [DY n e] (· = .val (.int .i64 (topN n e))) := by
  have h2 := h.bl
  obtain ⟨g1, g2, g3, g4, g5⟩ := h
  have f1 := n_bits (G := G) n.natAbs (by omega)
  refine ax_i Tryz.func188 Tryz.ntmps188 ?_; intro F hG hO
  rw [← hG] at f1
  repeat' ((try (conv => whnf)); first
 | refine ce f1 ?_
 | (refine dG (id := 1) dg25 ?_)
 | with_reducible first | refine ax_s ?_ | (refine ax_f ?_ ?_ <;> try intro hc) | fail)
  exact ⟨ret_e rfl⟩
theorem tz_lt64 {n : Nat} (h : n ≠ 0) : tz n < 64 * L64 n := by
  have h1 := tz_lt h
  have h2 := L32_L64 n
  omega
theorem y_make {g : Gs} (hD : (0, debT.map (Value.int .u8)) ∈ g) (n e : Int) (h : L64 n.natAbs ≤ 8192) (he : inR .i64 e) : FC Tryz.prog g 101 [NI n, .val (.int .i64 e)] (· = toldS n e) := by
  dsimp only [inR] at he
  have hp := len64_pos n.natAbs
  have f0 := n_nform (G := g) n h
  have f1 := n_trail hD n.natAbs (by omega)
  have htb : Unit → n ≠ 0 → tz n.natAbs < 524288 := fun _ h0 => by have := tz_lt64 (n := n.natAbs) (by omega); omega
  have hdv : Unit → n.natAbs = n.natAbs / 2 ^ tz n.natAbs * 2 ^ tz n.natAbs := fun _ => by
    by_cases h0 : n = 0
    · rw [h0]; simp
    · exact (odd_div (n := n.natAbs) (by omega)).1
  have lq := L32_mono (Nat.div_le_self n.natAbs (2 ^ tz n.natAbs))
  have lq2 := L32_L64 n.natAbs
  unfold toldS
  obtain ⟨t, ht⟩ : ∃ t, t = tz n.natAbs := ⟨_, rfl⟩
  rw [← ht] at f1 htb hdv lq ⊢
  have f2 : Unit → t < 524288 → FC Tryz.prog g 149 [.ws .u64 (d64 n.natAbs), .val (.int .i64 (t : Int))] (· = natR (n.natAbs / 2 ^ t)) := fun _ hlt => by
    have := n_shr (G := g) n.natAbs (t : Int) h (by dsimp only [inR]; omega)
    rw [shrT_ok (by omega), Int.toNat_natCast] at this
    exact this
  obtain ⟨q, hq⟩ : ∃ q, q = n.natAbs / 2 ^ t := ⟨_, rfl⟩
  rw [← hq] at f2 hdv lq ⊢
  have hx := exact_div (n := n) (q := q) (t := t) (hdv ())
  have hqa : (sg (decide (n < 0)) q).natAbs = q := sg_abs _ _
  rw [hx]
  refine ax_i Tryz.func101 Tryz.ntmps101 ?_; intro F hG hO
  rw [← hG] at f0 f1 f2
  repeat' ((try (conv => whnf)); first
 | refine ce f0 ?_ | refine ce f1 ?_
 | (refine cg ?_; refine ce (f2 () (htb () (by omega))) ?_)
 | (with_reducible refine wrap_g (by have := htb () (by omega); dsimp only [inR]; omega) ?_)
 | with_reducible first | refine ax_s ?_ | (refine ax_f ?_ ?_ <;> try intro hc) | fail)
  · exact ⟨ret_l _ (lp_dyE 0) (by rw [if_pos (by omega)])⟩
  all_goals
    have ht5 := htb () (by omega)
    have hn0 : n ≠ 0 := by omega
  · exact ⟨ret_l _ (lp_dyE 5) (by rw [if_neg hn0, if_pos (by omega)])⟩
  · exact ⟨ret_l _ (lp_dyE 5) (by by_cases h40 : e < -1099511627776 <;> (repeat (first | rfl | rw [if_neg (by omega)] | rw [if_pos (by omega)])))⟩
  · exact ⟨ret_l _ (lp_dyE 5) (by (repeat (first | rfl | rw [if_neg (by omega)] | rw [if_pos (by omega)])))⟩
  · exact ⟨ret_l _ (lp_dyE 5) (by (repeat (first | rfl | rw [if_neg (by omega)] | rw [if_pos (by omega)])))⟩
  · refine ⟨ret_e ?_⟩
    rw [if_neg hn0, if_neg (by omega), if_neg (by omega), if_neg (by omega), if_neg (by omega), if_neg (by omega)]
    have hq0 : q ≠ 0 := fun h0 => by have := hdv (); rw [h0, Nat.zero_mul] at this; omega
    have hsg : decide (n < 0) = decide (sg (decide (n < 0)) q < 0) := by
      by_cases hn : n < 0
      · rw [decide_eq_true hn]; exact (decide_eq_true (by simp only [sg]; omega)).symm
      · rw [decide_eq_false hn]; exact (decide_eq_false (by simp only [sg]; omega)).symm
    unfold dyR DY
    rw [hqa, ← hsg]
theorem y_form {n e : Int} (h : Good n e) : FC Tryz.prog G 72 [DY n e] (· = .val (.bool true)) := by
  obtain ⟨g1, g2, g3, g4, g5⟩ := h
  have hp := len64_pos n.natAbs
  have f0 := n_nform (G := G) n g1
  have f1 := y_nought (G := G) (decide (n < 0)) (d64 n.natAbs) e
  have hr := rd64_0 n.natAbs
  have hb := rd_bd (by decide) (d64_ok n.natAbs).1 0
  refine ax_i Tryz.func72 Tryz.ntmps72 ?_; intro F hG hO
  rw [← hG] at f0 f1
  repeat' ((try (conv => whnf)); first
 | refine ce f0 ?_ | refine ce f1 ?_
 | (with_reducible refine mask_g (m := 2) 1 rfl rfl (by decide) hb ?_)
 | with_reducible first | refine ax_s ?_ | (refine ax_f ?_ ?_ <;> try intro hc) | fail)
  · exact ⟨ret_e (bv_eq (decide_eq_true (g4 (by omega))))⟩
  · exact ⟨ret_e (bv_eq (decide_eq_true (by have := g5 (by omega); omega)))⟩
theorem told_odd {n e x : Int} (h : Good n e) (h0 : n ≠ 0) (hx : -1099511627776 ≤ x) : toldS n x = if 1048576 < x then dyE 5 else if x < -1048576 then dyE 5 else dyR n x := by
  obtain ⟨g1, g2, g3, g4, g5⟩ := h
  have h1 : tz n.natAbs = 0 := tz_odd (by have := g5 h0; omega)
  have h2 := L32_L64 n.natAbs
  unfold toldS
  rw [if_neg h0, h1, Nat.pow_zero, Nat.div_one]
  by_cases h3 : 1048576 < x
  · rw [if_pos h3, if_pos h3]
  · rw [if_neg h3, if_neg h3, if_neg (by omega), if_neg (by omega)]
    by_cases h4 : x < -1048576
    · rw [if_pos (by omega), if_pos h4]
    · rw [if_neg (by omega), if_neg h4, if_neg (by omega)]; simp
theorem dyneg_eq {n e : Int} {b : Bool} (h : b = decide (-n < 0)) : PV.tup [.agg [.val (.bool b), .ws .u64 (d64 n.natAbs), .val (.int .i64 e)], .val (.int .i64 0)] = dyR (-n) e := by
  subst h; unfold dyR DY; rw [Int.natAbs_neg]
theorem y_noughtg (n e : Int) : FC Tryz.prog G 108 [DY n e] (· = .val (.bool (decide (n = 0)))) := by
  have := y_nought (G := G) (decide (n < 0)) (d64 n.natAbs) e
  have hl := len64_pos n.natAbs
  rw [show decide (((d64 n.natAbs).length : Int) = 0) = decide (n = 0) from decide_eq_decide.2 (by omega)] at this
  exact this
theorem y_twing {n e : Int} (h : Good n e) : FC Tryz.prog G 107 [DY n e] (· = DY n e) := y_twin (G := G) (decide (n < 0)) (d64 n.natAbs) e (Nat.le_trans h.1 (by decide))
theorem y_neg {n e : Int} (h : Good n e) : FC Tryz.prog G 67 [DY n e] (· = dyR (-n) e) := by
  have f1 := y_form (G := G) h
  have f2 := y_twing (G := G) h
  have f3 := y_noughtg (G := G) n e
  refine ax_i Tryz.func67 Tryz.ntmps67 ?_; intro F hG hO
  rw [← hG] at f1 f2 f3
  repeat' ((try (conv => whnf)); first
 | refine ce f1 ?_ | refine ce f2 ?_ | refine ce f3 ?_
 | with_reducible first | refine ax_s ?_ | (refine ax_f ?_ ?_ <;> try intro hc) | fail)
  all_goals first
    | exact ⟨ret_e (dyneg_eq (decide_eq_false (by omega)).symm)⟩
    | exact ⟨ret_e (dyneg_eq (decide_eq_true (by omega)).symm)⟩
    | exact ⟨ret_e (dyneg_eq (by by_cases h0 : n = 0; (rw [decide_eq_true h0, decide_eq_false (by omega)]; rfl); (rw [decide_eq_false h0, decide_eq_true (by omega)]; rfl)))⟩
theorem y_Top {n e : Int} (h : Good n e) : FC Tryz.prog G 172 [DY n e] (· = if n = 0 then .tup [.val (.int .i64 0), .val (.int .i64 4)] else .tup [.val (.int .i64 (topN n e)), .val (.int .i64 0)]) := by
  have f1 := y_form (G := G) h
  have f2 := y_top (G := G) h
  have f3 := y_noughtg (G := G) n e
  refine ax_i Tryz.func172 Tryz.ntmps172 ?_; intro F hG hO
  rw [← hG] at f1 f2 f3
  repeat' ((try (conv => whnf)); first
 | refine ce f1 ?_ | refine ce f2 ?_ | refine ce f3 ?_
 | with_reducible first | refine ax_s ?_ | (refine ax_f ?_ ?_ <;> try intro hc) | fail)
  · exact ⟨ret_e (by rw [if_pos hc])⟩
  · exact ⟨ret_e (by rw [if_neg hc])⟩
theorem y_scale {n e : Int} (k : Int) (h : Good n e) (hk : inR .i64 k) : FC Tryz.prog G 136 [DY n e, .val (.int .i64 k)] (· = scaleS n e k) := by
  have f1 := y_form (G := G) h
  have f2 := y_twing (G := G) h
  have f3 := y_noughtg (G := G) n e
  have ht := fun h0 => told_odd (x := e + k) h h0
  have e1 := h.2.1
  have e2 := h.2.2.1
  dsimp only [inR] at hk
  unfold scaleS
  refine ax_i Tryz.func136 Tryz.ntmps136 ?_; intro F hG hO
  rw [← hG] at f1 f2 f3
  repeat' ((try (conv => whnf)); first
 | refine ce f1 ?_ | refine ce f2 ?_ | refine ce f3 ?_
 | with_reducible first | refine ax_s ?_ | (refine ax_f ?_ ?_ <;> try intro hc) | fail)
  all_goals first
    | (refine ⟨ret_l _ (lp_dyE 0) ?_⟩; rw [if_pos (by omega)])
    | (refine ⟨ret_l _ (lp_dyE 5) ?_⟩; rw [if_neg (by omega), if_pos (by omega)])
    | (refine ⟨ret_l _ (lp_dyE 5) ?_⟩; rw [if_neg (by omega), if_neg (by omega), if_pos (by omega)])
    | (refine ⟨ret_l _ (lp_dyE 5) ?_⟩; rw [if_neg (by omega), if_neg (by omega), if_neg (by omega), ht (by omega) (by omega), if_pos (by omega)])
    | (refine ⟨ret_l _ (lp_dyE 5) ?_⟩; rw [if_neg (by omega), if_neg (by omega), if_neg (by omega), ht (by omega) (by omega), if_neg (by omega), if_pos (by omega)])
    | (refine ⟨ret_e ?_⟩; rw [if_neg (by omega), if_neg (by omega), if_neg (by omega), ht (by omega) (by omega), if_neg (by omega), if_neg (by omega)]; rfl)
def sizeS (n e m f : Int) : Int := if topN n e < topN m f then -1 else if topN m f < topN n e then 1 else cmpN (n.natAbs * 2 ^ (e - min e f).toNat) (m.natAbs * 2 ^ (f - min e f).toNat)
theorem sizeS_bd (n e m f : Int) : -1 ≤ sizeS n e m f ∧ sizeS n e m f ≤ 1 := by
  unfold sizeS cmpN
  by_cases h1 : topN n e < topN m f
  · rw [if_pos h1]; decide
  · rw [if_neg h1]
    by_cases h2 : topN m f < topN n e
    · rw [if_pos h2]; decide
    · rw [if_neg h2]
      by_cases h3 : n.natAbs * 2 ^ (e - min e f).toNat < m.natAbs * 2 ^ (f - min e f).toNat
      · rw [if_pos h3]; decide
      · rw [if_neg h3]
        split <;> decide
theorem y_size {n e m f : Int} (h : Good n e) (g : Good m f) (hn : n ≠ 0) (hm : m ≠ 0) : FC Tryz.prog G 156 [DY n e, DY m f] (· = .val (.int .i64 (sizeS n e m f))) := by
  have f1 := y_top (G := G) h
  have f2 := y_top (G := G) g
  have e1 := h.2.1
  have e2 := h.2.2.1
  have e3 := g.2.1
  have e4 := g.2.2.1
  have b1 := h.bl
  have b2 := g.bl
  have t1 := topN_bd h
  have t2 := topN_bd g
  have s1 := n_shl (G := G) n.natAbs (e - min e f) h.1 (by dsimp only [inR]; omega)
  have s2 := n_shl (G := G) m.natAbs (f - min e f) g.1 (by dsimp only [inR]; omega)
  have k1 := bl_mul_pow n.natAbs (e - min e f).toNat (by omega)
  have k2 := bl_mul_pow m.natAbs (f - min e f).toNat (by omega)
  unfold sizeS
  have hd1 : topN n e = e + (bl n.natAbs : Int) - 1 := rfl
  have hd2 : topN m f = f + (bl m.natAbs : Int) - 1 := rfl
  have q1 : topN n e = topN m f → shlT n.natAbs (e - min e f) = natR (n.natAbs * 2 ^ (e - min e f).toNat) ∧ L64 (n.natAbs * 2 ^ (e - min e f).toNat) ≤ 8192 := fun hh => by
    have hl : L64 (n.natAbs * 2 ^ (e - min e f).toNat) ≤ 8192 := by rw [L64_bl, k1]; omega
    exact ⟨by rw [shlT_ok (by omega) (by omega) (by omega), natT_ok hl], hl⟩
  have q2 : topN n e = topN m f → shlT m.natAbs (f - min e f) = natR (m.natAbs * 2 ^ (f - min e f).toNat) ∧ L64 (m.natAbs * 2 ^ (f - min e f).toNat) ≤ 8192 := fun hh => by
    have hl : L64 (m.natAbs * 2 ^ (f - min e f).toNat) ≤ 8192 := by rw [L64_bl, k2]; omega
    exact ⟨by rw [shlT_ok (by omega) (by omega) (by omega), natT_ok hl], hl⟩
  by_cases hq : topN n e = topN m f
  · obtain ⟨q11, q12⟩ := q1 hq
    obtain ⟨q21, q22⟩ := q2 hq
    rw [q11] at s1
    rw [q21] at s2
    have f5 := n_cmp (G := G) (n.natAbs * 2 ^ (e - min e f).toNat) (m.natAbs * 2 ^ (f - min e f).toNat) (by omega) (by omega)
    rw [if_neg (by omega), if_neg (by omega)]
    obtain ⟨x, hx⟩ : ∃ x, x = n.natAbs * 2 ^ (e - min e f).toNat := ⟨_, rfl⟩
    obtain ⟨y, hy⟩ : ∃ y, y = m.natAbs * 2 ^ (f - min e f).toNat := ⟨_, rfl⟩
    rw [← hx] at s1 f5 ⊢
    rw [← hy] at s2 f5 ⊢
    clear q1 q2 q11 q21 k1 k2 hd1 hd2 hx hy
    refine ax_i Tryz.func156 Tryz.ntmps156 ?_; intro F hG hO
    rw [← hG] at f1 f2 f5 s1 s2
    repeat' ((try (conv => whnf)); first
 | refine ce f1 ?_ | refine ce f2 ?_ | refine ce s1 ?_ | refine ce s2 ?_ | refine ce f5 ?_
 | (refine dG (id := 1) [[0, 2, 1, 3, 4, 5]] ?_)
 | with_reducible first | refine ax_s ?_ | (refine ax_f ?_ ?_ <;> try intro hc) | fail)
    exact ⟨ret_e rfl⟩
  · clear q1 q2 k1 k2 hd1 hd2
    refine ax_i Tryz.func156 Tryz.ntmps156 ?_; intro F hG hO
    rw [← hG] at f1 f2
    repeat' ((try (conv => whnf)); first
 | refine ce f1 ?_ | refine ce f2 ?_
 | (refine dG (id := 1) [[0, 2, 1, 3, 4, 5]] ?_)
 | with_reducible first | refine ax_s ?_ | (refine ax_f ?_ ?_ <;> try intro hc) | fail)
    · exact ⟨ret_e (by rw [if_pos hc])⟩
    · exact ⟨ret_e (by rw [if_neg (by omega), if_pos (by omega)])⟩
theorem sub_sign (x y : Nat) : ((x : Int) - y).sign = cmpN x y := by
  unfold cmpN
  split
  · exact Int.sign_eq_neg_one_of_neg (by omega)
  · split
    · rw [show (x : Int) - y = 0 by omega]; rfl
    · exact Int.sign_eq_one_of_pos (by omega)
theorem cmp_size {n e m f : Int} (hn : n.sign ≠ 0) (h : n.sign = m.sign) : cmpS n e m f = n.sign * sizeS n e m f := by
  unfold cmpS sizeS
  rw [if_neg (by rintro (h1 | h1); exact h1 h; exact hn h1)]
  by_cases h1 : topN n e < topN m f
  · rw [if_pos (by omega), if_pos h1, show (topN n e - topN m f).sign = -1 from Int.sign_eq_neg_one_of_neg (by omega)]
  · by_cases h2 : topN m f < topN n e
    · rw [if_pos (by omega), if_neg h1, if_pos h2, show (topN n e - topN m f).sign = 1 from Int.sign_eq_one_of_pos (by omega)]
    · rw [if_neg (by omega), if_neg h1, if_neg h2, ← sub_sign]
      have e1 := Int.sign_mul_natAbs n
      have e2 := Int.sign_mul_natAbs m
      have e3 : n * 2 ^ (e - min e f).toNat - m * 2 ^ (f - min e f).toNat = n.sign * (((n.natAbs * 2 ^ (e - min e f).toNat : Nat) : Int) - ((m.natAbs * 2 ^ (f - min e f).toNat : Nat) : Int)) := by
        conv => lhs; rw [← e1, ← e2, ← h]
        rw [Int.mul_sub, Int.natCast_mul, Int.natCast_mul, Int.mul_assoc, Int.mul_assoc]
        simp
      rw [e3, Int.sign_mul, Int.sign_sign]
theorem cmp_ne {n e m f : Int} (h : n.sign ≠ m.sign) : cmpS n e m f = (n.sign - m.sign).sign := by unfold cmpS; rw [if_pos (.inl h)]
theorem cmp_z {n e m f : Int} (h : n.sign = m.sign) (h0 : n.sign = 0) : cmpS n e m f = 0 := by unfold cmpS; rw [if_pos (.inr h0), ← h, h0]; rfl
theorem sign_z {n : Int} (h : n.sign ≠ 0) : n ≠ 0 := fun h0 => h (by rw [h0]; rfl)
theorem y_cmp {n e m f : Int} (h : Good n e) (g : Good m f) : FC Tryz.prog G 111 [DY n e, DY m f] (· = .tup [.val (.int .i64 (cmpS n e m f)), .val (.int .i64 0)]) := by
  have f1 := y_form (G := G) h
  have f2 := y_form (G := G) g
  have f3 := n_sign (G := G) n h.1
  have f4 := n_sign (G := G) m g.1
  have s1 := sign_bd n
  have s2 := sign_bd m
  have f5 : Unit → n.sign = m.sign → n.sign ≠ 0 → FC Tryz.prog G 156 [DY n e, DY m f] (· = .val (.int .i64 (sizeS n e m f))) := fun _ h1 h2 => y_size (G := G) h g (sign_z h2) (sign_z (by rw [← h1]; exact h2))
  have c1 := fun (_ : Unit) => cmp_ne (n := n) (e := e) (m := m) (f := f)
  have c2 := fun (_ : Unit) => cmp_z (n := n) (e := e) (m := m) (f := f)
  have c3 := fun (_ : Unit) => cmp_size (n := n) (e := e) (m := m) (f := f)
  have c4 := sizeS_bd n e m f
  obtain ⟨z, hz⟩ : ∃ z, z = sizeS n e m f := ⟨_, rfl⟩
  rw [← hz] at f5 c3 c4
  have c5 : Unit → -1 ≤ n.sign * z ∧ n.sign * z ≤ 1 := fun _ => by
    rcases (by omega : n.sign = -1 ∨ n.sign = 0 ∨ n.sign = 1) with h1 | h1 | h1 <;> rw [h1] <;> omega
  refine ax_i Tryz.func111 Tryz.ntmps111 ?_; intro F hG hO
  rw [← hG] at f1 f2 f3 f4 f5
  repeat' ((try (conv => whnf)); first
 | refine ce f1 ?_ | refine ce f2 ?_ | refine ce f3 ?_ | refine ce f4 ?_
 | (refine cg ?_; refine ce (f5 () (by omega) (by omega)) ?_)
 | (with_reducible refine wrap_g (by have := c5 (); dsimp only [inR]; omega) ?_)
 | (refine dG (id := 3) [[0, 1, 3, 4, 2, 5, 6, 7]] ?_)
 | with_reducible first | refine ax_s ?_ | (refine ax_f ?_ ?_ <;> try intro hc) | fail)
  · exact ⟨ret_e (by rw [c1 () (by omega), Int.sign_eq_neg_one_of_neg (by omega)])⟩
  · exact ⟨ret_e (by rw [c1 () (by omega), Int.sign_eq_one_of_pos (by omega)])⟩
  · exact ⟨ret_e (by rw [c2 () (by omega) (by omega)])⟩
  · exact ⟨ret_e (by rw [c3 () (by omega) (by omega)])⟩
theorem shlC_pos {X : Nat} {k : Int} (h : ¬ k < 0) (h0 : X ≠ 0) : shlC X k = if 524288 - (bl X : Int) < k then 5 else 0 := by unfold shlC; rw [if_neg h, if_neg h0]
theorem nshl_form (n k : Int) : ∃ r, nshlS n k = .tup [NI r, .val (.int .i64 (shlC n.natAbs k))] := by
  unfold nshlS
  split
  · rename_i h; rw [h]; exact ⟨_, rfl⟩
  · exact ⟨0, rfl⟩
theorem nshl_no {n k : Int} (h : ¬ k < 0) (h0 : n ≠ 0) (h1 : 524288 < k + (bl n.natAbs : Int)) : nshlS n k = numE 5 := by
  unfold nshlS
  have hc : shlC n.natAbs k = 5 := by rw [shlC_pos h (by omega), if_pos (by omega)]
  rw [hc, if_neg (by decide)]
theorem nshl_ok {n k : Int} (h : ¬ k < 0) (h0 : n ≠ 0) (h1 : k + (bl n.natAbs : Int) ≤ 524288) : nshlS n k = numR (n * 2 ^ k.toNat) ∧ L64 (n * 2 ^ k.toNat).natAbs ≤ 8192 := by
  unfold nshlS
  have hc : shlC n.natAbs k = 0 := by rw [shlC_pos h (by omega), if_neg (by omega)]
  rw [hc, if_pos rfl]
  refine ⟨rfl, ?_⟩
  rw [Int.natAbs_mul, Int.natAbs_pow, show Int.natAbs 2 = 2 from rfl, L64_bl, bl_mul_pow n.natAbs k.toNat (by omega)]
  omega
theorem y_add {g : Gs} (hD : (0, debT.map (Value.int .u8)) ∈ g) {n e m f : Int} (h : Good n e) (k : Good m f) : FC Tryz.prog g 69 [DY n e, DY m f] (· = addS n e m f) := by
  have f1 := y_form (G := g) h
  have f2 := y_form (G := g) k
  have f3 := y_noughtg (G := g) n e
  have f4 := y_noughtg (G := g) m f
  have f5 := y_twing (G := g) h
  have f6 := y_twing (G := g) k
  have e1 := h.2.1
  have e2 := h.2.2.1
  have e3 := k.2.1
  have e4 := k.2.2.1
  have s1 := n_nshl (G := g) n (e - min e f) h.1 (by dsimp only [inR]; omega)
  have s2 := n_nshl (G := g) m (f - min e f) k.1 (by dsimp only [inR]; omega)
  have hd1 : topN n e = e + (bl n.natAbs : Int) - 1 := rfl
  have hd2 : topN m f = f + (bl m.natAbs : Int) - 1 := rfl
  unfold addS
  by_cases hn : n = 0
  · rw [if_pos hn]
    clear s1 s2 hd1 hd2
    refine ax_i Tryz.func69 Tryz.ntmps69 ?_; intro F hG hO
    rw [← hG] at f1 f2 f3 f6
    repeat' ((try (conv => whnf)); first
 | refine ce f1 ?_ | refine ce f2 ?_ | refine ce f3 ?_ | refine ce f6 ?_
 | with_reducible first | refine ax_s ?_ | (refine ax_f ?_ ?_ <;> try intro hc) | fail)
    exact ⟨ret_e rfl⟩
  rw [if_neg hn]
  by_cases hm : m = 0
  · rw [if_pos hm]
    clear s1 s2 hd1 hd2
    refine ax_i Tryz.func69 Tryz.ntmps69 ?_; intro F hG hO
    rw [← hG] at f1 f2 f3 f4 f5
    repeat' ((try (conv => whnf)); first
 | refine ce f1 ?_ | refine ce f2 ?_ | refine ce f3 ?_ | refine ce f4 ?_ | refine ce f5 ?_
 | with_reducible first | refine ax_s ?_ | (refine ax_f ?_ ?_ <;> try intro hc) | fail)
    exact ⟨ret_e rfl⟩
  rw [if_neg hm]
  by_cases hA : 524288 < (e - min e f) + (bl n.natAbs : Int)
  · rw [if_pos (.inl (by omega))]
    rw [nshl_no (by omega) hn hA] at s1
    obtain ⟨r2, hr2⟩ := nshl_form m (f - min e f)
    rw [hr2] at s2
    obtain ⟨c2, hc2⟩ : ∃ c, c = shlC m.natAbs (f - min e f) := ⟨_, rfl⟩
    rw [← hc2] at s2
    clear hd1 hd2 hr2 hc2
    refine ax_i Tryz.func69 Tryz.ntmps69 ?_; intro F hG hO
    rw [← hG] at f1 f2 f3 f4 s1 s2
    repeat' ((try (conv => whnf)); first
 | refine ce f1 ?_ | refine ce f2 ?_ | refine ce f3 ?_ | refine ce f4 ?_ | refine ce s1 ?_ | refine ce s2 ?_
 | with_reducible first | refine ax_s ?_ | (refine ax_f ?_ ?_ <;> try intro hc) | fail)
    exact ⟨ret_l _ (lp_dyE 5) rfl⟩
  obtain ⟨q1, l1⟩ := nshl_ok (n := n) (k := e - min e f) (by omega) hn (by omega)
  rw [q1] at s1
  by_cases hB : 524288 < (f - min e f) + (bl m.natAbs : Int)
  · rw [if_pos (.inr (by omega))]
    rw [nshl_no (by omega) hm hB] at s2
    obtain ⟨x, hx⟩ : ∃ x, x = n * 2 ^ (e - min e f).toNat := ⟨_, rfl⟩
    rw [← hx] at s1
    clear hd1 hd2
    refine ax_i Tryz.func69 Tryz.ntmps69 ?_; intro F hG hO
    rw [← hG] at f1 f2 f3 f4 s1 s2
    repeat' ((try (conv => whnf)); first
 | refine ce f1 ?_ | refine ce f2 ?_ | refine ce f3 ?_ | refine ce f4 ?_ | refine ce s1 ?_ | refine ce s2 ?_
 | with_reducible first | refine ax_s ?_ | (refine ax_f ?_ ?_ <;> try intro hc) | fail)
    exact ⟨ret_l _ (lp_dyE 5) rfl⟩
  obtain ⟨q2, l2⟩ := nshl_ok (n := m) (k := f - min e f) (by omega) hm (by omega)
  rw [q2] at s2
  rw [if_neg (by omega)]
  have s3 := n_nadd (G := g) _ _ l1 l2
  obtain ⟨x, hx⟩ : ∃ x, x = n * 2 ^ (e - min e f).toNat := ⟨_, rfl⟩
  obtain ⟨y, hy⟩ : ∃ y, y = m * 2 ^ (f - min e f).toNat := ⟨_, rfl⟩
  rw [← hx] at s1 s3 ⊢
  rw [← hy] at s2 s3 ⊢
  clear hx hy q1 q2 l1 l2 hd1 hd2
  obtain ⟨s, hs⟩ : ∃ s, s = x + y := ⟨_, rfl⟩
  unfold naddS at s3
  rw [← hs] at s3 ⊢
  have hL := L64_bl s.natAbs
  by_cases hC : 8192 < L64 s.natAbs
  · rw [if_pos (by omega)]
    rw [if_pos hC] at s3
    refine ax_i Tryz.func69 Tryz.ntmps69 ?_; intro F hG hO
    rw [← hG] at f1 f2 f3 f4 s1 s2 s3
    repeat' ((try (conv => whnf)); first
 | refine ce f1 ?_ | refine ce f2 ?_ | refine ce f3 ?_ | refine ce f4 ?_ | refine ce s1 ?_ | refine ce s2 ?_ | refine ce s3 ?_
 | with_reducible first | refine ax_s ?_ | (refine ax_f ?_ ?_ <;> try intro hc) | fail)
    exact ⟨ret_l _ (lp_dyE 5) rfl⟩
  · rw [if_neg (by omega)]
    rw [if_neg hC] at s3
    have s4 := y_make hD s (min e f) (by omega) (by dsimp only [inR]; omega)
    obtain ⟨u, v, c, hr, hgd, hcc⟩ := told_form s (min e f)
    rw [hr] at s4 ⊢
    refine ax_i Tryz.func69 Tryz.ntmps69 ?_; intro F hG hO
    rw [← hG] at f1 f2 f3 f4 s1 s2 s3 s4
    repeat' ((try (conv => whnf)); first
 | refine ce f1 ?_ | refine ce f2 ?_ | refine ce f3 ?_ | refine ce f4 ?_ | refine ce s1 ?_ | refine ce s2 ?_ | refine ce s3 ?_ | refine ce s4 ?_
 | with_reducible first | refine ax_s ?_ | (refine ax_f ?_ ?_ <;> try intro hc) | fail)
    exact ⟨ret_e rfl⟩
theorem y_sub {g : Gs} (hD : (0, debT.map (Value.int .u8)) ∈ g) {n e m f : Int} (h : Good n e) (k : Good m f) : FC Tryz.prog g 68 [DY n e, DY m f] (· = addS n e (-m) f) := by
  have f1 := y_add hD h k.neg
  obtain ⟨x, y, c, hr, hgd, hcc⟩ := add_form h k.neg
  rw [hr] at f1 ⊢
  have f2 := y_neg (G := g) k
  refine ax_i Tryz.func68 Tryz.ntmps68 ?_; intro F hG hO
  rw [← hG] at f1 f2
  repeat' ((try (conv => whnf)); first
 | refine ce f1 ?_ | refine ce f2 ?_
 | with_reducible first | refine ax_s ?_ | (refine ax_f ?_ ?_ <;> try intro hc) | fail)
  exact ⟨ret_e rfl⟩
theorem ediv_abs (n P : Int) (hP : 0 < P) : (n / P).natAbs ≤ n.natAbs := by
  obtain ⟨q, hq⟩ : ∃ q, q = n / P := ⟨_, rfl⟩
  have h1 := Int.mul_ediv_add_emod n P
  have h2 := Int.emod_nonneg n (show P ≠ 0 by omega)
  have h3 := Int.emod_lt_of_pos n hP
  rw [← hq] at h1 ⊢
  rcases Int.lt_or_le q 0 with h | h
  · have h4 : 0 ≤ (P - 1) * (-1 - q) := Int.mul_nonneg (by omega) (by omega)
    have h5 : (P - 1) * (-1 - q) = -P - P * q + 1 + q := by
      rw [Int.sub_mul, Int.mul_sub, Int.one_mul]; omega
    omega
  · have h4 : 0 ≤ (P - 1) * q := Int.mul_nonneg (by omega) h
    have h5 : (P - 1) * q = P * q - q := by rw [Int.sub_mul, Int.one_mul]
    omega
theorem wholeS_abs (n k : Int) (up : Bool) : (wholeS n k up).natAbs ≤ n.natAbs := by
  have hP : (0 : Int) < 2 ^ k.toNat := Int.pow_pos (by decide)
  cases up
  · exact ediv_abs n _ hP
  · show (-((-n) / 2 ^ k.toNat)).natAbs ≤ _
    have := ediv_abs (-n) _ hP
    rw [Int.natAbs_neg] at this ⊢
    exact this
theorem wholeS_L64 (n k : Int) (up : Bool) (h : L64 n.natAbs ≤ 8192) : L64 (wholeS n k up).natAbs ≤ 8192 := Nat.le_trans (lenB_mono (by decide) (wholeS_abs n k up)) h
theorem y_cut {g : Gs} (hD : (0, debT.map (Value.int .u8)) ∈ g) (n k : Int) (up : Bool) (h : L64 n.natAbs ≤ 8192) (hk : inR .i64 k) (hk0 : 0 ≤ k) : FC Tryz.prog g 182 [NI n, .val (.int .i64 k), .val (.bool up)] (· = NI (wholeS n k up)) := by
  cases up
  · have f1 := n_floorshr hD n k h hk hk0
    refine ax_i Tryz.func182 Tryz.ntmps182 ?_; intro F hG hO
    rw [← hG] at f1
    repeat' ((try (conv => whnf)); first
 | refine ce f1 ?_
 | with_reducible first | refine ax_s ?_ | (refine ax_f ?_ ?_ <;> try intro hc) | fail)
    exact ⟨ret_e rfl⟩
  · have f1 := n_ceilshr hD n k h hk hk0
    refine ax_i Tryz.func182 Tryz.ntmps182 ?_; intro F hG hO
    rw [← hG] at f1
    repeat' ((try (conv => whnf)); first
 | refine ce f1 ?_
 | with_reducible first | refine ax_s ?_ | (refine ax_f ?_ ?_ <;> try intro hc) | fail)
    exact ⟨ret_e rfl⟩
theorem y_short {g : Gs} (hD : (0, debT.map (Value.int .u8)) ∈ g) (n e p : Int) (up : Bool) (h : L64 n.natAbs ≤ 8192) (he : -1099511627776 ≤ e ∧ e ≤ 1099511627776) (hp : 0 ≤ p ∧ p ≤ 1099511627776) : FC Tryz.prog g 144 [NI n, .val (.int .i64 e), .val (.int .i64 p), .val (.bool up)] (· = cutS n e p up) := by
  have hb := bl_L64 n.natAbs
  have f0 := n_bits (G := g) n.natAbs (by omega)
  unfold cutS
  have hw := wholeS_L64 n ((bl n.natAbs : Int) - p) up h
  have f3 := fun hk => y_cut hD n ((bl n.natAbs : Int) - p) up h (by dsimp only [inR]; omega) hk
  obtain ⟨b, hbb⟩ : ∃ b, b = bl n.natAbs := ⟨_, rfl⟩
  rw [← hbb] at hb f0 hw f3 ⊢
  have f1 := y_make hD n e h (by dsimp only [inR]; omega)
  have f2 := y_make hD (wholeS n ((b : Int) - p) up) (e + ((b : Int) - p)) hw (by dsimp only [inR]; omega)
  obtain ⟨x, y, c, hr, hgd, hcc⟩ := told_form n e
  obtain ⟨x2, y2, c2, hr2, hgd2, hcc2⟩ := told_form (wholeS n ((b : Int) - p) up) (e + ((b : Int) - p))
  rw [hr] at f1 ⊢
  rw [hr2] at f2 ⊢
  obtain ⟨v, hv⟩ : ∃ v, v = wholeS n ((b : Int) - p) up := ⟨_, rfl⟩
  rw [← hv] at f2 f3
  refine ax_i Tryz.func144 Tryz.ntmps144 ?_; intro F hG hO
  rw [← hG] at f0 f1 f2 f3
  repeat' ((try (conv => whnf)); first
 | refine ce f0 ?_ | refine ce f1 ?_
 | (refine cg ?_; refine ce (f3 (by omega)) ?_)
 | refine ce f2 ?_
 | with_reducible first | refine ax_s ?_ | (refine ax_f ?_ ?_ <;> try intro hc) | fail)
  · exact ⟨ret_e (by rw [if_pos (by omega)]; rfl)⟩
  · exact ⟨ret_e (by rw [if_neg (by omega)]; rfl)⟩
theorem y_precise (p : Int) : FC Tryz.prog G 138 [.val (.int .i64 p)] (· = .val (.bool (decide (1 ≤ p) && decide (p ≤ 70000)))) := by
  refine ax_i Tryz.func138 Tryz.ntmps138 ?_; intro F hG hO
  repeat' ((try (conv => whnf)); first
 | with_reducible first | refine ax_s ?_ | (refine ax_f ?_ ?_ <;> try intro hc) | fail)
  · exact ⟨ret_e (bv_eq (by rw [decide_eq_true hc]; rfl))⟩
  · exact ⟨ret_e (bv_eq (by rw [decide_eq_false hc]; rfl))⟩
theorem y_next {g : Gs} (hD : (0, debT.map (Value.int .u8)) ∈ g) {n e : Int} (p : Int) (up : Bool) (h : Good n e) : FC Tryz.prog g 145 [DY n e, .val (.int .i64 p), .val (.bool up)] (· = cutsS n e p up) := by
  have e1 := h.2.1
  have e2 := h.2.2.1
  have f0 := y_precise (G := g) p
  have f1 := y_form (G := g) h
  unfold cutsS
  by_cases hp : 1 ≤ p ∧ p ≤ 70000
  · rw [if_neg (by omega), if_neg (by omega)]
    rw [decide_eq_true hp.1, decide_eq_true hp.2] at f0
    have f2 := y_short hD n e p up h.1 (by omega) (by omega)
    obtain ⟨x, y, c, hr, hgd⟩ := cut_form n e p up
    rw [hr] at f2 ⊢
    refine ax_i Tryz.func145 Tryz.ntmps145 ?_; intro F hG hO
    rw [← hG] at f0 f1 f2
    repeat' ((try (conv => whnf)); first
 | refine ce f0 ?_ | refine ce f1 ?_ | refine ce f2 ?_
 | with_reducible first | refine ax_s ?_ | (refine ax_f ?_ ?_ <;> try intro hc) | fail)
    exact ⟨ret_e rfl⟩
  · have hb : (decide (1 ≤ p) && decide (p ≤ 70000)) = false := by
      by_cases h1 : 1 ≤ p
      · rw [decide_eq_false (show ¬ p ≤ 70000 by omega)]; simp
      · rw [decide_eq_false h1]; rfl
    rw [hb] at f0
    refine ax_i Tryz.func145 Tryz.ntmps145 ?_; intro F hG hO
    rw [← hG] at f0
    repeat' ((try (conv => whnf)); first
 | refine ce f0 ?_
 | with_reducible first | refine ax_s ?_ | (refine ax_f ?_ ?_ <;> try intro hc) | fail)
    refine ⟨ret_l _ (lp_dyE 1) ?_⟩
    by_cases h1 : p < 1
    · rw [if_pos h1]
    · rw [if_neg h1, if_pos (by omega)]
theorem y_down {g : Gs} (hD : (0, debT.map (Value.int .u8)) ∈ g) {n e : Int} (p : Int) (h : Good n e) : FC Tryz.prog g 97 [DY n e, .val (.int .i64 p)] (· = cutsS n e p false) := by
  obtain ⟨x, y, c, hr, hgd⟩ := cuts_form n e p false
  have f1 := y_next hD p false h
  rw [hr] at f1 ⊢
  refine ax_i Tryz.func97 Tryz.ntmps97 ?_; intro F hG hO
  rw [← hG] at f1
  repeat' ((try (conv => whnf)); first
 | refine ce f1 ?_
 | with_reducible first | refine ax_s ?_ | (refine ax_f ?_ ?_ <;> try intro hc) | fail)
  exact ⟨ret_e rfl⟩
theorem y_up {g : Gs} (hD : (0, debT.map (Value.int .u8)) ∈ g) {n e : Int} (p : Int) (h : Good n e) : FC Tryz.prog g 98 [DY n e, .val (.int .i64 p)] (· = cutsS n e p true) := by
  obtain ⟨x, y, c, hr, hgd⟩ := cuts_form n e p true
  have f1 := y_next hD p true h
  rw [hr] at f1 ⊢
  refine ax_i Tryz.func98 Tryz.ntmps98 ?_; intro F hG hO
  rw [← hG] at f1
  repeat' ((try (conv => whnf)); first
 | refine ce f1 ?_
 | with_reducible first | refine ax_s ?_ | (refine ax_f ?_ ?_ <;> try intro hc) | fail)
  exact ⟨ret_e rfl⟩
def niF (b : Bool) (l : List Int) : Bool := formL l && !(b && decide (l.length = 0))
theorem n_nformX (b : Bool) (l : List Int) : FC Tryz.prog G 113 [.agg [.val (.bool b), .ws .u64 l]] (· = .val (.bool (niF b l))) := by
  have f1 := n_form (G := G) l
  unfold niF
  obtain ⟨x, hx⟩ : ∃ x, x = formL l := ⟨_, rfl⟩
  rw [← hx] at f1 ⊢
  clear hx
  cases x
  · refine ax_i Tryz.func113 Tryz.ntmps113 ?_; intro F hG hO
    rw [← hG] at f1
    repeat' ((try (conv => whnf)); first
 | refine ce f1 ?_
 | with_reducible first | refine ax_s ?_ | (refine ax_f ?_ ?_ <;> try intro hc) | fail)
    exact ⟨ret_e rfl⟩
  · cases b
    · refine ax_i Tryz.func113 Tryz.ntmps113 ?_; intro F hG hO
      rw [← hG] at f1
      repeat' ((try (conv => whnf)); first
 | refine ce f1 ?_
 | with_reducible first | refine ax_s ?_ | (refine ax_f ?_ ?_ <;> try intro hc) | fail)
      all_goals exact ⟨ret_e rfl⟩
    · refine ax_i Tryz.func113 Tryz.ntmps113 ?_; intro F hG hO
      rw [← hG] at f1
      repeat' ((try (conv => whnf)); first
 | refine ce f1 ?_
 | with_reducible first | refine ax_s ?_ | (refine ax_f ?_ ?_ <;> try intro hc) | fail)
      all_goals first
        | exact ⟨ret_e (bv_eq (by rw [decide_eq_true (show l.length = 0 by omega)]; rfl))⟩
        | exact ⟨ret_e (bv_eq (by rw [decide_eq_false (show ¬ l.length = 0 by omega)]; rfl))⟩
        | exact ⟨ret_e (bv_eq (by by_cases h : l.length = 0 <;> simp [h]))⟩
        | exact ⟨ret_e (bv_eq (by by_cases h : l.length = 0; (simp [h]); (rw [decide_eq_false h, decide_eq_true (show (0 : Int) < (l.length : Int) by omega)]; rfl)))⟩
theorem y_formX (b : Bool) (l : List Int) (e : Int) (ok : okD 18446744073709551616 l) : FC Tryz.prog G 72 [Dy b l e] (· = .val (.bool (dyF b l e))) := by
  have f0 := n_nformX (G := G) b l
  have f1 := y_nought (G := G) b l e
  have hb := rd_bd (by decide) ok 0
  have hd : dyF b l e = (niF b l && decide (-1048576 ≤ e) && decide (e ≤ 1048576) && (if l.length = 0 then decide (e = 0) else decide (rd l 0 % 2 = 1))) := by
    unfold dyF niF
    by_cases h0 : l.length = 0
    · rw [if_pos h0, if_pos h0, decide_eq_true h0, Bool.and_true]
      cases formL l <;> cases b <;> cases decide (-1048576 ≤ e) <;> cases decide (e ≤ 1048576) <;> rfl
    · rw [if_neg h0, if_neg h0, decide_eq_false h0, Bool.and_false, Bool.not_false, Bool.and_true]
  rw [hd]
  obtain ⟨x, hx⟩ : ∃ x, x = niF b l := ⟨_, rfl⟩
  rw [← hx] at f0 ⊢
  clear hx hd
  cases x
  · refine ax_i Tryz.func72 Tryz.ntmps72 ?_; intro F hG hO
    rw [← hG] at f0
    repeat' ((try (conv => whnf)); first
 | refine ce f0 ?_
 | with_reducible first | refine ax_s ?_ | (refine ax_f ?_ ?_ <;> try intro hc) | fail)
    exact ⟨ret_e rfl⟩
  refine ax_i Tryz.func72 Tryz.ntmps72 ?_; intro F hG hO
  rw [← hG] at f0 f1
  repeat' ((try (conv => whnf)); first
 | refine ce f0 ?_ | refine ce f1 ?_
 | (with_reducible refine mask_g (m := 2) 1 rfl rfl (by decide) hb ?_)
 | with_reducible first | refine ax_s ?_ | (refine ax_f ?_ ?_ <;> try intro hc) | fail)
  all_goals (refine ⟨ret_e (bv_eq ?_)⟩)
  all_goals first
    | (rw [decide_eq_false (show ¬ -1048576 ≤ e by omega)]; rfl)
    | (rw [decide_eq_true (show -1048576 ≤ e by omega), decide_eq_false (show ¬ e ≤ 1048576 by omega)]; rfl)
    | (rw [decide_eq_true (show -1048576 ≤ e by omega), decide_eq_true (show e ≤ 1048576 by omega), if_pos (show l.length = 0 by omega)]; rfl)
    | (rw [decide_eq_true (show -1048576 ≤ e by omega), decide_eq_true (show e ≤ 1048576 by omega), if_neg (show ¬ l.length = 0 by omega)]; rfl)
theorem y_formN (b : Bool) (l : List Int) (e : Int) (ok : okD 18446744073709551616 l) (h : dyF b l e = false) : FC Tryz.prog G 72 [Dy b l e] (· = .val (.bool false)) := by
  have := y_formX (G := G) b l e ok
  rw [h] at this
  exact this
theorem r_formN (b : Bool) (l : List Int) (e : Int) (ok : okD 18446744073709551616 l) (h : dyF b l e = false) : FC Tryz.prog G 64 [Dy b l e] (· = .val (.bool false)) := by
  have := r_docform (G := G) b l e (rd_bd (by decide) ok 0)
  rw [h] at this
  exact this
def VV (n e : Int) : Int := n * 2 ^ (e + 1048576).toNat
theorem p2_pos (k : Nat) : (0 : Int) < 2 ^ k := Int.pow_pos (by decide)
theorem VV_low {n e k : Int} (h : -1048576 ≤ k) (hk : k ≤ e) : VV n e = VV (n * 2 ^ (e - k).toNat) k := by
  unfold VV
  rw [Int.mul_assoc, ← Int.pow_add, show (e - k).toNat + (k + 1048576).toNat = (e + 1048576).toNat by omega]
theorem VV_inj {a b k : Int} (h : VV a k = VV b k) : a = b := by
  unfold VV at h
  exact Int.eq_of_mul_eq_mul_right (by have := p2_pos (k + 1048576).toNat; omega) h
theorem VV_add (a b k : Int) : VV (a + b) k = VV a k + VV b k := by unfold VV; exact Int.add_mul _ _ _
theorem VV_neg (a k : Int) : VV (-a) k = -VV a k := by unfold VV; exact Int.neg_mul _ _
theorem VV_zero (k : Int) : VV 0 k = 0 := by unfold VV; exact Int.zero_mul _
theorem VV_le {a b k : Int} : VV a k ≤ VV b k ↔ a ≤ b := by
  unfold VV
  have h := p2_pos (k + 1048576).toNat
  exact ⟨fun hh => Int.le_of_mul_le_mul_right hh h, fun hh => Int.mul_le_mul_of_nonneg_right hh (by omega)⟩
theorem low_exp {s k z w : Int} (hk : -1048576 ≤ k) (g : Good z w) (h0 : z ≠ 0) (h : VV z w = VV s k) : k ≤ w ∧ s = z * 2 ^ (w - k).toNat := by
  have h1 : k ≤ w := by
    rcases Int.lt_or_le w k with h2 | h2
    · exfalso
      rw [VV_low (n := s) g.2.1 (by omega)] at h
      have h3 := VV_inj h
      rw [show (k - w).toNat = (k - w).toNat - 1 + 1 by omega, Int.pow_succ, ← Int.mul_assoc] at h3
      have := g.2.2.2.2 h0
      omega
    · exact h2
  rw [VV_low hk h1] at h
  exact ⟨h1, (VV_inj h).symm⟩
theorem told_eq {s k z w : Int} (hk : -1048576 ≤ k) (g : Good z w) (h : VV z w = VV s k) : toldS s k = dyR z w := by
  by_cases h0 : z = 0
  · subst h0
    rw [VV_zero, ← VV_zero k] at h
    rw [← VV_inj h, g.2.2.2.1 rfl]
    rfl
  · obtain ⟨h1, h2⟩ := low_exp hk g h0 h
    have ho := g.2.2.2.2 h0
    have ha : s.natAbs = z.natAbs * 2 ^ (w - k).toNat := by rw [h2, Int.natAbs_mul, Int.natAbs_pow]; rfl
    have ht : tz s.natAbs = (w - k).toNat := tz_eq ha (by omega)
    have hs0 : s ≠ 0 := by
      intro h3
      rw [h3] at ha
      have : z.natAbs * 2 ^ (w - k).toNat ≠ 0 := Nat.mul_ne_zero (by omega) (Nat.pos_iff_ne_zero.1 (Nat.pow_pos (by decide)))
      omega
    have hq : s.natAbs / 2 ^ (w - k).toNat = z.natAbs := by rw [ha]; exact Nat.mul_div_cancel _ (Nat.pow_pos (by decide))
    have hd : s / 2 ^ (w - k).toNat = z := by rw [h2]; exact Int.mul_ediv_cancel _ (by have := p2_pos (w - k).toNat; omega)
    have hl := L32_L64 z.natAbs
    have g1 := g.1
    have g2 := g.2.1
    have g3 := g.2.2.1
    unfold toldS
    rw [if_neg hs0, ht, hq, hd, if_neg (by omega), if_neg (by omega), if_neg (by omega), if_neg (by omega), if_neg (by omega), show k + (((w - k).toNat : Nat) : Int) = w by omega]
theorem DY_inj {n e m f : Int} (h : DY n e = DY m f) : n = m ∧ e = f := by
  unfold DY at h
  simp only [PV.agg.injEq, List.cons.injEq, PV.val.injEq, Value.bool.injEq, PV.ws.injEq, Value.int.injEq, true_and, and_true] at h
  obtain ⟨h1, h2, h3⟩ := h
  have h4 : n.natAbs = m.natAbs := by rw [← vl_d64 n.natAbs, ← vl_d64 m.natAbs, h2]
  refine ⟨?_, h3⟩
  by_cases hn : n < 0
  · rw [decide_eq_true hn] at h1
    have := of_decide_eq_true h1.symm
    omega
  · rw [decide_eq_false hn] at h1
    have := of_decide_eq_false h1.symm
    omega
theorem dyR_inj {n e m f : Int} (h : dyR n e = dyR m f) : n = m ∧ e = f := by
  unfold dyR at h
  simp only [PV.tup.injEq, List.cons.injEq, and_true] at h
  exact DY_inj h
theorem good_eq {n e m f : Int} (h : Good n e) (g : Good m f) (hV : VV n e = VV m f) : n = m ∧ e = f := dyR_inj ((told_good h).symm.trans (told_eq h.2.1 g hV.symm))
theorem bl_lo {n : Nat} (h : n ≠ 0) : 2 ^ (bl n - 1) ≤ n := by
  rcases Nat.lt_or_ge n (2 ^ (bl n - 1)) with h1 | h1
  · have := bl_le h1
    have := bl_pos h
    omega
  · exact h1
theorem VV_abs (n e : Int) : (VV n e).natAbs = n.natAbs * 2 ^ (e + 1048576).toNat := by unfold VV; rw [Int.natAbs_mul, Int.natAbs_pow]; rfl
theorem VV_top {n e m f : Int} (h : Good n e) (g : Good m f) (hm : m ≠ 0) (ht : topN n e < topN m f) : (VV n e).natAbs < (VV m f).natAbs := by
  rw [VV_abs, VV_abs]
  have e1 := h.2.1
  have e2 := g.2.1
  have h1 := lt_bl n.natAbs
  have h2 := bl_lo (n := m.natAbs) (by omega)
  have h3 := bl_pos (n := m.natAbs) (by omega)
  unfold topN at ht
  have h4 : n.natAbs * 2 ^ (e + 1048576).toNat < 2 ^ (bl n.natAbs) * 2 ^ (e + 1048576).toNat := Nat.mul_lt_mul_of_pos_right h1 (Nat.pow_pos (by decide))
  have h5 : 2 ^ (bl m.natAbs - 1) * 2 ^ (f + 1048576).toNat ≤ m.natAbs * 2 ^ (f + 1048576).toNat := Nat.mul_le_mul_right _ h2
  rw [← Nat.pow_add] at h4 h5
  have h6 : 2 ^ (bl n.natAbs + (e + 1048576).toNat) ≤ 2 ^ (bl m.natAbs - 1 + (f + 1048576).toNat) := Nat.pow_le_pow_right (by decide) (by omega)
  omega
theorem VV_pos {n e : Int} (h : 0 < n) : 0 < VV n e := Int.mul_pos h (p2_pos _)
theorem VV_negs {n e : Int} (h : n < 0) : VV n e < 0 := by
  have := VV_pos (n := -n) (e := e) (by omega)
  rw [VV_neg] at this
  omega
theorem cmp_le {n e m f : Int} (h : Good n e) (g : Good m f) (hV : VV n e ≤ VV m f) : cmpS n e m f ≤ 0 := by
  unfold cmpS
  rcases Int.lt_trichotomy n 0 with hn | hn | hn <;> rcases Int.lt_trichotomy m 0 with hm | hm | hm
  · rw [Int.sign_eq_neg_one_of_neg hn, Int.sign_eq_neg_one_of_neg hm, if_neg (by decide)]
    split
    · have : ¬ topN n e < topN m f := fun ht => by
        have := VV_top h g (by omega) ht
        have := VV_negs (e := e) hn
        have := VV_negs (e := f) hm
        omega
      rw [Int.sign_eq_one_of_pos (by omega)]; decide
    · rw [VV_low (n := n) (k := min e f) (by have := h.2.1; have := g.2.1; omega) (by omega), VV_low (n := m) (k := min e f) (by have := h.2.1; have := g.2.1; omega) (by omega), VV_le] at hV
      rcases Int.lt_or_le (n * 2 ^ (e - min e f).toNat - m * 2 ^ (f - min e f).toNat) 0 with hx | hx
      · rw [Int.sign_eq_neg_one_of_neg hx]; decide
      · rw [show n * 2 ^ (e - min e f).toNat - m * 2 ^ (f - min e f).toNat = 0 by omega]; decide
  · rw [hm, Int.sign_eq_neg_one_of_neg hn, if_pos (.inl (by decide))]; decide
  · rw [Int.sign_eq_neg_one_of_neg hn, Int.sign_eq_one_of_pos hm, if_pos (.inl (by decide))]; decide
  · exfalso; rw [hn, VV_zero] at hV; have := VV_negs (e := f) hm; omega
  · rw [hn, hm, if_pos (.inr (by decide))]; decide
  · rw [hn, Int.sign_eq_one_of_pos hm, if_pos (.inr (by decide))]; decide
  · exfalso; have := VV_negs (e := f) hm; have := VV_pos (e := e) hn; omega
  · exfalso; rw [hm, VV_zero] at hV; have := VV_pos (e := e) hn; omega
  · rw [Int.sign_eq_one_of_pos hn, Int.sign_eq_one_of_pos hm, if_neg (by decide)]
    split
    · have : ¬ topN m f < topN n e := fun ht => by
        have := VV_top g h (by omega) ht
        have := VV_pos (e := e) hn
        have := VV_pos (e := f) hm
        omega
      rw [Int.sign_eq_neg_one_of_neg (by omega)]; decide
    · rw [VV_low (n := n) (k := min e f) (by have := h.2.1; have := g.2.1; omega) (by omega), VV_low (n := m) (k := min e f) (by have := h.2.1; have := g.2.1; omega) (by omega), VV_le] at hV
      rcases Int.lt_or_le (n * 2 ^ (e - min e f).toNat - m * 2 ^ (f - min e f).toNat) 0 with hx | hx
      · rw [Int.sign_eq_neg_one_of_neg hx]; decide
      · rw [show n * 2 ^ (e - min e f).toNat - m * 2 ^ (f - min e f).toNat = 0 by omega]; decide
theorem Good.one {k : Int} (h1 : -1048576 ≤ k) (h2 : k ≤ 1048576) : Good 1 k := ⟨Nat.le_trans (L64_le (n := 1) (by decide)) (by decide), h1, h2, fun h => by omega, fun _ => rfl⟩
theorem odd_bl {x : Int} {m : Nat} (hx : x % 2 = 1) (hm : 1 ≤ m) (h : x.natAbs ≤ 2 ^ m) : bl x.natAbs ≤ m := by
  refine bl_le ?_
  have : 2 ^ m = 2 * 2 ^ (m - 1) := by rw [Nat.mul_comm, ← Nat.pow_succ]; congr 1; omega
  omega
theorem cuts_same {n e p : Int} (up : Bool) (h : Good n e) (hp : 1 ≤ p ∧ p ≤ 70000) (hb : (bl n.natAbs : Int) ≤ p) : cutsS n e p up = dyR n e := by
  unfold cutsS cutS
  rw [if_neg (by omega), if_neg (by omega), if_pos (by omega)]
  exact told_good h
theorem cuts_down {n e p : Int} (hp : 1 ≤ p ∧ p ≤ 70000) (hb : p < (bl n.natAbs : Int)) : cutsS n e p false = toldS (n / 2 ^ ((bl n.natAbs : Int) - p).toNat) (e + ((bl n.natAbs : Int) - p)) := by
  unfold cutsS cutS wholeS
  rw [if_neg (by omega), if_neg (by omega), if_neg (by omega)]
theorem mul_parts (x0 x1 y0 y1 : Int) : (4294967296 * x1 + x0) * (4294967296 * y1 + y0) = 18446744073709551616 * (x1 * y1) + 4294967296 * (x1 * y0) + 4294967296 * (x0 * y1) + x0 * y0 := by
  rw [Int.add_mul, Int.mul_add, Int.mul_add, Int.mul_assoc 4294967296 x1 (4294967296 * y1), Int.mul_left_comm x1 4294967296 y1, Int.mul_assoc 4294967296 x1 y0, Int.mul_left_comm x0 4294967296 y1]
  omega
theorem tup2_eq {k j : IntKind} {a b c d : Int} (h1 : a = c) (h2 : b = d) : PV.tup [.val (.int k a), .val (.int j b)] = .tup [.val (.int k c), .val (.int j d)] := by rw [h1, h2]
theorem one_row {i : Nat} (h : i < 1) : [0][i]? = some i := by
  have : i = 0 := by omega
  subst this; rfl
theorem mul_split (x y : Int) : x * y = 18446744073709551616 * (x / 4294967296 * (y / 4294967296)) + 4294967296 * (x / 4294967296 * (y % 4294967296)) + 4294967296 * (x % 4294967296 * (y / 4294967296)) + x % 4294967296 * (y % 4294967296) := by
  rw [← mul_parts, Int.mul_ediv_add_emod, Int.mul_ediv_add_emod]
theorem mul_bd32 {x y : Int} (hx : 0 ≤ x ∧ x < 4294967296) (hy : 0 ≤ y ∧ y < 4294967296) : 0 ≤ x * y ∧ x * y ≤ 18446744065119617025 := by
  refine ⟨Int.mul_nonneg hx.1 hy.1, ?_⟩
  have h1 : x * y ≤ 4294967295 * y := Int.mul_le_mul_of_nonneg_right (by omega) hy.1
  omega
theorem b_mul (x y : Int) (hx : 0 ≤ x ∧ x < 18446744073709551616) (hy : 0 ≤ y ∧ y < 18446744073709551616) : FC Tryz.prog G 213 [.val (.int .u64 x), .val (.int .u64 y)] (· = .tup [.val (.int .u64 (x * y / 18446744073709551616)), .val (.int .u64 (x * y % 18446744073709551616))]) := by
  have hs := mul_split x y
  have b1 := mul_bd32 (x := x / 4294967296) (y := y / 4294967296) (by omega) (by omega)
  have b2 := mul_bd32 (x := x / 4294967296) (y := y % 4294967296) (by omega) (by omega)
  have b3 := mul_bd32 (x := x % 4294967296) (y := y / 4294967296) (by omega) (by omega)
  have b4 := mul_bd32 (x := x % 4294967296) (y := y % 4294967296) (by omega) (by omega)
  refine ax_i Tryz.func213 Tryz.ntmps213 ?_; intro F hG hO
  repeat' ((try (conv => whnf)); first
 | (with_reducible refine wrap_g (by dsimp only [inR]; omega) ?_)
 | ((with_reducible refine wrap_r ?_); rw [wrap64])
 | with_reducible first | refine ax_s ?_ | (refine ax_f ?_ ?_ <;> try intro hc) | fail)
  all_goals exact ⟨ret_e (tup2_eq (by omega) (by omega))⟩
theorem m_trimw (a : List Int) (hl : a.length ≤ 1152921504606846976) : FC Tryz.prog G 206 [.ws .u64 a] (· = .ws .u64 (trim a)) := by
  refine ax_i Tryz.func206 Tryz.ntmps206 ?_; intro F hG hO
  repeat' ((try (conv => whnf)); first
 | (refine lg ?_; refine loop_g (A := Nat) (fun m => m ≤ a.length ∧ ∀ j : Nat, m ≤ j → rd a j = 0) id (fun m => [(0, .ws .u64 a), (3, .val (.int .i64 (m : Int)))]) (fun _ => []) (fun _ => []) a.length tok (fun _ => ⟨⟨trivial, trivial, trivial⟩, trivial, by simp only [List.length_nil]; omega⟩) ?_ ⟨rfl, rfl, trivial⟩ ⟨[], rfl⟩ ⟨[], rfl⟩ ?_; rotate_left; rintro m ⟨h1, h2⟩)
 | with_reducible first | refine ax_s ?_ | (refine ax_f ?_ ?_ <;> try intro hc) | fail)
  · exact ⟨again (m - 1) ⟨by omega, fun j hj => by
      rcases Nat.lt_or_ge j m with hjm | hjm
      · rw [show (j : Int) = m - 1 by omega]; assumption
      · exact h2 j hjm⟩ (by simp only [id]; omega) ⟨rfl, iv_eq (by omega), trivial⟩ ⟨[], rfl⟩ ⟨[], rfl⟩⟩
  · have e : trim a = a.take m := trim_take a m h1 (fun j hj => by simpa [rd] using h2 j hj) (.inr (by
      have : ((m : Int) - 1).toNat = m - 1 := by omega
      simpa [rd, this] using hc))
    exact ⟨ret_e (by rw [e]; simp)⟩
  · have e : trim a = a.take m := trim_take a m h1 (fun j hj => by simpa [rd] using h2 j hj) (.inl (by omega))
    exact ⟨ret_e (by rw [e]; simp)⟩
  · exact ⟨Nat.le_refl _, fun j hj => by simp [rd, List.getD_eq_getElem?_getD, hj]⟩
theorem m_trim (z : List Int) (n : Nat) (hn : n ≤ z.length) (hl : z.length ≤ 1152921504606846976) : PM Tryz.prog G 206 [.arr 0 0 n] [⟨1, 82, .w .u64 z⟩] (fun r rs => r = .arr 0 0 (trim (z.take n)).length ∧ rs = [some ⟨1, 82, .w .u64 z⟩]) := by
  obtain ⟨a, ha⟩ : ∃ a, a = z.take n := ⟨_, rfl⟩
  have hal : a.length = n := by rw [ha, List.length_take]; omega
  have hrd : ∀ j : Nat, j < n → rd a j = z.getD j 0 := fun j hj => by
    rw [ha]
    simp only [rd, Int.toNat_natCast, List.getD_eq_getElem?_getD, List.getElem?_take, if_pos hj]
  rw [← ha]
  refine PM.intro (X := XX) tok Tryz.func206 rfl Tryz.ntmps206 (by rw [Tryz.results206]) (by kernel_rfl) rfl ?_; intro F hG hO; simp only [List.length_cons, List.length_nil, Nat.zero_add, Nat.reduceAdd] at hO
  repeat' ((try (conv => whnf)); first
 | (refine lg ?_; refine loop_g (A := Nat) (fun m => m ≤ n ∧ ∀ j : Nat, m ≤ j → rd a j = 0) id (fun m => [(0, .arr 0 0 n), (3, .val (.int .i64 (m : Int)))]) (fun _ => []) (fun _ => [some ⟨1, 82, .w .u64 z⟩]) n tok (fun _ => ⟨⟨Nat.one_pos, trivial, trivial⟩, trivial, by simp only [List.length_cons, List.length_nil]; omega⟩) ?_ ⟨rfl, rfl, trivial⟩ ⟨[], rfl⟩ ⟨[], rfl⟩ ?_; rotate_left; rintro m ⟨h1, h2⟩; have hm1 : 0 < m → z.getD (0 + ((m : Int) - 1).toNat) 0 = rd a ((m - 1 : Nat) : Int) := (fun h => by rw [hrd (m - 1) (by omega)]; congr 1; omega))
 | with_reducible first | refine ax_s ?_ | (refine ax_f ?_ ?_ <;> try intro hc) | fail)
  · exact ⟨again (m - 1) ⟨by omega, fun j hj => by
      rcases Nat.lt_or_ge j m with hjm | hjm
      · rw [show j = m - 1 by omega, ← hm1 (by omega)]; assumption
      · exact h2 j hjm⟩ (by simp only [id]; omega) ⟨rfl, iv_eq (by omega), trivial⟩ ⟨[], rfl⟩ ⟨[], rfl⟩⟩
  · have e : trim a = a.take m := trim_take a m (by omega) (fun j hj => by simpa [rd] using h2 j hj) (.inr (by
      rw [hm1 (by omega)] at hc
      simpa [rd] using hc))
    refine ⟨ret_m [0] (.arr 0 0 (m : Int).toNat) [some ⟨1, 82, .w .u64 z⟩] rfl rfl (by simp) (fun i h => one_row h) rfl ⟨?_, rfl⟩⟩
    rw [e, List.length_take, Int.toNat_natCast, Nat.min_eq_left (by omega)]
  · have e : trim a = a.take m := trim_take a m (by omega) (fun j hj => by simpa [rd] using h2 j hj) (.inl (by omega))
    refine ⟨ret_m [0] (.arr 0 0 (m : Int).toNat) [some ⟨1, 82, .w .u64 z⟩] rfl rfl (by simp) (fun i h => one_row h) rfl ⟨?_, rfl⟩⟩
    rw [e, List.length_take, Int.toNat_natCast, Nat.min_eq_left (by omega)]
  · exact ⟨Nat.le_refl _, fun j hj => by simp [rd, List.getD_eq_getElem?_getD, hal, hj]⟩
theorem AddI.swap {u v s : List Int} {c : Int} (h : AddI u v s c) (hl : s.length ≤ v.length) : AddI v u s c := by
  obtain ⟨h1, h2, h3, h4⟩ := h
  exact ⟨hl, h2, h3, by omega⟩
theorem AddI.carry {u v s : List Int} {c : Int} (h : AddI u v s c) (hv : v.length ≤ s.length) (hno : vl 18446744073709551616 u + vl 18446744073709551616 v < 18446744073709551616 ^ u.length) (hc : 0 < c) : s.length < u.length := by
  obtain ⟨h1, h2, h3, h4⟩ := h
  rcases Nat.lt_or_ge s.length u.length with h5 | h5
  · exact h5
  · exfalso
    have h6 : s.length = u.length := by omega
    rw [List.take_of_length_le (by omega), List.take_of_length_le (by omega), h6] at h4
    have b2 := vl_nonneg (B := 18446744073709551616) (by decide) h2
    rw [show c = 1 by omega, Int.mul_one] at h4
    omega
theorem AddI.final {z b s : List Int} {t : Nat} (h : AddI (z.drop t) b s 0) (hb : b.length ≤ s.length) (ht : t ≤ z.length) : vl 18446744073709551616 (ins z t s) = vl 18446744073709551616 z + 18446744073709551616 ^ t * vl 18446744073709551616 b := by
  obtain ⟨h1, h2, h3, h4⟩ := h
  rw [List.length_drop] at h1
  rw [ins_vl 18446744073709551616 (by omega), vl_split 18446744073709551616 z t ht, vl_split 18446744073709551616 (z.drop t) s.length (by rw [List.length_drop]; omega), List.drop_drop]
  rw [List.take_of_length_le (l := b) hb, Int.mul_zero, Int.add_zero] at h4
  rw [h4, Int.add_assoc, Int.add_assoc, ← Int.mul_add]
  congr 2
  omega
theorem m_addat (z b : List Int) (t n : Nat) (hzn : z.length = n) (okz : okD 18446744073709551616 z) (okb : okD 18446744073709551616 b) (hz : z.length ≤ 1152921504606846976) (ht : t + b.length ≤ z.length) (hno : vl 18446744073709551616 (z.drop t) + vl 18446744073709551616 b < 18446744073709551616 ^ (z.length - t)) :
    PM Tryz.prog G 222 [.arr 0 0 n, .ws .u64 b, .val (.int .i64 (t : Int))] [⟨1, 82, .w .u64 z⟩] (fun r rs => r = .tup [] ∧ ∃ c : List Int, c.length = z.length ∧ okD 18446744073709551616 c ∧ vl 18446744073709551616 c = vl 18446744073709551616 z + 18446744073709551616 ^ t * vl 18446744073709551616 b ∧ rs = [some ⟨1, 82, .w .u64 c⟩]) := by
  subst hzn
  obtain ⟨u, hu⟩ : ∃ u, u = z.drop t := ⟨_, rfl⟩
  have hul : u.length = z.length - t := by rw [hu, List.length_drop]
  have oku : okD 18446744073709551616 u := by rw [hu]; exact okz.drop t
  rw [← hu, ← hul] at hno
  refine PM.intro (X := XX) tok Tryz.func222 rfl Tryz.ntmps222 (by rw [Tryz.results222]) (by kernel_rfl) rfl ?_; intro F hG hO; simp only [List.length_cons, List.length_nil, Nat.zero_add, Nat.reduceAdd] at hO
  repeat' ((try (conv => whnf)); first
 | (with_reducible refine add64_g (by omega) (by omega) (by omega) ?_)
 | (refine lg ?_; refine loop_g (A := List Int × Int) (fun (s, c) => AddI u b s c ∧ b.length ≤ s.length) (fun (s, c) => u.length - s.length) (fun (s, c) => [(0, .arr 0 0 z.length), (6, .val (.int .u64 c)), (8, .val (.int .i64 ((t : Int) + (s.length : Int))))]) (fun _ => []) (fun (s, c) => [some ⟨1, 82, .w .u64 (ins z t s)⟩]) (s0, c0) tok (fun (s, c) => ⟨⟨Nat.one_pos, trivial, trivial, trivial⟩, trivial, by simp only [List.length_cons, List.length_nil]; omega⟩) ?_ ⟨rfl, rfl, iv_eq (by omega), trivial⟩ ⟨[], rfl⟩ ⟨[], rfl⟩ ?_; rotate_left; rintro ⟨s, c⟩ ⟨hJ, hJb⟩; have hJ2 := hJ; obtain ⟨i1, i2, i3, i4⟩ := hJ2; have ru := rd_bd (by decide) oku (s.length : Int); have hil : (ins z t s).length = z.length := ins_len (by omega); have hx : (ins z t s).getD (0 + ((t : Int) + (s.length : Int)).toNat) 0 = rd u (s.length : Int) := (by rw [show 0 + ((t : Int) + (s.length : Int)).toNat = t + s.length by omega, ins_get (by omega), ← rd_drop, hu]); have hcr := fun hc => hJ.carry hJb hno hc)
 | (refine lg ?_; refine loop_g (A := List Int × Int) (fun (s, c) => AddI b u s c) (fun (s, c) => b.length - s.length) (fun (s, c) => [(0, .arr 0 0 z.length), (1, .ws .u64 b), (2, .val (.int .i64 (t : Int))), (6, .val (.int .u64 c)), (10, .val (.int .i64 (b.length : Int))), (11, .val (.int .i64 (s.length : Int)))]) (fun _ => []) (fun (s, c) => [some ⟨1, 82, .w .u64 (ins z t s)⟩]) ([], 0) tok (fun (s, c) => ⟨⟨Nat.one_pos, trivial, trivial, trivial, trivial, trivial, trivial⟩, trivial, by simp only [List.length_cons, List.length_nil]; omega⟩) ?_ ⟨rfl, rfl, rfl, rfl, rfl, rfl, trivial⟩ ⟨[], rfl⟩ ⟨[], (by dsimp only; rw [ins_nil]; rfl)⟩ ?_; rotate_left; rintro ⟨s0, c0⟩ hI; have hI2 := hI; obtain ⟨j1, j2, j3, j4⟩ := hI2; have rb := rd_bd (by decide) okb (s0.length : Int); have ru0 := rd_bd (by decide) oku (s0.length : Int); have hil0 : (ins z t s0).length = z.length := ins_len (by omega); have hx0 : (ins z t s0).getD (0 + ((t : Int) + (s0.length : Int)).toNat) 0 = rd u (s0.length : Int) := (by rw [show 0 + ((t : Int) + (s0.length : Int)).toNat = t + s0.length by omega, ins_get (by omega), ← rd_drop, hu]))
 | (refine dG (id := 4) [[], [0], [1], [2], [3], [4], [5], [6], [7], [10], [11], [14, 8, 9, 12, 13, 15], [16], [17], [18, 19], [20, 21]] ?_)
 | with_reducible first | refine ax_s ?_ | (refine ax_f ?_ ?_ <;> try intro hc) | fail)
  · refine ⟨again (s0 ++ [((ins z t s0).getD (0 + ((t : Int) + (s0.length : Int)).toNat) 0 + rd b (s0.length : Int) + c0) % 18446744073709551616], ((ins z t s0).getD (0 + ((t : Int) + (s0.length : Int)).toNat) 0 + rd b (s0.length : Int) + c0) / 18446744073709551616) (hI.step (by omega) okb oku (by rw [hx0]; omega)) (by dsimp only; rw [len_snoc]; omega) ⟨rfl, rfl, rfl, rfl, rfl, iv_eq (by rw [len_snoc]; omega), trivial⟩ ⟨[], rfl⟩ ⟨[], ?_⟩⟩
    have hset := ins_set (p := z) (s := s0) (lo := t) (((ins z t s0).getD (0 + ((t : Int) + (s0.length : Int)).toNat) 0 + rd b (s0.length : Int) + c0) % 18446744073709551616) (by omega)
    dsimp only
    rw [← hset, show 0 + ((t : Int) + (s0.length : Int)).toNat = t + s0.length by omega]; rfl
  · have hlt := hcr hc
    refine ⟨again (s ++ [((ins z t s).getD (0 + ((t : Int) + (s.length : Int)).toNat) 0 + 0 + c) % 18446744073709551616], ((ins z t s).getD (0 + ((t : Int) + (s.length : Int)).toNat) 0 + 0 + c) / 18446744073709551616) ⟨hJ.step hlt oku okb (by rw [hx, rd_out b s.length hJb]), by rw [len_snoc]; omega⟩ (by dsimp only; rw [len_snoc]; omega) ⟨rfl, rfl, iv_eq (by rw [len_snoc]; omega), trivial⟩ ⟨[], rfl⟩ ⟨[], ?_⟩⟩
    have hset := ins_set (p := z) (s := s) (lo := t) (((ins z t s).getD (0 + ((t : Int) + (s.length : Int)).toNat) 0 + 0 + c) % 18446744073709551616) (by omega)
    dsimp only
    rw [← hset, show 0 + ((t : Int) + (s.length : Int)).toNat = t + s.length by omega]; rfl
  · have hc0 : c = 0 := by omega
    subst hc0
    rw [hu] at hJ
    exact ⟨ret_m [0] (.tup []) [some ⟨1, 82, .w .u64 (ins z t s)⟩] rfl rfl (by simp) (fun i h => one_row h) rfl ⟨rfl, ins z t s, hil, ins_okD okz i2, hJ.final hJb (by omega), rfl⟩⟩
  · exact ⟨hI.swap (by omega), by omega⟩
  · exact ⟨Nat.zero_le _, okD_nil _, by decide, by simp [vl]⟩
theorem SubI.carry {u v s : List Int} {c : Int} (h : SubI u v s c) (hv : v.length ≤ s.length) (hle : vl 18446744073709551616 v ≤ vl 18446744073709551616 u) (hc : 0 < c) : s.length < u.length := by
  obtain ⟨h1, h2, h3, h4⟩ := h
  rcases Nat.lt_or_ge s.length u.length with h5 | h5
  · exact h5
  · exfalso
    rw [List.take_of_length_le (by omega), List.take_of_length_le (by omega), show c = 1 by omega, Int.mul_one] at h4
    have b2 := vl_lt (B := 18446744073709551616) (by decide) h2
    omega
theorem ins_front {z s : List Int} {n : Nat} (h : s.length ≤ n) : (ins z 0 s).take n = ins (z.take n) 0 s := by
  unfold ins
  rw [List.take_zero, List.take_zero, List.nil_append, Nat.zero_add, List.take_append, List.take_of_length_le h, List.drop_take]
theorem SubI.final {z b s : List Int} {n : Nat} (h : SubI (z.take n) b s 0) (hb : b.length ≤ s.length) (hn : n ≤ z.length) : vl 18446744073709551616 ((ins z 0 s).take n) = vl 18446744073709551616 (z.take n) - vl 18446744073709551616 b := by
  obtain ⟨h1, h2, h3, h4⟩ := h
  have hl : s.length ≤ n := by rw [List.length_take] at h1; omega
  rw [ins_front hl, ins_vl 18446744073709551616 (by omega), List.take_zero, Nat.zero_add, vl_split 18446744073709551616 (z.take n) s.length h1]
  rw [List.take_of_length_le (l := b) hb, Int.mul_zero, Int.sub_zero] at h4
  rw [h4, Int.pow_zero, Int.one_mul]
  simp only [vl]
  omega
theorem m_takeaway (z b : List Int) (n : Nat) (okz : okD 18446744073709551616 z) (okb : okD 18446744073709551616 b) (hz : z.length ≤ 1152921504606846976) (hn : n ≤ z.length) (hb : b.length ≤ n) (hle : vl 18446744073709551616 b ≤ vl 18446744073709551616 (z.take n)) :
    PM Tryz.prog G 225 [.arr 0 0 n, .ws .u64 b] [⟨1, 82, .w .u64 z⟩] (fun r rs => r = .tup [] ∧ ∃ c : List Int, c.length = z.length ∧ okD 18446744073709551616 c ∧ vl 18446744073709551616 (c.take n) = vl 18446744073709551616 (z.take n) - vl 18446744073709551616 b ∧ rs = [some ⟨1, 82, .w .u64 c⟩]) := by
  obtain ⟨u, hu⟩ : ∃ u, u = z.take n := ⟨_, rfl⟩
  have hul : u.length = n := by rw [hu, List.length_take]; omega
  have oku : okD 18446744073709551616 u := by rw [hu]; exact okz.take n
  have hru : ∀ j : Nat, j < n → rd u (j : Int) = rd z (j : Int) := fun j hj => by
    rw [hu]
    simp only [rd, Int.toNat_natCast, List.getD_eq_getElem?_getD, List.getElem?_take, if_pos hj]
  rw [← hu] at hle
  refine PM.intro (X := XX) tok Tryz.func225 rfl Tryz.ntmps225 (by rw [Tryz.results225]) (by kernel_rfl) rfl ?_; intro F hG hO; simp only [List.length_cons, List.length_nil, Nat.zero_add, Nat.reduceAdd] at hO
  repeat' ((try (conv => whnf)); first
 | (with_reducible refine sub64_g (by omega) (by omega) (by omega) ?_)
 | (refine lg ?_; refine loop_g (A := List Int × Int) (fun (s, c) => SubI u b s c ∧ b.length ≤ s.length) (fun (s, c) => u.length - s.length) (fun (s, c) => [(0, .arr 0 0 n), (4, .val (.int .u64 c)), (6, .val (.int .i64 (s.length : Int)))]) (fun _ => []) (fun (s, c) => [some ⟨1, 82, .w .u64 (ins z 0 s)⟩]) (s0, c0) tok (fun (s, c) => ⟨⟨Nat.one_pos, trivial, trivial, trivial⟩, trivial, by simp only [List.length_cons, List.length_nil]; omega⟩) ?_ ⟨rfl, rfl, iv_eq (by omega), trivial⟩ ⟨[], rfl⟩ ⟨[], rfl⟩ ?_; rotate_left; rintro ⟨s, c⟩ ⟨hJ, hJb⟩; have hJ2 := hJ; obtain ⟨i1, i2, i3, i4⟩ := hJ2; have ru := rd_bd (by decide) oku (s.length : Int); have hil : (ins z 0 s).length = z.length := ins_len (by omega); have hx : Unit → s.length < n → (ins z 0 s).getD (0 + (s.length : Int).toNat) 0 = rd u (s.length : Int) := (fun _ h => by rw [Int.toNat_natCast, ins_get (by omega), hru _ h, Nat.zero_add]); have rz := gd_bd (by decide) (ins_okD (lo := 0) okz i2) (0 + (s.length : Int).toNat); have hcr := fun hc => hJ.carry hJb hle hc)
 | (refine lg ?_; refine loop_g (A := List Int × Int) (fun (s, c) => SubI u b s c ∧ s.length ≤ b.length) (fun (s, c) => b.length - s.length) (fun (s, c) => [(0, .arr 0 0 n), (1, .ws .u64 b), (4, .val (.int .u64 c)), (8, .val (.int .i64 (b.length : Int))), (9, .val (.int .i64 (s.length : Int)))]) (fun _ => []) (fun (s, c) => [some ⟨1, 82, .w .u64 (ins z 0 s)⟩]) ([], 0) tok (fun (s, c) => ⟨⟨Nat.one_pos, trivial, trivial, trivial, trivial, trivial⟩, trivial, by simp only [List.length_cons, List.length_nil]; omega⟩) ?_ ⟨rfl, rfl, rfl, rfl, rfl, trivial⟩ ⟨[], rfl⟩ ⟨[], (by dsimp only; rw [ins_nil]; rfl)⟩ ?_; rotate_left; rintro ⟨s0, c0⟩ ⟨hI, hIb⟩; have hI2 := hI; obtain ⟨j1, j2, j3, j4⟩ := hI2; have rb := rd_bd (by decide) okb (s0.length : Int); have hil0 : (ins z 0 s0).length = z.length := ins_len (by omega); have hx0 : Unit → s0.length < n → (ins z 0 s0).getD (0 + (s0.length : Int).toNat) 0 = rd u (s0.length : Int) := (fun _ h => by rw [Int.toNat_natCast, ins_get (by omega), hru _ h, Nat.zero_add]); have rz0 := gd_bd (by decide) (ins_okD (lo := 0) okz j2) (0 + (s0.length : Int).toNat))
 | (refine dG (id := 4) dg66 ?_)
 | with_reducible first | refine ax_s ?_ | (refine ax_f ?_ ?_ <;> try intro hc) | fail)
  · refine ⟨again (s0 ++ [((ins z 0 s0).getD (0 + (s0.length : Int).toNat) 0 - rd b (s0.length : Int) - c0) % 18446744073709551616], -(((ins z 0 s0).getD (0 + (s0.length : Int).toNat) 0 - rd b (s0.length : Int) - c0) / 18446744073709551616)) ⟨hI.step (by omega) oku okb (by rw [hx0 () (by omega)]), by rw [len_snoc]; omega⟩ (by dsimp only; rw [len_snoc]; omega) ⟨rfl, rfl, rfl, rfl, iv_eq (by rw [len_snoc]; omega), trivial⟩ ⟨[], rfl⟩ ⟨[], ?_⟩⟩
    have hset := ins_set (p := z) (s := s0) (lo := 0) (((ins z 0 s0).getD (0 + (s0.length : Int).toNat) 0 - rd b (s0.length : Int) - c0) % 18446744073709551616) (by omega)
    dsimp only
    rw [← hset]; rfl
  · have hlt := hcr hc
    refine ⟨again (s ++ [((ins z 0 s).getD (0 + (s.length : Int).toNat) 0 - 0 - c) % 18446744073709551616], -(((ins z 0 s).getD (0 + (s.length : Int).toNat) 0 - 0 - c) / 18446744073709551616)) ⟨hJ.step hlt oku okb (by rw [hx () (by omega), rd_out b s.length hJb]), by rw [len_snoc]; omega⟩ (by dsimp only; rw [len_snoc]; omega) ⟨rfl, rfl, iv_eq (by rw [len_snoc]; omega), trivial⟩ ⟨[], rfl⟩ ⟨[], ?_⟩⟩
    have hset := ins_set (p := z) (s := s) (lo := 0) (((ins z 0 s).getD (0 + (s.length : Int).toNat) 0 - 0 - c) % 18446744073709551616) (by omega)
    dsimp only
    rw [← hset]; rfl
  · have hc0 : c = 0 := by omega
    subst hc0
    rw [hu] at hJ
    exact ⟨ret_m [0] (.tup []) [some ⟨1, 82, .w .u64 (ins z 0 s)⟩] rfl rfl (by simp) (fun i h => one_row h) rfl ⟨rfl, ins z 0 s, hil, ins_okD okz i2, hJ.final hJb hn, rfl⟩⟩
  · exact ⟨hI, by omega⟩
  · exact ⟨⟨Nat.zero_le _, okD_nil _, by decide, by simp [vl]⟩, Nat.zero_le _⟩
theorem FC.of_row {f : FuncId} {args : List PV} {T : TypeId} {l : List Int} (h : PM Tryz.prog G f args [] (fun r rs => r = .arr 0 0 l.length ∧ ∃ c : List Int, l.length ≤ c.length ∧ c.take l.length = l ∧ rs = [some ⟨1, T, .w .u64 c⟩])) : FC Tryz.prog G f args (· = .ws .u64 l) :=
  FC.of_pm h (by rintro r rs ⟨rfl, c, h1, h2, rfl⟩; exact (fz_g (by omega) (by rw [List.drop_zero]; exact h2) (ret_e rfl) : FzG c 0 l.length fun B => RetE (· = .ws .u64 l) (.ws .u64 B)))
theorem d64_len (X : Nat) : (d64 X).length = L64 X := rfl
theorem trim_pos {c : List Int} {X : Nat} (ok : okD 18446744073709551616 c) (h : vl 18446744073709551616 c = X) : trim c = d64 X := by
  rw [trim64 ok, h, Int.toNat_natCast]
theorem trim_pre : ∀ (c : List Int), c.take (trim c).length = trim c
 | [] => rfl
 | x :: c => by
    have ih := trim_pre c
    simp only [trim]
    cases h : trim c with
    | nil =>
      simp only
      by_cases h0 : x = 0
      · rw [if_pos h0]; rfl
      · rw [if_neg h0]; rfl
    | cons y l =>
      rw [h] at ih
      simp only
      rw [List.length_cons, List.take_succ_cons, ih]
theorem d64_hi (X k : Nat) : (d64 X).drop k = d64 (X / 2 ^ (64 * k)) := d64_drop X k
theorem trim_lo (X k : Nat) : trim ((d64 X).take k) = d64 (X % 2 ^ (64 * k)) := by
  rw [trim64 ((d64_ok X).1.take k), d64_take, Int.toNat_natCast]
theorem m_cut (X k : Nat) (hX : L64 X ≤ 1152921504606846976) (hk : k ≤ 1152921504606846976) : FC Tryz.prog G 223 [.ws .u64 (d64 X), .val (.int .i64 (k : Int))] (· = .tup [.ws .u64 (d64 (X % 2 ^ (64 * k))), .ws .u64 (d64 (X / 2 ^ (64 * k)))]) := by
  have hl : (d64 X).length = L64 X := rfl
  have f1 := m_trimw (G := G) ((d64 X).take k) (by rw [List.length_take]; omega)
  rw [trim_lo] at f1
  have f2 := m_trimw (G := G) (d64 X) (by omega)
  rw [d64_trim] at f2
  have hd := d64_hi X k
  obtain ⟨a, ha⟩ : ∃ a, a = d64 X := ⟨_, rfl⟩
  rw [← ha] at hl f1 f2 hd ⊢
  refine ax_i Tryz.func223 Tryz.ntmps223 ?_; intro F hG hO
  rw [← hG] at f1 f2
  repeat' ((try (conv => whnf)); first
 | (refine cg ?_; simp only [List.drop_zero, Int.toNat_natCast, Nat.sub_zero, List.take_length, Int.toNat_zero]; refine ce f1 ?_)
 | (refine cg ?_; simp only [List.drop_zero, Int.toNat_natCast, Nat.sub_zero, List.take_length, Int.toNat_zero]; refine ce f2 ?_)
 | (refine dG (id := 3) [[0, 1, 2, 3, 5, 6, 7, 8, 9, 10, 11, 4, 12, 13]] ?_)
 | with_reducible first | refine ax_s ?_ | (refine ax_f ?_ ?_ <;> try intro hc) | fail)
  · have hlt : X < 2 ^ (64 * k) := Nat.lt_of_lt_of_le (L64_lt X) (Nat.pow_le_pow_right (by decide) (by omega))
    refine ⟨ret_l (.tup [.ws .u64 a, .ws .u64 []]) (.tup (.cons (.refl _) (.cons (.nil _) .nil))) ?_⟩
    rw [Nat.mod_eq_of_lt hlt, Nat.div_eq_of_lt hlt, d64_0, ha]
  · exact ⟨ret_e (by rw [hd])⟩
theorem row_eq {T : TypeId} {p : List Int} {k k' : Nat} {w w' : Int} (h1 : k = k') (h2 : w = w') : ([some ⟨1, T, .w .u64 (p.set k w)⟩] : List (Option Row)) = [some ⟨1, T, .w .u64 (p.set k' w')⟩] ++ [] := by subst h1; subst h2; rfl
theorem mul_bd64 {x y : Int} (hx : 0 ≤ x ∧ x < 18446744073709551616) (hy : 0 ≤ y ∧ y < 18446744073709551616) : 0 ≤ x * y ∧ x * y ≤ 340282366920938463426481119284349108225 := by
  refine ⟨Int.mul_nonneg hx.1 hy.1, ?_⟩
  have h1 : x * y ≤ 18446744073709551615 * y := Int.mul_le_mul_of_nonneg_right (by omega) hy.1
  omega
theorem m_rows (a b : List Int) (hX : a.length ≤ 1073741824) (hY : b.length ≤ 1073741824) (oka : okD 18446744073709551616 a) (okb : okD 18446744073709551616 b) :
    PM Tryz.prog G 215 [.arr 0 0 (a.length + b.length), .ws .u64 a, .ws .u64 b] [⟨1, 82, .w .u64 (List.replicate (a.length + b.length) 0)⟩] (fun r rs => r = .tup [] ∧ ∃ c : List Int, c.length = a.length + b.length ∧ okD 18446744073709551616 c ∧ vl 18446744073709551616 c = vl 18446744073709551616 a * vl 18446744073709551616 b ∧ rs = [some ⟨1, 82, .w .u64 c⟩]) := by
  refine PM.intro (X := XX) tok Tryz.func215 rfl Tryz.ntmps215 (by rw [Tryz.results215]) (by kernel_rfl) rfl ?_; intro F hG hO; simp only [List.length_cons, List.length_nil, Nat.zero_add, Nat.reduceAdd] at hO
  repeat' ((try (conv => whnf)); first
 | (with_reducible refine add64_g (by omega) (by omega) (by omega) ?_)
 | (refine cg ?_; refine ce (b_mul (rd a (i : Int)) (rd b (j : Int)) ra rb) ?_)
 | (refine lg ?_; refine loop_g (A := Nat × List Int × Int) (fun (i, p, c) => i ≤ a.length ∧ (0 ≤ c ∧ c < 18446744073709551616) ∧ p.length = a.length + b.length ∧ okD 18446744073709551616 p ∧ p.drop (j + i) = p0.drop (j + i) ∧ vl 18446744073709551616 p + 18446744073709551616 ^ (j + i) * c = vl 18446744073709551616 p0 + 18446744073709551616 ^ j * (rd b j * vl 18446744073709551616 (a.take i))) (fun (i, p, c) => a.length - i) (fun (i, p, c) => [(0, .arr 0 0 (a.length + b.length)), (1, .ws .u64 a), (2, .ws .u64 b), (6, .val (.int .i64 (j : Int))), (7, .val (.int .u64 c)), (13, .val (.int .i64 (b.length : Int))), (14, .val (.int .i64 (j : Int))), (18, .val (.int .i64 (a.length : Int))), (19, .val (.int .i64 (i : Int)))]) (fun _ => []) (fun (i, p, c) => [some ⟨1, 82, .w .u64 p⟩]) (0, p0, 0) tok (fun (i, p, c) => ⟨⟨Nat.one_pos, trivial, trivial, trivial, trivial, trivial, trivial, trivial, trivial, trivial⟩, trivial, by simp only [List.length_cons, List.length_nil]; omega⟩) ?_ ⟨rfl, rfl, rfl, rfl, rfl, rfl, rfl, rfl, rfl, trivial⟩ ⟨[], rfl⟩ ⟨[], rfl⟩ ?_; rotate_left; rintro ⟨i, p, c⟩ ⟨g1, g2, g5, g6, g7, g8⟩; have ra := rd_bd (by decide) oka (i : Int); have rp := gd_bd (by decide) g6 (0 + ((i : Int) + (j : Int)).toNat); have rm := mul_bd64 ra rb)
 | (refine lg ?_; refine loop_g (A := Nat × List Int) (fun (j, p0) => j ≤ b.length ∧ p0.length = a.length + b.length ∧ okD 18446744073709551616 p0 ∧ (∀ k : Nat, j + a.length ≤ k → rd p0 k = 0) ∧ vl 18446744073709551616 p0 = vl 18446744073709551616 (b.take j) * vl 18446744073709551616 a) (fun (j, p0) => b.length - j) (fun (j, p0) => [(0, .arr 0 0 (a.length + b.length)), (1, .ws .u64 a), (2, .ws .u64 b), (13, .val (.int .i64 (b.length : Int))), (14, .val (.int .i64 (j : Int)))]) (fun _ => []) (fun (j, p0) => [some ⟨1, 82, .w .u64 p0⟩]) (0, List.replicate (a.length + b.length) 0) tok (fun (j, p0) => ⟨⟨Nat.one_pos, trivial, trivial, trivial, trivial, trivial⟩, trivial, by simp only [List.length_cons, List.length_nil]; omega⟩) ?_ ⟨rfl, rfl, rfl, rfl, rfl, trivial⟩ ⟨[], rfl⟩ ⟨[], rfl⟩ ?_; rotate_left; rintro ⟨j, p0⟩ ⟨h1, h5, h6, h7, h8⟩; have rb := rd_bd (by decide) okb (j : Int))
 | (refine dG (id := 7) [[0, 1, 2, 3, 4, 5, 6, 7, 8, 9, 10, 11, 12, 13]] ?_)
 | with_reducible first | refine ax_s ?_ | (refine ax_f ?_ ?_ <;> try intro hc) | fail)
  · obtain ⟨T, hT⟩ : ∃ T : Int, T = c + (p.getD (0 + ((i : Int) + (j : Int)).toNat) 0 + rd a i * rd b j) := ⟨_, rfl⟩
    have hk : 0 + ((i : Int) + (j : Int)).toNat = j + i := by omega
    have hrp : rd p ((j + i : Nat) : Int) = p.getD (0 + ((i : Int) + (j : Int)).toNat) 0 := by rw [hk, gd_rd]
    have hv := vl_set 18446744073709551616 p (j + i) (T % 18446744073709551616) (by omega)
    have hs := sum_step (B := 18446744073709551616) (vs := vl 18446744073709551616 p) (d := T % 18446744073709551616 - rd p ((j + i : Nat) : Int)) (c2 := T / 18446744073709551616) (T := c + rd a i * rd b j) (j + i) (by omega)
    refine ⟨again (i + 1, p.set (j + i) (T % 18446744073709551616), T / 18446744073709551616) ⟨by omega, ⟨by omega, by omega⟩, by simpa using g5, fun x hx => ?_, ?_, ?_⟩ (by dsimp only; omega) ⟨rfl, rfl, rfl, rfl, iv_eq (by omega), rfl, rfl, rfl, rfl, trivial⟩ ⟨[], rfl⟩ ⟨[], by dsimp only; exact row_eq (by omega) (by omega)⟩⟩
    · rcases List.mem_or_eq_of_mem_set hx with h | h
      · exact g6 x h
      · rw [h]; omega
    · rw [← Nat.add_assoc, List.drop_set_of_lt (by omega)]; exact drop_next g7
    · rw [hv, ← Nat.add_assoc, hs, vl_take_step]
      have e1 : (18446744073709551616 : Int) ^ (j + i) * (c + rd a i * rd b j) = 18446744073709551616 ^ (j + i) * c + 18446744073709551616 ^ j * (rd b j * (18446744073709551616 ^ i * rd a i)) := by
        rw [Int.mul_add, Int.pow_add, Int.mul_comm (rd a i) (rd b j), Int.mul_assoc (18446744073709551616 ^ j) (18446744073709551616 ^ i) (rd b j * rd a i), Int.mul_left_comm (18446744073709551616 ^ i) (rd b j) (rd a i)]
      rw [e1, Int.mul_add (rd b j), Int.mul_add (18446744073709551616 ^ j)]
      omega
  · have hk : 0 + ((j : Int) + (a.length : Int)).toNat = j + a.length := by omega
    have hi : i = a.length := by omega
    subst hi
    have hz : rd p ((j + a.length : Nat) : Int) = 0 := by
      have e1 := drop_rd p (j + a.length) (by omega)
      have e2 := drop_rd p0 (j + a.length) (by omega)
      rw [g7, e2] at e1
      have := (List.cons.inj e1).1
      rw [← this]; exact h7 _ (Nat.le_refl _)
    have hv := vl_set 18446744073709551616 p (j + a.length) c (by omega)
    rw [hz, Int.sub_zero] at hv
    refine ⟨again (j + 1, p.set (j + a.length) c) ⟨by omega, by simpa using g5, fun x hx => ?_, fun k hk2 => ?_, ?_⟩ (by dsimp only; omega) ⟨rfl, rfl, rfl, rfl, rfl, trivial⟩ ⟨[], rfl⟩ ⟨[], by dsimp only; exact row_eq (by omega) rfl⟩⟩
    · rcases List.mem_or_eq_of_mem_set hx with h | h
      · exact g6 x h
      · rw [h]; exact g2
    · have e3 : (p.set (j + a.length) c).drop (j + a.length + 1) = p0.drop (j + a.length + 1) := by
        rw [List.drop_set_of_lt (by omega)]; exact drop_next g7
      have e4 : rd (p.set (j + a.length) c) k = rd p0 k := by
        have h0 := congrArg (fun l => l.getD (k - (j + a.length + 1)) 0) e3
        simp only [List.getD_eq_getElem?_getD, List.getElem?_drop] at h0
        rw [show j + a.length + 1 + (k - (j + a.length + 1)) = k by omega] at h0
        simpa [rd, List.getD_eq_getElem?_getD] using h0
      rw [e4]; exact h7 k (by omega)
    · rw [hv, g8, h8, vl_take_step, List.take_length, Int.add_mul, Int.mul_assoc]
  · exact ⟨by omega, ⟨by omega, by omega⟩, h5, h6, rfl, by simp [vl]⟩
  · refine ⟨ret_m [0] (.tup []) [some ⟨1, 82, .w .u64 p0⟩] rfl rfl (by simp) (fun i h => one_row h) rfl ⟨rfl, p0, h5, h6, ?_, rfl⟩⟩
    rw [h8, List.take_of_length_le (by omega), Int.mul_comm]
  · exact ⟨by omega, by simp, fun x hx => by rw [List.eq_of_mem_replicate hx]; decide, fun k _ => by simp [rd, List.getD_eq_getElem?_getD, List.getElem?_replicate]; split <;> rfl, by rw [vl_zero]; simp [vl]⟩
theorem pw_le {m n : Nat} (h : m ≤ n) : (18446744073709551616 : Int) ^ m ≤ 18446744073709551616 ^ n := by
  obtain ⟨d, rfl⟩ := Nat.exists_eq_add_of_le h
  rw [Int.pow_add]
  have h1 : (0 : Int) < 18446744073709551616 ^ m := Int.pow_pos (by decide)
  have h2 : (0 : Int) < 18446744073709551616 ^ d := Int.pow_pos (by decide)
  have := Int.mul_le_mul_of_nonneg_left (show (1 : Int) ≤ 18446744073709551616 ^ d by omega) (Int.le_of_lt h1)
  rw [Int.mul_one] at this
  exact this
theorem sum_row (a : List Int) : (List.replicate (a.length + 1) (0 : Int)).take 0 ++ a.take (a.length + 1) ++ (List.replicate (a.length + 1) (0 : Int)).drop (0 + min (a.length + 1) a.length) = a ++ [0] := by
  rw [List.take_zero, List.nil_append, List.take_of_length_le (by omega), show 0 + min (a.length + 1) a.length = a.length by omega, List.drop_replicate, show a.length + 1 - a.length = 1 by omega]
  rfl
theorem m_sum1 (X Y : Nat) (hX : L64 X ≤ 1073741824) (hY : L64 Y ≤ L64 X) : PM Tryz.prog G 224 [.ws .u64 (d64 X), .ws .u64 (d64 Y)] [] (fun r rs => r = .arr 0 0 (d64 (X + Y)).length ∧ ∃ c : List Int, (d64 (X + Y)).length ≤ c.length ∧ c.take (d64 (X + Y)).length = d64 (X + Y) ∧ rs = [some ⟨1, 82, .w .u64 c⟩]) := by
  obtain ⟨a, ea⟩ : ∃ a, a = d64 X := ⟨_, rfl⟩
  obtain ⟨b, eb⟩ : ∃ b, b = d64 Y := ⟨_, rfl⟩
  obtain ⟨oka, va⟩ := d64_ok X
  obtain ⟨okb, vb⟩ := d64_ok Y
  replace hX : (d64 X).length ≤ 1073741824 := hX
  replace hY : (d64 Y).length ≤ (d64 X).length := hY
  rw [← ea] at hX hY oka va
  rw [← eb] at hY okb vb
  rw [← ea, ← eb]
  have hsr := sum_row a
  have hvs : vl 18446744073709551616 (a ++ [0]) = X := by rw [vl_snoc, va]; simp
  have hok : okD 18446744073709551616 (a ++ [0]) := okD_append.2 ⟨oka, okD_cons.2 ⟨by decide, okD_nil _⟩⟩
  have hsl : (a ++ [0]).length = a.length + 1 := by simp
  have hno : vl 18446744073709551616 ((a ++ [0]).drop 0) + vl 18446744073709551616 b < 18446744073709551616 ^ ((a ++ [0]).length - 0) := by
    have h1 := vl_lt (B := 18446744073709551616) (by decide) oka
    have h2 := vl_lt (B := 18446744073709551616) (by decide) okb
    have h3 := vl_nonneg (B := 18446744073709551616) (by decide) okb
    have h4 : (18446744073709551616 : Int) ^ b.length ≤ 18446744073709551616 ^ a.length := by
      exact pw_le hY
    rw [List.drop_zero, hvs, hsl, Nat.sub_zero, Int.pow_succ]
    omega
  refine PM.intro (X := XX) tok Tryz.func224 rfl Tryz.ntmps224 (by rw [Tryz.results224]) (by kernel_rfl) rfl ?_; intro F hG hO; simp only [List.length_cons, List.length_nil, Nat.zero_add, Nat.reduceAdd] at hO
  repeat' ((try (conv => whnf)); first
 | (refine cg ?_; simp only [show ((a.length : Int) + 1).toNat = a.length + 1 by omega, hsr]; refine call_pm [0] (m_addat (a ++ [0]) b 0 (a.length + 1) hsl hok okb (by omega) (by omega) hno) rfl rfl rfl (by simp) ?_; rintro r rs ⟨rfl, c, c1, c2, c3, rfl⟩)
 | (refine cg ?_; refine call_pm [0] (m_trim c (a.length + 1) (by omega) (by omega)) rfl rfl rfl (by simp) ?_; rintro r rs ⟨rfl, rfl⟩)
 | with_reducible first | refine ax_s ?_ | (refine ax_f ?_ ?_ <;> try intro hc) | fail)
  have hc : vl 18446744073709551616 c = ((X + Y : Nat) : Int) := by
    rw [c3, hvs, vb, Int.pow_zero, Int.one_mul, Int.natCast_add]
  have ht : trim (c.take (a.length + 1)) = d64 (X + Y) := by rw [List.take_of_length_le (by omega)]; exact trim_pos c2 hc
  have hl : (d64 (X + Y)).length ≤ c.length := by
    have h := congrArg List.length (trim_pre c)
    rw [trim_pos c2 hc, List.length_take] at h
    omega
  refine ⟨ret_m [0] (.arr 0 0 (trim (c.take (a.length + 1))).length) [some ⟨1, 82, .w .u64 c⟩] rfl rfl (by simp) (fun i h => absurd h (Nat.not_lt_zero _)) rfl ⟨by rw [ht], c, hl, ?_, rfl⟩⟩
  rw [← trim_pos c2 hc]
  exact trim_pre c
theorem m_sum2 (X Y : Nat) (hX : L64 X ≤ 1073741824) (hY : L64 Y < L64 X) : PM Tryz.prog G 224 [.ws .u64 (d64 Y), .ws .u64 (d64 X)] [] (fun r rs => r = .arr 0 0 (d64 (X + Y)).length ∧ ∃ c : List Int, (d64 (X + Y)).length ≤ c.length ∧ c.take (d64 (X + Y)).length = d64 (X + Y) ∧ rs = [some ⟨1, 82, .w .u64 c⟩]) := by
  obtain ⟨a, ea⟩ : ∃ a, a = d64 X := ⟨_, rfl⟩
  obtain ⟨b, eb⟩ : ∃ b, b = d64 Y := ⟨_, rfl⟩
  obtain ⟨oka, va⟩ := d64_ok X
  obtain ⟨okb, vb⟩ := d64_ok Y
  replace hX : (d64 X).length ≤ 1073741824 := hX
  replace hY : (d64 Y).length < (d64 X).length := hY
  rw [← ea] at hX hY oka va
  rw [← eb] at hY okb vb
  rw [← ea, ← eb]
  have hsr := sum_row a
  have hvs : vl 18446744073709551616 (a ++ [0]) = X := by rw [vl_snoc, va]; simp
  have hok : okD 18446744073709551616 (a ++ [0]) := okD_append.2 ⟨oka, okD_cons.2 ⟨by decide, okD_nil _⟩⟩
  have hsl : (a ++ [0]).length = a.length + 1 := by simp
  have hno : vl 18446744073709551616 ((a ++ [0]).drop 0) + vl 18446744073709551616 b < 18446744073709551616 ^ ((a ++ [0]).length - 0) := by
    have h1 := vl_lt (B := 18446744073709551616) (by decide) oka
    have h2 := vl_lt (B := 18446744073709551616) (by decide) okb
    have h3 := vl_nonneg (B := 18446744073709551616) (by decide) okb
    have h4 : (18446744073709551616 : Int) ^ b.length ≤ 18446744073709551616 ^ a.length := by
      exact pw_le (Nat.le_of_lt hY)
    rw [List.drop_zero, hvs, hsl, Nat.sub_zero, Int.pow_succ]
    omega
  refine PM.intro (X := XX) tok Tryz.func224 rfl Tryz.ntmps224 (by rw [Tryz.results224]) (by kernel_rfl) rfl ?_; intro F hG hO; simp only [List.length_cons, List.length_nil, Nat.zero_add, Nat.reduceAdd] at hO
  repeat' ((try (conv => whnf)); first
 | (refine cg ?_; simp only [show ((a.length : Int) + 1).toNat = a.length + 1 by omega, hsr]; refine call_pm [0] (m_addat (a ++ [0]) b 0 (a.length + 1) hsl hok okb (by omega) (by omega) hno) rfl rfl rfl (by simp) ?_; rintro r rs ⟨rfl, c, c1, c2, c3, rfl⟩)
 | (refine cg ?_; refine call_pm [0] (m_trim c (a.length + 1) (by omega) (by omega)) rfl rfl rfl (by simp) ?_; rintro r rs ⟨rfl, rfl⟩)
 | with_reducible first | refine ax_s ?_ | (refine ax_f ?_ ?_ <;> try intro hc) | fail)
  have hc : vl 18446744073709551616 c = ((X + Y : Nat) : Int) := by
    rw [c3, hvs, vb, Int.pow_zero, Int.one_mul, Int.natCast_add]
  have ht : trim (c.take (a.length + 1)) = d64 (X + Y) := by rw [List.take_of_length_le (by omega)]; exact trim_pos c2 hc
  have hl : (d64 (X + Y)).length ≤ c.length := by
    have h := congrArg List.length (trim_pre c)
    rw [trim_pos c2 hc, List.length_take] at h
    omega
  refine ⟨ret_m [0] (.arr 0 0 (trim (c.take (a.length + 1))).length) [some ⟨1, 82, .w .u64 c⟩] rfl rfl (by simp) (fun i h => absurd h (Nat.not_lt_zero _)) rfl ⟨by rw [ht], c, hl, ?_, rfl⟩⟩
  rw [← trim_pos c2 hc]
  exact trim_pre c
theorem m_sum (X Y : Nat) (hX : L64 X ≤ 1073741824) (hY : L64 Y ≤ 1073741824) : FC Tryz.prog G 224 [.ws .u64 (d64 X), .ws .u64 (d64 Y)] (· = .ws .u64 (d64 (X + Y))) := by
  rcases Nat.lt_or_ge (L64 X) (L64 Y) with h | h
  · have := FC.of_row (m_sum2 (G := G) Y X hY h)
    rw [Nat.add_comm Y X] at this
    exact this
  · exact FC.of_row (m_sum1 X Y hX h)
def RowOf (n V : Nat) (rs : List (Option Row)) : Prop := ∃ c : List Int, c.length = n ∧ okD 18446744073709551616 c ∧ vl 18446744073709551616 c = (V : Int) ∧ rs = [some ⟨1, 82, .w .u64 c⟩]
def FillOk (g : Gs) (X Y : Nat) : Prop := PM Tryz.prog g 205 [.arr 0 0 (L64 X + L64 Y), .ws .u64 (d64 X), .ws .u64 (d64 Y)] [⟨1, 82, .w .u64 (List.replicate (L64 X + L64 Y) 0)⟩] (fun r rs => r = .tup [] ∧ RowOf (L64 X + L64 Y) (X * Y) rs)
def ProdOk (g : Gs) (X Y : Nat) : Prop := PM Tryz.prog g 184 [.ws .u64 (d64 X), .ws .u64 (d64 Y)] [] (fun r rs => r = .arr 0 0 (L64 (X * Y)) ∧ RowOf (L64 X + L64 Y) (X * Y) rs)
theorem L64_mul (x y : Nat) : L64 (x * y) ≤ L64 x + L64 y := lenB_mul (by decide) x y
theorem L64_mono {x y : Nat} (h : x ≤ y) : L64 x ≤ L64 y := lenB_mono (by decide) h
theorem row_take {c : List Int} {V : Nat} (ok : okD 18446744073709551616 c) (h : vl 18446744073709551616 c = (V : Int)) : c.take (L64 V) = d64 V ∧ L64 V ≤ c.length := by
  have h1 := trim_pos ok h
  have h2 := trim_pre c
  rw [h1] at h2
  refine ⟨h2, ?_⟩
  have h3 := congrArg List.length h2
  rw [List.length_take, d64_len] at h3
  omega
theorem ProdOk.fc {X Y : Nat} (h : ProdOk G X Y) : FC Tryz.prog G 184 [.ws .u64 (d64 X), .ws .u64 (d64 Y)] (· = .ws .u64 (d64 (X * Y))) := by
  refine FC.of_row (l := d64 (X * Y)) (T := 82) (h.mono ?_)
  rintro r rs ⟨rfl, c, h1, h2, h3, rfl⟩
  obtain ⟨h4, h5⟩ := row_take h2 h3
  exact ⟨rfl, c, h5, h4, rfl⟩
theorem vl_d64i (X : Nat) : vl 18446744073709551616 (d64 X) = (X : Int) := (d64_ok X).2
theorem prod_of_fill {X Y : Nat} (h : FillOk G X Y) (hX : L64 X + L64 Y ≤ 1073741824) : ProdOk G X Y := by
  unfold FillOk at h
  have l1 : (d64 X).length = L64 X := rfl
  have l2 : (d64 Y).length = L64 Y := rfl
  obtain ⟨n, hn⟩ : ∃ n, n = L64 X + L64 Y := ⟨_, rfl⟩
  obtain ⟨a, ha⟩ : ∃ a, a = d64 X := ⟨_, rfl⟩
  obtain ⟨b, hb⟩ : ∃ b, b = d64 Y := ⟨_, rfl⟩
  unfold ProdOk
  rw [← hn, ← ha, ← hb] at h
  rw [← ha] at l1
  rw [← hb] at l2
  rw [← ha, ← hb, ← hn]
  refine PM.intro (X := XX) tok Tryz.func184 rfl Tryz.ntmps184 (by rw [Tryz.results184]) (by kernel_rfl) rfl ?_; intro F hG hO; simp only [List.length_cons, List.length_nil, Nat.zero_add, Nat.reduceAdd] at hO
  rw [← hG] at h
  repeat' ((try (conv => whnf)); first
 | (refine cg ?_; simp only [show ((a.length : Int) + (b.length : Int)).toNat = n by omega]; refine call_pm [0] h rfl rfl rfl (by simp) ?_; rintro r rs ⟨rfl, c, c1, c2, c3, rfl⟩)
 | (refine cg ?_; refine call_pm [0] (m_trim c n (by omega) (by omega)) rfl rfl rfl (by simp) ?_; rintro r rs ⟨rfl, rfl⟩)
 | with_reducible first | refine ax_s ?_ | (refine ax_f ?_ ?_ <;> try intro hc) | fail)
  have ht : (trim (c.take n)).length = L64 (X * Y) := by rw [List.take_of_length_le (by omega), trim_pos c2 c3]; rfl
  refine ⟨ret_m [0] (.arr 0 0 (trim (c.take n)).length) [some ⟨1, 82, .w .u64 c⟩] rfl rfl (by simp) (fun i h => absurd h (Nat.not_lt_zero _)) rfl ⟨by rw [ht], c, c1, c2, c3, rfl⟩⟩
theorem add_room {c : List Int} {n t : Nat} {V : Int} (ok : okD 18446744073709551616 c) (hl : c.length = n) (ht : t ≤ n) (h : vl 18446744073709551616 c + 18446744073709551616 ^ t * V < 18446744073709551616 ^ n) : vl 18446744073709551616 (c.drop t) + V < 18446744073709551616 ^ (c.length - t) := by
  have h1 := vl_split 18446744073709551616 c t (by omega)
  have h2 := vl_nonneg (B := 18446744073709551616) (by decide) (ok.take t)
  have hp : (0 : Int) < 18446744073709551616 ^ t := Int.pow_pos (by decide)
  have e : (18446744073709551616 : Int) ^ n = 18446744073709551616 ^ t * 18446744073709551616 ^ (n - t) := by rw [← Int.pow_add]; congr 1; omega
  rw [hl]
  have h3 : 18446744073709551616 ^ t * (vl 18446744073709551616 (c.drop t) + V) < 18446744073709551616 ^ t * 18446744073709551616 ^ (n - t) := by
    rw [← e, Int.mul_add]
    omega
  exact Int.lt_of_mul_lt_mul_left h3 (Int.le_of_lt hp)
theorem piece (X t m : Nat) : trim (((d64 X).drop t).take m) = d64 (X / 2 ^ (64 * t) % 2 ^ (64 * m)) := by
  rw [d64_hi, trim_lo]
theorem pow64i (n : Nat) : (18446744073709551616 : Int) ^ n = ((2 ^ (64 * n) : Nat) : Int) := by
  rw [← pow64]; simp
theorem low_step (X t m : Nat) : X % 2 ^ (64 * (t + m)) = X % 2 ^ (64 * t) + 2 ^ (64 * t) * (X / 2 ^ (64 * t) % 2 ^ (64 * m)) := by
  rw [Nat.mul_add, Nat.pow_add, Nat.mod_mul]
def slabP (X t lb la : Nat) : Nat := X / 2 ^ (64 * t) % 2 ^ (64 * (min (t + lb) la - t))
theorem slab_piece (X t lb la : Nat) : trim (List.drop ((t : Int).toNat) (List.take (min ((t : Int) + (lb : Int)) (la : Int)).toNat (d64 X))) = d64 (slabP X t lb la) := by
  rw [Int.toNat_natCast, show (min ((t : Int) + (lb : Int)) (la : Int)).toNat = min (t + lb) la by omega, List.drop_take, piece]; rfl
theorem slab_len (X t lb la : Nat) : L64 (slabP X t lb la) ≤ min (t + lb) la - t := L64_le (Nat.mod_lt _ (Nat.pow_pos (by decide)))
theorem slab_next {X t lb la : Nat} (hX : X < 2 ^ (64 * la)) (ht : t < la) : X % 2 ^ (64 * (t + lb)) = X % 2 ^ (64 * t) + 2 ^ (64 * t) * slabP X t lb la := by
  unfold slabP
  rw [← low_step]
  rcases Nat.lt_or_ge la (t + lb) with h | h
  · rw [show t + (min (t + lb) la - t) = la by omega, Nat.mod_eq_of_lt hX, Nat.mod_eq_of_lt (Nat.lt_of_lt_of_le hX (Nat.pow_le_pow_right (by decide) (by omega)))]
  · rw [show t + (min (t + lb) la - t) = t + lb by omega]
theorem slab_vl {X Y t lb la : Nat} {v : Int} (hX : X < 2 ^ (64 * la)) (ht : t < la) (hv : v = ((X % 2 ^ (64 * t) * Y : Nat) : Int)) : v + 18446744073709551616 ^ t * ((slabP X t lb la * Y : Nat) : Int) = ((X % 2 ^ (64 * (t + lb)) * Y : Nat) : Int) := by
  rw [hv, slab_next hX ht, pow64i, ← Int.natCast_mul, ← Int.natCast_add, Nat.add_mul, Nat.mul_assoc]
theorem slab_room {X Y t lb la n : Nat} (hX : X < 2 ^ (64 * la)) (hY : Y < 2 ^ (64 * lb)) (ht : t < la) (hn : n = la + lb) : ((X % 2 ^ (64 * (t + lb)) * Y : Nat) : Int) < 18446744073709551616 ^ n := by
  have e : 2 ^ (64 * n) = 2 ^ (64 * la) * 2 ^ (64 * lb) := by rw [hn, Nat.mul_add, Nat.pow_add]
  rw [pow64i, e]
  have h1 : X % 2 ^ (64 * (t + lb)) ≤ X := Nat.mod_le _ _
  have h2 : X % 2 ^ (64 * (t + lb)) * Y < 2 ^ (64 * la) * 2 ^ (64 * lb) := Nat.mul_lt_mul'' (by omega) hY
  exact Int.ofNat_lt.2 h2
theorem m_slabs (X Y : Nat) (ih : ∀ X' Y' : Nat, L64 X' + L64 Y' < L64 X + L64 Y → ProdOk G X' Y') (hb : 0 < L64 Y) (hge : 2 * L64 Y ≤ L64 X) (hX : L64 X ≤ 536870912) :
    PM Tryz.prog G 216 [.arr 0 0 (L64 X + L64 Y), .ws .u64 (d64 X), .ws .u64 (d64 Y)] [⟨1, 82, .w .u64 (List.replicate (L64 X + L64 Y) 0)⟩] (fun r rs => r = .tup [] ∧ RowOf (L64 X + L64 Y) (X * Y) rs) := by
  have l1 : (d64 X).length = L64 X := rfl
  have l2 : (d64 Y).length = L64 Y := rfl
  obtain ⟨n, hn⟩ : ∃ n, n = L64 X + L64 Y := ⟨_, rfl⟩
  have hpc := fun t lb la => slab_piece X t lb la
  obtain ⟨a, ha⟩ : ∃ a, a = d64 X := ⟨_, rfl⟩
  obtain ⟨b, hb2⟩ : ∃ b, b = d64 Y := ⟨_, rfl⟩
  rw [← ha] at l1 hpc
  rw [← hb2] at l2
  rw [← ha, ← hb2, ← hn]
  refine PM.intro (X := XX) tok Tryz.func216 rfl Tryz.ntmps216 (by rw [Tryz.results216]) (by kernel_rfl) rfl ?_; intro F hG hO; simp only [List.length_cons, List.length_nil, Nat.zero_add, Nat.reduceAdd] at hO
  rw [← hG] at ih
  repeat' ((try (conv => whnf)); first
 | (refine lg ?_; refine loop_g (A := Nat × List Int) (fun (t, c) => t ≤ n ∧ c.length = n ∧ okD 18446744073709551616 c ∧ vl 18446744073709551616 c = ((X % 2 ^ (64 * t) * Y : Nat) : Int)) (fun (t, c) => a.length - t) (fun (t, c) => [(0, .arr 0 0 n), (1, .ws .u64 a), (2, .ws .u64 b), (6, .val (.int .i64 (t : Int)))]) (fun _ => []) (fun (t, c) => [some ⟨1, 82, .w .u64 c⟩]) (0, List.replicate n 0) tok (fun (t, c) => ⟨⟨Nat.one_pos, trivial, trivial, trivial, trivial⟩, trivial, by simp only [List.length_cons, List.length_nil]; omega⟩) ?_ ⟨rfl, rfl, rfl, rfl, trivial⟩ ⟨[], rfl⟩ ⟨[], rfl⟩ ?_; rotate_left; rintro ⟨t, c⟩ ⟨i1, i2, i3, i4⟩)
 | (refine cg ?_; have f1 := m_trimw (G := F.G) (List.drop ((t : Int).toNat) (List.take (min ((t : Int) + (b.length : Int)) (a.length : Int)).toNat a)) (by rw [List.length_drop, List.length_take]; omega); rw [hpc] at f1; refine ce f1 ?_)
 | (refine cg ?_; have f2 := (ih (slabP X t b.length a.length) Y (by have := slab_len X t b.length a.length; omega)).fc; rw [← hb2] at f2; refine ce f2 ?_)
 | (refine cg ?_; dsimp only; have hsv := slab_vl (Y := Y) (lb := b.length) (by rw [l1]; exact L64_lt X) (show t < a.length by omega) i4; refine call_pm [0] (m_addat c (d64 (slabP X t b.length a.length * Y)) t n i2 i3 (d64_ok _).1 (by omega) (by have h1 := slab_len X t b.length a.length; have h2 := L64_mul (slabP X t b.length a.length) Y; rw [d64_len]; omega) (add_room i3 i2 (by omega) (by rw [vl_d64i, hsv]; exact slab_room (by rw [l1]; exact L64_lt X) (by rw [l2]; exact L64_lt Y) (show t < a.length by omega) (by omega)))) rfl rfl rfl (by simp) ?_; rintro r rs ⟨rfl, c', c1, c2, c3, rfl⟩; rw [vl_d64i, hsv] at c3)
 | with_reducible first | refine ax_s ?_ | (refine ax_f ?_ ?_ <;> try intro hc) | fail)
  · exact ⟨again (t + b.length, c') ⟨by dsimp only; omega, by dsimp only; omega, c2, c3⟩ (by dsimp only; omega) ⟨rfl, rfl, rfl, iv_eq (by omega), trivial⟩ ⟨[], rfl⟩ ⟨[], rfl⟩⟩
  · refine ⟨ret_m [0] (.tup []) [some ⟨1, 82, .w .u64 c⟩] rfl rfl (by simp) (fun i h => one_row h) rfl ⟨rfl, c, i2, i3, ?_, rfl⟩⟩
    rw [i4, Nat.mod_eq_of_lt (Nat.lt_of_lt_of_le (L64_lt X) (Nat.pow_le_pow_right (by decide) (by omega)))]
  · exact ⟨Nat.zero_le _, by simp, fun x hx => by rw [List.eq_of_mem_replicate hx]; decide, by rw [vl_zero, Nat.mul_zero, Nat.pow_zero, Nat.mod_one, Nat.zero_mul]; rfl⟩
theorem kara (x0 x1 y0 y1 P : Nat) : (x0 + P * x1) * (y0 + P * y1) = x0 * y0 + P * (x0 * y1 + x1 * y0) + P * P * (x1 * y1) ∧ (x0 + x1) * (y0 + y1) = x0 * y0 + x1 * y1 + (x0 * y1 + x1 * y0) := by
  constructor
  · rw [Nat.add_mul, Nat.mul_add, Nat.mul_add, Nat.mul_add]
    have e1 : x0 * (P * y1) = P * (x0 * y1) := Nat.mul_left_comm _ _ _
    have e2 : P * x1 * y0 = P * (x1 * y0) := Nat.mul_assoc _ _ _
    have e3 : P * x1 * (P * y1) = P * P * (x1 * y1) := Nat.mul_mul_mul_comm _ _ _ _
    rw [e1, e2, e3]
    omega
  · rw [Nat.add_mul, Nat.mul_add, Nat.mul_add]
    omega
theorem call_row {F : Fr} {N : Nat} {t : Nat → PV} {bx : List (List PV)} {ob : List (Option Row)} {f : FuncId} {args : List PV} {n n2 V m : Nat} {K : St → PV → Prop} (h : PM Tryz.prog F.G f args [] (fun r rs => r = .arr 0 0 n ∧ RowOf n2 V rs)) (hok : okAL 0 args = true) (hre : renL [] ob.length args = args) (hm : ob.length = m)
    (hK : ∀ c : List Int, c.length = n2 → okD 18446744073709551616 c → vl 18446744073709551616 c = (V : Int) → K ⟨N, t, bx, ob ++ [some ⟨1, 82, .w .u64 c⟩]⟩ (.arr m 0 n)) : CallF Tryz.prog F false f args ⟨N, t, bx, ob⟩ K :=
  call_pm [] h hre hok rfl List.nodup_nil (by rintro r rs ⟨rfl, c, c1, c2, c3, rfl⟩; subst hm; simpa [putR, ren, renI] using hK c c1 c2 c3)
theorem vL_bar {F : Fr} {TT : List TI} {X : List FuncId} {all : List Oper} {l : List (Oper × Md)} {s : St} {K : St → Prop} (h : ∀ K' : St → Prop, K' = K → vL Tryz.prog F TT X all l s K') : vL Tryz.prog F TT X all l s K := h K rfl
theorem vC_bar {F : Fr} {TT : List TI} {X : List FuncId} {a b : Code} {kn kr : St → Prop} {kx : Nat → St → Prop} {s : St} (h : ∀ K1 : St → Prop, K1 = vC Tryz.prog F TT X b kn kr kx → vC Tryz.prog F TT X a K1 kr kx s) : vC Tryz.prog F TT X (a.seq b) kn kr kx s := h _ rfl
theorem len_room {V t n : Nat} (h : 2 ^ (64 * t) * V < 2 ^ (64 * n)) (ht : t ≤ n) : t + L64 V ≤ n := by
  have e : 2 ^ (64 * n) = 2 ^ (64 * t) * 2 ^ (64 * (n - t)) := by rw [← Nat.pow_add]; congr 1; omega
  rw [e] at h
  have h2 := Nat.lt_of_mul_lt_mul_left h
  have := L64_le h2
  omega
theorem take_trim {c : List Int} {m : Nat} {V : Nat} (h : trim (c.take m) = d64 V) : c.take (trim (c.take m)).length = d64 V := by
  have h1 := trim_pre (c.take m)
  rw [List.take_take, h] at h1
  have h2 : (d64 V).length ≤ m := by
    have := congrArg List.length (trim_pre (c.take m))
    rw [h, List.length_take, List.length_take] at this
    omega
  rw [Nat.min_eq_left h2] at h1
  rw [h]; exact h1
theorem L64_add (x y : Nat) : L64 (x + y) ≤ max (L64 x) (L64 y) + 1 := lenB_add (by decide) x y
theorem copy_row (l : List Int) (n : Nat) (h : l.length ≤ n) : (List.replicate n (0 : Int)).take 0 ++ l.take n ++ (List.replicate n (0 : Int)).drop (0 + min n l.length) = l ++ List.replicate (n - l.length) 0 := by
  rw [List.take_zero, List.nil_append, List.take_of_length_le (by omega), show 0 + min n l.length = l.length by omega, List.drop_replicate]
theorem pad_ok {V n : Nat} (h : L64 V ≤ n) : (d64 V ++ List.replicate (n - L64 V) (0 : Int)).length = n ∧ okD 18446744073709551616 (d64 V ++ List.replicate (n - L64 V) 0) ∧ vl 18446744073709551616 (d64 V ++ List.replicate (n - L64 V) 0) = (V : Int) := by
  refine ⟨by rw [List.length_append, List.length_replicate, d64_len]; omega, okD_append.2 ⟨(d64_ok V).1, fun x hx => by rw [List.eq_of_mem_replicate hx]; decide⟩, by rw [vl_append, vl_zero, Int.mul_zero, Int.add_zero, vl_d64i]⟩
theorem m_thirds (X Y : Nat) (ih : ∀ X' Y' : Nat, L64 X' + L64 Y' < L64 X + L64 Y → ProdOk G X' Y') (hb : 40 ≤ L64 Y) (hge : L64 Y ≤ L64 X) (hX : L64 X ≤ 536870912) :
    PM Tryz.prog G 217 [.arr 0 0 (L64 X + L64 Y), .ws .u64 (d64 X), .ws .u64 (d64 Y)] [⟨1, 82, .w .u64 (List.replicate (L64 X + L64 Y) 0)⟩] (fun r rs => r = .tup [] ∧ RowOf (L64 X + L64 Y) (X * Y) rs) := by
  have l1 : (d64 X).length = L64 X := rfl
  have l2 : (d64 Y).length = L64 Y := rfl
  obtain ⟨n, hn⟩ : ∃ n, n = L64 X + L64 Y := ⟨_, rfl⟩
  obtain ⟨k, hk⟩ : ∃ k, k = (L64 X + 1) / 2 := ⟨_, rfl⟩
  have g1 := m_cut (G := G) X k (by omega) (by omega)
  have g2 := m_cut (G := G) Y k (by omega) (by omega)
  obtain ⟨P, hP⟩ : ∃ P, P = 2 ^ (64 * k) := ⟨_, rfl⟩
  rw [← hP] at g1 g2
  have hPp : 0 < P := by rw [hP]; exact Nat.pow_pos (by decide)
  have ex := nat_dm X P hPp
  have ey := nat_dm Y P hPp
  have hx0 : L64 (X % P) ≤ k := L64_le (by rw [hP]; exact Nat.mod_lt _ (Nat.pow_pos (by decide)))
  have hy0 : L64 (Y % P) ≤ k := L64_le (by rw [hP]; exact Nat.mod_lt _ (Nat.pow_pos (by decide)))
  have hx1 : L64 (X / P) ≤ L64 X - k := by
    have h := congrArg List.length (d64_hi X k)
    rw [List.length_drop, ← hP] at h
    exact Nat.le_of_eq h.symm
  have hy1 : L64 (Y / P) ≤ L64 Y - k := by
    have h := congrArg List.length (d64_hi Y k)
    rw [List.length_drop, ← hP] at h
    exact Nat.le_of_eq h.symm
  obtain ⟨x0, ex0⟩ : ∃ x0, x0 = X % P := ⟨_, rfl⟩
  obtain ⟨x1, ex1⟩ : ∃ x1, x1 = X / P := ⟨_, rfl⟩
  obtain ⟨y0, ey0⟩ : ∃ y0, y0 = Y % P := ⟨_, rfl⟩
  obtain ⟨y1, ey1⟩ : ∃ y1, y1 = Y / P := ⟨_, rfl⟩
  rw [← ex0] at g1 ex hx0
  rw [← ex1] at g1 ex hx1
  rw [← ey0] at g2 ey hy0
  rw [← ey1] at g2 ey hy1
  have sx : L64 (x0 + x1) ≤ k + 1 := Nat.le_trans (L64_add x0 x1) (by clear ex ey ex0 ex1 ey0 ey1; omega)
  have sy : L64 (y0 + y1) ≤ k + 1 := Nat.le_trans (L64_add y0 y1) (by clear ex ey ex0 ex1 ey0 ey1; omega)
  have g3 := m_sum (G := G) x0 x1 (by omega) (by omega)
  have g4 := m_sum (G := G) y0 y1 (by omega) (by omega)
  have g5 := (ih x0 y0 (by omega)).fc
  have g6 := (ih x1 y1 (by omega)).fc
  have g7 := ih (x0 + x1) (y0 + y1) (by omega)
  obtain ⟨kar1, kar2⟩ := kara x0 x1 y0 y1 P
  obtain ⟨low, elow⟩ : ∃ v, v = x0 * y0 := ⟨_, rfl⟩
  obtain ⟨high, ehigh⟩ : ∃ v, v = x1 * y1 := ⟨_, rfl⟩
  obtain ⟨mid, emid⟩ : ∃ v, v = x0 * y1 + x1 * y0 := ⟨_, rfl⟩
  rw [← elow, ← ehigh, ← emid] at kar1 kar2
  have hXY : X * Y = low + P * mid + P * P * high := by
    rw [← kar1]
    congr 1 <;> omega
  clear kar1
  rw [← elow] at g5
  rw [← ehigh] at g6
  unfold ProdOk at g7
  rw [kar2] at g7
  obtain ⟨M, eM⟩ : ∃ M, M = low + high + mid := ⟨_, rfl⟩
  rw [← eM] at g7
  obtain ⟨m, hm⟩ : ∃ m, m = L64 M := ⟨_, rfl⟩
  obtain ⟨n2, hn2⟩ : ∃ n2, n2 = L64 (x0 + x1) + L64 (y0 + y1) := ⟨_, rfl⟩
  rw [← hm, ← hn2] at g7
  obtain ⟨a, ha⟩ : ∃ a, a = d64 X := ⟨_, rfl⟩
  obtain ⟨b, hb2⟩ : ∃ b, b = d64 Y := ⟨_, rfl⟩
  rw [← ha] at l1 g1
  rw [← hb2] at l2 g2
  rw [← ha, ← hb2, ← hn]
  obtain ⟨dX0, hdX0⟩ : ∃ d, d = d64 x0 := ⟨_, rfl⟩
  rw [← hdX0] at g1 g3 g5
  obtain ⟨dX1, hdX1⟩ : ∃ d, d = d64 x1 := ⟨_, rfl⟩
  rw [← hdX1] at g1 g3 g6
  obtain ⟨dY0, hdY0⟩ : ∃ d, d = d64 y0 := ⟨_, rfl⟩
  rw [← hdY0] at g2 g4 g5
  obtain ⟨dY1, hdY1⟩ : ∃ d, d = d64 y1 := ⟨_, rfl⟩
  rw [← hdY1] at g2 g4 g6
  obtain ⟨dSx, hdSx⟩ : ∃ d, d = d64 (x0 + x1) := ⟨_, rfl⟩
  rw [← hdSx] at g3 g7
  obtain ⟨dSy, hdSy⟩ : ∃ d, d = d64 (y0 + y1) := ⟨_, rfl⟩
  rw [← hdSy] at g4 g7
  obtain ⟨dL, hdL⟩ : ∃ d, d = d64 low := ⟨_, rfl⟩
  rw [← hdL] at g5
  obtain ⟨dH, hdH⟩ : ∃ d, d = d64 high := ⟨_, rfl⟩
  rw [← hdH] at g6
  have okL : okD 18446744073709551616 dL := by rw [hdL]; exact (d64_ok low).1
  have okH : okD 18446744073709551616 dH := by rw [hdH]; exact (d64_ok high).1
  have vL0 : vl 18446744073709551616 dL = (low : Int) := by rw [hdL]; exact (d64_ok low).2
  have vH0 : vl 18446744073709551616 dH = (high : Int) := by rw [hdH]; exact (d64_ok high).2
  have lL : dL.length = L64 low := by rw [hdL]; rfl
  have lH : dH.length = L64 high := by rw [hdH]; rfl
  have mL : L64 low ≤ m := by rw [hm]; exact L64_mono (by omega)
  have mH : L64 high ≤ m := by rw [hm]; exact L64_mono (by omega)
  have mM : L64 mid ≤ m := by rw [hm]; exact L64_mono (by omega)
  have hlt : X * Y < 2 ^ (64 * n) := by
    rw [hn, Nat.mul_add, Nat.pow_add]
    exact Nat.mul_lt_mul'' (L64_lt X) (L64_lt Y)
  have rM : k + L64 mid ≤ n := len_room (by rw [← hP]; exact Nat.lt_of_le_of_lt (by omega) hlt) (by omega)
  have e2k : 2 ^ (64 * (2 * k)) = P * P := by rw [hP, ← Nat.pow_add]; congr 1; omega
  have rH : 2 * k + L64 high ≤ n := len_room (by rw [e2k]; exact Nat.lt_of_le_of_lt (by omega) hlt) (by omega)
  have iN : ((X * Y : Nat) : Int) < 18446744073709551616 ^ n := by rw [pow64i]; exact Int.ofNat_lt.2 hlt
  have iK : (18446744073709551616 : Int) ^ k = (P : Int) := by rw [pow64i, ← hP]
  have i2K : (18446744073709551616 : Int) ^ (2 * k) = ((P * P : Nat) : Int) := by rw [pow64i, e2k]
  have iXY : ((X * Y : Nat) : Int) = (low : Int) + ((P * mid : Nat) : Int) + ((P * P * high : Nat) : Int) := by rw [hXY]; omega
  have hLn : dL.length ≤ n := by
    have := L64_mul X Y
    have h2 : L64 low ≤ L64 (X * Y) := L64_mono (by omega)
    omega
  have hcp := copy_row dL n hLn
  obtain ⟨pL, hpL⟩ : ∃ p, p = dL ++ List.replicate (n - dL.length) (0 : Int) := ⟨_, rfl⟩
  rw [← hpL] at hcp
  have hpk := pad_ok (V := low) (n := n) (by omega)
  rw [← hdL, ← lL, ← hpL] at hpk
  obtain ⟨p1, p2, p3⟩ := hpk
  have n1 : vl 18446744073709551616 pL + 18446744073709551616 ^ k * vl 18446744073709551616 (d64 mid) = (low : Int) + ((P * mid : Nat) : Int) := by rw [p3, (d64_ok mid).2, iK, Int.natCast_mul]
  have room1 := add_room (t := k) (V := vl 18446744073709551616 (d64 mid)) p2 p1 (by omega) (by rw [n1]; omega)
  refine PM.intro (X := XX) tok Tryz.func217 rfl Tryz.ntmps217 (by rw [Tryz.results217]) (by kernel_rfl) rfl ?_; intro F hG hO; simp only [List.length_cons, List.length_nil, Nat.zero_add, Nat.reduceAdd] at hO
  rw [← hG] at g1 g2 g3 g4 g5 g6 g7
  repeat' ((try (conv => whnf)); first
 | (refine cg ?_; rw [show ((a.length : Int) + 1) / 2 = (k : Int) by omega]; refine ce g1 ?_)
 | refine ce g1 ?_ | refine ce g2 ?_ | refine ce g3 ?_ | refine ce g4 ?_ | refine ce g5 ?_ | refine ce g6 ?_
 | (refine cg ?_; refine call_row (m := 1) g7 rfl rfl rfl ?_; intro c c1 c2 c3; unfold vPut; simp only [show Nat.blt 42 62 = true from rfl]; refine vL_bar ?_; intro K hK; (conv => whnf); subst hK; refine vC_bar ?_; intro K1 hK1)
 | (refine cg ?_; have q1 := row_take c2 c3; rw [← hm] at q1; have q2 : vl 18446744073709551616 (c.take m) = (M : Int) := (by rw [q1.1]; exact (d64_ok M).2); refine call_pm [1] (m_takeaway c dL m c2 okL (by omega) q1.2 (by omega) (by omega)) rfl rfl rfl (by simp) ?_; rintro r rs ⟨rfl, c', d1, d2, d3, rfl⟩)
 | (refine cg ?_; refine call_pm [1] (m_takeaway c' dH m d2 okH (by omega) (by omega) (by omega) (by omega)) rfl rfl rfl (by simp) ?_; rintro r rs ⟨rfl, c'', f1, f2, f3, rfl⟩)
 | (refine cg ?_; refine call_pm [1] (m_trim c'' m (by omega) (by omega)) rfl rfl rfl (by simp) ?_; rintro r rs ⟨rfl, rfl⟩)
 | (refine cg ?_; rw [show 2 * (k : Int) = ((2 * k : Nat) : Int) by omega]; have n3 : vl 18446744073709551616 e + 18446744073709551616 ^ (2 * k) * vl 18446744073709551616 dH = ((X * Y : Nat) : Int) := (by rw [x3, n1, vH0, i2K, iXY, Int.natCast_mul (P * P) high]); have room2 := add_room (t := 2 * k) (V := vl 18446744073709551616 dH) x2 (show e.length = n by omega) (by omega) (by rw [n3]; exact iN); refine call_pm [0] (m_addat e dH (2 * k) n (by omega) x2 okH (by omega) (by omega) room2) rfl rfl rfl (by simp) ?_; rintro r rs ⟨rfl, z, z1, z2, z3, rfl⟩; rw [n3] at z3)
 | (refine cg ?_; have htm : trim (c''.take m) = d64 mid := trim_pos (f2.take m) (by rw [f3, d3, q2, vL0, vH0]; omega); refine call_fz 1 (q := 1) (A := c'') (B := d64 mid) rfl rfl (by rw [htm, d64_len]; omega) (by rw [List.drop_zero]; exact take_trim htm) (by omega) ?_; refine call_pm [0] (m_addat pL (d64 mid) k n p1 p2 (d64_ok mid).1 (by omega) (by rw [d64_len]; omega) room1) rfl rfl (congrArg (fun l => [some (some (⟨1, 82, .w .u64 l⟩ : Row))]) hcp) (by simp) ?_; rintro r rs ⟨rfl, e, x1, x2, x3, rfl⟩)
 | (subst hK1; refine vC_bar ?_; intro K1 hK1) | (subst hK1)
 | with_reducible first | refine ax_s ?_ | (refine ax_f ?_ ?_ <;> try intro hc) | fail)
  exact ⟨ret_m [0] (.tup []) [some ⟨1, 82, .w .u64 z⟩] rfl rfl (by simp) (fun i h => one_row h) rfl ⟨rfl, z, by omega, z2, z3, rfl⟩⟩
theorem rows_row (X Y n : Nat) (hn : L64 X + L64 Y = n) (hX : L64 X ≤ 536870912) (hY : L64 Y ≤ 536870912) : PM Tryz.prog G 215 [.arr 0 0 n, .ws .u64 (d64 X), .ws .u64 (d64 Y)] [⟨1, 82, .w .u64 (List.replicate n 0)⟩] (fun r rs => r = .tup [] ∧ RowOf n (X * Y) rs) := by
  subst hn
  have h := m_rows (G := G) (d64 X) (d64 Y) (by rw [d64_len]; omega) (by rw [d64_len]; omega) (d64_ok X).1 (d64_ok Y).1
  rw [d64_len, d64_len] at h
  refine h.mono ?_
  rintro r rs ⟨rfl, c, h1, h2, h3, rfl⟩
  exact ⟨rfl, c, h1, h2, by rw [h3, vl_d64i, vl_d64i, Int.natCast_mul], rfl⟩
theorem fill_step (X Y : Nat) (ih : ∀ X' Y' : Nat, L64 X' + L64 Y' < L64 X + L64 Y → ProdOk G X' Y') (hX : L64 X ≤ 536870912) (hY : L64 Y ≤ 536870912) : FillOk G X Y := by
  unfold FillOk
  obtain ⟨n, hn⟩ : ∃ n, n = L64 X + L64 Y := ⟨_, rfl⟩
  have l1 : (d64 X).length = L64 X := rfl
  have l2 : (d64 Y).length = L64 Y := rfl
  by_cases hlt : L64 X < L64 Y
  · have r1 := rows_row (G := G) Y X n (by omega) hY hX
    have r2 := fun h1 h2 => m_slabs (G := G) Y X (fun X' Y' h => ih X' Y' (by omega)) h1 h2 hY
    have r3 := fun h1 => m_thirds (G := G) Y X (fun X' Y' h => ih X' Y' (by omega)) h1 (by omega) hY
    rw [show L64 Y + L64 X = n by omega] at r2 r3
    rw [Nat.mul_comm Y X] at r1 r2 r3
    obtain ⟨V, hV⟩ : ∃ V, V = X * Y := ⟨_, rfl⟩
    rw [← hV] at r1 r2 r3 ⊢
    rw [← hn]
    obtain ⟨a, ha⟩ : ∃ a, a = d64 X := ⟨_, rfl⟩
    obtain ⟨b, hb⟩ : ∃ b, b = d64 Y := ⟨_, rfl⟩
    rw [← ha, ← hb] at r1 r2 r3
    rw [← ha] at l1
    rw [← hb] at l2
    rw [← ha, ← hb]
    clear ih hV
    refine PM.intro (X := XX) tok Tryz.func205 rfl Tryz.ntmps205 (by rw [Tryz.results205]) (by kernel_rfl) rfl ?_; intro F hG hO; simp only [List.length_cons, List.length_nil, Nat.zero_add, Nat.reduceAdd] at hO
    rw [← hG] at r1 r2 r3
    repeat' ((try (conv => whnf)); first
 | (refine cg ?_; refine call_pm [0] r1 rfl rfl rfl (by simp) ?_; rintro r rs ⟨rfl, c, c1, c2, c3, rfl⟩)
 | (refine cg ?_; refine call_pm [0] (r2 (by omega) (by omega)) rfl rfl rfl (by simp) ?_; rintro r rs ⟨rfl, c, c1, c2, c3, rfl⟩)
 | (refine cg ?_; refine call_pm [0] (r3 (by omega)) rfl rfl rfl (by simp) ?_; rintro r rs ⟨rfl, c, c1, c2, c3, rfl⟩)
 | with_reducible first | refine ax_s ?_ | (refine ax_f ?_ ?_ <;> try intro hc) | fail)
    all_goals exact ⟨ret_m [0] (.tup []) [some ⟨1, 82, .w .u64 c⟩] rfl rfl (by simp) (fun i h => one_row h) rfl ⟨rfl, c, c1, c2, c3, rfl⟩⟩
  · have r1 := rows_row (G := G) X Y n (by omega) hX hY
    have r2 := fun h1 h2 => m_slabs (G := G) X Y ih h1 h2 hX
    have r3 := fun h1 => m_thirds (G := G) X Y ih h1 (by omega) hX
    rw [← hn] at r2 r3 ⊢
    obtain ⟨V, hV⟩ : ∃ V, V = X * Y := ⟨_, rfl⟩
    rw [← hV] at r1 r2 r3 ⊢
    obtain ⟨a, ha⟩ : ∃ a, a = d64 X := ⟨_, rfl⟩
    obtain ⟨b, hb⟩ : ∃ b, b = d64 Y := ⟨_, rfl⟩
    rw [← ha, ← hb] at r1 r2 r3
    rw [← ha] at l1
    rw [← hb] at l2
    rw [← ha, ← hb]
    clear ih hV
    refine PM.intro (X := XX) tok Tryz.func205 rfl Tryz.ntmps205 (by rw [Tryz.results205]) (by kernel_rfl) rfl ?_; intro F hG hO; simp only [List.length_cons, List.length_nil, Nat.zero_add, Nat.reduceAdd] at hO
    rw [← hG] at r1 r2 r3
    repeat' ((try (conv => whnf)); first
 | (refine cg ?_; refine call_pm [0] r1 rfl rfl rfl (by simp) ?_; rintro r rs ⟨rfl, c, c1, c2, c3, rfl⟩)
 | (refine cg ?_; refine call_pm [0] (r2 (by omega) (by omega)) rfl rfl rfl (by simp) ?_; rintro r rs ⟨rfl, c, c1, c2, c3, rfl⟩)
 | (refine cg ?_; refine call_pm [0] (r3 (by omega)) rfl rfl rfl (by simp) ?_; rintro r rs ⟨rfl, c, c1, c2, c3, rfl⟩)
 | with_reducible first | refine ax_s ?_ | (refine ax_f ?_ ?_ <;> try intro hc) | fail)
    all_goals exact ⟨ret_m [0] (.tup []) [some ⟨1, 82, .w .u64 c⟩] rfl rfl (by simp) (fun i h => one_row h) rfl ⟨rfl, c, c1, c2, c3, rfl⟩⟩
theorem prod_all : ∀ (m X Y : Nat), L64 X + L64 Y ≤ m → m ≤ 536870912 → ProdOk G X Y := by
  intro m
  induction m with
 | zero =>
    intro X Y h h2
    exact prod_of_fill (fill_step X Y (fun X' Y' h' => absurd h' (by omega)) (by omega) (by omega)) (by omega)
 | succ m ih =>
    intro X Y h h2
    exact prod_of_fill (fill_step X Y (fun X' Y' h' => ih X' Y' (by omega) (by omega)) (by omega) (by omega)) (by omega)
theorem m_product (X Y : Nat) (h : L64 X + L64 Y ≤ 536870912) : FC Tryz.prog G 184 [.ws .u64 (d64 X), .ws .u64 (d64 Y)] (· = .ws .u64 (d64 (X * Y))) := (prod_all _ X Y (Nat.le_refl _) h).fc
theorem m_told (X : Nat) (h : L64 X ≤ 536870912) : FC Tryz.prog G 183 [.ws .u64 (d64 X)] (· = natT X) := by
  have hl : (d64 X).length = L64 X := rfl
  refine ax_i Tryz.func183 Tryz.ntmps183 ?_; intro F hG hO
  repeat' ((try (conv => whnf)); first
 | with_reducible first | refine ax_s ?_ | (refine ax_f ?_ ?_ <;> try intro hc) | fail)
  · exact ⟨ret_l _ (lp_natE 5) (natT_no (by omega)).symm⟩
  · exact ⟨ret_e (natT_ok (by omega)).symm⟩
theorem m_mul (X Y : Nat) (hX : L64 X ≤ 8192) (hY : L64 Y ≤ 8192) : FC Tryz.prog G 146 [.ws .u64 (d64 X), .ws .u64 (d64 Y)] (· = natT (X * Y)) := by
  have f1 := n_formN (G := G) X hX
  have f2 := n_formN (G := G) Y hY
  have f3 := m_product (G := G) X Y (by omega)
  have hm := L64_mul X Y
  have f4 := m_told (G := G) (X * Y) (by omega)
  obtain ⟨V, hV⟩ : ∃ V, V = X * Y := ⟨_, rfl⟩
  rw [← hV] at f3 f4 ⊢
  unfold natT at f4 ⊢
  refine ax_i Tryz.func146 Tryz.ntmps146 ?_; intro F hG hO
  rw [← hG] at f1 f2 f3 f4
  repeat' ((try (conv => whnf)); first
 | refine ce f1 ?_ | refine ce f2 ?_ | refine ce f3 ?_ | refine ce f4 ?_
 | with_reducible first | refine ax_s ?_ | (refine ax_f ?_ ?_ <;> try intro hc) | fail)
  exact ⟨ret_e rfl⟩
def nmulS (n m : Int) : PV := if 8192 < L64 (n * m).natAbs then numE 5 else numR (n * m)
theorem sg_mul2 (x y : Nat) (s t : Bool) : sg (s != t) (x * y) = sg s x * sg t y := by
  cases s <;> cases t <;> simp [sg, Int.mul_neg, Int.neg_mul]
theorem n_nmul (n m : Int) (hn : L64 n.natAbs ≤ 8192) (hm : L64 m.natAbs ≤ 8192) : FC Tryz.prog G 100 [NI n, NI m] (· = nmulS n m) := by
  have f0 := n_nform (G := G) n hn
  have g0 := n_nform (G := G) m hm
  have f1 := m_mul (G := G) n.natAbs m.natAbs hn hm
  have hs : ∀ b : Bool, b = (decide (n < 0) != decide (m < 0)) → sg b (n.natAbs * m.natAbs) = n * m := fun b h => by rw [h, sg_mul2, sg_of, sg_of]
  have ha : (n * m).natAbs = n.natAbs * m.natAbs := Int.natAbs_mul n m
  unfold nmulS
  rw [ha]
  obtain ⟨V, hV⟩ : ∃ V, V = n.natAbs * m.natAbs := ⟨_, rfl⟩
  rw [← hV] at f1 hs ⊢
  by_cases hL : 8192 < L64 V
  · rw [if_pos hL]
    rw [natT_no hL] at f1
    have f5 := fun b => n_ntoldE (G := G) b [] 5 (by decide)
    clear hs
    refine by_signN (a := n) (p := fun p => FC _ _ _ [p, _] _) (fun h1 => ?_) (fun h1 => ?_)
    all_goals refine by_signN (a := m) (p := fun p => FC _ _ _ [_, p] _) (fun h2 => ?_) (fun h2 => ?_)
    all_goals
      first | rw [ni_neg h1] at f0 | rw [ni_pos h1] at f0
      first | rw [ni_neg h2] at g0 | rw [ni_pos h2] at g0
      refine ax_i Tryz.func100 Tryz.ntmps100 ?_; intro F hG hO
      rw [← hG] at f0 g0 f1 f5
      repeat' ((try (conv => whnf)); first
 | refine ce f0 ?_ | refine ce g0 ?_ | refine ce f1 ?_
 | (refine cg ?_; refine ce (f5 _) ?_)
 | with_reducible first | refine ax_s ?_ | (refine ax_f ?_ ?_ <;> try intro hc) | fail)
      exact ⟨ret_e rfl⟩
  · rw [if_neg hL]
    rw [natT_ok (by omega)] at f1
    have f5 := fun b => n_ntold (G := G) b V
    refine by_signN (a := n) (p := fun p => FC _ _ _ [p, _] _) (fun h1 => ?_) (fun h1 => ?_)
    all_goals refine by_signN (a := m) (p := fun p => FC _ _ _ [_, p] _) (fun h2 => ?_) (fun h2 => ?_)
    all_goals
      have hb : ∀ b c : Bool, b = decide (n < 0) → c = decide (m < 0) → sg (b != c) V = n * m := fun b c e1 e2 => hs _ (by rw [e1, e2])
      clear hs
      first | rw [ni_neg h1] at f0 | rw [ni_pos h1] at f0
      first | rw [ni_neg h2] at g0 | rw [ni_pos h2] at g0
      refine ax_i Tryz.func100 Tryz.ntmps100 ?_; intro F hG hO
      rw [← hG] at f0 g0 f1 f5
      repeat' ((try (conv => whnf)); first
 | refine ce f0 ?_ | refine ce g0 ?_ | refine ce f1 ?_
 | (refine cg ?_; refine ce (f5 _) ?_)
 | with_reducible first | refine ax_s ?_ | (refine ax_f ?_ ?_ <;> try intro hc) | fail)
      first
        | exact ⟨ret_e (numR_eq (hb true true (decide_eq_true (by omega)).symm (decide_eq_true (by omega)).symm))⟩
        | exact ⟨ret_e (numR_eq (hb true false (decide_eq_true (by omega)).symm (decide_eq_false (by omega)).symm))⟩
        | exact ⟨ret_e (numR_eq (hb false true (decide_eq_false (by omega)).symm (decide_eq_true (by omega)).symm))⟩
        | exact ⟨ret_e (numR_eq (hb false false (decide_eq_false (by omega)).symm (decide_eq_false (by omega)).symm))⟩
def mulS (n e m f : Int) : PV := if 8192 < L64 (n * m).natAbs then dyE 5 else toldS (n * m) (e + f)
theorem mul_form (n e m f : Int) : ∃ x y c, mulS n e m f = .tup [DY x y, .val (.int .i64 c)] ∧ Good x y ∧ (c = 0 ∨ c = 5) := by
  unfold mulS
  split
  · exact ⟨0, 0, 5, rfl, Good.zero, .inr rfl⟩
  · exact told_form _ _
theorem y_mul {g : Gs} (hD : (0, debT.map (Value.int .u8)) ∈ g) {n e m f : Int} (h : Good n e) (k : Good m f) : FC Tryz.prog g 61 [DY n e, DY m f] (· = mulS n e m f) := by
  have f1 := y_form (G := g) h
  have f2 := y_form (G := g) k
  have e1 := h.2.1
  have e2 := h.2.2.1
  have e3 := k.2.1
  have e4 := k.2.2.1
  have f3 := n_nmul (G := g) n m h.1 k.1
  unfold nmulS at f3
  unfold mulS
  obtain ⟨v, hv⟩ : ∃ v, v = n * m := ⟨_, rfl⟩
  rw [← hv] at f3 ⊢
  by_cases hL : 8192 < L64 v.natAbs
  · rw [if_pos hL] at f3 ⊢
    refine ax_i Tryz.func61 Tryz.ntmps61 ?_; intro F hG hO
    rw [← hG] at f1 f2 f3
    repeat' ((try (conv => whnf)); first
 | refine ce f1 ?_ | refine ce f2 ?_ | refine ce f3 ?_
 | with_reducible first | refine ax_s ?_ | (refine ax_f ?_ ?_ <;> try intro hc) | fail)
    exact ⟨ret_l _ (lp_dyE 5) rfl⟩
  · rw [if_neg hL] at f3 ⊢
    have f4 := y_make hD v (e + f) (by omega) (by dsimp only [inR]; omega)
    obtain ⟨x, y, c, hr, hgd, hcc⟩ := told_form v (e + f)
    rw [hr] at f4 ⊢
    refine ax_i Tryz.func61 Tryz.ntmps61 ?_; intro F hG hO
    rw [← hG] at f1 f2 f3 f4
    repeat' ((try (conv => whnf)); first
 | refine ce f1 ?_ | refine ce f2 ?_ | refine ce f3 ?_ | refine ce f4 ?_
 | with_reducible first | refine ax_s ?_ | (refine ax_f ?_ ?_ <;> try intro hc) | fail)
    exact ⟨ret_e rfl⟩
theorem L64_prod {x y : Nat} (hx : x ≠ 0) (hy : y ≠ 0) : L64 x + L64 y ≤ L64 (x * y) + 1 := by
  have h1 := ((dgs_len (B := 18446744073709551616) (by decide) x).2 hx)
  have h2 := ((dgs_len (B := 18446744073709551616) (by decide) y).2 hy)
  have p1 := (L64_pos x).2 (by omega)
  have p2 := (L64_pos y).2 (by omega)
  have h3 : 18446744073709551616 ^ (L64 x - 1) * 18446744073709551616 ^ (L64 y - 1) ≤ x * y := Nat.mul_le_mul h1.2 h2.2
  rw [← Nat.pow_add] at h3
  have h4 : L64 x - 1 + (L64 y - 1) < L64 (x * y) := lenB_ge (by decide) h3
  omega
theorem r_docmul {n e m f : Int} (h : Good n e) (k : Good m f) : FC Tryz.prog G 162 [DY n e, DY m f] (· = mulS n e m f) := by
  have f1 := r_formg (G := G) h
  have f2 := r_formg (G := G) k
  have f3 := r_noughtg (G := G) n e
  have f4 := r_noughtg (G := G) m f
  have e1 := h.2.1
  have e2 := h.2.2.1
  have e3 := k.2.1
  have e4 := k.2.2.1
  have l1 := h.lz
  have l2 := k.lz
  have f5 := r_zfromN (G := G) n (Nat.le_trans h.1 (by decide))
  have f6 := r_zfromN (G := G) m (Nat.le_trans k.1 (by decide))
  have f7 := r_zmul (G := G) n m (by omega) (by omega)
  have hl1 : (d64 n.natAbs).length = L64 n.natAbs := rfl
  have hg1 := h.1
  have hg2 := k.1
  have hl2 : (d64 m.natAbs).length = L64 m.natAbs := rfl
  have hzl : LZ (n * m) ≤ LZ n + LZ m := by unfold LZ; rw [Int.natAbs_mul]; exact L32_mul _ _
  have f8 := r_told (G := G) (n * m) (e + f) (by omega) (by dsimp only [inR]; omega)
  have hz : n = 0 ∨ m = 0 → mulS n e m f = dyE 0 := fun hz => by
    have : n * m = 0 := by rcases hz with h | h <;> rw [h] <;> simp
    unfold mulS
    rw [this, if_neg (by rw [show Int.natAbs 0 = 0 from rfl, L64, lenB_zero]; omega)]
    unfold toldS
    rw [if_pos rfl]
  by_cases h0 : n = 0
  · rw [hz (.inl h0)]
    clear f8 hz
    refine ax_i Tryz.func162 Tryz.ntmps162 ?_; intro F hG hO
    rw [← hG] at f1 f2 f3 f4
    repeat' ((try (conv => whnf)); first
 | refine ce f1 ?_ | refine ce f2 ?_ | refine ce f3 ?_ | refine ce f4 ?_
 | (refine dG (id := 7) dg53 ?_)
 | with_reducible first | refine ax_s ?_ | (refine ax_f ?_ ?_ <;> try intro hc) | fail)
    all_goals exact ⟨ret_l _ (lp_dyE 0) rfl⟩
  by_cases h1 : m = 0
  · rw [hz (.inr h1)]
    clear f8 hz
    refine ax_i Tryz.func162 Tryz.ntmps162 ?_; intro F hG hO
    rw [← hG] at f1 f2 f3 f4
    repeat' ((try (conv => whnf)); first
 | refine ce f1 ?_ | refine ce f2 ?_ | refine ce f3 ?_ | refine ce f4 ?_
 | (refine dG (id := 7) dg53 ?_)
 | with_reducible first | refine ax_s ?_ | (refine ax_f ?_ ?_ <;> try intro hc) | fail)
    all_goals exact ⟨ret_l _ (lp_dyE 0) rfl⟩
  clear hz
  have hp := L64_prod (x := n.natAbs) (y := m.natAbs) (by omega) (by omega)
  have hq := L64_mul n.natAbs m.natAbs
  rw [← Int.natAbs_mul] at hp hq
  by_cases hbig : 8192 < L64 n.natAbs + L64 m.natAbs - 1
  · unfold mulS
    rw [if_pos (by omega)]
    clear f8
    refine ax_i Tryz.func162 Tryz.ntmps162 ?_; intro F hG hO
    rw [← hG] at f1 f2 f3 f4
    repeat' ((try (conv => whnf)); first
 | refine ce f1 ?_ | refine ce f2 ?_ | refine ce f3 ?_ | refine ce f4 ?_
 | (refine dG (id := 7) dg53 ?_)
 | with_reducible first | refine ax_s ?_ | (refine ax_f ?_ ?_ <;> try intro hc) | fail)
    all_goals exact ⟨ret_l _ (lp_dyE 5) rfl⟩
  · have hR : mulS n e m f = toldS (n * m) (e + f) := by
      unfold mulS
      by_cases hL : 8192 < L64 (n * m).natAbs
      · rw [if_pos hL]
        have ho : (n * m).natAbs % 2 = 1 := by
          have a1 := h.2.2.2.2 h0
          have a2 := k.2.2.2.2 h1
          rw [Int.natAbs_mul, Nat.mul_mod, show n.natAbs % 2 = 1 by omega, show m.natAbs % 2 = 1 by omega]
        have hne : n * m ≠ 0 := fun hh => by rw [hh] at ho; cases ho
        have h32 := L64_L32 (n * m).natAbs
        unfold toldS
        rw [if_neg hne, tz_odd ho, Nat.pow_zero, Nat.div_one]
        by_cases c1 : 1048576 < e + f
        · rw [if_pos c1]
        · rw [if_neg c1]
          by_cases c2 : e + f < -1099511627776
          · rw [if_pos c2]
          · rw [if_neg c2, if_pos (by omega)]
      · rw [if_neg hL]
    rw [hR]
    obtain ⟨x, y, c, hr, hgd, hcc⟩ := told_form (n * m) (e + f)
    rw [hr] at f8 ⊢
    obtain ⟨v, hv⟩ : ∃ v, v = n * m := ⟨_, rfl⟩
    rw [← hv] at f7 f8
    clear hR hr
    refine ax_i Tryz.func162 Tryz.ntmps162 ?_; intro F hG hO
    rw [← hG] at f1 f2 f3 f4 f5 f6 f7 f8
    repeat' ((try (conv => whnf)); first
 | refine ce f1 ?_ | refine ce f2 ?_ | refine ce f3 ?_ | refine ce f4 ?_ | refine ce f5 ?_ | refine ce f6 ?_ | refine ce f7 ?_ | refine ce f8 ?_
 | (refine dG (id := 7) dg53 ?_)
 | with_reducible first | refine ax_s ?_ | (refine ax_f ?_ ?_ <;> try intro hc) | fail)
    all_goals exact ⟨ret_e rfl⟩
def Fit (n e lo hi : Int) : Prop := n = 0 ∨ (lo ≤ e ∧ topN n e ≤ hi)
theorem Fit.mono {n e lo hi lo' hi' : Int} (h : Fit n e lo hi) (h1 : lo' ≤ lo) (h2 : hi ≤ hi') : Fit n e lo' hi' := by
  rcases h with h | h
  · exact .inl h
  · exact .inr ⟨by omega, by omega⟩
theorem Fit.neg {n e lo hi : Int} (h : Fit n e lo hi) : Fit (-n) e lo hi := by
  rcases h with h | h
  · exact .inl (by omega)
  · exact .inr ⟨h.1, by unfold topN at *; rw [Int.natAbs_neg]; exact h.2⟩
def rdv (aw : Bool) (x d : Nat) : Nat := match aw with
 | true => (x + d - 1) / d
 | false => x / d
theorem rdv_rdv (aw : Bool) (x d k : Nat) (hd : 0 < d) (hk : 0 < k) : rdv aw (rdv aw x d) k = rdv aw x (d * k) := by
  cases aw
  · exact Nat.div_div_eq_div_mul x d k
  · show ((x + d - 1) / d + k - 1) / k = (x + d * k - 1) / (d * k)
    rw [← Nat.div_div_eq_div_mul]
    congr 1
    have e : x + d * k - 1 = (x + d - 1) + d * (k - 1) := by
      have : d * k = d * (k - 1) + d := by rw [← Nat.mul_succ]; congr 1; omega
      omega
    rw [e, Nat.add_mul_div_left _ _ hd]
    generalize (x + d - 1) / d = q
    omega
theorem rdv_cancel (aw : Bool) (x d t : Nat) (ht : 0 < t) (hd : 0 < d) : rdv aw (x * t) (d * t) = rdv aw x d := by
  cases aw
  · exact Nat.mul_div_mul_right x d ht
  · show (x * t + d * t - 1) / (d * t) = (x + d - 1) / d
    rw [Nat.mul_comm d t, ← Nat.div_div_eq_div_mul]
    congr 1
    have e : x * t + t * d - 1 = (t - 1) + t * (x + d - 1) := by
      have h1 : t * (x + d) = t * (x + d - 1) + t := by rw [← Nat.mul_succ]; congr 1; omega
      rw [Nat.mul_add, Nat.mul_comm t x] at h1
      omega
    rw [e, Nat.add_mul_div_left _ _ ht, Nat.div_eq_of_lt (by omega), Nat.zero_add]
theorem rdv_exact (aw : Bool) (x t : Nat) (ht : 0 < t) : rdv aw (x * t) t = x := by
  have h := rdv_cancel aw x 1 t ht (by decide)
  rw [Nat.one_mul] at h
  rw [h]
  cases aw
  · exact Nat.div_one x
  · show (x + 1 - 1) / 1 = x
    rw [Nat.div_one]; omega
theorem rdv_ge (aw : Bool) (x d : Nat) (hd : 0 < d) : x / d ≤ rdv aw x d := by
  cases aw
  · exact Nat.le_refl _
  · exact Nat.div_le_div_right (by omega)
theorem rdv_up (aw : Bool) (x d : Nat) (hd : 0 < d) : rdv aw x d ≤ x / d + 1 := by
  cases aw
  · exact Nat.le_succ _
  · show (x + d - 1) / d ≤ _
    rw [← Nat.add_div_right x hd]
    exact Nat.div_le_div_right (by omega)
theorem rdv_le (aw : Bool) (x d : Nat) (hd : 0 < d) : rdv aw x d ≤ x := by
  cases aw
  · exact Nat.div_le_self _ _
  · show (x + d - 1) / d ≤ x
    by_cases h : x = 0
    · subst h; rw [Nat.div_eq_of_lt (by omega)]; exact Nat.le_refl _
    · refine Nat.div_le_of_le_mul ?_
      have h1 : 0 ≤ (d - 1) * (x - 1) := Nat.zero_le _
      have h2 : d * x = (d - 1) * (x - 1) + (d - 1) + x := by
        obtain ⟨a, rfl⟩ : ∃ a, d = a + 1 := ⟨d - 1, by omega⟩
        obtain ⟨b, rfl⟩ : ∃ b, x = b + 1 := ⟨x - 1, by omega⟩
        simp only [Nat.add_sub_cancel]
        rw [Nat.add_mul, Nat.mul_add]
        omega
      omega
theorem neg_fdiv_rdv (x d : Nat) (hd : 0 < d) : (-(x : Int)).fdiv (d : Int) = -((rdv true x d : Nat) : Int) := by
  rw [Int.fdiv_eq_ediv_of_nonneg _ (by omega)]
  show _ = -(((x + d - 1) / d : Nat) : Int)
  obtain ⟨c, hc⟩ : ∃ c, c = (x + d - 1) / d := ⟨_, rfl⟩
  have h1 := Nat.div_add_mod (x + d - 1) d
  have h2 := Nat.mod_lt (x + d - 1) hd
  rw [← hc] at h1 ⊢
  have h3 : ((d * c : Nat) : Int) = (d : Int) * (c : Int) := by simp
  exact (div_of (a := -(x : Int)) (b := (d : Int)) (q := -(c : Int)) (r := ((d * c : Nat) : Int) - x) (by omega) (by rw [h3, Int.mul_neg]; omega) (by omega) (by omega)).1
theorem pos_fdiv_rdv (x d : Nat) (hd : 0 < d) : ((x : Int)).fdiv (d : Int) = ((rdv false x d : Nat) : Int) := by
  rw [Int.fdiv_eq_ediv_of_nonneg _ (by omega)]
  show _ = ((x / d : Nat) : Int)
  rw [Int.natCast_ediv]
def docQ (n m : Int) (s : Nat) (up : Bool) : Int := match up with
 | true => -((-(n * 2 ^ s)).fdiv m)
 | false => (n * 2 ^ s).fdiv m
theorem fdiv_sg (a b : Bool) (x d : Nat) (hd : 0 < d) : (sg a x).fdiv (sg b d) = sg (a != b) (rdv (a != b) x d) := by
  cases a <;> cases b
  · exact pos_fdiv_rdv x d hd
  · show ((x : Int)).fdiv (-(d : Int)) = -((rdv true x d : Nat) : Int)
    rw [← neg_fdiv_rdv x d hd, ← Int.neg_fdiv_neg, Int.neg_neg]
  · exact neg_fdiv_rdv x d hd
  · show (-(x : Int)).fdiv (-(d : Int)) = ((rdv false x d : Nat) : Int)
    rw [Int.neg_fdiv_neg]
    exact pos_fdiv_rdv x d hd
theorem neg_sg (a : Bool) (x : Nat) : -(sg a x) = sg (!a) x := by cases a <;> simp [sg]
theorem docQ_eq (n m : Int) (s : Nat) (up : Bool) (hm : m ≠ 0) : docQ n m s up = sg (decide (n < 0) != decide (m < 0)) (rdv (up != (decide (n < 0) != decide (m < 0))) (n.natAbs * 2 ^ s) m.natAbs) := by
  have hd : 0 < m.natAbs := by omega
  have hn := sg_of n
  have hm2 := sg_of m
  obtain ⟨a, ha⟩ : ∃ a, a = decide (n < 0) := ⟨_, rfl⟩
  obtain ⟨b, hb⟩ : ∃ b, b = decide (m < 0) := ⟨_, rfl⟩
  obtain ⟨x, hx⟩ : ∃ x, x = n.natAbs := ⟨_, rfl⟩
  obtain ⟨d, hd2⟩ : ∃ d, d = m.natAbs := ⟨_, rfl⟩
  rw [← ha, ← hx] at hn
  rw [← hb, ← hd2] at hm2
  rw [← hd2] at hd
  rw [← ha, ← hb, ← hx, ← hd2, ← hn, ← hm2]
  cases up
  · show (sg a x * 2 ^ s).fdiv (sg b d) = _
    rw [← sg_pow, fdiv_sg _ _ _ _ hd]
    simp
  · show -((-(sg a x * 2 ^ s)).fdiv (sg b d)) = _
    rw [← sg_pow, neg_sg, fdiv_sg _ _ _ _ hd, neg_sg]
    cases a <;> cases b <;> rfl
theorem whole_sg (neg up : Bool) (N : Nat) (k : Int) : wholeS (sg neg N) k up = sg neg (rdv (up != neg) N (2 ^ k.toNat)) := by
  have hp : 0 < 2 ^ k.toNat := Nat.pow_pos (by decide)
  have hP : (2 : Int) ^ k.toNat = ((2 ^ k.toNat : Nat) : Int) := by simp
  have h1 := pos_fdiv_rdv N (2 ^ k.toNat) hp
  have h2 := neg_fdiv_rdv N (2 ^ k.toNat) hp
  rw [Int.fdiv_eq_ediv_of_nonneg _ (by omega)] at h1 h2
  cases up <;> cases neg
  · show (N : Int) / 2 ^ k.toNat = _
    rw [hP, h1]; rfl
  · show (-(N : Int)) / 2 ^ k.toNat = _
    rw [hP, h2]; rfl
  · show -((-(N : Int)) / 2 ^ k.toNat) = _
    rw [hP, h2, Int.neg_neg]; rfl
  · show -((-(-(N : Int))) / 2 ^ k.toNat) = _
    rw [Int.neg_neg, hP, h1]; rfl
def stk (y d : Nat) : Nat := 2 * (y / d) + (if y % d = 0 then 0 else 1)
theorem stk_rdv (aw : Bool) (y d j : Nat) (hd : 0 < d) (hj : 0 < j) : rdv aw (stk y d) (2 ^ j) = rdv aw y (d * 2 ^ (j - 1)) := by
  have hp : 0 < 2 ^ (j - 1) := Nat.pow_pos (by decide)
  have e : 2 ^ j = 2 * 2 ^ (j - 1) := by rw [Nat.mul_comm, ← Nat.pow_succ]; congr 1; omega
  rw [e, ← rdv_rdv aw _ 2 _ (by decide) hp, ← rdv_rdv aw y d _ hd hp]
  congr 1
  have h1 := Nat.div_add_mod y d
  have h2 := Nat.mod_lt y hd
  unfold stk
  obtain ⟨q, hq⟩ : ∃ q, q = y / d := ⟨_, rfl⟩
  obtain ⟨r, hr⟩ : ∃ r, r = y % d := ⟨_, rfl⟩
  rw [← hq, ← hr] at h1
  rw [← hr] at h2
  rw [← hq, ← hr]
  cases aw
  · show (2 * q + (if r = 0 then 0 else 1)) / 2 = y / d
    rw [← hq]
    split <;> omega
  · show (2 * q + (if r = 0 then 0 else 1) + 2 - 1) / 2 = (y + d - 1) / d
    split
    · have : (y + d - 1) / d = q := by
        rw [show y + d - 1 = (d - 1) + d * q by omega, Nat.add_mul_div_left _ _ hd, Nat.div_eq_of_lt (by omega), Nat.zero_add]
      omega
    · have : (y + d - 1) / d = q + 1 := by
        rw [show y + d - 1 = (r - 1) + d * (q + 1) by rw [Nat.mul_add]; omega, Nat.add_mul_div_left _ _ hd, Nat.div_eq_of_lt (by omega), Nat.zero_add]
      omega
theorem told_pow (neg : Bool) (p : Nat) (E : Int) (hp : 0 < p) (hE : -1099511627776 ≤ E) : toldS (sg neg (2 ^ p)) E = toldS (sg neg (2 ^ (p - 1))) (E + 1) := by
  have hne : ∀ k : Nat, sg neg (2 ^ k) ≠ 0 := fun k h => by
    have h1 := sg_abs neg (2 ^ k)
    rw [h] at h1
    have : 0 < 2 ^ k := Nat.pow_pos (by decide)
    simp at h1
    omega
  have htz : ∀ k : Nat, tz (2 ^ k) = k := fun k => tz_eq (m := 1) (by simp) (by decide)
  have hq : ∀ k : Nat, sg neg (2 ^ k) / 2 ^ k = sg neg 1 := fun k => by
    have := sg_pow 1 k neg
    rw [Nat.one_mul] at this
    rw [this]
    exact Int.mul_ediv_cancel _ (Int.ne_of_gt (Int.pow_pos (by decide)))
  have h1 : ∀ k : Nat, 2 ^ k / 2 ^ k = 1 := fun k => Nat.div_self (Nat.pow_pos (by decide))
  have hl : ¬ 16384 < L32 1 := by decide +kernel
  unfold toldS
  simp only [sg_abs, htz, hq, h1]
  rw [if_neg (hne p), if_neg (hne (p - 1)), if_neg (show ¬ E < -1099511627776 by omega), if_neg (show ¬ E + 1 < -1099511627776 by omega), if_neg hl, if_neg hl]
  rw [show E + 1 + ((p - 1 : Nat) : Int) = E + (p : Int) by omega]
  by_cases h2 : 1048576 < E + 1
  · rw [if_pos h2]
    split
    · rfl
    · rw [if_neg (by omega), if_pos (by omega)]
  · rw [if_neg h2, if_neg (by omega)]
theorem quo_same (neg up : Bool) (x d p t : Nat) (E : Int) (ht : t ≤ 1) (hp : 0 < p) (hF : 2 ^ p ≤ x / d) (hd : 0 < d) (hE : -1000000000000 ≤ E) :
    cutS (sg neg (stk (x * 2 ^ t) d)) (E - t - 1) p up = cutS (sg neg (rdv (up != neg) x d)) E p up := by
  obtain ⟨aw, haw⟩ : ∃ aw, aw = (up != neg) := ⟨_, rfl⟩
  rw [← haw]
  obtain ⟨F, hFe⟩ : ∃ F, F = x / d := ⟨_, rfl⟩
  obtain ⟨N, hN⟩ : ∃ N, N = rdv aw x d := ⟨_, rfl⟩
  have hge := rdv_ge aw x d hd
  have hup := rdv_up aw x d hd
  rw [← hFe] at hF hge hup
  rw [← hN] at hge hup ⊢
  have hFp : 0 < 2 ^ p := Nat.pow_pos (by decide)
  have hbF := bl_ge hF
  have hbN : p < bl N := bl_ge (Nat.le_trans hF hge)
  have htp : 0 < 2 ^ t := Nat.pow_pos (by decide)
  have hQ : x * 2 ^ t / d / 2 ^ t = F := by
    rw [Nat.div_div_eq_div_mul, Nat.mul_div_mul_right _ _ htp, hFe]
  have hbQ : bl (x * 2 ^ t / d) = t + bl F := by rw [bl_top _ t (by rw [hQ]; omega), hQ]
  have hM2 : stk (x * 2 ^ t) d / 2 ^ 1 = x * 2 ^ t / d := by
    unfold stk
    split <;> omega
  have hQ0 : x * 2 ^ t / d ≠ 0 := fun h => by rw [h] at hQ; simp at hQ; omega
  have hbM : bl (stk (x * 2 ^ t) d) = 1 + (t + bl F) := by rw [bl_top _ 1 (by rw [hM2]; exact hQ0), hM2, hbQ]
  obtain ⟨j, hj⟩ : ∃ j, j = bl F - p := ⟨_, rfl⟩
  have hR : rdv aw x (d * 2 ^ j) = rdv aw N (2 ^ j) := by rw [hN, rdv_rdv _ _ _ _ hd (Nat.pow_pos (by decide))]
  unfold cutS
  rw [sg_abs, sg_abs, hbM, if_neg (by omega), if_neg (by omega), whole_sg, whole_sg, ← haw]
  rw [show ((1 + (t + bl F) : Nat) : Int) - (p : Int) = ((1 + (t + j) : Nat) : Int) by omega, Int.toNat_natCast, stk_rdv _ _ _ _ hd (by omega)]
  rw [show 1 + (t + j) - 1 = j + t by omega, Nat.pow_add, ← Nat.mul_assoc, rdv_cancel _ _ _ _ htp (Nat.mul_pos hd (Nat.pow_pos (by decide))), hR]
  rw [show E - (t : Int) - 1 + ((1 + (t + j) : Nat) : Int) = E + (j : Int) by omega]
  by_cases hb : bl N = bl F
  · rw [hb, show ((bl F : Nat) : Int) - (p : Int) = (j : Int) by omega, Int.toNat_natCast]
  · have h1 := lt_bl F
    have h2 : bl F ≤ bl N := bl_mono hge
    have h3 : N = 2 ^ bl F := by
      rcases Nat.lt_or_ge N (2 ^ bl F) with h | h
      · exact absurd (Nat.le_antisymm (bl_le h) h2) hb
      · omega
    have h4 : bl N = bl F + 1 := by
      rw [h3]
      exact bl_eq (Nat.pow_lt_pow_right (by decide) (by omega)) (.inr (by simp))
    rw [h4, show ((bl F + 1 : Nat) : Int) - (p : Int) = ((j + 1 : Nat) : Int) by omega, Int.toNat_natCast, h3]
    have e1 : 2 ^ bl F = 2 ^ p * 2 ^ j := by rw [← Nat.pow_add]; congr 1; omega
    have e2 : 2 ^ bl F = 2 ^ (p - 1) * 2 ^ (j + 1) := by rw [← Nat.pow_add]; congr 1; omega
    rw [show rdv aw (2 ^ bl F) (2 ^ j) = 2 ^ p by rw [e1, rdv_exact _ _ _ (Nat.pow_pos (by decide))]]
    rw [show rdv aw (2 ^ bl F) (2 ^ (j + 1)) = 2 ^ (p - 1) by rw [e2, rdv_exact _ _ _ (Nat.pow_pos (by decide))]]
    rw [told_pow neg p _ hp (by omega)]
    congr 1
    omega
def quoK (n m p c : Int) : Int := max 0 (p + c + bl m.natAbs - bl n.natAbs)
def quoS (n e m f p : Int) (up : Bool) : PV := if p < 1 then dyE 1 else if 70000 < p then dyE 1 else if m = 0 then dyE 4 else if 4096 < L64 n.natAbs then dyE 5 else if 4096 < L64 m.natAbs then dyE 5
  else cutS (docQ n m (quoK n m p 1).toNat up) (e - f - quoK n m p 1) p up
theorem quoS_1 {n e m f p : Int} {up : Bool} (h : p < 1 ∨ 70000 < p) : quoS n e m f p up = dyE 1 := by
  unfold quoS
  split
  · rfl
  · rw [if_pos (by omega)]
theorem quoS_4 {n e m f p : Int} {up : Bool} (h : 1 ≤ p ∧ p ≤ 70000) (hm : m = 0) : quoS n e m f p up = dyE 4 := by
  unfold quoS
  rw [if_neg (by omega), if_neg (by omega), if_pos hm]
theorem quoS_5 {n e m f p : Int} {up : Bool} (h : 1 ≤ p ∧ p ≤ 70000) (hm : m ≠ 0) (hl : 4096 < L64 n.natAbs ∨ 4096 < L64 m.natAbs) : quoS n e m f p up = dyE 5 := by
  unfold quoS
  rw [if_neg (by omega), if_neg (by omega), if_neg hm]
  split
  · rfl
  · rw [if_pos (by omega)]
theorem quoS_ok {n e m f p : Int} {up : Bool} (h : 1 ≤ p ∧ p ≤ 70000) (hm : m ≠ 0) (hn4 : L64 n.natAbs ≤ 4096) (hm4 : L64 m.natAbs ≤ 4096) : quoS n e m f p up = cutS (docQ n m (quoK n m p 1).toNat up) (e - f - quoK n m p 1) p up := by
  unfold quoS
  rw [if_neg (by omega), if_neg (by omega), if_neg hm, if_neg (by omega), if_neg (by omega)]
theorem quo_form (n e m f p : Int) (up : Bool) : ∃ x y c, quoS n e m f p up = .tup [DY x y, .val (.int .i64 c)] ∧ Good x y := by
  unfold quoS
  repeat' split
  · exact ⟨0, 0, 1, rfl, Good.zero⟩
  · exact ⟨0, 0, 1, rfl, Good.zero⟩
  · exact ⟨0, 0, 4, rfl, Good.zero⟩
  · exact ⟨0, 0, 5, rfl, Good.zero⟩
  · exact ⟨0, 0, 5, rfl, Good.zero⟩
  · obtain ⟨x, y, c, h, g, _⟩ := cut_form (docQ n m (quoK n m p 1).toNat up) (e - f - quoK n m p 1) p up
    exact ⟨x, y, c, h, g⟩
theorem quo_code {n e m f p : Int} (up : Bool) (h : 1 ≤ p ∧ p ≤ 70000) (hm : m ≠ 0) (hn4 : bl n.natAbs ≤ 262144) (hm4 : bl m.natAbs ≤ 262144) (he : -1048576 ≤ e ∧ e ≤ 1048576) (hf : -1048576 ≤ f ∧ f ≤ 1048576) :
    cutS (sg (decide (n < 0) != decide (m < 0)) (stk (n.natAbs * 2 ^ (quoK n m p 2).toNat) m.natAbs)) (e - f - quoK n m p 2 - 1) p up = cutS (docQ n m (quoK n m p 1).toNat up) (e - f - quoK n m p 1) p up := by
  have hd : 0 < m.natAbs := by omega
  rw [docQ_eq _ _ _ _ hm]
  have hk1 : quoK n m p 1 = max 0 (p + 1 + bl m.natAbs - bl n.natAbs) := rfl
  have hk2 : quoK n m p 2 = max 0 (p + 2 + bl m.natAbs - bl n.natAbs) := rfl
  obtain ⟨k1, e1⟩ : ∃ k, k = quoK n m p 1 := ⟨_, rfl⟩
  obtain ⟨k2, e2⟩ : ∃ k, k = quoK n m p 2 := ⟨_, rfl⟩
  rw [← e1] at hk1 ⊢
  rw [← e2] at hk2 ⊢
  obtain ⟨neg, hneg⟩ : ∃ b, b = (decide (n < 0) != decide (m < 0)) := ⟨_, rfl⟩
  rw [← hneg]
  obtain ⟨P, rfl⟩ : ∃ P : Nat, p = (P : Int) := ⟨p.toNat, by omega⟩
  by_cases h0 : n = 0
  · subst h0
    have z1 : stk (Int.natAbs 0 * 2 ^ k2.toNat) m.natAbs = 0 := by
      unfold stk; simp
    have z2 : rdv (up != neg) (Int.natAbs 0 * 2 ^ k1.toNat) m.natAbs = 0 := by
      have := rdv_le (up != neg) (Int.natAbs 0 * 2 ^ k1.toNat) m.natAbs hd
      simp at this ⊢
      exact this
    rw [z1, z2]
    have z3 : sg neg 0 = 0 := by cases neg <;> rfl
    have z4 : ∀ E : Int, cutS 0 E (P : Int) up = dyE 0 := fun E => by
      unfold cutS
      rw [if_pos (by rw [show Int.natAbs 0 = 0 from rfl, bl_zero]; omega)]
      unfold toldS
      rw [if_pos rfl]
    rw [z3, z4, z4]
  · have hn0 : n.natAbs ≠ 0 := by omega
    obtain ⟨t, ht⟩ : ∃ t : Nat, t = (k2 - k1).toNat := ⟨_, rfl⟩
    have hk : k2.toNat = k1.toNat + t := by omega
    have hq := quo_same neg up (n.natAbs * 2 ^ k1.toNat) m.natAbs P t (e - f - k1) (by omega) (by omega) ?_ hd (by omega)
    · rw [hk, Nat.pow_add, ← Nat.mul_assoc, ← hq]
      congr 1
      omega
    · rw [Nat.le_div_iff_mul_le hd]
      have a1 := le_of_bl hn0
      have a2 := lt_bl m.natAbs
      have a3 : 2 ^ P * m.natAbs ≤ 2 ^ P * 2 ^ bl m.natAbs := Nat.mul_le_mul_left _ (Nat.le_of_lt a2)
      have a4 : 2 ^ (bl n.natAbs - 1) * 2 ^ k1.toNat ≤ n.natAbs * 2 ^ k1.toNat := Nat.mul_le_mul_right _ a1
      rw [← Nat.pow_add] at a3 a4
      have a5 : 2 ^ (P + bl m.natAbs) ≤ 2 ^ (bl n.natAbs - 1 + k1.toNat) := Nat.pow_le_pow_right (by decide) (by have := bl_pos hn0; omega)
      omega
theorem sign_sub_anti (a b : Int) : (a - b).sign = -(b - a).sign := by rw [← Int.sign_neg]; congr 1; omega
theorem cmp_anti (n e m f : Int) : cmpS m f n e = -cmpS n e m f := by
  unfold cmpS
  by_cases h : n.sign ≠ m.sign ∨ n.sign = 0
  · have h' : m.sign ≠ n.sign ∨ m.sign = 0 := by
      rcases h with h | h
      · exact .inl (Ne.symm h)
      · by_cases hh : m.sign = n.sign
        · exact .inr (by omega)
        · exact .inl hh
    rw [if_pos h, if_pos h', sign_sub_anti]
  · have h' : ¬ (m.sign ≠ n.sign ∨ m.sign = 0) := by omega
    have hs : n.sign = m.sign := by omega
    rw [if_neg h, if_neg h', Int.min_comm f e]
    by_cases ht : topN n e = topN m f
    · rw [if_neg (by omega), if_neg (by omega), sign_sub_anti]
    · rw [if_pos (by omega), if_pos (by omega), sign_sub_anti, hs, Int.mul_neg]
theorem cmp_zero {n e m f : Int} (h : Good n e) (g : Good m f) (hc : cmpS n e m f = 0) : VV n e = VV m f := by
  unfold cmpS at hc
  by_cases hh : n.sign ≠ m.sign ∨ n.sign = 0
  · rw [if_pos hh] at hc
    have h1 : n.sign - m.sign = 0 := Int.sign_eq_zero_iff_zero.1 hc
    have h2 : n.sign = 0 := by omega
    have h3 : m.sign = 0 := by omega
    rw [Int.sign_eq_zero_iff_zero.1 h2, Int.sign_eq_zero_iff_zero.1 h3, VV_zero, VV_zero]
  · rw [if_neg hh] at hc
    by_cases ht : topN n e = topN m f
    · rw [if_neg (by omega)] at hc
      have h1 := Int.sign_eq_zero_iff_zero.1 hc
      have e1 := h.2.1
      have e2 := g.2.1
      rw [VV_low (n := n) (k := min e f) (by omega) (by omega), VV_low (n := m) (k := min e f) (by omega) (by omega)]
      congr 1
      omega
    · rw [if_pos (by omega)] at hc
      rcases Int.mul_eq_zero.1 hc with h1 | h1
      · omega
      · have := Int.sign_eq_zero_iff_zero.1 h1
        omega
theorem cmp_bd (n e m f : Int) : -1 ≤ cmpS n e m f ∧ cmpS n e m f ≤ 1 := by
  unfold cmpS
  split
  · exact sign_bd _
  · split
    · have h2 := sign_bd (topN n e - topN m f)
      rcases Int.lt_trichotomy n 0 with hn | hn | hn
      · rw [Int.sign_eq_neg_one_of_neg hn]; omega
      · rw [hn, show Int.sign 0 = 0 from rfl]; omega
      · rw [Int.sign_eq_one_of_pos hn]; omega
    · exact sign_bd _
def cmpV (n e m f : Int) : Int := if VV n e < VV m f then -1 else if VV m f < VV n e then 1 else 0
theorem cmp_V {n e m f : Int} (h : Good n e) (g : Good m f) : cmpS n e m f = cmpV n e m f := by
  have b1 := cmp_bd n e m f
  have b2 := cmp_anti n e m f
  unfold cmpV
  rcases Int.lt_trichotomy (VV n e) (VV m f) with hV | hV | hV
  · rw [if_pos hV]
    have h1 := cmp_le h g (Int.le_of_lt hV)
    by_cases h0 : cmpS n e m f = 0
    · have := cmp_zero h g h0
      omega
    · omega
  · rw [if_neg (by omega), if_neg (by omega)]
    have h1 := cmp_le h g (Int.le_of_eq hV)
    have h2 := cmp_le g h (Int.le_of_eq hV.symm)
    omega
  · rw [if_neg (by omega), if_pos hV]
    have h1 := cmp_le g h (Int.le_of_lt hV)
    by_cases h0 : cmpS n e m f = 0
    · have := cmp_zero h g h0
      omega
    · omega
theorem cmpV_neg {n e m f : Int} : cmpV n e m f < 0 ↔ VV n e < VV m f := by
  unfold cmpV
  by_cases h : VV n e < VV m f
  · rw [if_pos h]; exact ⟨fun _ => h, fun _ => by decide⟩
  · rw [if_neg h]
    exact ⟨fun hh => by split at hh <;> omega, fun hh => absurd hh h⟩
theorem cmpV_pos {n e m f : Int} : 0 < cmpV n e m f ↔ VV m f < VV n e := by
  unfold cmpV
  by_cases h : VV n e < VV m f
  · rw [if_pos h]; exact ⟨fun hh => by omega, fun hh => by omega⟩
  · rw [if_neg h]
    by_cases h2 : VV m f < VV n e
    · rw [if_pos h2]; exact ⟨fun _ => h2, fun _ => by decide⟩
    · rw [if_neg h2]; exact ⟨fun hh => by omega, fun hh => absurd hh h2⟩
theorem VV_sign {n e : Int} : (0 < VV n e ↔ 0 < n) ∧ (VV n e < 0 ↔ n < 0) := by
  have h1 := fun h : 0 < n => VV_pos (e := e) h
  have h2 := fun h : n < 0 => VV_negs (e := e) h
  have h3 := VV_zero e
  rcases Int.lt_trichotomy n 0 with h | h | h
  · have := h2 h; exact ⟨⟨fun _ => by omega, fun _ => by omega⟩, ⟨fun _ => h, fun _ => by omega⟩⟩
  · subst h; rw [h3]; exact ⟨Iff.rfl, Iff.rfl⟩
  · have := h1 h; exact ⟨⟨fun _ => h, fun _ => by omega⟩, ⟨fun _ => by omega, fun _ => by omega⟩⟩
abbrev D2 := Int × Int
def D2.good (a : D2) : Prop := Good a.1 a.2
def D2.v (a : D2) : Int := VV a.1 a.2
def D2.pv (a : D2) : PV := DY a.1 a.2
def lst2 (a b : D2) : D2 := if b.v < a.v then b else a
def gst2 (a b : D2) : D2 := if a.v < b.v then b else a
theorem lst2_good {a b : D2} (h : a.good) (g : b.good) : (lst2 a b).good := by unfold lst2; split <;> assumption
theorem gst2_good {a b : D2} (h : a.good) (g : b.good) : (gst2 a b).good := by unfold gst2; split <;> assumption
theorem lst2_v (a b : D2) : (lst2 a b).v = min a.v b.v := by unfold lst2; split <;> omega
theorem gst2_v (a b : D2) : (gst2 a b).v = max a.v b.v := by unfold gst2; split <;> omega
theorem lst2_lt {a b : D2} (h : b.v < a.v) : lst2 a b = b := if_pos h
theorem lst2_ge {a b : D2} (h : ¬ b.v < a.v) : lst2 a b = a := if_neg h
theorem gst2_lt {a b : D2} (h : a.v < b.v) : gst2 a b = b := if_pos h
theorem gst2_ge {a b : D2} (h : ¬ a.v < b.v) : gst2 a b = a := if_neg h
theorem D2.eq {a b : D2} (h : a.good) (g : b.good) (hv : a.v = b.v) : a = b := by
  obtain ⟨h1, h2⟩ := good_eq h g hv
  exact Prod.ext h1 h2
def least4 (a b c d : D2) : D2 := lst2 (lst2 (lst2 a b) c) d
def great4 (a b c d : D2) : D2 := gst2 (gst2 (gst2 a b) c) d
structure An where
  x : Int
  y : Int
  c : Int
def An.pv (a : An) : PV := .tup [DY a.x a.y, .val (.int .i64 a.c)]
def An.d (a : An) : D2 := (a.x, a.y)
def toAn (p : PV) : An := match p with
 | .tup [.agg [.val (.bool b), .ws _ l, .val (.int _ e)], .val (.int _ c)] => ⟨sg b (vl 18446744073709551616 l).toNat, e, c⟩
 | _ => ⟨0, 0, 0⟩
theorem toAn_tup (x y c : Int) : toAn (.tup [DY x y, .val (.int .i64 c)]) = ⟨x, y, c⟩ := by
  show (⟨sg (decide (x < 0)) (vl 18446744073709551616 (d64 x.natAbs)).toNat, y, c⟩ : An) = _
  rw [vl_d64, sg_of]
theorem toAn_of {p : PV} {x y c : Int} (h : p = .tup [DY x y, .val (.int .i64 c)]) : toAn p = ⟨x, y, c⟩ := by rw [h, toAn_tup]
def Ans (p : PV) : Prop := ∃ x y c, p = .tup [DY x y, .val (.int .i64 c)] ∧ Good x y ∧ (c = 0 ∨ c = 5)
theorem Ans.eq {p : PV} (h : Ans p) : p = (toAn p).pv ∧ Good (toAn p).x (toAn p).y ∧ ((toAn p).c = 0 ∨ (toAn p).c = 5) := by
  obtain ⟨x, y, c, h1, h2, h3⟩ := h
  rw [toAn_of h1]
  exact ⟨h1, h2, h3⟩
def Sp (b1 : Bool) (l1 : List Int) (e1 : Int) (b2 : Bool) (l2 : List Int) (e2 : Int) : PV := .agg [.val (.bool b1), .ws .u64 l1, .val (.int .i64 e1), .val (.bool b2), .ws .u64 l2, .val (.int .i64 e2)]
def SP (a b : D2) : PV := .agg [.val (.bool (decide (a.1 < 0))), .ws .u64 (d64 a.1.natAbs), .val (.int .i64 a.2), .val (.bool (decide (b.1 < 0))), .ws .u64 (d64 b.1.natAbs), .val (.int .i64 b.2)]
def spR (a b : D2) : PV := .tup [SP a b, .val (.int .i64 0)]
def spE (c : Int) : PV := .tup [SP (0, 0) (0, 0), .val (.int .i64 c)]
def GoodS (a b : D2) : Prop := a.good ∧ b.good ∧ a.v ≤ b.v
theorem GoodS.zero : GoodS (0, 0) (0, 0) := ⟨Good.zero, Good.zero, Int.le_refl _⟩
def bothA (a b : An) : PV := if a.c ≠ 0 ∨ b.c ≠ 0 then spE 5 else spR a.d b.d
def outP (a b : D2) (p : Int) : PV := bothA (toAn (cutsS a.1 a.2 p false)) (toAn (cutsS b.1 b.2 p true))
def addP (a b : D2) : PV := addS a.1 a.2 b.1 b.2
def mulP (a b : D2) : PV := mulS a.1 a.2 b.1 b.2
def D2.neg (a : D2) : D2 := (-a.1, a.2)
theorem D2.neg_good {a : D2} (h : a.good) : a.neg.good := Good.neg h
theorem D2.neg_v (a : D2) : a.neg.v = -a.v := VV_neg _ _
theorem D2.neg_neg (a : D2) : a.neg.neg = a := by unfold D2.neg; simp
def sumP (a b c d : D2) (p : Int) : PV := if (toAn (addP a c)).c ≠ 0 ∨ (toAn (addP b d)).c ≠ 0 then spE 5 else outP (toAn (addP a c)).d (toAn (addP b d)).d p
def spMul (a b c d : D2) (p : Int) : PV :=
  if (toAn (mulP a c)).c ≠ 0 ∨ (toAn (mulP a d)).c ≠ 0 ∨ (toAn (mulP b c)).c ≠ 0 ∨ (toAn (mulP b d)).c ≠ 0 then spE 5
  else outP (least4 (toAn (mulP a c)).d (toAn (mulP a d)).d (toAn (mulP b c)).d (toAn (mulP b d)).d) (great4 (toAn (mulP a c)).d (toAn (mulP a d)).d (toAn (mulP b c)).d (toAn (mulP b d)).d) p
def spSqr (a b : D2) (p : Int) : PV :=
  if (toAn (mulP a a)).c ≠ 0 ∨ (toAn (mulP b b)).c ≠ 0 then spE 5
  else outP (if a.1 ≤ 0 ∧ 0 ≤ b.1 then (0, 0) else lst2 (toAn (mulP a a)).d (toAn (mulP b b)).d) (gst2 (toAn (mulP a a)).d (toAn (mulP b b)).d) p
def quoP (a b : D2) (p : Int) (up : Bool) : PV := quoS a.1 a.2 b.1 b.2 p up
def spQuoPos (a b c d : D2) (p : Int) : PV := bothA (toAn (quoP a (if a.1 < 0 then c else d) p false)) (toAn (quoP b (if b.1 < 0 then d else c) p true))
def spQuo (a b c d : D2) (p : Int) : PV := if 0 < c.1 then spQuoPos a b c d p else if d.1 < 0 then spQuoPos b.neg a.neg d.neg c.neg p else spE 4
def spScale (a b : D2) (k : Int) : PV := bothA (toAn (scaleS a.1 a.2 k)) (toAn (scaleS b.1 b.2 k))
theorem add_ans {a b : D2} (h : a.good) (g : b.good) : Ans (addP a b) := add_form h g
theorem mul_ans (a b : D2) : Ans (mulP a b) := mul_form _ _ _ _
theorem scale_ans (a : D2) (k : Int) : Ans (scaleS a.1 a.2 k) := by
  unfold scaleS
  repeat' split
  · exact ⟨0, 0, 0, rfl, Good.zero, .inl rfl⟩
  · exact ⟨0, 0, 5, rfl, Good.zero, .inr rfl⟩
  · exact ⟨0, 0, 5, rfl, Good.zero, .inr rfl⟩
  · exact told_form _ _
theorem cuts_ans (a : D2) {p : Int} (hp : 1 ≤ p ∧ p ≤ 70000) (up : Bool) : Ans (cutsS a.1 a.2 p up) := by
  unfold cutsS
  rw [if_neg (by omega), if_neg (by omega)]
  exact cut_form _ _ _ _
theorem quo_ans {a b : D2} {p : Int} (hp : 1 ≤ p ∧ p ≤ 70000) (h0 : b.1 ≠ 0) (up : Bool) : Ans (quoP a b p up) := by
  unfold quoP quoS
  rw [if_neg (by omega), if_neg (by omega), if_neg h0]
  repeat' split
  · exact ⟨0, 0, 5, rfl, Good.zero, .inr rfl⟩
  · exact ⟨0, 0, 5, rfl, Good.zero, .inr rfl⟩
  · exact cut_form _ _ _ _
theorem quo_neg (a b : D2) (p : Int) (up : Bool) (h0 : b.1 ≠ 0) : quoP a.neg b.neg p up = quoP a b p up := by
  unfold quoP quoS D2.neg
  simp only [Int.natAbs_neg]
  have e1 : quoK (-a.1) (-b.1) p 1 = quoK a.1 b.1 p 1 := by unfold quoK; simp only [Int.natAbs_neg]
  have e2 : ∀ s : Nat, docQ (-a.1) (-b.1) s up = docQ a.1 b.1 s up := fun s => by
    cases up
    · show ((-a.1) * 2 ^ s).fdiv (-b.1) = (a.1 * 2 ^ s).fdiv b.1
      rw [Int.neg_mul, Int.neg_fdiv_neg]
    · show -((-((-a.1) * 2 ^ s)).fdiv (-b.1)) = -((-(a.1 * 2 ^ s)).fdiv b.1)
      rw [Int.neg_mul, Int.neg_fdiv_neg]
  rw [e1, e2]
  by_cases h1 : p < 1
  · rw [if_pos h1, if_pos h1]
  · rw [if_neg h1, if_neg h1]
    by_cases h2 : 70000 < p
    · rw [if_pos h2, if_pos h2]
    · rw [if_neg h2, if_neg h2, if_neg (by omega), if_neg h0]
abbrev vB (a : D2) : PV := .val (.bool (decide (a.1 < 0)))
abbrev vW (a : D2) : PV := .ws .u64 (d64 a.1.natAbs)
abbrev vE (a : D2) : PV := .val (.int .i64 a.2)
def holdS (a i b j : Int) : Int := if a * 2 ^ (i - min i j).toNat < b * 2 ^ (j - min i j).toNat then -1 else if b * 2 ^ (j - min i j).toNat < a * 2 ^ (i - min i j).toNat then 1 else 0
def holdC (a i b j : Int) : Int :=
  if a.sign ≠ b.sign ∨ a.sign = 0 then (a.sign - b.sign).sign
  else if (bl a.natAbs : Int) + i ≠ (bl b.natAbs : Int) + j then (if (bl a.natAbs : Int) + i < (bl b.natAbs : Int) + j then -a.sign else a.sign)
  else (a * 2 ^ (i - min i j).toNat - b * 2 ^ (j - min i j).toNat).sign
theorem abs_shl (a : Int) (k : Nat) : (a * 2 ^ k).natAbs = a.natAbs * 2 ^ k := by rw [Int.natAbs_mul, Int.natAbs_pow]; rfl
theorem bits_lt {a b : Nat} {p q : Nat} (hb : b ≠ 0) (h : bl a + p < bl b + q) : a * 2 ^ p < b * 2 ^ q := by
  have h1 := lt_bl a
  have h2 := le_of_bl hb
  have h3 := bl_pos hb
  have h4 : a * 2 ^ p < 2 ^ bl a * 2 ^ p := Nat.mul_lt_mul_of_pos_right h1 (Nat.pow_pos (by decide))
  have h5 : 2 ^ (bl b - 1) * 2 ^ q ≤ b * 2 ^ q := Nat.mul_le_mul_right _ h2
  rw [← Nat.pow_add] at h4 h5
  have h6 : 2 ^ (bl a + p) ≤ 2 ^ (bl b - 1 + q) := Nat.pow_le_pow_right (by decide) (by omega)
  omega
theorem sgn_mul {a : Int} {k : Nat} : (0 < a * 2 ^ k ↔ 0 < a) ∧ (a * 2 ^ k < 0 ↔ a < 0) := by
  have hp := p2_pos k
  rcases Int.lt_trichotomy a 0 with h | h | h
  · have h1 : a * 2 ^ k < 0 := Int.mul_neg_of_neg_of_pos h hp
    exact ⟨⟨fun _ => by omega, fun _ => by omega⟩, ⟨fun _ => h, fun _ => h1⟩⟩
  · subst h; rw [Int.zero_mul]; exact ⟨Iff.rfl, Iff.rfl⟩
  · have h1 := Int.mul_pos h hp
    exact ⟨⟨fun _ => h, fun _ => h1⟩, ⟨fun _ => by omega, fun _ => by omega⟩⟩
theorem sign_cmp (x y : Int) : (x - y).sign = if x < y then -1 else if y < x then 1 else 0 := by
  rcases Int.lt_trichotomy x y with h | h | h
  · rw [if_pos h, Int.sign_eq_neg_one_of_neg (by omega)]
  · rw [if_neg (by omega), if_neg (by omega), show x - y = 0 by omega]; rfl
  · rw [if_neg (by omega), if_pos h, Int.sign_eq_one_of_pos (by omega)]
theorem hold_eq (a i b j : Int) : holdC a i b j = holdS a i b j := by
  unfold holdC holdS
  obtain ⟨p, hp⟩ : ∃ p, p = (i - min i j).toNat := ⟨_, rfl⟩
  obtain ⟨q, hq⟩ : ∃ q, q = (j - min i j).toNat := ⟨_, rfl⟩
  rw [← hp, ← hq]
  have sa := sgn_mul (a := a) (k := p)
  have sb := sgn_mul (a := b) (k := q)
  have aa := abs_shl a p
  have ab := abs_shl b q
  by_cases hs : a.sign ≠ b.sign ∨ a.sign = 0
  · rw [if_pos hs]
    obtain ⟨X, hX⟩ : ∃ X, X = a * 2 ^ p := ⟨_, rfl⟩
    obtain ⟨Y, hY⟩ : ∃ Y, Y = b * 2 ^ q := ⟨_, rfl⟩
    rw [← hX] at sa ⊢
    rw [← hY] at sb ⊢
    rcases Int.lt_trichotomy a 0 with h | h | h <;> rcases Int.lt_trichotomy b 0 with h' | h' | h'
    · rw [Int.sign_eq_neg_one_of_neg h, Int.sign_eq_neg_one_of_neg h'] at hs; omega
    · rw [Int.sign_eq_neg_one_of_neg h, h', if_pos (by omega)]; rfl
    · rw [Int.sign_eq_neg_one_of_neg h, Int.sign_eq_one_of_pos h', if_pos (by omega)]; rfl
    · rw [Int.sign_eq_neg_one_of_neg h', h, if_neg (by omega), if_pos (by omega)]; rfl
    · rw [h, h', if_neg (by omega), if_neg (by omega)]; rfl
    · rw [Int.sign_eq_one_of_pos h', h, if_pos (by omega)]; rfl
    · rw [Int.sign_eq_neg_one_of_neg h', Int.sign_eq_one_of_pos h, if_neg (by omega), if_pos (by omega)]; rfl
    · rw [Int.sign_eq_one_of_pos h, h', if_neg (by omega), if_pos (by omega)]; rfl
    · rw [Int.sign_eq_one_of_pos h, Int.sign_eq_one_of_pos h'] at hs; omega
  · rw [if_neg hs]
    by_cases ht : (bl a.natAbs : Int) + i = (bl b.natAbs : Int) + j
    · rw [if_neg (by omega), sign_cmp]
    · rw [if_pos ht]
      have hs1 : a.sign = b.sign := by omega
      have hs0 : a.sign ≠ 0 := by omega
      have ha : a ≠ 0 := fun h => hs0 (by rw [h]; rfl)
      have hb : b ≠ 0 := fun h => hs0 (by rw [hs1, h]; rfl)
      obtain ⟨X, hX⟩ : ∃ X, X = a * 2 ^ p := ⟨_, rfl⟩
      obtain ⟨Y, hY⟩ : ∃ Y, Y = b * 2 ^ q := ⟨_, rfl⟩
      rw [← hX] at sa aa ⊢
      rw [← hY] at sb ab ⊢
      rcases Int.lt_or_le ((bl a.natAbs : Int) + i) ((bl b.natAbs : Int) + j) with hl | hl
      · have hlt := bits_lt (a := a.natAbs) (b := b.natAbs) (p := p) (q := q) (by omega) (by omega)
        rw [if_pos hl]
        rcases Int.lt_or_le a 0 with h | h
        · have h' : b < 0 := by
            rw [Int.sign_eq_neg_one_of_neg h] at hs1
            rcases Int.lt_trichotomy b 0 with h' | h' | h'
            · exact h'
            · omega
            · rw [Int.sign_eq_one_of_pos h'] at hs1; omega
          rw [Int.sign_eq_neg_one_of_neg h, if_neg (by omega), if_pos (by omega)]; rfl
        · have h2 : 0 < a := by omega
          have h' : 0 < b := by
            rw [Int.sign_eq_one_of_pos h2] at hs1
            rcases Int.lt_trichotomy b 0 with h' | h' | h'
            · rw [Int.sign_eq_neg_one_of_neg h'] at hs1; omega
            · omega
            · exact h'
          rw [Int.sign_eq_one_of_pos h2, if_pos (by omega)]
      · have hlt := bits_lt (a := b.natAbs) (b := a.natAbs) (p := q) (q := p) (by omega) (by omega)
        rw [if_neg (by omega)]
        rcases Int.lt_or_le a 0 with h | h
        · have h' : b < 0 := by
            rw [Int.sign_eq_neg_one_of_neg h] at hs1
            rcases Int.lt_trichotomy b 0 with h' | h' | h'
            · exact h'
            · omega
            · rw [Int.sign_eq_one_of_pos h'] at hs1; omega
          rw [Int.sign_eq_neg_one_of_neg h, if_pos (by omega)]
        · have h2 : 0 < a := by omega
          have h' : 0 < b := by
            rw [Int.sign_eq_one_of_pos h2] at hs1
            rcases Int.lt_trichotomy b 0 with h' | h' | h'
            · rw [Int.sign_eq_neg_one_of_neg h'] at hs1; omega
            · omega
            · exact h'
          rw [Int.sign_eq_one_of_pos h2, if_neg (by omega), if_pos (by omega)]
def Vc (c n e : Int) : Int := n * 2 ^ (e + c).toNat
theorem Vc_VV (n e : Int) : Vc 1048576 n e = VV n e := rfl
theorem Vc_low {c n e k : Int} (h : -c ≤ k) (hk : k ≤ e) : Vc c n e = n * 2 ^ (e - k).toNat * 2 ^ (k + c).toNat := by
  unfold Vc
  rw [Int.mul_assoc, ← Int.pow_add, show (e - k).toNat + (k + c).toNat = (e + c).toNat by omega]
theorem mul_lt_iff {x y p : Int} (hp : 0 < p) : x * p < y * p ↔ x < y := ⟨fun h => Int.lt_of_mul_lt_mul_right h (Int.le_of_lt hp), fun h => Int.mul_lt_mul_of_pos_right h hp⟩
theorem mul_le_iff {x y p : Int} (hp : 0 < p) : x * p ≤ y * p ↔ x ≤ y := ⟨fun h => Int.le_of_mul_le_mul_right h hp, fun h => Int.mul_le_mul_of_nonneg_right h (Int.le_of_lt hp)⟩
theorem hold_neg {c a i b j : Int} (hi : -c ≤ i) (hj : -c ≤ j) : holdS a i b j < 0 ↔ Vc c a i < Vc c b j := by
  rw [Vc_low (c := c) (n := a) (e := i) (k := min i j) (by omega) (by omega), Vc_low (c := c) (n := b) (e := j) (k := min i j) (by omega) (by omega), mul_lt_iff (p2_pos _)]
  unfold holdS
  by_cases h : a * 2 ^ (i - min i j).toNat < b * 2 ^ (j - min i j).toNat
  · rw [if_pos h]; exact ⟨fun _ => h, fun _ => by decide⟩
  · rw [if_neg h]; exact ⟨fun hh => by split at hh <;> omega, fun hh => absurd hh h⟩
theorem hold_pos {c a i b j : Int} (hi : -c ≤ i) (hj : -c ≤ j) : 0 < holdS a i b j ↔ Vc c b j < Vc c a i := by
  rw [Vc_low (c := c) (n := a) (e := i) (k := min i j) (by omega) (by omega), Vc_low (c := c) (n := b) (e := j) (k := min i j) (by omega) (by omega), mul_lt_iff (p2_pos _)]
  unfold holdS
  by_cases h : a * 2 ^ (i - min i j).toNat < b * 2 ^ (j - min i j).toNat
  · rw [if_pos h]; exact ⟨fun hh => by omega, fun hh => by omega⟩
  · rw [if_neg h]
    by_cases h2 : b * 2 ^ (j - min i j).toNat < a * 2 ^ (i - min i j).toNat
    · rw [if_pos h2]; exact ⟨fun _ => h2, fun _ => by decide⟩
    · rw [if_neg h2]; exact ⟨fun hh => by omega, fun hh => absurd hh h2⟩
theorem Vc_mul {n e m f : Int} (h1 : -1048576 ≤ e) (h2 : -1048576 ≤ f) : VV n e * VV m f = Vc 2097152 (n * m) (e + f) := by
  unfold VV Vc
  have e1 : (2 : Int) ^ (e + 1048576).toNat * 2 ^ (f + 1048576).toNat = 2 ^ (e + f + 2097152).toNat := by
    rw [← Int.pow_add]
    congr 1
    omega
  rw [Int.mul_assoc n, Int.mul_left_comm _ m, e1, ← Int.mul_assoc n]
theorem less_V {x y u v : D2} (h1 : x.good) (h2 : y.good) (h3 : u.good) (h4 : v.good) : holdS (x.1 * v.1) (x.2 + v.2) (u.1 * y.1) (u.2 + y.2) < 0 ↔ x.v * v.v < u.v * y.v := by
  have e1 := h1.2.1
  have e2 := h2.2.1
  have e3 := h3.2.1
  have e4 := h4.2.1
  rw [hold_neg (c := 2097152) (by omega) (by omega)]
  unfold D2.v
  rw [Vc_mul e1 e4, Vc_mul e3 e2]
theorem mr {a b c : Int} (h : a ≤ b) (hc : 0 ≤ c) : a * c ≤ b * c := Int.mul_le_mul_of_nonneg_right h hc
theorem ml {a b c : Int} (h : a ≤ b) (hc : 0 ≤ c) : c * a ≤ c * b := Int.mul_le_mul_of_nonneg_left h hc
theorem mln {a b c : Int} (h : a ≤ b) (hc : c ≤ 0) : c * b ≤ c * a := Int.mul_le_mul_of_nonpos_left hc h
theorem mrn {a b c : Int} (h : a ≤ b) (hc : c ≤ 0) : b * c ≤ a * c := Int.mul_le_mul_of_nonpos_right h hc
theorem bl_low {n : Nat} (h : n ≠ 0) : 2 ^ (bl n - 1) ≤ n := by
  rcases Nat.lt_or_ge n (2 ^ (bl n - 1)) with h1 | h1
  · have := bl_le h1
    have := bl_pos h
    omega
  · exact h1
structure Kn (y v1 v0 un u1 q r : Int) : Prop where
  ey : y = v1 * 4294967296 + v0
  bv1 : 2147483648 ≤ v1 ∧ v1 < 4294967296
  bv0 : 0 ≤ v0 ∧ v0 < 4294967296
  bun : 0 ≤ un ∧ un < v1 * 4294967296 + v0
  bu1 : 0 ≤ u1 ∧ u1 < 4294967296
  qr : un * 4294967296 + u1 = q * v1 * 4294967296 + q * v0 + r
  bq : 0 ≤ q ∧ q < 4294967296
  br : 0 ≤ r ∧ r < v1 * 4294967296 + v0
theorem kn_of {y v1 v0 un u1 : Int} (hy : y = v1 * 4294967296 + v0) (h1 : 2147483648 ≤ v1 ∧ v1 < 4294967296) (h0 : 0 ≤ v0 ∧ v0 < 4294967296) (hu : 0 ≤ un ∧ un < y) (hu1 : 0 ≤ u1 ∧ u1 < 4294967296) :
    Kn y v1 v0 un u1 ((un * 4294967296 + u1) / y) ((un * 4294967296 + u1) % y) := by
  have e1 := Int.mul_ediv_add_emod (un * 4294967296 + u1) y
  have e2 := Int.emod_nonneg (un * 4294967296 + u1) (show y ≠ 0 by omega)
  have e3 := Int.emod_lt_of_pos (un * 4294967296 + u1) (show 0 < y by omega)
  have q0 : 0 ≤ (un * 4294967296 + u1) / y := Int.ediv_nonneg (by omega) (by omega)
  have q1 : (un * 4294967296 + u1) / y < 4294967296 := Int.ediv_lt_of_lt_mul (by omega) (by omega)
  obtain ⟨q, hq⟩ : ∃ q, q = (un * 4294967296 + u1) / y := ⟨_, rfl⟩
  obtain ⟨r, hr⟩ : ∃ r, r = (un * 4294967296 + u1) % y := ⟨_, rfl⟩
  rw [← hq, ← hr] at e1
  rw [← hr] at e2 e3
  rw [← hq] at q0 q1
  rw [← hq, ← hr]
  refine ⟨hy, h1, h0, by omega, hu1, ?_, ⟨q0, q1⟩, by omega⟩
  rw [← e1, Int.mul_comm y q, hy, Int.mul_add, Int.mul_assoc]
structure KnI (v1 un q p s : Int) : Prop where
  eun : un = p * v1 + s
  bs : 0 ≤ s
  bp : q ≤ p ∧ p ≤ 4294967297
theorem Kn.start {y v1 v0 un u1 q r : Int} (h : Kn y v1 v0 un u1 q r) : KnI v1 un q (un / v1) (un - un / v1 * v1) ∧ un - un / v1 * v1 < v1 ∧ 0 ≤ un / v1 * v1 ∧ un / v1 * v1 ≤ un := by
  obtain ⟨hy, h1, h0, hu, hu1, hqr, hq, hr⟩ := h
  have e1 := Int.mul_ediv_add_emod un v1
  have e2 := Int.emod_nonneg un (show v1 ≠ 0 by omega)
  have e3 := Int.emod_lt_of_pos un (show 0 < v1 by omega)
  rw [Int.mul_comm] at e1
  have hp : un / v1 < 4294967298 := Int.ediv_lt_of_lt_mul (by omega) (by omega)
  have hge : q ≤ un / v1 := by
    refine Int.le_ediv_of_mul_le (by omega) ?_
    have : 0 ≤ q * v0 := Int.mul_nonneg hq.1 h0.1
    omega
  have h3 : 0 ≤ un / v1 * v1 := Int.mul_nonneg (Int.ediv_nonneg hu.1 (by omega)) (by omega)
  exact ⟨⟨by omega, by omega, hge, by omega⟩, by omega, h3, by omega⟩
theorem Kn.stop {y v1 v0 un u1 q r p s : Int} (h : Kn y v1 v0 un u1 q r) (hi : KnI v1 un q p s) (hc : p * v0 ≤ 4294967296 * s + u1) : p = q := by
  obtain ⟨hy, h1, h0, hu, hu1, hqr, hq, hr⟩ := h
  obtain ⟨i1, i2, i3⟩ := hi
  rcases Int.lt_or_le q p with hlt | hle
  · exfalso
    have e : (p - (q + 1)) * (v1 * 4294967296 + v0) ≥ 0 := Int.mul_nonneg (by omega) (by omega)
    have e2 : (p - (q + 1)) * (v1 * 4294967296 + v0) = p * v1 * 4294967296 + p * v0 - (q * v1 * 4294967296 + q * v0) - (v1 * 4294967296 + v0) := by
      rw [Int.sub_mul, Int.add_mul, Int.one_mul, Int.mul_add, Int.mul_add, ← Int.mul_assoc, ← Int.mul_assoc]
      omega
    omega
  · omega
theorem Kn.next {y v1 v0 un u1 q r p s : Int} (h : Kn y v1 v0 un u1 q r) (hi : KnI v1 un q p s) (hc : 4294967296 ≤ p ∨ 4294967296 * s + u1 < p * v0) : KnI v1 un q (p - 1) (s + v1) := by
  obtain ⟨hy, h1, h0, hu, hu1, hqr, hq, hr⟩ := h
  obtain ⟨i1, i2, i3⟩ := hi
  have hlt : q < p := by
    rcases hc with hc | hc
    · omega
    · rcases Int.lt_or_le q p with hlt | hle
      · exact hlt
      · exfalso
        have : p = q := by omega
        subst this
        omega
  have e : (p - 1) * v1 = p * v1 - v1 := by rw [Int.sub_mul, Int.one_mul]
  exact ⟨by omega, by omega, by omega, by omega⟩
theorem Kn.out {y v1 v0 un u1 q r p s : Int} (h : Kn y v1 v0 un u1 q r) (hi : KnI v1 un q p s) (hs : 4294967296 ≤ s) (hp : p ≤ 4294967296) : p = q := by
  refine h.stop hi ?_
  obtain ⟨hy, h1, h0, hu, hu1, hqr, hq, hr⟩ := h
  obtain ⟨i1, i2, i3⟩ := hi
  have e1 : p * v0 ≤ 4294967296 * v0 := Int.mul_le_mul_of_nonneg_right (by omega) h0.1
  have e2 : 4294967296 * 4294967296 ≤ 4294967296 * s := by omega
  omega
theorem Kn.left {y v1 v0 un u1 q r : Int} (h : Kn y v1 v0 un u1 q r) : q * y = q * v1 * 4294967296 + q * v0 := by
  rw [h.ey, Int.mul_add, Int.mul_assoc]
theorem b_lead (x : Nat) (h : x < 18446744073709551616) : FC Tryz.prog G 178 [.val (.int .u64 (x : Int))] (· = .val (.int .i64 (64 - (bl x : Int)))) := by
  have f1 := b_len (G := G) x h
  have hb : bl x ≤ 64 := bl_le (k := 64) (by omega)
  refine ax_i Tryz.func178 Tryz.ntmps178 ?_; intro F hG hO
  rw [← hG] at f1
  repeat' ((try (conv => whnf)); first
 | refine ce f1 ?_
 | with_reducible first | refine ax_s ?_ | (refine ax_f ?_ ?_ <;> try intro hc) | fail)
  exact ⟨ret_e rfl⟩
theorem or_g2 {a b : Int} {K : Int → Prop} (k : Nat) (ha : 0 ≤ a ∧ a < 18446744073709551616) (hb : 0 ≤ b ∧ b < 18446744073709551616) (h : b < 2 ^ k) (hm : a % 2 ^ k = 0) (hs : a + b < 18446744073709551616) (x : K (a + b)) : BitG .or .u64 a b K := by
  have e : bitI .or .u64 a b = bitI .or .u64 b a := by
    show IntKind.u64.wrap _ = IntKind.u64.wrap _
    simp only [BitVec.or_comm]
  have := or_g (K := fun y => K y) k hb ha h hm (by omega) (by rw [Int.add_comm]; exact x)
  obtain ⟨h1⟩ := this
  exact ⟨by rw [e]; exact h1⟩
theorem p2_posn (k : Nat) : (0 : Int) < 2 ^ k := Int.pow_pos (by decide)
theorem div_norm {hi lo d : Int} (hd : 0 < d ∧ d < 18446744073709551616) (hh : 0 ≤ hi ∧ hi < d) (hl : 0 ≤ lo ∧ lo < 18446744073709551616) : ∃ s : Nat, ∃ y un ul : Int, (s : Int) = 64 - (bl d.toNat : Int) ∧ s ≤ 63 ∧ d * 2 ^ s % 18446744073709551616 = y ∧ d * 2 ^ s = y ∧ 9223372036854775808 ≤ y ∧ y < 18446744073709551616
    ∧ hi * 2 ^ s % 18446744073709551616 + lo / 2 ^ (64 - s) = un ∧ lo * 2 ^ s % 18446744073709551616 = ul ∧ 0 ≤ un ∧ un < y ∧ 0 ≤ ul ∧ ul < 18446744073709551616 ∧ (hi * 18446744073709551616 + lo) * 2 ^ s = un * 18446744073709551616 + ul
    ∧ (0 ≤ hi * 2 ^ s % 18446744073709551616 ∧ hi * 2 ^ s % 18446744073709551616 < 18446744073709551616) ∧ (0 ≤ lo / 2 ^ (64 - s) ∧ lo / 2 ^ (64 - s) < 18446744073709551616) ∧ lo / 2 ^ (64 - s) < 2 ^ s ∧ hi * 2 ^ s % 18446744073709551616 % 2 ^ s = 0 := by
  have hb : bl d.toNat ≤ 64 := bl_le (k := 64) (by omega)
  have hp := bl_pos (n := d.toNat) (by omega)
  obtain ⟨s, hs⟩ : ∃ s, s = 64 - bl d.toNat := ⟨_, rfl⟩
  have h1 := lt_bl d.toNat
  have h2 := bl_low (n := d.toNat) (by omega)
  have e1 : (2 : Nat) ^ bl d.toNat * 2 ^ s = 18446744073709551616 := by rw [← Nat.pow_add, show bl d.toNat + s = 64 by omega]
  have e2 : (2 : Nat) ^ (bl d.toNat - 1) * 2 ^ s = 9223372036854775808 := by rw [← Nat.pow_add, show bl d.toNat - 1 + s = 63 by omega]
  have e3 : (2 : Nat) ^ (64 - s) * 2 ^ s = 18446744073709551616 := by rw [← Nat.pow_add, show 64 - s + s = 64 by omega]
  have a1 : d.toNat * 2 ^ s < 18446744073709551616 := by rw [← e1]; exact Nat.mul_lt_mul_of_pos_right h1 (Nat.pow_pos (by decide))
  have a2 : 9223372036854775808 ≤ d.toNat * 2 ^ s := by rw [← e2]; exact Nat.mul_le_mul_right _ h2
  have hPi : (2 : Int) ^ s = ((2 ^ s : Nat) : Int) := by simp
  have hQi : (2 : Int) ^ (64 - s) = ((2 ^ (64 - s) : Nat) : Int) := by simp
  have hPp : 0 < 2 ^ s := Nat.pow_pos (by decide)
  have hQp : 0 < 2 ^ (64 - s) := Nat.pow_pos (by decide)
  refine ⟨s, ?_⟩
  rw [hPi, hQi]
  obtain ⟨P, hP⟩ : ∃ P, P = 2 ^ s := ⟨_, rfl⟩
  obtain ⟨Q, hQ⟩ : ∃ Q, Q = 2 ^ (64 - s) := ⟨_, rfl⟩
  rw [← hP] at e3 a1 a2 hPp ⊢
  rw [← hQ] at e3 hQp ⊢
  have hdP : d * (P : Int) = ((d.toNat * P : Nat) : Int) := by rw [Int.natCast_mul]; congr 1; omega
  have hQP : (Q : Int) * P = 18446744073709551616 := by rw [← Int.natCast_mul, e3]; rfl
  have hiP : hi * (P : Int) < d * P := Int.mul_lt_mul_of_pos_right hh.2 (by omega)
  have hiP0 : 0 ≤ hi * (P : Int) := Int.mul_nonneg hh.1 (by omega)
  have hiP1 : hi * (P : Int) + P ≤ d * P := by
    have h := Int.mul_le_mul_of_nonneg_right (show hi + 1 ≤ d by omega) (show (0 : Int) ≤ P by omega)
    rw [Int.add_mul, Int.one_mul] at h
    exact h
  have hloP : lo * (P : Int) / 18446744073709551616 = lo / Q := by rw [← hQP, Int.mul_ediv_mul_of_pos_left _ _ (by omega)]
  have hb0 : 0 ≤ lo / (Q : Int) := Int.ediv_nonneg hl.1 (by omega)
  have hb1 : lo / (Q : Int) < P := Int.ediv_lt_of_lt_mul (by omega) (by rw [Int.mul_comm, hQP]; exact hl.2)
  have hPW : (P : Int) ≤ 18446744073709551616 := by
    have h := Int.mul_le_mul_of_nonneg_right (show (1 : Int) ≤ Q by omega) (show (0 : Int) ≤ P by omega)
    rw [Int.one_mul, hQP] at h
    exact h
  have hm := Int.mul_ediv_add_emod (lo * (P : Int)) 18446744073709551616
  rw [hloP] at hm
  have hm1 : hi * (P : Int) % 18446744073709551616 = hi * P := Int.emod_eq_of_lt hiP0 (by omega)
  rw [hm1]
  refine ⟨d * P, hi * P + lo / Q, lo * P % 18446744073709551616, by omega, by omega, Int.emod_eq_of_lt (by omega) (by omega), rfl, by omega, by omega, rfl, rfl, by omega, by omega, by omega, by omega, ?_, ⟨by omega, by omega⟩, ⟨hb0, by omega⟩, hb1, Int.mul_emod_left _ _⟩
  rw [Int.add_mul, Int.mul_right_comm]
  omega
theorem div_final {hi lo d P y un ul v1 v0 u1 u0 q1 r1 q0 r0 : Int} (hP : 0 < P) (hd : 0 < d) (hy : d * P = y) (hN : (hi * 18446744073709551616 + lo) * P = un * 18446744073709551616 + ul) (hul : ul = u1 * 4294967296 + u0) (k1 : Kn y v1 v0 un u1 q1 r1) (k0 : Kn y v1 v0 r1 u0 q0 r0) :
    q1 * 4294967296 + q0 = (hi * 18446744073709551616 + lo) / d ∧ r0 / P = (hi * 18446744073709551616 + lo) % d := by
  have e1 := k1.qr
  have e0 := k0.qr
  have l1 := k1.left
  have l0 := k0.left
  have hr := k0.br
  rw [← k1.ey] at hr
  obtain ⟨N, hNN⟩ : ∃ N, N = hi * 18446744073709551616 + lo := ⟨_, rfl⟩
  rw [← hNN] at hN ⊢
  have hmain : N * P = y * (q1 * 4294967296 + q0) + r0 := by
    rw [Int.mul_add, Int.mul_comm y q0, ← Int.mul_assoc, Int.mul_comm y q1]
    omega
  have hq : q1 * 4294967296 + q0 = N / d := by
    have h1 : N * P / (d * P) = N / d := Int.mul_ediv_mul_of_pos_left _ _ hP
    rw [hy] at h1
    rw [← h1]
    exact (div_of (a := N * P) (b := y) (q := q1 * 4294967296 + q0) (r := r0) (by omega) (by omega) hr.1 hr.2).1.symm
  refine ⟨hq, ?_⟩
  have h2 : N * P % (d * P) = N % d * P := by
    rw [Int.mul_comm N P, Int.mul_comm d P, Int.mul_comm (N % d) P]
    exact Int.mul_emod_mul_of_pos _ _ hP
  rw [hy] at h2
  have h3 : N * P % y = r0 := (div_of (a := N * P) (b := y) (q := q1 * 4294967296 + q0) (r := r0) (by omega) (by omega) hr.1 hr.2).2
  rw [h3] at h2
  rw [h2]
  exact Int.mul_ediv_cancel _ (by omega)
end Go.Proofs.YtpjbgmafnheomaaGreatDoor.Sim
