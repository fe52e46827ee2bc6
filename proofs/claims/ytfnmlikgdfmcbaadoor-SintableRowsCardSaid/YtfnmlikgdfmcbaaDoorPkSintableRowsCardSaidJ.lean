/-
  Lemmas of SintableRowsCardSaid, part 10.
-/
import Derived.Test.YtfnmlikgdfmcbaaDoorPkSintableRowsCardSaidI
namespace Go.Proofs.YtfnmlikgdfmcbaaDoor.Sim
open Go.RowKit
set_option linter.unusedVariables false
set_option linter.unusedSimpArgs false
set_option maxRecDepth 10000
set_option maxHeartbeats 8000000
variable {G : List (Nat × List Value)}
theorem uv_eq {a b : Int} (h : a = b) : PV.val (.int .u64 a) = .val (.int .u64 b) := by rw [h]
theorem sz_step {num den : Nat} {ve : Int} {f lo hi r : Nat} (h : szL num den ve f lo hi = some r) : ∃ f', f = f' + 1 ∧ ∃ s, s = lo + (hi - lo) / 2 ∧
    (Unit → (1 < hi - lo → (hoS num den ve (prS s).1 (prS s).2 ≤ 0 → szL num den ve f' s hi = some r) ∧ (¬ hoS num den ve (prS s).1 (prS s).2 ≤ 0 → szL num den ve f' lo s = some r)) ∧ (¬ 1 < hi - lo → r = lo)) := by
  cases f with
  | zero => cases h
  | succ f =>
    rw [szL] at h
    refine ⟨f, rfl, _, rfl, fun _ => ⟨fun h1 => ⟨fun h2 => ?_, fun h2 => ?_⟩, fun h1 => ?_⟩⟩
    · rw [if_pos h1, if_pos h2] at h; exact h
    · rw [if_pos h1, if_neg h2] at h; exact h
    · rw [if_neg h1] at h; exact (Option.some.inj h).symm
theorem t_size (num den : Nat) (ve : Int) (hn : L32 num ≤ 1048576) (hd : L32 den ≤ 1024) (hv : -1073741824 ≤ ve ∧ ve ≤ 1073741824) {r : Nat} (h : szS num den ve = some r) : FC Tryd.prog G 46 [FD, RL num den ve] (· = .val (.int .u64 (r : Int))) := by
  unfold szS at h
  obtain ⟨w, hw, rfl⟩ := Option.map_eq_some_iff.1 h
  have fw := r_word (G := G) 1 (by decide)
  have l1 : L32 1 ≤ 1 := L32_le (by decide)
  have hF : FD = .agg [.val (.int .u64 9223372036854775808), .val (.int .i64 53), .val (.int .i64 (-1074)), .val (.int .i64 971), .val (.int .u64 9218868437227405312), .val (.int .u64 9221120237041090561)] := rfl
  have hR : RL num den ve = .agg [D num, D den, .val (.int .i64 ve), .val (.bool false)] := rfl
  obtain ⟨lo0, e0⟩ : ∃ x : Nat, x = 0 := ⟨_, rfl⟩
  refine ax_i Tryd.func46 Tryd.ntmps46 (by rw [Tryd.results46]) ?_; intro F hG hO
  rw [← hG] at fw
  repeat' ((try (conv => whnf)); first
  | ((with_reducible refine cg ?_); first | refine ceq fw rfl ?_)
  | ((with_reducible refine lg ?_); refine loop_g (A := Nat × Nat × Nat) (fun (f, lo, hi) => szL num den ve f lo hi = some w ∧ lo ≤ hi ∧ hi ≤ 9218868437227405313) (fun (f, lo, hi) => f) (fun (f, lo, hi) => [(2, .ptr 0 0), (3, .ptr 1 0), (5, .val (.int .u64 (lo : Int))), (6, .val (.int .u64 (hi : Int)))]) (fun _ => [[.val (.int .u64 9223372036854775808), .val (.int .i64 53), .val (.int .i64 (-1074)), .val (.int .i64 971), .val (.int .u64 9218868437227405312), .val (.int .u64 9221120237041090561)], [D num, D den, .val (.int .i64 ve), .val (.bool false)]]) (fun _ => []) (70, 0, 9218868437227405313) tok (by rintro ⟨f, lo, hi⟩; (refine ⟨?_, ?_, ?_⟩ <;> simp [inS, inBB, inBL, inB, hO, D])) ?_ ⟨rfl, rfl, rfl, uv_eq (by first | omega | (dsimp only; omega)), trivial⟩ ⟨[], rfl⟩ ⟨[], rfl⟩ ?_; rotate_left; rintro ⟨f, lo, hi⟩ ⟨h1, h2, h3⟩; obtain ⟨f', rfl, s, es, hU⟩ := sz_step h1; have p1 := prS_lt (s := s) (by omega); have p2 := prS_lt (s := lo) (by omega); have q1 : L32 (prS s).1 ≤ 2 := L32_le (by omega); have q2 : L32 (prS lo).1 ≤ 2 := L32_le (by omega); have v1 := t_parts (G := F.G) s (by omega); rw [show ((s : Nat) : Int) = (lo : Int) + ((hi : Int) - (lo : Int)) / 2 by omega] at v1; have v2 := r_word (G := F.G) ((prS s).1 : Int) (by omega); rw [Int.toNat_natCast] at v2; have v3 := t_hold (G := F.G) num den (prS s).1 ve (prS s).2 hn hd (by omega) hv (by omega); have v4 := t_parts (G := F.G) lo (by omega); have v5 := r_word (G := F.G) ((prS lo).1 : Int) (by omega); rw [Int.toNat_natCast] at v5; have l2 := L32_mul (prS lo).1 2; have l3 := L32_add ((prS lo).1 * 2) 1; have l4 : L32 2 ≤ 1 := L32_le (by decide); have v6 := r_shl (G := F.G) (prS lo).1 1 (by omega) (by dsimp only [inR]; omega) (by omega); rw [show (prS lo).1 * 2 ^ (1 : Int).toNat = (prS lo).1 * 2 from rfl] at v6; have v7 := r_add (G := F.G) ((prS lo).1 * 2) 1 (by omega) (by omega); have v8 := t_hold (G := F.G) num den ((prS lo).1 * 2 + 1) ve ((prS lo).2 - 1) hn hd (by omega) hv (by omega); rw [show (prS lo).1 * 2 + 1 = 2 * (prS lo).1 + 1 by omega] at v7 v8)
  | ((with_reducible refine cg ?_); first | refine ceq v1 rfl ?_ | refine ceq v2 rfl ?_ | refine ceq v3 rfl ?_ | refine ceq v4 rfl ?_ | refine ceq v5 rfl ?_ | refine ceq v6 rfl ?_ | refine ceq v7 rfl ?_ | refine ceq v8 rfl ?_)
  
  | (with_reducible refine draw_g (id := 1) [[0, 1, 2, 3, 4]] tok mixed (by kernel_rfl) ?_)
  | (with_reducible refine draw_g (id := 5) [[0, 1, 3, 2, 4, 5]] tok mixed (by kernel_rfl) ?_)
  | (with_reducible refine draw_g (id := 11) [[0, 1, 6, 7, 2, 3, 4, 5, 8, 9]] tok mixed (by kernel_rfl) ?_)
  | with_reducible first | refine ax_s ?_ | refine BothG.mk ?_ ?_ | (refine ax_f ?_ ?_ <;> intro hc) | refine smk ?_ | fail)
  · exact ⟨again (f', s, hi) ⟨((hU ()).1 (by omega)).1 (by assumption), by omega, h3⟩ (by dsimp only; omega) ⟨rfl, rfl, uv_eq (by omega), rfl, trivial⟩ ⟨[], rfl⟩ ⟨[], rfl⟩⟩
  · exact ⟨again (f', lo, s) ⟨((hU ()).1 (by omega)).2 (by assumption), by omega, by omega⟩ (by dsimp only; omega) ⟨rfl, rfl, rfl, uv_eq (by omega), trivial⟩ ⟨[], rfl⟩ ⟨[], rfl⟩⟩
  · obtain rfl := (hU ()).2 (by omega)
    exact ⟨ret_e (uv_eq (by rw [if_pos (by omega)]))⟩
  · obtain rfl := (hU ()).2 (by omega)
    exact ⟨ret_e (uv_eq (by rw [if_neg (by omega), if_pos (.inl (by assumption))] <;> omega))⟩
  · obtain rfl := (hU ()).2 (by omega)
    exact ⟨ret_e (uv_eq (by rw [if_neg (by omega), if_pos (.inr ⟨by assumption, by omega⟩)] <;> omega))⟩
  · obtain rfl := (hU ()).2 (by omega)
    exact ⟨ret_e (uv_eq (by rw [if_neg (by omega), if_neg (by omega)]))⟩
  · obtain rfl := (hU ()).2 (by omega)
    exact ⟨ret_e (uv_eq (by rw [if_neg (by omega), if_neg (by omega)]))⟩
  · exact ⟨hw, by omega, by omega⟩
theorem t_signed (b : Bool) (s : Nat) (h : s < 9223372036854775808) : FC Tryd.prog G 45 [FD, .val (.bool b), .val (.int .u64 (s : Int))] (· = .val (.int .u64 ((if b then 9223372036854775808 + s else s : Nat) : Int))) := by
  unfold FD
  cases b
  all_goals
    refine ax_i Tryd.func45 Tryd.ntmps45 (by rw [Tryd.results45]) ?_; intro F hG hO
    repeat' ((try (conv => whnf)); first
  
  | with_reducible first | refine ax_s ?_ | refine BothG.mk ?_ ?_ | (refine ax_f ?_ ?_ <;> intro hc) | refine smk ?_ | fail)
    all_goals first
      | exact ⟨ret_e (uv_eq (by rw [if_pos rfl]; omega))⟩
      | exact ⟨ret_e rfl⟩
theorem tup_bu {a c : Bool} {b d : Int} (h1 : a = c) (h2 : b = d) : PV.tup [.val (.bool a), .val (.int .u64 b)] = .tup [.val (.bool c), .val (.int .u64 d)] := by rw [h1, h2]
theorem t_cut (b : Nat) (h : b < 18446744073709551616) : FC Tryd.prog G 33 [FD, .val (.int .u64 (b : Int))] (· = .tup [.val (.bool (decide (9223372036854775808 ≤ b))), .val (.int .u64 ((b % 9223372036854775808 : Nat) : Int))]) := by
  unfold FD
  refine ax_i Tryd.func33 Tryd.ntmps33 (by rw [Tryd.results33]) ?_; intro F hG hO
  repeat' ((try (conv => whnf)); first
  
  | (with_reducible refine draw_g (id := 1) [[0, 1, 2, 3, 4, 5, 6, 7, 8, 9]] tok mixed (by kernel_rfl) ?_)
  | with_reducible first | refine ax_s ?_ | refine BothG.mk ?_ ?_ | (refine ax_f ?_ ?_ <;> intro hc) | refine smk ?_ | fail)
  all_goals exact ⟨ret_e (tup_bu (decide_eq_decide.2 (by omega)) (by omega))⟩
theorem szL_le {num den : Nat} {ve : Int} {r : Nat} : ∀ {f lo hi : Nat}, szL num den ve f lo hi = some r → lo ≤ hi → r ≤ hi
  | 0, _, _, h, _ => by cases h
  | f + 1, lo, hi, h, hl => by
    rw [szL] at h
    split at h
    · split at h
      · have := szL_le h (by omega); omega
      · have := szL_le h (by omega); omega
    · have := Option.some.inj h; omega
theorem szS_lt {num den : Nat} {ve : Int} {r : Nat} (h : szS num den ve = some r) : r < 9223372036854775808 := by
  unfold szS at h
  obtain ⟨w, hw, rfl⟩ := Option.map_eq_some_iff.1 h
  have := szL_le hw (by omega)
  split
  · omega
  · split <;> omega
theorem tdS_lt {m e : Int} {r : Nat} (h : tdS m e = some r) : r < 18446744073709551616 := by
  unfold tdS at h
  split at h
  · have := Option.some.inj h; omega
  · obtain ⟨s, hs, rfl⟩ := Option.map_eq_some_iff.1 h
    have := szS_lt hs
    split <;> omega
theorem t_told (m e : Int) (hm : LZ m ≤ 1048576) (he : -1073741824 ≤ e ∧ e ≤ 1073741824) {r : Nat} (h : tdS m e = some r) : FC Tryd.prog G 28 [.val (.int .i64 64), ZI m, .val (.int .i64 e)] (· = .val (.int .u64 (r : Int))) := by
  have f1 := t_form (G := G)
  have hl := len_pos m.natAbs
  unfold tdS at h
  by_cases h0 : m = 0
  · rw [if_pos h0] at h
    obtain rfl := Option.some.inj h
    refine ax_i Tryd.func28 Tryd.ntmps28 (by rw [Tryd.results28]) ?_; intro F hG hO
    rw [← hG] at f1
    repeat' ((try (conv => whnf)); first
  | ((with_reducible refine cg ?_); first | refine ceq f1 rfl ?_)
  
  | (with_reducible refine draw_g (id := 4) [[0, 1, 2, 3, 4, 5, 7, 6, 8, 9, 10, 11]] tok mixed (by kernel_rfl) ?_)
  | with_reducible first | refine ax_s ?_ | refine BothG.mk ?_ ?_ | (refine ax_f ?_ ?_ <;> intro hc) | refine smk ?_ | fail)
    all_goals exact ⟨ret_e rfl⟩
  · rw [if_neg h0] at h
    obtain ⟨s, hs, rfl⟩ := Option.map_eq_some_iff.1 h
    have f2 := r_word (G := G) 1 (by decide)
    have f3 := t_size (G := G) m.natAbs 1 e hm (Nat.le_trans (L32_le (n := 1) (by decide)) (by decide)) he hs
    have f4 := t_signed (G := G) (decide (m < 0)) s (szS_lt hs)
    rw [show (if decide (m < 0) = true then 9223372036854775808 + s else s) = if m < 0 then 9223372036854775808 + s else s by simp only [decide_eq_true_eq]] at f4
    refine ax_i Tryd.func28 Tryd.ntmps28 (by rw [Tryd.results28]) ?_; intro F hG hO
    rw [← hG] at f1 f2 f3 f4
    repeat' ((try (conv => whnf)); first
  | ((with_reducible refine cg ?_); first | refine ceq f1 rfl ?_ | refine ceq f2 rfl ?_ | refine ceq f3 rfl ?_ | refine ceq f4 rfl ?_)
  
  | (with_reducible refine draw_g (id := 4) [[0, 1, 2, 3, 4, 5, 7, 6, 8, 9, 10, 11]] tok mixed (by kernel_rfl) ?_)
  | with_reducible first | refine ax_s ?_ | refine BothG.mk ?_ ?_ | (refine ax_f ?_ ?_ <;> intro hc) | refine smk ?_ | fail)
    all_goals exact ⟨ret_e rfl⟩
theorem LZ_s23 (b : Nat) (q : Int) (hq : q ≤ 4000) : LZ (s23 b q) ≤ 260 := by
  have h := prS_lt (s := b % 9223372036854775808) (by omega)
  have h1 : L32 (prS (b % 9223372036854775808)).1 ≤ 2 := L32_le (by omega)
  unfold s23
  dsimp only
  generalize prS (b % 9223372036854775808) = pr at h h1 ⊢
  have hz : LZ (if 9223372036854775808 ≤ b then -(pr.1 : Int) else pr.1) ≤ 2 := by
    split
    · rw [LZ_neg]; exact h1
    · exact h1
  generalize (if 9223372036854775808 ≤ b then -(pr.1 : Int) else pr.1) = z at hz ⊢
  split
  · have := LZ_ediv (a := z) (b := 2 ^ (-pr.2 - q).toNat) (Int.pow_pos (by decide)); omega
  · have := LZ_shl z (pr.2 + q).toNat; omega
theorem t_scaled23 (b : Nat) (q : Int) (hb : b < 18446744073709551616) (hq : 0 ≤ q ∧ q ≤ 4000) : FC Tryd.prog G 19 [.val (.int .u64 (b : Int)), .val (.int .i64 q)] (· = ZI (s23 b q)) := by
  have h := prS_lt (s := b % 9223372036854775808) (by omega)
  have h1 : L32 (prS (b % 9223372036854775808)).1 ≤ 2 := L32_le (by omega)
  have f1 := t_form (G := G)
  have f2 := t_cut (G := G) b hb
  have f3 := t_parts (G := G) (b % 9223372036854775808) (by omega)
  unfold s23
  dsimp only
  generalize prS (b % 9223372036854775808) = pr at h h1 f3 ⊢
  have hz : LZ (if 9223372036854775808 ≤ b then -(pr.1 : Int) else pr.1) ≤ 2 := by
    split
    · rw [LZ_neg]; exact h1
    · exact h1
  have f4 := r_word (G := G) (pr.1 : Int) (by omega)
  rw [Int.toNat_natCast] at f4
  have f5 := r_mk (G := G) (decide (9223372036854775808 ≤ b)) pr.1 (by omega)
  rw [show sg (decide (9223372036854775808 ≤ b)) pr.1 = if 9223372036854775808 ≤ b then -(pr.1 : Int) else pr.1 by
    by_cases hb2 : 9223372036854775808 ≤ b
    · rw [if_pos hb2, decide_eq_true hb2]; rfl
    · rw [if_neg hb2, decide_eq_false hb2]; rfl] at f5
  generalize (if 9223372036854775808 ≤ b then -(pr.1 : Int) else pr.1) = z at hz f5 ⊢
  by_cases hc0 : pr.2 + q < 0
  · have f6 := r_zfshr (G := G) z (0 - pr.2 - q) (by omega) (by dsimp only [inR]; omega)
    rw [if_pos hc0]
    refine ax_i Tryd.func19 Tryd.ntmps19 (by rw [Tryd.results19]) ?_; intro F hG hO
    rw [← hG] at f1 f2 f3 f4 f5 f6
    repeat' ((try (conv => whnf)); first
  | ((with_reducible refine cg ?_); first | refine ceq f1 rfl ?_ | refine ceq f2 rfl ?_ | refine ceq f3 rfl ?_ | refine ceq f4 rfl ?_ | refine ceq f5 rfl ?_ | refine ceq f6 rfl ?_)
  
  | with_reducible first | refine ax_s ?_ | refine BothG.mk ?_ ?_ | (refine ax_f ?_ ?_ <;> intro hc) | refine smk ?_ | fail)
    all_goals exact ⟨ret_e (zi_eq (a := z / 2 ^ (0 - pr.2 - q).toNat) (by rw [Int.zero_sub]))⟩
  · have f6 := r_zshl (G := G) z (pr.2 + q) (by omega) (by dsimp only [inR]; omega) (by omega)
    rw [if_neg hc0]
    refine ax_i Tryd.func19 Tryd.ntmps19 (by rw [Tryd.results19]) ?_; intro F hG hO
    rw [← hG] at f1 f2 f3 f4 f5 f6
    repeat' ((try (conv => whnf)); first
  | ((with_reducible refine cg ?_); first | refine ceq f1 rfl ?_ | refine ceq f2 rfl ?_ | refine ceq f3 rfl ?_ | refine ceq f4 rfl ?_ | refine ceq f5 rfl ?_ | refine ceq f6 rfl ?_)
  
  | with_reducible first | refine ax_s ?_ | refine BothG.mk ?_ ?_ | (refine ax_f ?_ ?_ <;> intro hc) | refine smk ?_ | fail)
    all_goals exact ⟨ret_e rfl⟩
theorem ha_step {sine : Bool} {j : Int} {f p : Nat} {r : Nat × Nat} (h : haL sine j f p = some r) : ∃ f', f = f' + 1 ∧ ∃ v hi hj, enS sine j (-6) p = some v ∧ okZ v.1 ∧ okZ v.2.1 ∧ v.2.2 ≤ 4000 ∧ tdS v.1 (-v.2.2) = some hi ∧ tdS v.2.1 (-v.2.2) = some hj ∧
    (Unit → hi ≠ hj → haL sine j f' (2 * p) = some r) ∧ (Unit → hi = hj → ∃ lo lp, tdS (v.1 - s23 hi v.2.2) (-v.2.2) = some lo ∧ tdS (v.2.1 - s23 hi v.2.2) (-v.2.2) = some lp ∧ (Unit → (lo = lp → r = (hi, lo)) ∧ (lo ≠ lp → haL sine j f' (2 * p) = some r))) := by
  cases f with
  | zero => cases h
  | succ f =>
    rw [haL] at h
    obtain ⟨v, hv, h⟩ := Option.bind_eq_some_iff.1 h
    by_cases ho : okZ v.1 ∧ okZ v.2.1 ∧ v.2.2 ≤ 4000
    · rw [if_pos ho] at h
      obtain ⟨hi, hh, h⟩ := Option.bind_eq_some_iff.1 h
      obtain ⟨hj, hk, h⟩ := Option.bind_eq_some_iff.1 h
      refine ⟨f, rfl, v, hi, hj, hv, ho.1, ho.2.1, ho.2.2, hh, hk, fun _ e => ?_, fun _ e => ?_⟩
      · rw [if_neg e] at h; exact h
      · rw [if_pos e] at h
        obtain ⟨lo, hl, h⟩ := Option.bind_eq_some_iff.1 h
        obtain ⟨lp, hm, h⟩ := Option.bind_eq_some_iff.1 h
        refine ⟨lo, lp, hl, hm, fun _ => ⟨fun e2 => ?_, fun e2 => ?_⟩⟩
        · rw [if_pos e2] at h; exact (Option.some.inj h).symm
        · rw [if_neg e2] at h; exact h
    · rw [if_neg ho] at h; cases h
theorem enS_p {sine : Bool} {m e : Int} {p : Nat} {r : Int × Int × Nat} (h : enS sine m e p = some r) : p ≤ 2000 := by
  unfold enS at h
  split at h
  · rename_i hb; exact hb.2.2.2
  · cases h
theorem t_halves (sine : Bool) (j : Int) (hj : inR .i64 j) {r : Nat × Nat} (h : haS sine j = some r) : FC Tryd.prog G 13 [.val (.int .i64 (fnI sine)), .val (.int .i64 j)] (· = .tup [.val (.int .u64 (r.1 : Int)), .val (.int .u64 (r.2 : Int))]) := by
  unfold haS at h
  have f1 := r_of (G := G) j hj
  obtain ⟨n, hn⟩ : ∃ n, n = fnI sine := ⟨_, rfl⟩
  rw [← hn]
  refine ax_i Tryd.func13 Tryd.ntmps13 (by rw [Tryd.results13]) ?_; intro F hG hO
  rw [← hG] at f1
  repeat' ((try (conv => whnf)); first
  | ((with_reducible refine cg ?_); first | refine ceq f1 rfl ?_)
  | ((with_reducible refine lg ?_); refine loop_g (A := Nat × Nat) (fun (f, p) => haL sine j f p = some r) (fun (f, p) => f) (fun (f, p) => [(0, .val (.int .i64 n)), (1, .val (.int .i64 j)), (6, .val (.int .i64 (p : Int)))]) (fun _ => []) (fun _ => []) (3, 300) tok (by rintro ⟨f, p⟩; (refine ⟨?_, ?_, ?_⟩ <;> simp [inS, inBB, inBL, inB, hO])) ?_ ⟨rfl, rfl, rfl, trivial⟩ ⟨[], rfl⟩ ⟨[], rfl⟩ ?_; rotate_left; rintro ⟨f, p⟩ h1; obtain ⟨f', rfl, v, hi, hk, ev, o1, o2, hq, eh, ek, hN, hE⟩ := ha_step h1; have lv := okZ_L o1; have lw := okZ_L o2; have hp := enS_p ev; have th := tdS_lt eh; have v1 := t_of (G := F.G) sine j (-6) p ev; rw [← hn] at v1; have v2 := t_told (G := F.G) v.1 (-v.2.2) (by omega) (by omega) eh; have v3 := t_told (G := F.G) v.2.1 (-v.2.2) (by omega) (by omega) ek; rw [show (-(v.2.2 : Int)) = 0 - (v.2.2 : Int) by omega] at v2 v3; have v4 := t_scaled23 (G := F.G) hi (v.2.2 : Int) th (by omega); have ls := LZ_s23 hi (v.2.2 : Int) (by omega); have s1 := LZ_add v.1 (-(s23 hi (v.2.2 : Int))); have s2 := LZ_add v.2.1 (-(s23 hi (v.2.2 : Int))); rw [LZ_neg, ← Int.sub_eq_add_neg] at s1 s2; have v5 := r_zsub (G := F.G) v.1 (s23 hi (v.2.2 : Int)) (by omega) (by omega); have v6 := r_zsub (G := F.G) v.2.1 (s23 hi (v.2.2 : Int)) (by omega) (by omega); by_cases e9 : hi = hk; obtain ⟨lo, lp, el, em, hU⟩ := hE () e9; have v7 := t_told (G := F.G) (v.1 - s23 hi v.2.2) (-v.2.2) (by omega) (by omega) el; have v8 := t_told (G := F.G) (v.2.1 - s23 hi v.2.2) (-v.2.2) (by omega) (by omega) em; rw [show (-(v.2.2 : Int)) = 0 - (v.2.2 : Int) by omega] at v7 v8)
  | ((with_reducible refine cg ?_); first | refine ceq v1 rfl ?_ | refine ceq v2 rfl ?_ | refine ceq v3 rfl ?_ | refine ceq v4 rfl ?_ | refine ceq v5 rfl ?_ | refine ceq v6 rfl ?_ | refine ceq v7 rfl ?_ | refine ceq v8 rfl ?_)
  
  | (with_reducible refine draw_g (id := 7) [[0, 1, 2, 4, 5, 6, 3, 7, 8]] tok mixed (by kernel_rfl) ?_)
  | (with_reducible refine draw_g (id := 8) [[0, 1, 2, 3, 5, 6, 7, 4, 8, 9]] tok mixed (by kernel_rfl) ?_)
  | with_reducible first | refine ax_s ?_ | refine BothG.mk ?_ ?_ | (refine ax_f ?_ ?_ <;> intro hc) | refine smk ?_ | fail)
  · obtain rfl := (hU ()).1 (by omega)
    exact ⟨ret_e rfl⟩
  · exact ⟨again (f', 2 * p) ((hU ()).2 (by omega)) (by dsimp only; omega) ⟨rfl, rfl, iv_eq (by omega), trivial⟩ ⟨_, rfl⟩ ⟨[], rfl⟩⟩
  · exact ⟨again (f', 2 * p) (hN () e9) (by dsimp only; omega) ⟨rfl, rfl, iv_eq (by omega), trivial⟩ ⟨_, rfl⟩ ⟨[], rfl⟩⟩
  · exact h
def RowV (a b c d : Nat) : PV := .agg [.val (.int .u64 (a : Int)), .val (.int .u64 (b : Int)), .val (.int .u64 (c : Int)), .val (.int .u64 (d : Int))]
def docR (j : Int) : Option (PV × Int) :=
  if j < 0 ∨ 52 < j then some (RowV 0 0 0 0, 1) else if j = 0 then some (RowV 0 0 4607182418800017408 0, 0)
  else (haS true j).bind fun a => (haS false j).map fun c => (RowV a.1 a.2 c.1 c.2, 0)
theorem t_docrow (j : Int) (hj : inR .i64 j) {r : PV × Int} (h : docR j = some r) : FC Tryd.prog G 7 [.val (.int .i64 j)] (· = .tup [r.1, .val (.int .i64 r.2)]) := by
  unfold docR at h
  by_cases h1 : j < 0 ∨ 52 < j
  · rw [if_pos h1] at h
    obtain rfl := Option.some.inj h
    refine ax_i Tryd.func7 Tryd.ntmps7 (by rw [Tryd.results7]) ?_; intro F hG hO
    repeat' ((try (conv => whnf)); first
  
  | with_reducible first | refine ax_s ?_ | refine BothG.mk ?_ ?_ | (refine ax_f ?_ ?_ <;> intro hc) | refine smk ?_ | fail)
    all_goals exact ⟨ret_e rfl⟩
  · rw [if_neg h1] at h
    by_cases h2 : j = 0
    · rw [if_pos h2] at h
      obtain rfl := Option.some.inj h
      refine ax_i Tryd.func7 Tryd.ntmps7 (by rw [Tryd.results7]) ?_; intro F hG hO
      repeat' ((try (conv => whnf)); first
  
  | with_reducible first | refine ax_s ?_ | refine BothG.mk ?_ ?_ | (refine ax_f ?_ ?_ <;> intro hc) | refine smk ?_ | fail)
      all_goals exact ⟨ret_e rfl⟩
    · rw [if_neg h2] at h
      obtain ⟨a, ha, h⟩ := Option.bind_eq_some_iff.1 h
      obtain ⟨c, hc0, rfl⟩ := Option.map_eq_some_iff.1 h
      have f1 := t_halves (G := G) true j hj ha
      have f2 := t_halves (G := G) false j hj hc0
      refine ax_i Tryd.func7 Tryd.ntmps7 (by rw [Tryd.results7]) ?_; intro F hG hO
      rw [← hG] at f1 f2
      repeat' ((try (conv => whnf)); first
  | ((with_reducible refine cg ?_); first | refine ceq f1 rfl ?_ | refine ceq f2 rfl ?_)
  
  | with_reducible first | refine ax_s ?_ | refine BothG.mk ?_ ?_ | (refine ax_f ?_ ?_ <;> intro hc) | refine smk ?_ | fail)
      all_goals exact ⟨ret_e rfl⟩
end Go.Proofs.YtfnmlikgdfmcbaaDoor.Sim
