/-
  The laws PayneWords and PayneWindows answer true. Condition: the package table 'words' (the row's 'laid').
-/
import Derived.Test.YtlbnlalkimnhdaaDoorPayW
namespace Go.Proofs.YtlbnlalkimnhdaaDoor.Sim
open Go.RowKit
set_option linter.unusedVariables false
set_option linter.unusedSimpArgs false
set_option maxRecDepth 10000
set_option maxHeartbeats 8000000
theorem docword_in (i : Nat) (h : i < 20) : FC Tryd.prog GW 20 [.val (.int .i64 (i : Int))] (· = .tup [.val (.int .u64 (rd wordsT (i : Int))), .val (.int .i64 0)]) := by
  obtain ⟨h1, h2⟩ := words_ok i h
  have hL : L32 (invU (64 * (i + 1))) ≤ 1000 := by
    unfold invU
    have := L32_mono (Nat.div_le_self (2 ^ (2 * (64 * (i + 1)) + 65)) (bndN (64 * (i + 1) + 64)).2)
    have := L32_p2 (2 * (64 * (i + 1)) + 65)
    omega
  have f1 := r_inv (G := GW) (64 * (i + 1)) (by omega) h1
  obtain ⟨U, hU⟩ : ∃ U, U = invU (64 * (i + 1)) := ⟨_, rfl⟩
  rw [← hU] at f1 h2 hL
  have f2 := r_low (G := GW) U 64 (by omega) (by dsimp only [inR]; omega)
  have f3 := r_fits (G := GW) (U % 2 ^ 64) (Nat.le_trans (L32_mono (Nat.mod_le _ _)) (by omega))
  rw [if_pos (Nat.mod_lt _ (by decide)), show ((U % 2 ^ 64 : Nat) : Int) = rd wordsT (i : Int) by rw [h2]] at f3
  rw [show ((64 * (i + 1) : Nat) : Int) = 64 * ((i : Int) + 1) by omega] at f1
  clear hU h1 h2
  refine FC.intro (X := XX) tok Tryd.func20 rfl Tryd.ntmps20 (by rw [Tryd.results20]) (by kernel_rfl) rfl ?_; intro F hG hO
  rw [← hG] at f1 f2 f3
  repeat' ((try (conv => whnf)); first
  | ((with_reducible refine cg ?_); refine call_eq f1 (LpL.refl _) rfl ?_)
  | ((with_reducible refine cg ?_); refine call_eq f2 (LpL.refl _) rfl ?_)
  | ((with_reducible refine cg ?_); refine call_eq f3 (LpL.refl _) rfl ?_)
  
  | (with_reducible refine Chk.mk' (by first | omega | exact trivial | (simp only [List.length_append, List.length_set, List.length_replicate, List.length_take, List.length_drop, List.length_cons, List.length_nil, List.length_map]; omega)) ?_)
  | (with_reducible refine wrap_g (by dsimp only [inR]; omega) ?_)
  | (with_reducible refine idx_g (by omega) ?_)
  | (with_reducible refine idx_l _ rfl (by decide) ?_)
  | (with_reducible refine fork_tt ?_) | (with_reducible refine fork_ff ?_)
  | (with_reducible refine fork_t (by omega) ?_) | (with_reducible refine fork_f (by omega) ?_)
  | (with_reducible refine fork_d ?_ ?_ <;> intro hc)
  | (with_reducible refine fork_n ?_)
  | (with_reducible refine fork_b ?_ ?_ <;> intro hc)
  | (with_reducible refine SlcG.mk (by omega) ?_)
  | (with_reducible refine MakG.mk (by dsimp only; omega) ?_)
  | (with_reducible refine AppG.mk (by first | omega | (simp only [List.length_append, List.length_set, List.length_replicate, List.length_take, List.length_drop, List.length_cons, List.length_nil, List.length_map]; omega)) (by dsimp only [List.length_cons, List.length_nil]; omega) (by omega) ?_)
  | (with_reducible refine div_g (by omega) (by omega) (by dsimp only [inR]; omega) ?_)
  | (with_reducible refine mod_g (by omega) (by omega) ?_)
  | (with_reducible refine mask_g (m := 4294967296) 32 rfl rfl (by decide) (by omega) ?_)
  | (with_reducible refine shr_g (m := 4294967296) 32 rfl (by decide) (by omega) rfl ?_)
  | (with_reducible refine fz_all (by omega) ?_)
  | (with_reducible refine Stuck.h (A := RetE _ _) ?_) | (with_reducible refine Stuck.h (A := RetM _ _ _ _) ?_) | (with_reducible refine Stuck.h (A := Again _ _ _ _ _ _ _ _) ?_) | (with_reducible refine Stuck.h (A := CallF _ _ _ _ _ _ _) ?_) | (with_reducible refine Stuck.h (A := LoopG _ _ _ _ _ _ _ _) ?_) | (with_reducible refine Stuck.h (A := DrawG _ _ _ _ _ _ _ _) ?_)
  | (with_reducible refine Stuck.h (A := WrapG _ _ _) ?_) | (with_reducible refine Stuck.h (A := DivG _ _ _ _) ?_) | (with_reducible refine Stuck.h (A := ModG _ _ _) ?_) | (with_reducible refine Stuck.h (A := ShlG _ _ _ _) ?_) | (with_reducible refine Stuck.h (A := ShrG _ _ _ _) ?_) | (with_reducible refine Stuck.h (A := BitG _ _ _ _ _) ?_)
  | (with_reducible refine Stuck.h (A := IdxG _ _ _) ?_) | (with_reducible refine Stuck.h (A := IdxL _ _ _) ?_) | (with_reducible refine Stuck.h (A := SlcG _ _ _ _ _) ?_) | (with_reducible refine Stuck.h (A := MakG _ _ _ _) ?_) | (with_reducible refine Stuck.h (A := AppG _ _ _ _ _ _ _) ?_) | (with_reducible refine Stuck.h (A := FzG _ _ _ _) ?_)
  | (with_reducible refine Stuck.h (A := RawG _) ?_) | (with_reducible refine Stuck.h (A := TabG _ _ _ _ _) ?_) | (with_reducible refine Stuck.h (A := ExtF _ _ _ _) ?_) | (with_reducible refine Stuck.h (A := Chk _ _) ?_) | (with_reducible refine Stuck.h (A := False) ?_))
  all_goals exact ⟨ret_e rfl⟩
theorem docword_out (i : Int) (h : i < 0 ∨ 20 ≤ i) (hi : inR .i64 i) : FC Tryd.prog GW 20 [.val (.int .i64 i)] (· = .tup [.val (.int .u64 0), .val (.int .i64 1)]) := by
  refine FC.intro (X := XX) tok Tryd.func20 rfl Tryd.ntmps20 (by rw [Tryd.results20]) (by kernel_rfl) rfl ?_; intro F hG hO
  repeat' ((try (conv => whnf)); first
  
  | (with_reducible refine Chk.mk' (by first | omega | exact trivial | (simp only [List.length_append, List.length_set, List.length_replicate, List.length_take, List.length_drop, List.length_cons, List.length_nil, List.length_map]; omega)) ?_)
  | (with_reducible refine wrap_g (by dsimp only [inR]; omega) ?_)
  | (with_reducible refine idx_g (by omega) ?_)
  | (with_reducible refine idx_l _ rfl (by decide) ?_)
  | (with_reducible refine fork_tt ?_) | (with_reducible refine fork_ff ?_)
  | (with_reducible refine fork_t (by omega) ?_) | (with_reducible refine fork_f (by omega) ?_)
  | (with_reducible refine fork_d ?_ ?_ <;> intro hc)
  | (with_reducible refine fork_n ?_)
  | (with_reducible refine fork_b ?_ ?_ <;> intro hc)
  | (with_reducible refine SlcG.mk (by omega) ?_)
  | (with_reducible refine MakG.mk (by dsimp only; omega) ?_)
  | (with_reducible refine AppG.mk (by first | omega | (simp only [List.length_append, List.length_set, List.length_replicate, List.length_take, List.length_drop, List.length_cons, List.length_nil, List.length_map]; omega)) (by dsimp only [List.length_cons, List.length_nil]; omega) (by omega) ?_)
  | (with_reducible refine div_g (by omega) (by omega) (by dsimp only [inR]; omega) ?_)
  | (with_reducible refine mod_g (by omega) (by omega) ?_)
  | (with_reducible refine mask_g (m := 4294967296) 32 rfl rfl (by decide) (by omega) ?_)
  | (with_reducible refine shr_g (m := 4294967296) 32 rfl (by decide) (by omega) rfl ?_)
  | (with_reducible refine fz_all (by omega) ?_)
  | (with_reducible refine Stuck.h (A := RetE _ _) ?_) | (with_reducible refine Stuck.h (A := RetM _ _ _ _) ?_) | (with_reducible refine Stuck.h (A := Again _ _ _ _ _ _ _ _) ?_) | (with_reducible refine Stuck.h (A := CallF _ _ _ _ _ _ _) ?_) | (with_reducible refine Stuck.h (A := LoopG _ _ _ _ _ _ _ _) ?_) | (with_reducible refine Stuck.h (A := DrawG _ _ _ _ _ _ _ _) ?_)
  | (with_reducible refine Stuck.h (A := WrapG _ _ _) ?_) | (with_reducible refine Stuck.h (A := DivG _ _ _ _) ?_) | (with_reducible refine Stuck.h (A := ModG _ _ _) ?_) | (with_reducible refine Stuck.h (A := ShlG _ _ _ _) ?_) | (with_reducible refine Stuck.h (A := ShrG _ _ _ _) ?_) | (with_reducible refine Stuck.h (A := BitG _ _ _ _ _) ?_)
  | (with_reducible refine Stuck.h (A := IdxG _ _ _) ?_) | (with_reducible refine Stuck.h (A := IdxL _ _ _) ?_) | (with_reducible refine Stuck.h (A := SlcG _ _ _ _ _) ?_) | (with_reducible refine Stuck.h (A := MakG _ _ _ _) ?_) | (with_reducible refine Stuck.h (A := AppG _ _ _ _ _ _ _) ?_) | (with_reducible refine Stuck.h (A := FzG _ _ _ _) ?_)
  | (with_reducible refine Stuck.h (A := RawG _) ?_) | (with_reducible refine Stuck.h (A := TabG _ _ _ _ _) ?_) | (with_reducible refine Stuck.h (A := ExtF _ _ _ _) ?_) | (with_reducible refine Stuck.h (A := Chk _ _) ?_) | (with_reducible refine Stuck.h (A := False) ?_))
  all_goals exact ⟨ret_e rfl⟩
theorem words_pc (n : Int) (hi : inR .i64 n) : FC Tryd.prog GW 5 [.val (.int .i64 n)] (· = .val (.bool true)) := by
  by_cases h : 0 ≤ n ∧ n < 20
  · obtain ⟨i, rfl⟩ := Int.eq_ofNat_of_zero_le h.1
    have f1 := docword_in i (by omega)
    have f2 := word_in i h
    have f0 := awake21
    refine FC.intro (X := XX) tok Tryd.func5 rfl Tryd.ntmps5 (by rw [Tryd.results5]) (by kernel_rfl) rfl ?_; intro F hG hO
    rw [← hG] at f0 f1 f2
    repeat' ((try (conv => whnf)); first
  | ((with_reducible refine cg ?_); refine call_eq f0 (LpL.refl _) rfl ?_)
  | ((with_reducible refine cg ?_); refine call_eq f1 (LpL.refl _) rfl ?_)
  | ((with_reducible refine cg ?_); refine call_eq f2 (LpL.refl _) rfl ?_)
  
  | (with_reducible refine Chk.mk' (by first | omega | exact trivial | (simp only [List.length_append, List.length_set, List.length_replicate, List.length_take, List.length_drop, List.length_cons, List.length_nil, List.length_map]; omega)) ?_)
  | (with_reducible refine wrap_g (by dsimp only [inR]; omega) ?_)
  | (with_reducible refine idx_g (by omega) ?_)
  | (with_reducible refine idx_l _ rfl (by decide) ?_)
  | (with_reducible refine fork_tt ?_) | (with_reducible refine fork_ff ?_)
  | (with_reducible refine fork_t (by omega) ?_) | (with_reducible refine fork_f (by omega) ?_)
  | (with_reducible refine fork_d ?_ ?_ <;> intro hc)
  | (with_reducible refine fork_n ?_)
  | (with_reducible refine fork_b ?_ ?_ <;> intro hc)
  | (with_reducible refine SlcG.mk (by omega) ?_)
  | (with_reducible refine MakG.mk (by dsimp only; omega) ?_)
  | (with_reducible refine AppG.mk (by first | omega | (simp only [List.length_append, List.length_set, List.length_replicate, List.length_take, List.length_drop, List.length_cons, List.length_nil, List.length_map]; omega)) (by dsimp only [List.length_cons, List.length_nil]; omega) (by omega) ?_)
  | (with_reducible refine div_g (by omega) (by omega) (by dsimp only [inR]; omega) ?_)
  | (with_reducible refine mod_g (by omega) (by omega) ?_)
  | (with_reducible refine mask_g (m := 4294967296) 32 rfl rfl (by decide) (by omega) ?_)
  | (with_reducible refine shr_g (m := 4294967296) 32 rfl (by decide) (by omega) rfl ?_)
  | (with_reducible refine fz_all (by omega) ?_)
  | (with_reducible refine Stuck.h (A := RetE _ _) ?_) | (with_reducible refine Stuck.h (A := RetM _ _ _ _) ?_) | (with_reducible refine Stuck.h (A := Again _ _ _ _ _ _ _ _) ?_) | (with_reducible refine Stuck.h (A := CallF _ _ _ _ _ _ _) ?_) | (with_reducible refine Stuck.h (A := LoopG _ _ _ _ _ _ _ _) ?_) | (with_reducible refine Stuck.h (A := DrawG _ _ _ _ _ _ _ _) ?_)
  | (with_reducible refine Stuck.h (A := WrapG _ _ _) ?_) | (with_reducible refine Stuck.h (A := DivG _ _ _ _) ?_) | (with_reducible refine Stuck.h (A := ModG _ _ _) ?_) | (with_reducible refine Stuck.h (A := ShlG _ _ _ _) ?_) | (with_reducible refine Stuck.h (A := ShrG _ _ _ _) ?_) | (with_reducible refine Stuck.h (A := BitG _ _ _ _ _) ?_)
  | (with_reducible refine Stuck.h (A := IdxG _ _ _) ?_) | (with_reducible refine Stuck.h (A := IdxL _ _ _) ?_) | (with_reducible refine Stuck.h (A := SlcG _ _ _ _ _) ?_) | (with_reducible refine Stuck.h (A := MakG _ _ _ _) ?_) | (with_reducible refine Stuck.h (A := AppG _ _ _ _ _ _ _) ?_) | (with_reducible refine Stuck.h (A := FzG _ _ _ _) ?_)
  | (with_reducible refine Stuck.h (A := RawG _) ?_) | (with_reducible refine Stuck.h (A := TabG _ _ _ _ _) ?_) | (with_reducible refine Stuck.h (A := ExtF _ _ _ _) ?_) | (with_reducible refine Stuck.h (A := Chk _ _) ?_) | (with_reducible refine Stuck.h (A := False) ?_))
    all_goals exact ⟨ret_e rfl⟩
  · have f1 := docword_out n (by omega) hi
    have f2 := word_out n (by omega) hi
    have f0 := awake21
    refine FC.intro (X := XX) tok Tryd.func5 rfl Tryd.ntmps5 (by rw [Tryd.results5]) (by kernel_rfl) rfl ?_; intro F hG hO
    rw [← hG] at f0 f1 f2
    repeat' ((try (conv => whnf)); first
  | ((with_reducible refine cg ?_); refine call_eq f0 (LpL.refl _) rfl ?_)
  | ((with_reducible refine cg ?_); refine call_eq f1 (LpL.refl _) rfl ?_)
  | ((with_reducible refine cg ?_); refine call_eq f2 (LpL.refl _) rfl ?_)
  
  | (with_reducible refine Chk.mk' (by first | omega | exact trivial | (simp only [List.length_append, List.length_set, List.length_replicate, List.length_take, List.length_drop, List.length_cons, List.length_nil, List.length_map]; omega)) ?_)
  | (with_reducible refine wrap_g (by dsimp only [inR]; omega) ?_)
  | (with_reducible refine idx_g (by omega) ?_)
  | (with_reducible refine idx_l _ rfl (by decide) ?_)
  | (with_reducible refine fork_tt ?_) | (with_reducible refine fork_ff ?_)
  | (with_reducible refine fork_t (by omega) ?_) | (with_reducible refine fork_f (by omega) ?_)
  | (with_reducible refine fork_d ?_ ?_ <;> intro hc)
  | (with_reducible refine fork_n ?_)
  | (with_reducible refine fork_b ?_ ?_ <;> intro hc)
  | (with_reducible refine SlcG.mk (by omega) ?_)
  | (with_reducible refine MakG.mk (by dsimp only; omega) ?_)
  | (with_reducible refine AppG.mk (by first | omega | (simp only [List.length_append, List.length_set, List.length_replicate, List.length_take, List.length_drop, List.length_cons, List.length_nil, List.length_map]; omega)) (by dsimp only [List.length_cons, List.length_nil]; omega) (by omega) ?_)
  | (with_reducible refine div_g (by omega) (by omega) (by dsimp only [inR]; omega) ?_)
  | (with_reducible refine mod_g (by omega) (by omega) ?_)
  | (with_reducible refine mask_g (m := 4294967296) 32 rfl rfl (by decide) (by omega) ?_)
  | (with_reducible refine shr_g (m := 4294967296) 32 rfl (by decide) (by omega) rfl ?_)
  | (with_reducible refine fz_all (by omega) ?_)
  | (with_reducible refine Stuck.h (A := RetE _ _) ?_) | (with_reducible refine Stuck.h (A := RetM _ _ _ _) ?_) | (with_reducible refine Stuck.h (A := Again _ _ _ _ _ _ _ _) ?_) | (with_reducible refine Stuck.h (A := CallF _ _ _ _ _ _ _) ?_) | (with_reducible refine Stuck.h (A := LoopG _ _ _ _ _ _ _ _) ?_) | (with_reducible refine Stuck.h (A := DrawG _ _ _ _ _ _ _ _) ?_)
  | (with_reducible refine Stuck.h (A := WrapG _ _ _) ?_) | (with_reducible refine Stuck.h (A := DivG _ _ _ _) ?_) | (with_reducible refine Stuck.h (A := ModG _ _ _) ?_) | (with_reducible refine Stuck.h (A := ShlG _ _ _ _) ?_) | (with_reducible refine Stuck.h (A := ShrG _ _ _ _) ?_) | (with_reducible refine Stuck.h (A := BitG _ _ _ _ _) ?_)
  | (with_reducible refine Stuck.h (A := IdxG _ _ _) ?_) | (with_reducible refine Stuck.h (A := IdxL _ _ _) ?_) | (with_reducible refine Stuck.h (A := SlcG _ _ _ _ _) ?_) | (with_reducible refine Stuck.h (A := MakG _ _ _ _) ?_) | (with_reducible refine Stuck.h (A := AppG _ _ _ _ _ _ _) ?_) | (with_reducible refine Stuck.h (A := FzG _ _ _ _) ?_)
  | (with_reducible refine Stuck.h (A := RawG _) ?_) | (with_reducible refine Stuck.h (A := TabG _ _ _ _ _) ?_) | (with_reducible refine Stuck.h (A := ExtF _ _ _ _) ?_) | (with_reducible refine Stuck.h (A := Chk _ _) ?_) | (with_reducible refine Stuck.h (A := False) ?_))
    all_goals exact ⟨ret_e rfl⟩
theorem docwin_in (a : Nat) (h : a ≤ 1024) : FC Tryd.prog GW 22 [.val (.int .i64 (a : Int))] (· = .tup [.agg [wv .u64 (win ((a : Int) / 64) ((a : Int) % 64) 0), wv .u64 (win ((a : Int) / 64) ((a : Int) % 64) 1), wv .u64 (win ((a : Int) / 64) ((a : Int) % 64) 2), wv .u64 (win ((a : Int) / 64) ((a : Int) % 64) 3)], .val (.int .i64 0)]) := by
  obtain ⟨h1, h2⟩ := wins_ok a h
  have hL : L32 (invU (a + 256)) ≤ 1000 := by
    unfold invU
    have := L32_mono (Nat.div_le_self (2 ^ (2 * (a + 256) + 65)) (bndN (a + 256 + 64)).2)
    have := L32_p2 (2 * (a + 256) + 65)
    omega
  have f1 := r_inv (G := GW) (a + 256) (by omega) h1
  obtain ⟨U, hU⟩ : ∃ U, U = invU (a + 256) := ⟨_, rfl⟩
  rw [← hU] at f1 h2 hL
  have f2 := r_low (G := GW) U 256 (by omega) (by dsimp only [inR]; omega)
  have f3 := r_to (G := GW) (U % 2 ^ 256) (Nat.le_trans (L32_mono (Nat.mod_le _ _)) (by omega))
  obtain ⟨d, hd⟩ : ∃ d, d = d64 (U % 2 ^ 256) := ⟨_, rfl⟩
  have hl : d.length ≤ 4 := by rw [hd]; exact L64_le (n := 4) (Nat.mod_lt _ (by decide))
  have hr : ∀ j : Nat, j < 4 → rd d (j : Int) = win ((a : Int) / 64) ((a : Int) % 64) ((3 - j : Nat) : Int) := fun j hj => by
    rw [hd, d64_rd, h2 (3 - j) (by omega), show 3 - (3 - j) = j by omega]
    have e : U % 2 ^ 256 / 2 ^ (64 * j) = U / 2 ^ (64 * j) % 2 ^ (256 - 64 * j) := by
      rw [show (2 : Nat) ^ 256 = 2 ^ (64 * j) * 2 ^ (256 - 64 * j) by rw [← Nat.pow_add]; congr 1; omega, Nat.mod_mul_right_div_self]
    rw [e, show (18446744073709551616 : Nat) = 2 ^ 64 by rfl, Nat.mod_mod_of_dvd _ (Nat.pow_dvd_pow 2 (by omega))]
  have g0 : rd d 0 = win ((a : Int) / 64) ((a : Int) % 64) 3 := hr 0 (by decide)
  have g1 : rd d 1 = win ((a : Int) / 64) ((a : Int) % 64) 2 := hr 1 (by decide)
  have g2 : rd d 2 = win ((a : Int) / 64) ((a : Int) % 64) 1 := hr 2 (by decide)
  have g3 : rd d 3 = win ((a : Int) / 64) ((a : Int) % 64) 0 := hr 3 (by decide)
  unfold N64 at f3
  rw [← hd] at f3
  clear hU h1 h2 hr hd
  rw [show ((a + 256 : Nat) : Int) = (a : Int) + 256 by omega] at f1
  refine FC.intro (X := XX) tok Tryd.func22 rfl Tryd.ntmps22 (by rw [Tryd.results22]) (by kernel_rfl) rfl ?_; intro F hG hO
  rw [← hG] at f1 f2 f3
  repeat' ((try (conv => whnf)); first
  | ((with_reducible refine cg ?_); refine call_eq f1 (LpL.refl _) rfl ?_)
  | ((with_reducible refine cg ?_); refine call_eq f2 (LpL.refl _) rfl ?_)
  | ((with_reducible refine cg ?_); refine call_eq f3 (LpL.refl _) rfl ?_)
  | ((with_reducible refine lg ?_); refine rounds_g 5 tok ?_)
  
  | (with_reducible refine Chk.mk' (by first | omega | exact trivial | (simp only [List.length_append, List.length_set, List.length_replicate, List.length_take, List.length_drop, List.length_cons, List.length_nil, List.length_map]; omega)) ?_)
  | (with_reducible refine wrap_g (by dsimp only [inR]; omega) ?_)
  | (with_reducible refine idx_g (by omega) ?_)
  | (with_reducible refine idx_l _ rfl (by decide) ?_)
  | (with_reducible refine fork_tt ?_) | (with_reducible refine fork_ff ?_)
  | (with_reducible refine fork_t (by omega) ?_) | (with_reducible refine fork_f (by omega) ?_)
  | (with_reducible refine fork_d ?_ ?_ <;> intro hc)
  | (with_reducible refine fork_n ?_)
  | (with_reducible refine fork_b ?_ ?_ <;> intro hc)
  | (with_reducible refine SlcG.mk (by omega) ?_)
  | (with_reducible refine MakG.mk (by dsimp only; omega) ?_)
  | (with_reducible refine AppG.mk (by first | omega | (simp only [List.length_append, List.length_set, List.length_replicate, List.length_take, List.length_drop, List.length_cons, List.length_nil, List.length_map]; omega)) (by dsimp only [List.length_cons, List.length_nil]; omega) (by omega) ?_)
  | (with_reducible refine div_g (by omega) (by omega) (by dsimp only [inR]; omega) ?_)
  | (with_reducible refine mod_g (by omega) (by omega) ?_)
  | (with_reducible refine mask_g (m := 4294967296) 32 rfl rfl (by decide) (by omega) ?_)
  | (with_reducible refine shr_g (m := 4294967296) 32 rfl (by decide) (by omega) rfl ?_)
  | (with_reducible refine fz_all (by omega) ?_)
  | (with_reducible refine Stuck.h (A := RetE _ _) ?_) | (with_reducible refine Stuck.h (A := RetM _ _ _ _) ?_) | (with_reducible refine Stuck.h (A := Again _ _ _ _ _ _ _ _) ?_) | (with_reducible refine Stuck.h (A := CallF _ _ _ _ _ _ _) ?_) | (with_reducible refine Stuck.h (A := LoopG _ _ _ _ _ _ _ _) ?_) | (with_reducible refine Stuck.h (A := DrawG _ _ _ _ _ _ _ _) ?_)
  | (with_reducible refine Stuck.h (A := WrapG _ _ _) ?_) | (with_reducible refine Stuck.h (A := DivG _ _ _ _) ?_) | (with_reducible refine Stuck.h (A := ModG _ _ _) ?_) | (with_reducible refine Stuck.h (A := ShlG _ _ _ _) ?_) | (with_reducible refine Stuck.h (A := ShrG _ _ _ _) ?_) | (with_reducible refine Stuck.h (A := BitG _ _ _ _ _) ?_)
  | (with_reducible refine Stuck.h (A := IdxG _ _ _) ?_) | (with_reducible refine Stuck.h (A := IdxL _ _ _) ?_) | (with_reducible refine Stuck.h (A := SlcG _ _ _ _ _) ?_) | (with_reducible refine Stuck.h (A := MakG _ _ _ _) ?_) | (with_reducible refine Stuck.h (A := AppG _ _ _ _ _ _ _) ?_) | (with_reducible refine Stuck.h (A := FzG _ _ _ _) ?_)
  | (with_reducible refine Stuck.h (A := RawG _) ?_) | (with_reducible refine Stuck.h (A := TabG _ _ _ _ _) ?_) | (with_reducible refine Stuck.h (A := ExtF _ _ _ _) ?_) | (with_reducible refine Stuck.h (A := Chk _ _) ?_) | (with_reducible refine Stuck.h (A := False) ?_))
  all_goals (refine ⟨ret_e ?_⟩; rw [← g0, ← g1, ← g2, ← g3])
  · rfl
  · rw [show rd d 3 = 0 from rd_out d 3 (by omega)]; rfl
  · rw [show rd d 3 = 0 from rd_out d 3 (by omega), show rd d 2 = 0 from rd_out d 2 (by omega)]; rfl
  · rw [show rd d 3 = 0 from rd_out d 3 (by omega), show rd d 2 = 0 from rd_out d 2 (by omega), show rd d 1 = 0 from rd_out d 1 (by omega)]; rfl
  · rw [show rd d 3 = 0 from rd_out d 3 (by omega), show rd d 2 = 0 from rd_out d 2 (by omega), show rd d 1 = 0 from rd_out d 1 (by omega), show rd d 0 = 0 from rd_out d 0 (by omega)]; rfl
theorem docwin_out (a : Int) (h : a < 0 ∨ 1024 < a) (hi : inR .i64 a) : FC Tryd.prog GW 22 [.val (.int .i64 a)] (· = .tup [.agg [wv .u64 0, wv .u64 0, wv .u64 0, wv .u64 0], .val (.int .i64 1)]) := by
  refine FC.intro (X := XX) tok Tryd.func22 rfl Tryd.ntmps22 (by rw [Tryd.results22]) (by kernel_rfl) rfl ?_; intro F hG hO
  repeat' ((try (conv => whnf)); first
  
  | (with_reducible refine Chk.mk' (by first | omega | exact trivial | (simp only [List.length_append, List.length_set, List.length_replicate, List.length_take, List.length_drop, List.length_cons, List.length_nil, List.length_map]; omega)) ?_)
  | (with_reducible refine wrap_g (by dsimp only [inR]; omega) ?_)
  | (with_reducible refine idx_g (by omega) ?_)
  | (with_reducible refine idx_l _ rfl (by decide) ?_)
  | (with_reducible refine fork_tt ?_) | (with_reducible refine fork_ff ?_)
  | (with_reducible refine fork_t (by omega) ?_) | (with_reducible refine fork_f (by omega) ?_)
  | (with_reducible refine fork_d ?_ ?_ <;> intro hc)
  | (with_reducible refine fork_n ?_)
  | (with_reducible refine fork_b ?_ ?_ <;> intro hc)
  | (with_reducible refine SlcG.mk (by omega) ?_)
  | (with_reducible refine MakG.mk (by dsimp only; omega) ?_)
  | (with_reducible refine AppG.mk (by first | omega | (simp only [List.length_append, List.length_set, List.length_replicate, List.length_take, List.length_drop, List.length_cons, List.length_nil, List.length_map]; omega)) (by dsimp only [List.length_cons, List.length_nil]; omega) (by omega) ?_)
  | (with_reducible refine div_g (by omega) (by omega) (by dsimp only [inR]; omega) ?_)
  | (with_reducible refine mod_g (by omega) (by omega) ?_)
  | (with_reducible refine mask_g (m := 4294967296) 32 rfl rfl (by decide) (by omega) ?_)
  | (with_reducible refine shr_g (m := 4294967296) 32 rfl (by decide) (by omega) rfl ?_)
  | (with_reducible refine fz_all (by omega) ?_)
  | (with_reducible refine Stuck.h (A := RetE _ _) ?_) | (with_reducible refine Stuck.h (A := RetM _ _ _ _) ?_) | (with_reducible refine Stuck.h (A := Again _ _ _ _ _ _ _ _) ?_) | (with_reducible refine Stuck.h (A := CallF _ _ _ _ _ _ _) ?_) | (with_reducible refine Stuck.h (A := LoopG _ _ _ _ _ _ _ _) ?_) | (with_reducible refine Stuck.h (A := DrawG _ _ _ _ _ _ _ _) ?_)
  | (with_reducible refine Stuck.h (A := WrapG _ _ _) ?_) | (with_reducible refine Stuck.h (A := DivG _ _ _ _) ?_) | (with_reducible refine Stuck.h (A := ModG _ _ _) ?_) | (with_reducible refine Stuck.h (A := ShlG _ _ _ _) ?_) | (with_reducible refine Stuck.h (A := ShrG _ _ _ _) ?_) | (with_reducible refine Stuck.h (A := BitG _ _ _ _ _) ?_)
  | (with_reducible refine Stuck.h (A := IdxG _ _ _) ?_) | (with_reducible refine Stuck.h (A := IdxL _ _ _) ?_) | (with_reducible refine Stuck.h (A := SlcG _ _ _ _ _) ?_) | (with_reducible refine Stuck.h (A := MakG _ _ _ _) ?_) | (with_reducible refine Stuck.h (A := AppG _ _ _ _ _ _ _) ?_) | (with_reducible refine Stuck.h (A := FzG _ _ _ _) ?_)
  | (with_reducible refine Stuck.h (A := RawG _) ?_) | (with_reducible refine Stuck.h (A := TabG _ _ _ _ _) ?_) | (with_reducible refine Stuck.h (A := ExtF _ _ _ _) ?_) | (with_reducible refine Stuck.h (A := Chk _ _) ?_) | (with_reducible refine Stuck.h (A := False) ?_))
  all_goals exact ⟨ret_e rfl⟩
theorem sz_pos : Nat.blt 0 Tryd.prog.types.size = true := by kernel_rfl
theorem sz_types : ∃ d, Tryd.prog.types.size + 1 = d + 2 := by
  have h : 0 < Tryd.prog.types.size := Nat.le_of_ble_eq_true sz_pos
  exact ⟨Tryd.prog.types.size - 1, by omega⟩
theorem u49 : Tryd.prog.underlying 49 = some (.array 4 30) := by kernel_rfl
theorem u30 : Tryd.prog.underlying 30 = some (.int .u64) := by kernel_rfl
theorem c49 : Tryd.prog.cellsOf 49 = 4 := by kernel_rfl
theorem c30 : Tryd.prog.cellsOf 30 = 1 := by kernel_rfl
theorem key4 {a b c d : Int} (ha : inR .u64 a) (hb : inR .u64 b) (hc : inR .u64 c) (hd : inR .u64 d) : Tryd.prog.keyLits (Tryd.prog.types.size + 1) 49 [.int .u64 a, .int .u64 b, .int .u64 c, .int .u64 d] = some [.int .u64 a, .int .u64 b, .int .u64 c, .int .u64 d] := by
  obtain ⟨n, hn⟩ := sz_types
  have w : ∀ x, inR .u64 x → (Lit.int .u64 x).wf = true := fun x h => by
    dsimp only [inR] at h
    simp only [Lit.wf, Bool.and_eq_true, decide_eq_true_eq]
    refine ⟨h.1, ?_⟩
    simp only [IntKind.max, IntKind.bits, IntKind.signed]
    simp
    omega
  rw [hn]
  simp only [Program.keyLits, u49, u30, c49, c30]
  simp [List.range, List.range.loop, w a ha, w b hb, w c hc, w d hd]
theorem eq4 {F : Fr} {o : Oper} {s : St} {x y : Operand} {t' : TypeId} {a b c d : Int} (ho : o.op = .binOp .eql 49 x y t') (hx : pev s x = .agg [wv .u64 a, wv .u64 b, wv .u64 c, wv .u64 d]) (hy : pev s y = .agg [wv .u64 a, wv .u64 b, wv .u64 c, wv .u64 d]) (ha : inR .u64 a) (hb : inR .u64 b) (hc : inR .u64 c) (hd : inR .u64 d) : Still Tryd.prog F o s (.val (.bool true)) :=
  still_eqA (m := 10) (lx := [.int .u64 a, .int .u64 b, .int .u64 c, .int .u64 d]) (ly := [.int .u64 a, .int .u64 b, .int .u64 c, .int .u64 d]) (by decide) ho hx hy (by kernel_rfl) (by kernel_rfl) (by simp [Value.formed, u49, c49]) (by simp [Value.formed, u49, c49]) (key4 ha hb hc hd) (key4 ha hb hc hd) (by simp)
theorem win_R (a : Nat) (h : a ≤ 1024) (j : Nat) (hj : j < 4) : inR .u64 (win ((a : Int) / 64) ((a : Int) % 64) (j : Int)) := by
  rw [(wins_ok a h).2 j hj]
  dsimp only [inR]
  have := Nat.mod_lt (invU (a + 256) / 2 ^ (64 * (3 - j))) (show 0 < 18446744073709551616 by decide)
  omega
theorem wins_pc (n : Int) (hi : inR .i64 n) : FC Tryd.prog GW 6 [.val (.int .i64 n)] (· = .val (.bool true)) := by
  by_cases h : 0 ≤ n ∧ n ≤ 1024
  · obtain ⟨i, rfl⟩ := Int.eq_ofNat_of_zero_le h.1
    have f1 := docwin_in i (by omega)
    have f2 := window_in i h
    have f0 := awake21
    refine FC.intro (X := XX) tok Tryd.func6 rfl Tryd.ntmps6 (by rw [Tryd.results6]) (by kernel_rfl) rfl ?_; intro F hG hO
    rw [← hG] at f0 f1 f2
    repeat' ((try (conv => whnf)); first
  | ((with_reducible refine cg ?_); refine call_eq f0 (LpL.refl _) rfl ?_)
  | ((with_reducible refine cg ?_); refine call_eq f1 (LpL.refl _) rfl ?_)
  | ((with_reducible refine cg ?_); refine call_eq f2 (LpL.refl _) rfl ?_)
  | (refine RawG.mk ?_; refine vPut_still (eq4 rfl rfl rfl (win_R i (by omega) 0 (by decide)) (win_R i (by omega) 1 (by decide)) (win_R i (by omega) 2 (by decide)) (win_R i (by omega) 3 (by decide))) ?_)
  
  | (with_reducible refine Chk.mk' (by first | omega | exact trivial | (simp only [List.length_append, List.length_set, List.length_replicate, List.length_take, List.length_drop, List.length_cons, List.length_nil, List.length_map]; omega)) ?_)
  | (with_reducible refine wrap_g (by dsimp only [inR]; omega) ?_)
  | (with_reducible refine idx_g (by omega) ?_)
  | (with_reducible refine idx_l _ rfl (by decide) ?_)
  | (with_reducible refine fork_tt ?_) | (with_reducible refine fork_ff ?_)
  | (with_reducible refine fork_t (by omega) ?_) | (with_reducible refine fork_f (by omega) ?_)
  | (with_reducible refine fork_d ?_ ?_ <;> intro hc)
  | (with_reducible refine fork_n ?_)
  | (with_reducible refine fork_b ?_ ?_ <;> intro hc)
  | (with_reducible refine SlcG.mk (by omega) ?_)
  | (with_reducible refine MakG.mk (by dsimp only; omega) ?_)
  | (with_reducible refine AppG.mk (by first | omega | (simp only [List.length_append, List.length_set, List.length_replicate, List.length_take, List.length_drop, List.length_cons, List.length_nil, List.length_map]; omega)) (by dsimp only [List.length_cons, List.length_nil]; omega) (by omega) ?_)
  | (with_reducible refine div_g (by omega) (by omega) (by dsimp only [inR]; omega) ?_)
  | (with_reducible refine mod_g (by omega) (by omega) ?_)
  | (with_reducible refine mask_g (m := 4294967296) 32 rfl rfl (by decide) (by omega) ?_)
  | (with_reducible refine shr_g (m := 4294967296) 32 rfl (by decide) (by omega) rfl ?_)
  | (with_reducible refine fz_all (by omega) ?_)
  | (with_reducible refine Stuck.h (A := RetE _ _) ?_) | (with_reducible refine Stuck.h (A := RetM _ _ _ _) ?_) | (with_reducible refine Stuck.h (A := Again _ _ _ _ _ _ _ _) ?_) | (with_reducible refine Stuck.h (A := CallF _ _ _ _ _ _ _) ?_) | (with_reducible refine Stuck.h (A := LoopG _ _ _ _ _ _ _ _) ?_) | (with_reducible refine Stuck.h (A := DrawG _ _ _ _ _ _ _ _) ?_)
  | (with_reducible refine Stuck.h (A := WrapG _ _ _) ?_) | (with_reducible refine Stuck.h (A := DivG _ _ _ _) ?_) | (with_reducible refine Stuck.h (A := ModG _ _ _) ?_) | (with_reducible refine Stuck.h (A := ShlG _ _ _ _) ?_) | (with_reducible refine Stuck.h (A := ShrG _ _ _ _) ?_) | (with_reducible refine Stuck.h (A := BitG _ _ _ _ _) ?_)
  | (with_reducible refine Stuck.h (A := IdxG _ _ _) ?_) | (with_reducible refine Stuck.h (A := IdxL _ _ _) ?_) | (with_reducible refine Stuck.h (A := SlcG _ _ _ _ _) ?_) | (with_reducible refine Stuck.h (A := MakG _ _ _ _) ?_) | (with_reducible refine Stuck.h (A := AppG _ _ _ _ _ _ _) ?_) | (with_reducible refine Stuck.h (A := FzG _ _ _ _) ?_)
  | (with_reducible refine Stuck.h (A := RawG _) ?_) | (with_reducible refine Stuck.h (A := TabG _ _ _ _ _) ?_) | (with_reducible refine Stuck.h (A := ExtF _ _ _ _) ?_) | (with_reducible refine Stuck.h (A := Chk _ _) ?_) | (with_reducible refine Stuck.h (A := False) ?_))
    all_goals exact ⟨ret_e rfl⟩
  · have f1 := docwin_out n (by omega) hi
    have f2 := window_out n (by omega) hi
    have f0 := awake21
    refine FC.intro (X := XX) tok Tryd.func6 rfl Tryd.ntmps6 (by rw [Tryd.results6]) (by kernel_rfl) rfl ?_; intro F hG hO
    rw [← hG] at f0 f1 f2
    repeat' ((try (conv => whnf)); first
  | ((with_reducible refine cg ?_); refine call_eq f0 (LpL.refl _) rfl ?_)
  | ((with_reducible refine cg ?_); refine call_eq f1 (LpL.refl _) rfl ?_)
  | ((with_reducible refine cg ?_); refine call_eq f2 (LpL.refl _) rfl ?_)
  | (refine RawG.mk ?_; refine vPut_still (eq4 rfl rfl rfl (by dsimp only [inR]; omega) (by dsimp only [inR]; omega) (by dsimp only [inR]; omega) (by dsimp only [inR]; omega)) ?_)
  
  | (with_reducible refine Chk.mk' (by first | omega | exact trivial | (simp only [List.length_append, List.length_set, List.length_replicate, List.length_take, List.length_drop, List.length_cons, List.length_nil, List.length_map]; omega)) ?_)
  | (with_reducible refine wrap_g (by dsimp only [inR]; omega) ?_)
  | (with_reducible refine idx_g (by omega) ?_)
  | (with_reducible refine idx_l _ rfl (by decide) ?_)
  | (with_reducible refine fork_tt ?_) | (with_reducible refine fork_ff ?_)
  | (with_reducible refine fork_t (by omega) ?_) | (with_reducible refine fork_f (by omega) ?_)
  | (with_reducible refine fork_d ?_ ?_ <;> intro hc)
  | (with_reducible refine fork_n ?_)
  | (with_reducible refine fork_b ?_ ?_ <;> intro hc)
  | (with_reducible refine SlcG.mk (by omega) ?_)
  | (with_reducible refine MakG.mk (by dsimp only; omega) ?_)
  | (with_reducible refine AppG.mk (by first | omega | (simp only [List.length_append, List.length_set, List.length_replicate, List.length_take, List.length_drop, List.length_cons, List.length_nil, List.length_map]; omega)) (by dsimp only [List.length_cons, List.length_nil]; omega) (by omega) ?_)
  | (with_reducible refine div_g (by omega) (by omega) (by dsimp only [inR]; omega) ?_)
  | (with_reducible refine mod_g (by omega) (by omega) ?_)
  | (with_reducible refine mask_g (m := 4294967296) 32 rfl rfl (by decide) (by omega) ?_)
  | (with_reducible refine shr_g (m := 4294967296) 32 rfl (by decide) (by omega) rfl ?_)
  | (with_reducible refine fz_all (by omega) ?_)
  | (with_reducible refine Stuck.h (A := RetE _ _) ?_) | (with_reducible refine Stuck.h (A := RetM _ _ _ _) ?_) | (with_reducible refine Stuck.h (A := Again _ _ _ _ _ _ _ _) ?_) | (with_reducible refine Stuck.h (A := CallF _ _ _ _ _ _ _) ?_) | (with_reducible refine Stuck.h (A := LoopG _ _ _ _ _ _ _ _) ?_) | (with_reducible refine Stuck.h (A := DrawG _ _ _ _ _ _ _ _) ?_)
  | (with_reducible refine Stuck.h (A := WrapG _ _ _) ?_) | (with_reducible refine Stuck.h (A := DivG _ _ _ _) ?_) | (with_reducible refine Stuck.h (A := ModG _ _ _) ?_) | (with_reducible refine Stuck.h (A := ShlG _ _ _ _) ?_) | (with_reducible refine Stuck.h (A := ShrG _ _ _ _) ?_) | (with_reducible refine Stuck.h (A := BitG _ _ _ _ _) ?_)
  | (with_reducible refine Stuck.h (A := IdxG _ _ _) ?_) | (with_reducible refine Stuck.h (A := IdxL _ _ _) ?_) | (with_reducible refine Stuck.h (A := SlcG _ _ _ _ _) ?_) | (with_reducible refine Stuck.h (A := MakG _ _ _ _) ?_) | (with_reducible refine Stuck.h (A := AppG _ _ _ _ _ _ _) ?_) | (with_reducible refine Stuck.h (A := FzG _ _ _ _) ?_)
  | (with_reducible refine Stuck.h (A := RawG _) ?_) | (with_reducible refine Stuck.h (A := TabG _ _ _ _ _) ?_) | (with_reducible refine Stuck.h (A := ExtF _ _ _ _) ?_) | (with_reducible refine Stuck.h (A := Chk _ _) ?_) | (with_reducible refine Stuck.h (A := False) ?_))
    all_goals exact ⟨ret_e rfl⟩
end Go.Proofs.YtlbnlalkimnhdaaDoor.Sim
