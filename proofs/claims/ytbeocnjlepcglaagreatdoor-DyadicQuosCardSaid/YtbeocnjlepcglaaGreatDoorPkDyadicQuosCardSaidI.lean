/-
  What the statement DyadicQuosCardSaid leans on, part 9: the logic of walks, digits, contracts of the functions, the plain law. Conditions stand in each theorem.
-/
import Derived.Test.YtbeocnjlepcglaaGreatDoorPkDyadicQuosCardSaidH
namespace Go.Proofs.YtbeocnjlepcglaaGreatDoor.Sim
open Go.RowKit
set_option linter.unusedVariables false
set_option linter.unusedSimpArgs false
set_option maxRecDepth 10000
set_option maxHeartbeats 8000000
variable {G : List (Nat × List Value)}
theorem div_of {a b q r : Int} (hb : 0 < b) (h : r + b * q = a) (h0 : 0 ≤ r) (h1 : r < b) : a / b = q ∧ a % b = r := (Int.ediv_emod_unique hb).2 ⟨h, h0, h1⟩
theorem nat_dm (x y : Nat) (hy : 0 < y) : ((x % y : Nat) : Int) + (y : Int) * ((x / y : Nat) : Int) = x ∧ ((x % y : Nat) : Int) < y := by
  have := Nat.mod_add_div x y
  have h2 := Nat.mod_lt x hy
  refine ⟨?_, by omega⟩
  have h3 : ((x % y + y * (x / y) : Nat) : Int) = (x : Int) := by rw [this]
  simpa using h3
theorem zi_zero : ZI 0 = .agg [.val (.bool false), .ws .u32 []] := by
  unfold ZI
  rw [show d32 (Int.natAbs 0) = [] from dgs_nil (B := 4294967296) (by decide)]
  rfl
theorem lp_zi0 : Lp (.agg [.val (.bool false), .nil]) (ZI 0) := by
  rw [zi_zero]
  exact .agg (.cons (.refl _) (.cons (.nil _) .nil))
theorem tup_zi {a b c d : Int} (h1 : a = c) (h2 : b = d) : PV.tup [ZI a, ZI b] = .tup [ZI c, ZI d] := by rw [h1, h2]
theorem r_zfloor (a b : Int) (ha : LZ a ≤ 268435454) (hb : LZ b ≤ 268435454) : FC Tryz.prog G 169 [ZI a, ZI b] (· = .tup [ZI (if 0 < b then a / b else 0), ZI (if 0 < b then a % b else 0)]) := by
  unfold LZ at ha hb
  have hsb := r_sign (G := G) b
  by_cases h0 : 0 < b
  · have h0' := h0
    rw [if_pos h0, if_pos h0]
    have hsg : 0 < b.sign := by rw [Int.sign_eq_one_of_pos h0]; decide
    rw [zi_pos (show ¬ b < 0 by omega)] at hsb ⊢
    obtain ⟨d1, d2⟩ := nat_dm a.natAbs b.natAbs (by omega)
    have hbn : ((b.natAbs : Nat) : Int) = b := by omega
    rw [hbn] at d1 d2
    have l1 : L32 1 ≤ 1 := L32_le (by decide)
    have lq := L32_mono (Nat.div_le_self a.natAbs b.natAbs)
    have lr := L32_mono (Nat.mod_le a.natAbs b.natAbs)
    have lq1 := L32_add (a.natAbs / b.natAbs) 1
    have lb := L32_mono (Nat.sub_le b.natAbs (a.natAbs % b.natAbs))
    have hp := len_pos (a.natAbs % b.natAbs)
    have hdm := r_divmod (G := G) a.natAbs b.natAbs (by omega) (by omega)
    rw [if_neg (show ¬ b.natAbs = 0 by omega)] at hdm
    obtain ⟨q, hq⟩ : ∃ q, q = a.natAbs / b.natAbs := ⟨_, rfl⟩
    obtain ⟨r, hr⟩ : ∃ r, r = a.natAbs % b.natAbs := ⟨_, rfl⟩
    rw [← hq] at d1 lq lq1 hdm
    rw [← hr] at d1 d2 lr lb hp hdm
    refine by_sign (a := a) (p := fun p => FC _ _ _ [p, _] _) (fun hs => ?_) (fun hs => ?_)
    all_goals
      refine FC.intro (X := XX) tok Tryz.func169 rfl Tryz.ntmps169 (by rw [Tryz.results169]) (by kernel_rfl) rfl ?_; intro F hG hO
      rw [← hG] at hsb hdm
      repeat' ((try (conv => whnf)); first
  | ((with_reducible refine cg ?_); refine call_eq (hsb) (LpL.refl _) rfl ?_)
  | ((with_reducible refine cg ?_); refine call_eq (hdm) (LpL.refl _) rfl ?_)
  | ((with_reducible refine cg ?_); refine call_eq (r_mk _ q (by omega)) (LpL.refl _) rfl ?_)
  | ((with_reducible refine cg ?_); refine call_eq (r_mk _ r (by omega)) (LpL.refl _) rfl ?_)
  | ((with_reducible refine cg ?_); refine call_eq (r_word 1 (by decide)) (LpL.refl _) rfl ?_)
  | ((with_reducible refine cg ?_); refine call_eq (r_add q 1 (by omega) (by omega)) (LpL.refl _) rfl ?_)
  | ((with_reducible refine cg ?_); refine call_eq (r_mk _ (q + 1) (by omega)) (LpL.refl _) rfl ?_)
  | ((with_reducible refine cg ?_); refine call_eq (r_sub b.natAbs r (by omega) (by omega)) (LpL.refl _) rfl ?_)
  | ((with_reducible refine cg ?_); refine call_eq (r_mk _ (b.natAbs - r) (by omega)) (LpL.refl _) rfl ?_)
  
  | (with_reducible refine draw_g (id := 6) [[0, 4, 5, 6, 1, 2, 3, 7, 8], [9], [10]] tok mixed (by kernel_rfl) ?_)
  | (with_reducible refine Chk.mk' (by first | omega | exact trivial | (simp only [List.length_append, List.length_set, List.length_replicate, List.length_take, List.length_drop, List.length_cons, List.length_nil, List.length_map]; omega)) ?_)
  | (with_reducible refine wrap_g (by dsimp only [inR]; omega) ?_)
  | (with_reducible refine idx_g (by omega) ?_)
  | (with_reducible refine idx_l _ rfl (by decide) ?_)
  | (with_reducible refine BothG.mk ?_ ?_)
  | (with_reducible refine fork_tt ?_) | (with_reducible refine fork_ff ?_)
  | (with_reducible refine fork_e (c := true) (by decide) ?_; with_reducible refine fork_tt ?_) | (with_reducible refine fork_e (c := false) (by decide) ?_; with_reducible refine fork_ff ?_)
  | (with_reducible refine fork_t (by omega) ?_) | (with_reducible refine fork_f (by omega) ?_)
  | (with_reducible refine fork_d ?_ ?_ <;> intro hc)
  | (with_reducible refine fork_n ?_)
  | (with_reducible refine fork_b ?_ ?_ <;> intro hc)
  | (with_reducible refine SlcG.mk (by omega) ?_)
  | (with_reducible refine MakG.mk (by dsimp only; omega) ?_)
  | (with_reducible refine AppG.mk (by first | omega | (simp only [List.length_append, List.length_set, List.length_replicate, List.length_take, List.length_drop, List.length_cons, List.length_nil, List.length_map]; omega)) (by dsimp only [List.length_cons, List.length_nil]; omega) (by omega) ?_)
  | (with_reducible refine div_g (by omega) (by omega) (by dsimp only [inR]; omega) ?_)
  | (with_reducible refine mod_g (by omega) (by omega) ?_)
  | (with_reducible refine mask_g (m := 4294967296) 32 rfl rfl (by decide) (by omega) ?_)
  | (with_reducible refine shr_g (m := 4294967296) 32 rfl (by decide) (by omega) rfl ?_)
  | (with_reducible refine fz_all (by omega) ?_)
  | (with_reducible refine Stuck.h (A := RetE _ _) ?_) | (with_reducible refine Stuck.h (A := RetM _ _ _ _) ?_) | (with_reducible refine Stuck.h (A := Again _ _ _ _ _ _ _ _) ?_) | (with_reducible refine Stuck.h (A := CallF _ _ _ _ _ _ _) ?_) | (with_reducible refine Stuck.h (A := LoopG _ _ _ _ _ _ _ _) ?_) | (with_reducible refine Stuck.h (A := DrawG _ _ _ _ _ _ _ _) ?_)
  | (with_reducible refine Stuck.h (A := WrapG _ _ _) ?_) | (with_reducible refine Stuck.h (A := DivG _ _ _ _) ?_) | (with_reducible refine Stuck.h (A := ModG _ _ _) ?_) | (with_reducible refine Stuck.h (A := ShlG _ _ _ _) ?_) | (with_reducible refine Stuck.h (A := ShrG _ _ _ _) ?_) | (with_reducible refine Stuck.h (A := BitG _ _ _ _ _) ?_)
  | (with_reducible refine Stuck.h (A := IdxG _ _ _) ?_) | (with_reducible refine Stuck.h (A := IdxL _ _ _) ?_) | (with_reducible refine Stuck.h (A := SlcG _ _ _ _ _) ?_) | (with_reducible refine Stuck.h (A := MakG _ _ _ _) ?_) | (with_reducible refine Stuck.h (A := AppG _ _ _ _ _ _ _) ?_) | (with_reducible refine Stuck.h (A := FzG _ _ _ _) ?_)
  | (with_reducible refine Stuck.h (A := RawG _) ?_) | (with_reducible refine Stuck.h (A := TabG _ _ _ _ _) ?_) | (with_reducible refine Stuck.h (A := ExtF _ _ _ _) ?_) | (with_reducible refine Stuck.h (A := Chk _ _) ?_) | (with_reducible refine Stuck.h (A := False) ?_))
    · have h0 : r = 0 := by omega
      have := div_of (a := a) (b := b) (q := sg true q) (r := sg false r) h0' (by simp only [sg, Int.mul_neg]; omega) (by simp only [sg]; omega) (by simp only [sg]; omega)
      exact ⟨ret_e (tup_zi (a := sg true q) (b := sg false r) this.1.symm this.2.symm)⟩
    · have := div_of (a := a) (b := b) (q := sg true (q + 1)) (r := sg false (b.natAbs - r)) h0' (by simp only [sg, Int.mul_neg, Int.natCast_add, Int.mul_add, Int.mul_one]; omega) (by simp only [sg]; omega) (by simp only [sg]; omega)
      exact ⟨ret_e (tup_zi (a := sg true (q + 1)) (b := sg false (b.natAbs - r)) this.1.symm this.2.symm)⟩
    · have := div_of (a := a) (b := b) (q := sg false q) (r := sg false r) h0' (by simp only [sg]; omega) (by simp only [sg]; omega) (by simp only [sg]; omega)
      exact ⟨ret_e (tup_zi (a := sg false q) (b := sg false r) this.1.symm this.2.symm)⟩
  · rw [if_neg h0, if_neg h0]
    have hsg : b.sign ≤ 0 := Int.not_lt.1 fun h => h0 (Int.sign_pos_iff.1 h)
    refine by_sign (a := b) (p := fun p => FC _ _ _ [p] _ → FC _ _ _ [_, p] _) (fun hs hsb => ?_) (fun hs hsb => ?_) hsb
    all_goals
      refine FC.intro (X := XX) tok Tryz.func169 rfl Tryz.ntmps169 (by rw [Tryz.results169]) (by kernel_rfl) rfl ?_; intro F hG hO
      rw [← hG] at hsb
      repeat' ((try (conv => whnf)); first
  | ((with_reducible refine cg ?_); refine call_eq (hsb) (LpL.refl _) rfl ?_)
  
  | (with_reducible refine draw_g (id := 6) [[0, 4, 5, 6, 1, 2, 3, 7, 8], [9], [10]] tok mixed (by kernel_rfl) ?_)
  | (with_reducible refine Chk.mk' (by first | omega | exact trivial | (simp only [List.length_append, List.length_set, List.length_replicate, List.length_take, List.length_drop, List.length_cons, List.length_nil, List.length_map]; omega)) ?_)
  | (with_reducible refine wrap_g (by dsimp only [inR]; omega) ?_)
  | (with_reducible refine idx_g (by omega) ?_)
  | (with_reducible refine idx_l _ rfl (by decide) ?_)
  | (with_reducible refine BothG.mk ?_ ?_)
  | (with_reducible refine fork_tt ?_) | (with_reducible refine fork_ff ?_)
  | (with_reducible refine fork_e (c := true) (by decide) ?_; with_reducible refine fork_tt ?_) | (with_reducible refine fork_e (c := false) (by decide) ?_; with_reducible refine fork_ff ?_)
  | (with_reducible refine fork_t (by omega) ?_) | (with_reducible refine fork_f (by omega) ?_)
  | (with_reducible refine fork_d ?_ ?_ <;> intro hc)
  | (with_reducible refine fork_n ?_)
  | (with_reducible refine fork_b ?_ ?_ <;> intro hc)
  | (with_reducible refine SlcG.mk (by omega) ?_)
  | (with_reducible refine MakG.mk (by dsimp only; omega) ?_)
  | (with_reducible refine AppG.mk (by first | omega | (simp only [List.length_append, List.length_set, List.length_replicate, List.length_take, List.length_drop, List.length_cons, List.length_nil, List.length_map]; omega)) (by dsimp only [List.length_cons, List.length_nil]; omega) (by omega) ?_)
  | (with_reducible refine div_g (by omega) (by omega) (by dsimp only [inR]; omega) ?_)
  | (with_reducible refine mod_g (by omega) (by omega) ?_)
  | (with_reducible refine mask_g (m := 4294967296) 32 rfl rfl (by decide) (by omega) ?_)
  | (with_reducible refine shr_g (m := 4294967296) 32 rfl (by decide) (by omega) rfl ?_)
  | (with_reducible refine fz_all (by omega) ?_)
  | (with_reducible refine Stuck.h (A := RetE _ _) ?_) | (with_reducible refine Stuck.h (A := RetM _ _ _ _) ?_) | (with_reducible refine Stuck.h (A := Again _ _ _ _ _ _ _ _) ?_) | (with_reducible refine Stuck.h (A := CallF _ _ _ _ _ _ _) ?_) | (with_reducible refine Stuck.h (A := LoopG _ _ _ _ _ _ _ _) ?_) | (with_reducible refine Stuck.h (A := DrawG _ _ _ _ _ _ _ _) ?_)
  | (with_reducible refine Stuck.h (A := WrapG _ _ _) ?_) | (with_reducible refine Stuck.h (A := DivG _ _ _ _) ?_) | (with_reducible refine Stuck.h (A := ModG _ _ _) ?_) | (with_reducible refine Stuck.h (A := ShlG _ _ _ _) ?_) | (with_reducible refine Stuck.h (A := ShrG _ _ _ _) ?_) | (with_reducible refine Stuck.h (A := BitG _ _ _ _ _) ?_)
  | (with_reducible refine Stuck.h (A := IdxG _ _ _) ?_) | (with_reducible refine Stuck.h (A := IdxL _ _ _) ?_) | (with_reducible refine Stuck.h (A := SlcG _ _ _ _ _) ?_) | (with_reducible refine Stuck.h (A := MakG _ _ _ _) ?_) | (with_reducible refine Stuck.h (A := AppG _ _ _ _ _ _ _) ?_) | (with_reducible refine Stuck.h (A := FzG _ _ _ _) ?_)
  | (with_reducible refine Stuck.h (A := RawG _) ?_) | (with_reducible refine Stuck.h (A := TabG _ _ _ _ _) ?_) | (with_reducible refine Stuck.h (A := ExtF _ _ _ _) ?_) | (with_reducible refine Stuck.h (A := Chk _ _) ?_) | (with_reducible refine Stuck.h (A := False) ?_))
    all_goals exact ⟨ret_l (.tup [ZI 0, ZI 0]) (.tup (.cons lp_zi0 (.cons lp_zi0 .nil))) rfl⟩
theorem fdiv_if (a b : Int) : (if b < 0 then (if 0 < -b then (-a) / (-b) else 0) else (if 0 < b then a / b else 0)) = a.fdiv b := by
  by_cases h : b < 0
  · rw [if_pos h, if_pos (by omega), ← Int.neg_fdiv_neg, Int.fdiv_eq_ediv_of_nonneg _ (by omega)]
  · rw [if_neg h]
    by_cases h2 : 0 < b
    · rw [if_pos h2, Int.fdiv_eq_ediv_of_nonneg _ (by omega)]
    · rw [if_neg h2, show b = 0 by omega, Int.fdiv_zero]
theorem r_zfdiv (a b : Int) (ha : LZ a ≤ 268435454) (hb : LZ b ≤ 268435454) : FC Tryz.prog G 158 [ZI a, ZI b] (· = ZI (a.fdiv b)) := by
  have ha' := LZ_neg a
  have hb' := LZ_neg b
  have f1 := r_flip (G := G) a (by omega)
  have f2 := r_flip (G := G) b (by omega)
  have f3 := r_zfloor (G := G) (-a) (-b) (by omega) (by omega)
  have f4 := r_zfloor (G := G) a b ha hb
  have e := fdiv_if a b
  by_cases h : b < 0
  · rw [if_pos h] at e
    rw [e] at f3
    refine FC.intro (X := XX) tok Tryz.func158 rfl Tryz.ntmps158 (by rw [Tryz.results158]) (by kernel_rfl) rfl ?_; intro F hG hO
    rw [← hG] at f1 f2 f3 f4
    rw [zi_neg h] at f2 ⊢
    repeat' ((try (conv => whnf)); first
  | ((with_reducible refine cg ?_); refine call_eq (f1) (LpL.refl _) rfl ?_)
  | ((with_reducible refine cg ?_); refine call_eq (f2) (LpL.refl _) rfl ?_)
  | ((with_reducible refine cg ?_); refine call_eq (f3) (LpL.refl _) rfl ?_)
  
  | (with_reducible refine draw_g (id := 2) [[0, 2, 1, 3], [4], [5]] tok mixed (by kernel_rfl) ?_)
  | (with_reducible refine Chk.mk' (by first | omega | exact trivial | (simp only [List.length_append, List.length_set, List.length_replicate, List.length_take, List.length_drop, List.length_cons, List.length_nil, List.length_map]; omega)) ?_)
  | (with_reducible refine wrap_g (by dsimp only [inR]; omega) ?_)
  | (with_reducible refine idx_g (by omega) ?_)
  | (with_reducible refine idx_l _ rfl (by decide) ?_)
  | (with_reducible refine BothG.mk ?_ ?_)
  | (with_reducible refine fork_tt ?_) | (with_reducible refine fork_ff ?_)
  | (with_reducible refine fork_e (c := true) (by decide) ?_; with_reducible refine fork_tt ?_) | (with_reducible refine fork_e (c := false) (by decide) ?_; with_reducible refine fork_ff ?_)
  | (with_reducible refine fork_t (by omega) ?_) | (with_reducible refine fork_f (by omega) ?_)
  | (with_reducible refine fork_d ?_ ?_ <;> intro hc)
  | (with_reducible refine fork_n ?_)
  | (with_reducible refine fork_b ?_ ?_ <;> intro hc)
  | (with_reducible refine SlcG.mk (by omega) ?_)
  | (with_reducible refine MakG.mk (by dsimp only; omega) ?_)
  | (with_reducible refine AppG.mk (by first | omega | (simp only [List.length_append, List.length_set, List.length_replicate, List.length_take, List.length_drop, List.length_cons, List.length_nil, List.length_map]; omega)) (by dsimp only [List.length_cons, List.length_nil]; omega) (by omega) ?_)
  | (with_reducible refine div_g (by omega) (by omega) (by dsimp only [inR]; omega) ?_)
  | (with_reducible refine mod_g (by omega) (by omega) ?_)
  | (with_reducible refine mask_g (m := 4294967296) 32 rfl rfl (by decide) (by omega) ?_)
  | (with_reducible refine shr_g (m := 4294967296) 32 rfl (by decide) (by omega) rfl ?_)
  | (with_reducible refine fz_all (by omega) ?_)
  | (with_reducible refine Stuck.h (A := RetE _ _) ?_) | (with_reducible refine Stuck.h (A := RetM _ _ _ _) ?_) | (with_reducible refine Stuck.h (A := Again _ _ _ _ _ _ _ _) ?_) | (with_reducible refine Stuck.h (A := CallF _ _ _ _ _ _ _) ?_) | (with_reducible refine Stuck.h (A := LoopG _ _ _ _ _ _ _ _) ?_) | (with_reducible refine Stuck.h (A := DrawG _ _ _ _ _ _ _ _) ?_)
  | (with_reducible refine Stuck.h (A := WrapG _ _ _) ?_) | (with_reducible refine Stuck.h (A := DivG _ _ _ _) ?_) | (with_reducible refine Stuck.h (A := ModG _ _ _) ?_) | (with_reducible refine Stuck.h (A := ShlG _ _ _ _) ?_) | (with_reducible refine Stuck.h (A := ShrG _ _ _ _) ?_) | (with_reducible refine Stuck.h (A := BitG _ _ _ _ _) ?_)
  | (with_reducible refine Stuck.h (A := IdxG _ _ _) ?_) | (with_reducible refine Stuck.h (A := IdxL _ _ _) ?_) | (with_reducible refine Stuck.h (A := SlcG _ _ _ _ _) ?_) | (with_reducible refine Stuck.h (A := MakG _ _ _ _) ?_) | (with_reducible refine Stuck.h (A := AppG _ _ _ _ _ _ _) ?_) | (with_reducible refine Stuck.h (A := FzG _ _ _ _) ?_)
  | (with_reducible refine Stuck.h (A := RawG _) ?_) | (with_reducible refine Stuck.h (A := TabG _ _ _ _ _) ?_) | (with_reducible refine Stuck.h (A := ExtF _ _ _ _) ?_) | (with_reducible refine Stuck.h (A := Chk _ _) ?_) | (with_reducible refine Stuck.h (A := False) ?_))
    exact ⟨ret_e rfl⟩
  · rw [if_neg h] at e
    rw [e] at f4
    refine FC.intro (X := XX) tok Tryz.func158 rfl Tryz.ntmps158 (by rw [Tryz.results158]) (by kernel_rfl) rfl ?_; intro F hG hO
    rw [← hG] at f1 f2 f3 f4
    rw [zi_pos h] at f4 ⊢
    repeat' ((try (conv => whnf)); first
  | ((with_reducible refine cg ?_); refine call_eq (f4) (LpL.refl _) rfl ?_)
  
  | (with_reducible refine draw_g (id := 2) [[0, 2, 1, 3], [4], [5]] tok mixed (by kernel_rfl) ?_)
  | (with_reducible refine Chk.mk' (by first | omega | exact trivial | (simp only [List.length_append, List.length_set, List.length_replicate, List.length_take, List.length_drop, List.length_cons, List.length_nil, List.length_map]; omega)) ?_)
  | (with_reducible refine wrap_g (by dsimp only [inR]; omega) ?_)
  | (with_reducible refine idx_g (by omega) ?_)
  | (with_reducible refine idx_l _ rfl (by decide) ?_)
  | (with_reducible refine BothG.mk ?_ ?_)
  | (with_reducible refine fork_tt ?_) | (with_reducible refine fork_ff ?_)
  | (with_reducible refine fork_e (c := true) (by decide) ?_; with_reducible refine fork_tt ?_) | (with_reducible refine fork_e (c := false) (by decide) ?_; with_reducible refine fork_ff ?_)
  | (with_reducible refine fork_t (by omega) ?_) | (with_reducible refine fork_f (by omega) ?_)
  | (with_reducible refine fork_d ?_ ?_ <;> intro hc)
  | (with_reducible refine fork_n ?_)
  | (with_reducible refine fork_b ?_ ?_ <;> intro hc)
  | (with_reducible refine SlcG.mk (by omega) ?_)
  | (with_reducible refine MakG.mk (by dsimp only; omega) ?_)
  | (with_reducible refine AppG.mk (by first | omega | (simp only [List.length_append, List.length_set, List.length_replicate, List.length_take, List.length_drop, List.length_cons, List.length_nil, List.length_map]; omega)) (by dsimp only [List.length_cons, List.length_nil]; omega) (by omega) ?_)
  | (with_reducible refine div_g (by omega) (by omega) (by dsimp only [inR]; omega) ?_)
  | (with_reducible refine mod_g (by omega) (by omega) ?_)
  | (with_reducible refine mask_g (m := 4294967296) 32 rfl rfl (by decide) (by omega) ?_)
  | (with_reducible refine shr_g (m := 4294967296) 32 rfl (by decide) (by omega) rfl ?_)
  | (with_reducible refine fz_all (by omega) ?_)
  | (with_reducible refine Stuck.h (A := RetE _ _) ?_) | (with_reducible refine Stuck.h (A := RetM _ _ _ _) ?_) | (with_reducible refine Stuck.h (A := Again _ _ _ _ _ _ _ _) ?_) | (with_reducible refine Stuck.h (A := CallF _ _ _ _ _ _ _) ?_) | (with_reducible refine Stuck.h (A := LoopG _ _ _ _ _ _ _ _) ?_) | (with_reducible refine Stuck.h (A := DrawG _ _ _ _ _ _ _ _) ?_)
  | (with_reducible refine Stuck.h (A := WrapG _ _ _) ?_) | (with_reducible refine Stuck.h (A := DivG _ _ _ _) ?_) | (with_reducible refine Stuck.h (A := ModG _ _ _) ?_) | (with_reducible refine Stuck.h (A := ShlG _ _ _ _) ?_) | (with_reducible refine Stuck.h (A := ShrG _ _ _ _) ?_) | (with_reducible refine Stuck.h (A := BitG _ _ _ _ _) ?_)
  | (with_reducible refine Stuck.h (A := IdxG _ _ _) ?_) | (with_reducible refine Stuck.h (A := IdxL _ _ _) ?_) | (with_reducible refine Stuck.h (A := SlcG _ _ _ _ _) ?_) | (with_reducible refine Stuck.h (A := MakG _ _ _ _) ?_) | (with_reducible refine Stuck.h (A := AppG _ _ _ _ _ _ _) ?_) | (with_reducible refine Stuck.h (A := FzG _ _ _ _) ?_)
  | (with_reducible refine Stuck.h (A := RawG _) ?_) | (with_reducible refine Stuck.h (A := TabG _ _ _ _ _) ?_) | (with_reducible refine Stuck.h (A := ExtF _ _ _ _) ?_) | (with_reducible refine Stuck.h (A := Chk _ _) ?_) | (with_reducible refine Stuck.h (A := False) ?_))
    exact ⟨ret_e rfl⟩
theorem r_zcdiv (a b : Int) (ha : LZ a ≤ 268435454) (hb : LZ b ≤ 268435454) : FC Tryz.prog G 159 [ZI a, ZI b] (· = ZI (-((-a).fdiv b))) := by
  have ha' := LZ_neg a
  have hq : LZ ((-a).fdiv b) ≤ 268435456 := by
    have h1 : ((-a).fdiv b).natAbs ≤ a.natAbs + 1 := by
      rw [← fdiv_if]
      have key : ∀ x y : Int, 0 < y → (x / y).natAbs ≤ x.natAbs + 1 := fun x y hy => by
        have h1 := Int.mul_ediv_add_emod x y
        have h2 := Int.emod_nonneg x (show y ≠ 0 by omega)
        have h3 := Int.emod_lt_of_pos x hy
        rcases Int.lt_or_le x 0 with hx | hx
        · have h4 : x / y < 0 := Int.ediv_neg_of_neg_of_pos hx hy
          have h5 : x ≤ x / y := by
            have := Int.ediv_mul_le x (show y ≠ 0 by omega)
            rcases Int.lt_or_le (x / y) x with h6 | h6
            · exfalso
              have h7 : (x / y) + 1 ≤ x := h6
              have h8 : y * (x / y + 1) ≤ y * x := Int.mul_le_mul_of_nonneg_left h7 (by omega)
              have h9 : y * x ≤ 1 * x := Int.mul_le_mul_of_nonpos_right (by omega) (by omega)
              rw [Int.mul_add, Int.mul_one] at h8
              omega
            · exact h6
          omega
        · have h4 := Int.ediv_nonneg hx (show 0 ≤ y by omega)
          have h5 := Int.ediv_le_self y hx
          omega
      split
      · split
        · have := key (- -a) (-b) (by omega); omega
        · simp
      · split
        · have := key (-a) b (by omega); omega
        · simp
    have h2 := L32_mono h1
    have h3 := L32_add a.natAbs 1
    have h4 : L32 1 ≤ 1 := L32_le (by decide)
    unfold LZ at ha ⊢
    omega
  refine FC.intro (X := XX) tok Tryz.func159 rfl Tryz.ntmps159 (by rw [Tryz.results159]) (by kernel_rfl) rfl ?_; intro F hG hO
  repeat' ((try (conv => whnf)); first
  | ((with_reducible refine cg ?_); refine call_eq (r_flip a (by omega)) (LpL.refl _) rfl ?_)
  | ((with_reducible refine cg ?_); refine call_eq (r_zfdiv (-a) b (by omega) hb) (LpL.refl _) rfl ?_)
  | ((with_reducible refine cg ?_); refine call_eq (r_flip ((-a).fdiv b) (by omega)) (LpL.refl _) rfl ?_)
  
  | (with_reducible refine draw_g (id := 1) [[0, 2, 1, 3, 4], [5]] tok mixed (by kernel_rfl) ?_)
  | (with_reducible refine Chk.mk' (by first | omega | exact trivial | (simp only [List.length_append, List.length_set, List.length_replicate, List.length_take, List.length_drop, List.length_cons, List.length_nil, List.length_map]; omega)) ?_)
  | (with_reducible refine wrap_g (by dsimp only [inR]; omega) ?_)
  | (with_reducible refine idx_g (by omega) ?_)
  | (with_reducible refine idx_l _ rfl (by decide) ?_)
  | (with_reducible refine BothG.mk ?_ ?_)
  | (with_reducible refine fork_tt ?_) | (with_reducible refine fork_ff ?_)
  | (with_reducible refine fork_e (c := true) (by decide) ?_; with_reducible refine fork_tt ?_) | (with_reducible refine fork_e (c := false) (by decide) ?_; with_reducible refine fork_ff ?_)
  | (with_reducible refine fork_t (by omega) ?_) | (with_reducible refine fork_f (by omega) ?_)
  | (with_reducible refine fork_d ?_ ?_ <;> intro hc)
  | (with_reducible refine fork_n ?_)
  | (with_reducible refine fork_b ?_ ?_ <;> intro hc)
  | (with_reducible refine SlcG.mk (by omega) ?_)
  | (with_reducible refine MakG.mk (by dsimp only; omega) ?_)
  | (with_reducible refine AppG.mk (by first | omega | (simp only [List.length_append, List.length_set, List.length_replicate, List.length_take, List.length_drop, List.length_cons, List.length_nil, List.length_map]; omega)) (by dsimp only [List.length_cons, List.length_nil]; omega) (by omega) ?_)
  | (with_reducible refine div_g (by omega) (by omega) (by dsimp only [inR]; omega) ?_)
  | (with_reducible refine mod_g (by omega) (by omega) ?_)
  | (with_reducible refine mask_g (m := 4294967296) 32 rfl rfl (by decide) (by omega) ?_)
  | (with_reducible refine shr_g (m := 4294967296) 32 rfl (by decide) (by omega) rfl ?_)
  | (with_reducible refine fz_all (by omega) ?_)
  | (with_reducible refine Stuck.h (A := RetE _ _) ?_) | (with_reducible refine Stuck.h (A := RetM _ _ _ _) ?_) | (with_reducible refine Stuck.h (A := Again _ _ _ _ _ _ _ _) ?_) | (with_reducible refine Stuck.h (A := CallF _ _ _ _ _ _ _) ?_) | (with_reducible refine Stuck.h (A := LoopG _ _ _ _ _ _ _ _) ?_) | (with_reducible refine Stuck.h (A := DrawG _ _ _ _ _ _ _ _) ?_)
  | (with_reducible refine Stuck.h (A := WrapG _ _ _) ?_) | (with_reducible refine Stuck.h (A := DivG _ _ _ _) ?_) | (with_reducible refine Stuck.h (A := ModG _ _ _) ?_) | (with_reducible refine Stuck.h (A := ShlG _ _ _ _) ?_) | (with_reducible refine Stuck.h (A := ShrG _ _ _ _) ?_) | (with_reducible refine Stuck.h (A := BitG _ _ _ _ _) ?_)
  | (with_reducible refine Stuck.h (A := IdxG _ _ _) ?_) | (with_reducible refine Stuck.h (A := IdxL _ _ _) ?_) | (with_reducible refine Stuck.h (A := SlcG _ _ _ _ _) ?_) | (with_reducible refine Stuck.h (A := MakG _ _ _ _) ?_) | (with_reducible refine Stuck.h (A := AppG _ _ _ _ _ _ _) ?_) | (with_reducible refine Stuck.h (A := FzG _ _ _ _) ?_)
  | (with_reducible refine Stuck.h (A := RawG _) ?_) | (with_reducible refine Stuck.h (A := TabG _ _ _ _ _) ?_) | (with_reducible refine Stuck.h (A := ExtF _ _ _ _) ?_) | (with_reducible refine Stuck.h (A := Chk _ _) ?_) | (with_reducible refine Stuck.h (A := False) ?_))
  exact ⟨ret_e rfl⟩
theorem r_zfshr (a n : Int) (ha : LZ a ≤ 268435454) (hn : inR .i64 n) : FC Tryz.prog G 168 [ZI a, .val (.int .i64 n)] (· = ZI (a / 2 ^ n.toNat)) := by
  unfold LZ at ha
  have l1 : L32 1 ≤ 1 := L32_le (by decide)
  have lq := L32_mono (Nat.div_le_self a.natAbs (2 ^ n.toNat))
  have lr := L32_mono (Nat.mod_le a.natAbs (2 ^ n.toNat))
  have hp := len_pos (a.natAbs % 2 ^ n.toNat)
  obtain ⟨P, hP⟩ : ∃ P, P = 2 ^ n.toNat := ⟨_, rfl⟩
  have hP0 : 0 < P := by rw [hP]; exact Nat.pow_pos (by decide)
  have hPi : (2 : Int) ^ n.toNat = (P : Int) := by rw [hP]; simp
  obtain ⟨d1, d2⟩ := nat_dm a.natAbs P hP0
  have f1 := r_shr (G := G) a.natAbs n (by omega) hn
  have f2 := r_low (G := G) a.natAbs n (by omega) hn
  rw [hPi]
  rw [← hP] at lq lr hp f1 f2
  obtain ⟨q, hq⟩ : ∃ q, q = a.natAbs / P := ⟨_, rfl⟩
  obtain ⟨r, hr⟩ : ∃ r, r = a.natAbs % P := ⟨_, rfl⟩
  rw [← hq] at d1 lq f1
  rw [← hr] at d1 d2 lr hp f2
  have hle : Unit → n ≤ 0 → P = 1 := fun _ h => by rw [hP, show n.toNat = 0 by omega]
  have ls : ∀ b, LZ (sg b q) ≤ 268435454 := fun b => by unfold LZ; rw [sg_abs]; omega
  refine by_sign (a := a) (p := fun p => FC _ _ _ [p, _] _) (fun hs => ?_) (fun hs => ?_)
  all_goals
    refine FC.intro (X := XX) tok Tryz.func168 rfl Tryz.ntmps168 (by rw [Tryz.results168]) (by kernel_rfl) rfl ?_; intro F hG hO
    rw [← hG] at f1 f2
    repeat' ((try (conv => whnf)); first
  | ((with_reducible refine cg ?_); refine call_eq (f1) (LpL.refl _) rfl ?_)
  | ((with_reducible refine cg ?_); refine call_eq (f2) (LpL.refl _) rfl ?_)
  | ((with_reducible refine cg ?_); refine call_eq (r_mk _ a.natAbs (by omega)) (LpL.refl _) rfl ?_)
  | ((with_reducible refine cg ?_); refine call_eq (r_mk _ q (by omega)) (LpL.refl _) rfl ?_)
  | ((with_reducible refine cg ?_); refine call_eq (r_of 1 (by dsimp only [inR]; omega)) (LpL.refl _) rfl ?_)
  | ((with_reducible refine cg ?_); refine call_eq (r_zsub (sg true q) 1 (by have := ls true; omega) (by have : LZ 1 = L32 1 := rfl; omega)) (LpL.refl _) rfl ?_)
  
  | (with_reducible refine draw_t (id := 3) (.one 0 (.one 1 (.one 2 (.one 3 (.one 4 (.two (.one 5 (.two (.one 6 (.one 7 (.st (.one 8 (.fin))))) (.one 7 (.one 6 (.st (.one 8 (.fin))))))) (.one 7 (.one 5 (.one 6 (.st (.one 8 (.fin)))))))))))) tok mixed (by kernel_rfl) (by kernel_rfl) ?_)
  | (with_reducible refine draw_g (id := 5) [[0, 1, 2], [3]] tok mixed (by kernel_rfl) ?_)
  | (with_reducible refine Chk.mk' (by first | omega | exact trivial | (simp only [List.length_append, List.length_set, List.length_replicate, List.length_take, List.length_drop, List.length_cons, List.length_nil, List.length_map]; omega)) ?_)
  | (with_reducible refine wrap_g (by dsimp only [inR]; omega) ?_)
  | (with_reducible refine idx_g (by omega) ?_)
  | (with_reducible refine idx_l _ rfl (by decide) ?_)
  | (with_reducible refine BothG.mk ?_ ?_)
  | (with_reducible refine fork_tt ?_) | (with_reducible refine fork_ff ?_)
  | (with_reducible refine fork_e (c := true) (by decide) ?_; with_reducible refine fork_tt ?_) | (with_reducible refine fork_e (c := false) (by decide) ?_; with_reducible refine fork_ff ?_)
  | (with_reducible refine fork_t (by omega) ?_) | (with_reducible refine fork_f (by omega) ?_)
  | (with_reducible refine fork_d ?_ ?_ <;> intro hc)
  | (with_reducible refine fork_n ?_)
  | (with_reducible refine fork_b ?_ ?_ <;> intro hc)
  | (with_reducible refine SlcG.mk (by omega) ?_)
  | (with_reducible refine MakG.mk (by dsimp only; omega) ?_)
  | (with_reducible refine AppG.mk (by first | omega | (simp only [List.length_append, List.length_set, List.length_replicate, List.length_take, List.length_drop, List.length_cons, List.length_nil, List.length_map]; omega)) (by dsimp only [List.length_cons, List.length_nil]; omega) (by omega) ?_)
  | (with_reducible refine div_g (by omega) (by omega) (by dsimp only [inR]; omega) ?_)
  | (with_reducible refine mod_g (by omega) (by omega) ?_)
  | (with_reducible refine mask_g (m := 4294967296) 32 rfl rfl (by decide) (by omega) ?_)
  | (with_reducible refine shr_g (m := 4294967296) 32 rfl (by decide) (by omega) rfl ?_)
  | (with_reducible refine fz_all (by omega) ?_)
  | (with_reducible refine Stuck.h (A := RetE _ _) ?_) | (with_reducible refine Stuck.h (A := RetM _ _ _ _) ?_) | (with_reducible refine Stuck.h (A := Again _ _ _ _ _ _ _ _) ?_) | (with_reducible refine Stuck.h (A := CallF _ _ _ _ _ _ _) ?_) | (with_reducible refine Stuck.h (A := LoopG _ _ _ _ _ _ _ _) ?_) | (with_reducible refine Stuck.h (A := DrawG _ _ _ _ _ _ _ _) ?_)
  | (with_reducible refine Stuck.h (A := WrapG _ _ _) ?_) | (with_reducible refine Stuck.h (A := DivG _ _ _ _) ?_) | (with_reducible refine Stuck.h (A := ModG _ _ _) ?_) | (with_reducible refine Stuck.h (A := ShlG _ _ _ _) ?_) | (with_reducible refine Stuck.h (A := ShrG _ _ _ _) ?_) | (with_reducible refine Stuck.h (A := BitG _ _ _ _ _) ?_)
  | (with_reducible refine Stuck.h (A := IdxG _ _ _) ?_) | (with_reducible refine Stuck.h (A := IdxL _ _ _) ?_) | (with_reducible refine Stuck.h (A := SlcG _ _ _ _ _) ?_) | (with_reducible refine Stuck.h (A := MakG _ _ _ _) ?_) | (with_reducible refine Stuck.h (A := AppG _ _ _ _ _ _ _) ?_) | (with_reducible refine Stuck.h (A := FzG _ _ _ _) ?_)
  | (with_reducible refine Stuck.h (A := RawG _) ?_) | (with_reducible refine Stuck.h (A := TabG _ _ _ _ _) ?_) | (with_reducible refine Stuck.h (A := ExtF _ _ _ _) ?_) | (with_reducible refine Stuck.h (A := Chk _ _) ?_) | (with_reducible refine Stuck.h (A := False) ?_))
  all_goals first
    | (exact ⟨ret_e (zi_eq (a := sg true a.natAbs) (by rw [hle () (by omega)]; simp only [sg]; omega))⟩)
    | (exact ⟨ret_e (zi_eq (a := sg false a.natAbs) (by rw [hle () (by omega)]; simp only [sg]; omega))⟩)
    | (exact ⟨ret_e (zi_eq (a := sg true q - 1) (div_of (a := a) (b := (P : Int)) (q := sg true q - 1) (r := (P : Int) - r) (by omega) (by simp only [sg, Int.mul_sub, Int.mul_neg, Int.mul_one]; omega) (by omega) (by omega)).1.symm)⟩)
    | (exact ⟨ret_e (zi_eq (a := sg true q) (div_of (a := a) (b := (P : Int)) (q := sg true q) (r := r) (by omega) (by simp only [sg, Int.mul_neg]; omega) (by omega) (by omega)).1.symm)⟩)
    | (exact ⟨ret_e (zi_eq (a := sg false q) (div_of (a := a) (b := (P : Int)) (q := sg false q) (r := r) (by omega) (by simp only [sg]; omega) (by omega) (by omega)).1.symm)⟩)
theorem LZ_shr (a : Int) (k : Nat) : LZ (a / 2 ^ k) ≤ LZ a + 2 := by
  obtain ⟨P, hP⟩ : ∃ P, P = 2 ^ k := ⟨_, rfl⟩
  have hP0 : 0 < P := by rw [hP]; exact Nat.pow_pos (by decide)
  have hPi : (2 : Int) ^ k = (P : Int) := by rw [hP]; simp
  rw [hPi]
  have h1 : (a / (P : Int)).natAbs ≤ a.natAbs + 1 := by
    have h1 := Int.mul_ediv_add_emod a P
    have h2 := Int.emod_nonneg a (show (P : Int) ≠ 0 by omega)
    have h3 := Int.emod_lt_of_pos a (show (0 : Int) < P by omega)
    rcases Int.lt_or_le a 0 with hx | hx
    · have h4 : a / (P : Int) < 0 := Int.ediv_neg_of_neg_of_pos hx (by omega)
      rcases Int.lt_or_le (a / (P : Int) + 1) a with h6 | h6
      · exfalso
        have h8 : (P : Int) * (a / P + 1) ≤ 1 * (a / P + 1) := Int.mul_le_mul_of_nonpos_right (by omega) (by omega)
        rw [Int.mul_add, Int.mul_one] at h8
        omega
      · omega
    · have h4 := Int.ediv_nonneg hx (show (0 : Int) ≤ P by omega)
      have h5 := Int.ediv_le_self P hx
      omega
  have h2 := L32_mono h1
  have h3 := L32_add a.natAbs 1
  have h4 : L32 1 ≤ 1 := L32_le (by decide)
  unfold LZ
  omega
theorem r_zcshr (a n : Int) (ha : LZ a ≤ 268435454) (hn : inR .i64 n) : FC Tryz.prog G 167 [ZI a, .val (.int .i64 n)] (· = ZI (-((-a) / 2 ^ n.toNat))) := by
  have ha' := LZ_neg a
  have hq := LZ_shr (-a) n.toNat
  refine FC.intro (X := XX) tok Tryz.func167 rfl Tryz.ntmps167 (by rw [Tryz.results167]) (by kernel_rfl) rfl ?_; intro F hG hO
  repeat' ((try (conv => whnf)); first
  | ((with_reducible refine cg ?_); refine call_eq (r_flip a (by omega)) (LpL.refl _) rfl ?_)
  | ((with_reducible refine cg ?_); refine call_eq (r_zfshr (-a) n (by omega) hn) (LpL.refl _) rfl ?_)
  | ((with_reducible refine cg ?_); refine call_eq (r_flip ((-a) / 2 ^ n.toNat) (by omega)) (LpL.refl _) rfl ?_)
  
  | (with_reducible refine Chk.mk' (by first | omega | exact trivial | (simp only [List.length_append, List.length_set, List.length_replicate, List.length_take, List.length_drop, List.length_cons, List.length_nil, List.length_map]; omega)) ?_)
  | (with_reducible refine wrap_g (by dsimp only [inR]; omega) ?_)
  | (with_reducible refine idx_g (by omega) ?_)
  | (with_reducible refine idx_l _ rfl (by decide) ?_)
  | (with_reducible refine BothG.mk ?_ ?_)
  | (with_reducible refine fork_tt ?_) | (with_reducible refine fork_ff ?_)
  | (with_reducible refine fork_e (c := true) (by decide) ?_; with_reducible refine fork_tt ?_) | (with_reducible refine fork_e (c := false) (by decide) ?_; with_reducible refine fork_ff ?_)
  | (with_reducible refine fork_t (by omega) ?_) | (with_reducible refine fork_f (by omega) ?_)
  | (with_reducible refine fork_d ?_ ?_ <;> intro hc)
  | (with_reducible refine fork_n ?_)
  | (with_reducible refine fork_b ?_ ?_ <;> intro hc)
  | (with_reducible refine SlcG.mk (by omega) ?_)
  | (with_reducible refine MakG.mk (by dsimp only; omega) ?_)
  | (with_reducible refine AppG.mk (by first | omega | (simp only [List.length_append, List.length_set, List.length_replicate, List.length_take, List.length_drop, List.length_cons, List.length_nil, List.length_map]; omega)) (by dsimp only [List.length_cons, List.length_nil]; omega) (by omega) ?_)
  | (with_reducible refine div_g (by omega) (by omega) (by dsimp only [inR]; omega) ?_)
  | (with_reducible refine mod_g (by omega) (by omega) ?_)
  | (with_reducible refine mask_g (m := 4294967296) 32 rfl rfl (by decide) (by omega) ?_)
  | (with_reducible refine shr_g (m := 4294967296) 32 rfl (by decide) (by omega) rfl ?_)
  | (with_reducible refine fz_all (by omega) ?_)
  | (with_reducible refine Stuck.h (A := RetE _ _) ?_) | (with_reducible refine Stuck.h (A := RetM _ _ _ _) ?_) | (with_reducible refine Stuck.h (A := Again _ _ _ _ _ _ _ _) ?_) | (with_reducible refine Stuck.h (A := CallF _ _ _ _ _ _ _) ?_) | (with_reducible refine Stuck.h (A := LoopG _ _ _ _ _ _ _ _) ?_) | (with_reducible refine Stuck.h (A := DrawG _ _ _ _ _ _ _ _) ?_)
  | (with_reducible refine Stuck.h (A := WrapG _ _ _) ?_) | (with_reducible refine Stuck.h (A := DivG _ _ _ _) ?_) | (with_reducible refine Stuck.h (A := ModG _ _ _) ?_) | (with_reducible refine Stuck.h (A := ShlG _ _ _ _) ?_) | (with_reducible refine Stuck.h (A := ShrG _ _ _ _) ?_) | (with_reducible refine Stuck.h (A := BitG _ _ _ _ _) ?_)
  | (with_reducible refine Stuck.h (A := IdxG _ _ _) ?_) | (with_reducible refine Stuck.h (A := IdxL _ _ _) ?_) | (with_reducible refine Stuck.h (A := SlcG _ _ _ _ _) ?_) | (with_reducible refine Stuck.h (A := MakG _ _ _ _) ?_) | (with_reducible refine Stuck.h (A := AppG _ _ _ _ _ _ _) ?_) | (with_reducible refine Stuck.h (A := FzG _ _ _ _) ?_)
  | (with_reducible refine Stuck.h (A := RawG _) ?_) | (with_reducible refine Stuck.h (A := TabG _ _ _ _ _) ?_) | (with_reducible refine Stuck.h (A := ExtF _ _ _ _) ?_) | (with_reducible refine Stuck.h (A := Chk _ _) ?_) | (with_reducible refine Stuck.h (A := False) ?_))
  exact ⟨ret_e rfl⟩
end Go.Proofs.YtbeocnjlepcglaaGreatDoor.Sim
namespace Go.Proofs.YtbeocnjlepcglaaGreatDoor.Sim
open Go.RowKit
set_option linter.unusedVariables false
set_option linter.unusedSimpArgs false
set_option maxRecDepth 10000
set_option maxHeartbeats 8000000
variable {G : List (Nat × List Value)}
/-- Any dyadic. -/
def Dy (b : Bool) (l : List Int) (e : Int) : PV := .agg [.val (.bool b), .ws .u64 l, .val (.int .i64 e)]
/-- n * 2^e. -/
def DY (n e : Int) : PV := .agg [.val (.bool (decide (n < 0))), .ws .u64 (d64 n.natAbs), .val (.int .i64 e)]
def formL (l : List Int) : Bool := decide (l.length ≤ 8192) && (decide (l.length = 0) || decide (rd l ((l.length : Int) - 1) ≠ 0))
def dyF (b : Bool) (l : List Int) (e : Int) : Bool := formL l && decide (-1048576 ≤ e) && decide (e ≤ 1048576) && (if l.length = 0 then !b && decide (e = 0) else decide (rd l 0 % 2 = 1))
def Good (n e : Int) : Prop := L64 n.natAbs ≤ 8192 ∧ -1048576 ≤ e ∧ e ≤ 1048576 ∧ (n = 0 → e = 0) ∧ (n ≠ 0 → n % 2 = 1)
theorem L64_pos (m : Nat) : 0 < L64 m ↔ 0 < m := by
  have h := lenB_eq_zero (B := 18446744073709551616) (by decide) (x := m)
  unfold L64
  omega
theorem len64_pos (m : Nat) : (0 : Int) < ((d64 m).length : Int) ↔ 0 < m := by
  have hl : (d64 m).length = L64 m := rfl
  have hp := L64_pos m
  omega
theorem trim_snoc_ne {l : List Int} {x : Int} (h : x ≠ 0) : trim (l ++ [x]) = l ++ [x] := by
  induction l with
  | nil => simp [trim, h]
  | cons y l ih =>
    rw [List.cons_append, trim, ih]
    have : (l ++ [x]).isEmpty = false := by cases l <;> rfl
    simp
theorem formL_trim {l : List Int} (h : formL l = true) : trim l = l ∧ l.length ≤ 8192 := by
  unfold formL at h
  simp only [Bool.and_eq_true, Bool.or_eq_true, decide_eq_true_eq] at h
  refine ⟨?_, h.1⟩
  rcases h.2 with h1 | h1
  · have : l = [] := List.eq_nil_of_length_eq_zero h1
    subst this; rfl
  · rcases List.eq_nil_or_concat l with h2 | ⟨m, x, h2⟩
    · subst h2; rfl
    · rw [List.concat_eq_append] at h2
      subst h2
      refine trim_snoc_ne ?_
      intro h0
      apply h1
      subst h0
      simp [rd, List.getD_eq_getElem?_getD]
theorem formL_eq {l : List Int} (ok : okD 18446744073709551616 l) (h : formL l = true) : l = d64 (vl 18446744073709551616 l).toNat ∧ L64 (vl 18446744073709551616 l).toNat ≤ 8192 := by
  obtain ⟨h1, h2⟩ := formL_trim h
  have h3 : l = d64 (vl 18446744073709551616 l).toNat := by
    have := trim_dgs (B := 18446744073709551616) (by decide) ok
    rw [h1] at this
    exact this
  refine ⟨h3, ?_⟩
  have : (d64 (vl 18446744073709551616 l).toNat).length ≤ 8192 := by rw [← h3]; exact h2
  exact this
theorem d64_top (m : Nat) (h : m ≠ 0) : rd (d64 m) (((d64 m).length : Int) - 1) ≠ 0 := by
  have hp := (L64_pos m).2 (by omega)
  have hl : (d64 m).length = L64 m := rfl
  rw [hl, show ((L64 m : Int) - 1) = ((L64 m - 1 : Nat) : Int) by omega, d64_rd]
  obtain ⟨h1, h2⟩ := top64 h
  rw [Nat.mod_eq_of_lt h1]
  omega
theorem formL_d64 (m : Nat) : formL (d64 m) = decide (L64 m ≤ 8192) := by
  unfold formL
  have hl : (d64 m).length = L64 m := rfl
  by_cases h : m = 0
  · have : L64 m = 0 := by subst h; exact lenB_zero _
    rw [hl, this]; rfl
  · rw [decide_eq_true (d64_top m h), Bool.or_true, Bool.and_true, hl]
theorem rd64_0 (m : Nat) : rd (d64 m) 0 = ((m % 18446744073709551616 : Nat) : Int) := by
  have := d64_rd m 0
  rw [Nat.mul_zero, Nat.pow_zero, Nat.div_one] at this
  exact this
theorem dyF_DY (n e : Int) (h : Good n e) : dyF (decide (n < 0)) (d64 n.natAbs) e = true := by
  obtain ⟨h1, h2, h3, h4, h5⟩ := h
  unfold dyF
  rw [formL_d64, decide_eq_true h1, decide_eq_true h2, decide_eq_true h3]
  have hl := len64_pos n.natAbs
  by_cases h0 : n = 0
  · rw [if_pos (by omega), decide_eq_false (by omega), decide_eq_true (h4 h0)]; rfl
  · rw [if_neg (by omega), rd64_0, decide_eq_true (by have := h5 h0; omega)]; rfl
theorem dyF_ex {b : Bool} {l : List Int} {e : Int} (ok : okD 18446744073709551616 l) (h : dyF b l e = true) : ∃ n, Good n e ∧ Dy b l e = DY n e := by
  unfold dyF at h
  simp only [Bool.and_eq_true, decide_eq_true_eq] at h
  obtain ⟨⟨⟨h1, h2⟩, h3⟩, h4⟩ := h
  obtain ⟨g1, g2⟩ := formL_eq ok h1
  obtain ⟨m, hm⟩ : ∃ m, m = (vl 18446744073709551616 l).toNat := ⟨_, rfl⟩
  rw [← hm] at g1 g2
  subst g1
  have hl := len64_pos m
  by_cases h0 : m = 0
  · rw [if_pos (by omega)] at h4
    simp only [Bool.and_eq_true, Bool.not_eq_true', decide_eq_true_eq] at h4
    subst h0
    refine ⟨0, ⟨by simpa using g2, h2, h3, fun _ => h4.2, fun h => absurd rfl h⟩, ?_⟩
    rw [h4.1, h4.2]; rfl
  · rw [if_neg (by omega), rd64_0] at h4
    have h5 : ((m % 18446744073709551616 : Nat) : Int) % 2 = 1 := by simpa using h4
    refine ⟨sg b m, ⟨by rw [sg_abs]; exact g2, h2, h3, fun h => ?_, fun _ => ?_⟩, ?_⟩
    · cases b <;> simp only [sg] at h <;> omega
    · cases b <;> simp only [sg] <;> omega
    · unfold Dy DY
      rw [sg_abs]
      congr 4
      cases b
      · simp only [sg]; exact (decide_eq_false (by omega)).symm
      · simp only [sg]; exact (decide_eq_true (by omega)).symm
theorem bv_eq {a b : Bool} (h : a = b) : PV.val (.bool a) = PV.val (.bool b) := by rw [h]
theorem r_docforml (l : List Int) : FC Tryz.prog G 73 [.ws .u64 l] (· = .val (.bool (formL l))) := by
  refine FC.intro (X := XX) tok Tryz.func73 rfl Tryz.ntmps73 (by rw [Tryz.results73]) (by kernel_rfl) rfl ?_; intro F hG hO
  repeat' ((try (conv => whnf)); first
  
  | (with_reducible refine Chk.mk' (by first | omega | exact trivial | (simp only [List.length_append, List.length_set, List.length_replicate, List.length_take, List.length_drop, List.length_cons, List.length_nil, List.length_map]; omega)) ?_)
  | (with_reducible refine wrap_g (by dsimp only [inR]; omega) ?_)
  | (with_reducible refine idx_g (by omega) ?_)
  | (with_reducible refine idx_l _ rfl (by decide) ?_)
  | (with_reducible refine BothG.mk ?_ ?_)
  | (with_reducible refine fork_tt ?_) | (with_reducible refine fork_ff ?_)
  | (with_reducible refine fork_e (c := true) (by decide) ?_; with_reducible refine fork_tt ?_) | (with_reducible refine fork_e (c := false) (by decide) ?_; with_reducible refine fork_ff ?_)
  | (with_reducible refine fork_t (by omega) ?_) | (with_reducible refine fork_f (by omega) ?_)
  | (with_reducible refine fork_d ?_ ?_ <;> intro hc)
  | (with_reducible refine fork_n ?_)
  | (with_reducible refine fork_b ?_ ?_ <;> intro hc)
  | (with_reducible refine SlcG.mk (by omega) ?_)
  | (with_reducible refine MakG.mk (by dsimp only; omega) ?_)
  | (with_reducible refine AppG.mk (by first | omega | (simp only [List.length_append, List.length_set, List.length_replicate, List.length_take, List.length_drop, List.length_cons, List.length_nil, List.length_map]; omega)) (by dsimp only [List.length_cons, List.length_nil]; omega) (by omega) ?_)
  | (with_reducible refine div_g (by omega) (by omega) (by dsimp only [inR]; omega) ?_)
  | (with_reducible refine mod_g (by omega) (by omega) ?_)
  | (with_reducible refine mask_g (m := 4294967296) 32 rfl rfl (by decide) (by omega) ?_)
  | (with_reducible refine shr_g (m := 4294967296) 32 rfl (by decide) (by omega) rfl ?_)
  | (with_reducible refine fz_all (by omega) ?_)
  | (with_reducible refine Stuck.h (A := RetE _ _) ?_) | (with_reducible refine Stuck.h (A := RetM _ _ _ _) ?_) | (with_reducible refine Stuck.h (A := Again _ _ _ _ _ _ _ _) ?_) | (with_reducible refine Stuck.h (A := CallF _ _ _ _ _ _ _) ?_) | (with_reducible refine Stuck.h (A := LoopG _ _ _ _ _ _ _ _) ?_) | (with_reducible refine Stuck.h (A := DrawG _ _ _ _ _ _ _ _) ?_)
  | (with_reducible refine Stuck.h (A := WrapG _ _ _) ?_) | (with_reducible refine Stuck.h (A := DivG _ _ _ _) ?_) | (with_reducible refine Stuck.h (A := ModG _ _ _) ?_) | (with_reducible refine Stuck.h (A := ShlG _ _ _ _) ?_) | (with_reducible refine Stuck.h (A := ShrG _ _ _ _) ?_) | (with_reducible refine Stuck.h (A := BitG _ _ _ _ _) ?_)
  | (with_reducible refine Stuck.h (A := IdxG _ _ _) ?_) | (with_reducible refine Stuck.h (A := IdxL _ _ _) ?_) | (with_reducible refine Stuck.h (A := SlcG _ _ _ _ _) ?_) | (with_reducible refine Stuck.h (A := MakG _ _ _ _) ?_) | (with_reducible refine Stuck.h (A := AppG _ _ _ _ _ _ _) ?_) | (with_reducible refine Stuck.h (A := FzG _ _ _ _) ?_)
  | (with_reducible refine Stuck.h (A := RawG _) ?_) | (with_reducible refine Stuck.h (A := TabG _ _ _ _ _) ?_) | (with_reducible refine Stuck.h (A := ExtF _ _ _ _) ?_) | (with_reducible refine Stuck.h (A := Chk _ _) ?_) | (with_reducible refine Stuck.h (A := False) ?_))
  · refine ⟨ret_e (bv_eq ?_)⟩
    unfold formL
    rw [decide_eq_true (show l.length ≤ 8192 by omega), decide_eq_true (show l.length = 0 by omega)]; rfl
  · refine ⟨ret_e (bv_eq ?_)⟩
    unfold formL
    rw [decide_eq_true (show l.length ≤ 8192 by omega), decide_eq_false (show ¬ l.length = 0 by omega)]; rfl
  · refine ⟨ret_e (bv_eq ?_)⟩
    unfold formL
    rw [decide_eq_false (show ¬ l.length ≤ 8192 by omega)]; rfl
theorem r_twinl (l : List Int) (h : l.length ≤ 17592186044415) : FC Tryz.prog G 141 [.ws .u64 l] (· = .ws .u64 l) := by
  refine FC.intro (X := XX) tok Tryz.func141 rfl Tryz.ntmps141 (by rw [Tryz.results141]) (by kernel_rfl) rfl ?_; intro F hG hO
  repeat' ((try (conv => whnf)); first
  
  | (with_reducible refine Chk.mk' (by first | omega | exact trivial | (simp only [List.length_append, List.length_set, List.length_replicate, List.length_take, List.length_drop, List.length_cons, List.length_nil, List.length_map]; omega)) ?_)
  | (with_reducible refine wrap_g (by dsimp only [inR]; omega) ?_)
  | (with_reducible refine idx_g (by omega) ?_)
  | (with_reducible refine idx_l _ rfl (by decide) ?_)
  | (with_reducible refine BothG.mk ?_ ?_)
  | (with_reducible refine fork_tt ?_) | (with_reducible refine fork_ff ?_)
  | (with_reducible refine fork_e (c := true) (by decide) ?_; with_reducible refine fork_tt ?_) | (with_reducible refine fork_e (c := false) (by decide) ?_; with_reducible refine fork_ff ?_)
  | (with_reducible refine fork_t (by omega) ?_) | (with_reducible refine fork_f (by omega) ?_)
  | (with_reducible refine fork_d ?_ ?_ <;> intro hc)
  | (with_reducible refine fork_n ?_)
  | (with_reducible refine fork_b ?_ ?_ <;> intro hc)
  | (with_reducible refine SlcG.mk (by omega) ?_)
  | (with_reducible refine MakG.mk (by dsimp only; omega) ?_)
  | (with_reducible refine AppG.mk (by first | omega | (simp only [List.length_append, List.length_set, List.length_replicate, List.length_take, List.length_drop, List.length_cons, List.length_nil, List.length_map]; omega)) (by dsimp only [List.length_cons, List.length_nil]; omega) (by omega) ?_)
  | (with_reducible refine div_g (by omega) (by omega) (by dsimp only [inR]; omega) ?_)
  | (with_reducible refine mod_g (by omega) (by omega) ?_)
  | (with_reducible refine mask_g (m := 4294967296) 32 rfl rfl (by decide) (by omega) ?_)
  | (with_reducible refine shr_g (m := 4294967296) 32 rfl (by decide) (by omega) rfl ?_)
  | (with_reducible refine fz_all (by omega) ?_)
  | (with_reducible refine Stuck.h (A := RetE _ _) ?_) | (with_reducible refine Stuck.h (A := RetM _ _ _ _) ?_) | (with_reducible refine Stuck.h (A := Again _ _ _ _ _ _ _ _) ?_) | (with_reducible refine Stuck.h (A := CallF _ _ _ _ _ _ _) ?_) | (with_reducible refine Stuck.h (A := LoopG _ _ _ _ _ _ _ _) ?_) | (with_reducible refine Stuck.h (A := DrawG _ _ _ _ _ _ _ _) ?_)
  | (with_reducible refine Stuck.h (A := WrapG _ _ _) ?_) | (with_reducible refine Stuck.h (A := DivG _ _ _ _) ?_) | (with_reducible refine Stuck.h (A := ModG _ _ _) ?_) | (with_reducible refine Stuck.h (A := ShlG _ _ _ _) ?_) | (with_reducible refine Stuck.h (A := ShrG _ _ _ _) ?_) | (with_reducible refine Stuck.h (A := BitG _ _ _ _ _) ?_)
  | (with_reducible refine Stuck.h (A := IdxG _ _ _) ?_) | (with_reducible refine Stuck.h (A := IdxL _ _ _) ?_) | (with_reducible refine Stuck.h (A := SlcG _ _ _ _ _) ?_) | (with_reducible refine Stuck.h (A := MakG _ _ _ _) ?_) | (with_reducible refine Stuck.h (A := AppG _ _ _ _ _ _ _) ?_) | (with_reducible refine Stuck.h (A := FzG _ _ _ _) ?_)
  | (with_reducible refine Stuck.h (A := RawG _) ?_) | (with_reducible refine Stuck.h (A := TabG _ _ _ _ _) ?_) | (with_reducible refine Stuck.h (A := ExtF _ _ _ _) ?_) | (with_reducible refine Stuck.h (A := Chk _ _) ?_) | (with_reducible refine Stuck.h (A := False) ?_))
  refine ⟨⟨by simp, ret_e ?_⟩⟩
  simp
theorem r_docform (b : Bool) (l : List Int) (e : Int) (hb : 0 ≤ rd l 0 ∧ rd l 0 < 18446744073709551616) : FC Tryz.prog G 36 [Dy b l e] (· = .val (.bool (dyF b l e))) := by
  have f1 := r_docforml (G := G) l
  refine FC.intro (X := XX) tok Tryz.func36 rfl Tryz.ntmps36 (by rw [Tryz.results36]) (by kernel_rfl) rfl ?_; intro F hG hO
  rw [← hG] at f1
  repeat' ((try (conv => whnf)); first
  | ((with_reducible refine cg ?_); refine call_eq f1 (LpL.refl _) rfl ?_)
  | (with_reducible refine mask_g (m := 2) 1 rfl rfl (by decide) hb ?_)
  
  | (with_reducible refine Chk.mk' (by first | omega | exact trivial | (simp only [List.length_append, List.length_set, List.length_replicate, List.length_take, List.length_drop, List.length_cons, List.length_nil, List.length_map]; omega)) ?_)
  | (with_reducible refine wrap_g (by dsimp only [inR]; omega) ?_)
  | (with_reducible refine idx_g (by omega) ?_)
  | (with_reducible refine idx_l _ rfl (by decide) ?_)
  | (with_reducible refine BothG.mk ?_ ?_)
  | (with_reducible refine fork_tt ?_) | (with_reducible refine fork_ff ?_)
  | (with_reducible refine fork_e (c := true) (by decide) ?_; with_reducible refine fork_tt ?_) | (with_reducible refine fork_e (c := false) (by decide) ?_; with_reducible refine fork_ff ?_)
  | (with_reducible refine fork_t (by omega) ?_) | (with_reducible refine fork_f (by omega) ?_)
  | (with_reducible refine fork_d ?_ ?_ <;> intro hc)
  | (with_reducible refine fork_n ?_)
  | (with_reducible refine fork_b ?_ ?_ <;> intro hc)
  | (with_reducible refine SlcG.mk (by omega) ?_)
  | (with_reducible refine MakG.mk (by dsimp only; omega) ?_)
  | (with_reducible refine AppG.mk (by first | omega | (simp only [List.length_append, List.length_set, List.length_replicate, List.length_take, List.length_drop, List.length_cons, List.length_nil, List.length_map]; omega)) (by dsimp only [List.length_cons, List.length_nil]; omega) (by omega) ?_)
  | (with_reducible refine div_g (by omega) (by omega) (by dsimp only [inR]; omega) ?_)
  | (with_reducible refine mod_g (by omega) (by omega) ?_)
  | (with_reducible refine mask_g (m := 4294967296) 32 rfl rfl (by decide) (by omega) ?_)
  | (with_reducible refine shr_g (m := 4294967296) 32 rfl (by decide) (by omega) rfl ?_)
  | (with_reducible refine fz_all (by omega) ?_)
  | (with_reducible refine Stuck.h (A := RetE _ _) ?_) | (with_reducible refine Stuck.h (A := RetM _ _ _ _) ?_) | (with_reducible refine Stuck.h (A := Again _ _ _ _ _ _ _ _) ?_) | (with_reducible refine Stuck.h (A := CallF _ _ _ _ _ _ _) ?_) | (with_reducible refine Stuck.h (A := LoopG _ _ _ _ _ _ _ _) ?_) | (with_reducible refine Stuck.h (A := DrawG _ _ _ _ _ _ _ _) ?_)
  | (with_reducible refine Stuck.h (A := WrapG _ _ _) ?_) | (with_reducible refine Stuck.h (A := DivG _ _ _ _) ?_) | (with_reducible refine Stuck.h (A := ModG _ _ _) ?_) | (with_reducible refine Stuck.h (A := ShlG _ _ _ _) ?_) | (with_reducible refine Stuck.h (A := ShrG _ _ _ _) ?_) | (with_reducible refine Stuck.h (A := BitG _ _ _ _ _) ?_)
  | (with_reducible refine Stuck.h (A := IdxG _ _ _) ?_) | (with_reducible refine Stuck.h (A := IdxL _ _ _) ?_) | (with_reducible refine Stuck.h (A := SlcG _ _ _ _ _) ?_) | (with_reducible refine Stuck.h (A := MakG _ _ _ _) ?_) | (with_reducible refine Stuck.h (A := AppG _ _ _ _ _ _ _) ?_) | (with_reducible refine Stuck.h (A := FzG _ _ _ _) ?_)
  | (with_reducible refine Stuck.h (A := RawG _) ?_) | (with_reducible refine Stuck.h (A := TabG _ _ _ _ _) ?_) | (with_reducible refine Stuck.h (A := ExtF _ _ _ _) ?_) | (with_reducible refine Stuck.h (A := Chk _ _) ?_) | (with_reducible refine Stuck.h (A := False) ?_))
  all_goals (refine ⟨ret_e (bv_eq ?_)⟩; unfold dyF)
  · rename_i a1
    rw [a1, decide_eq_false (show ¬ -1048576 ≤ e by omega)]; try rfl
  · rename_i a1 a2
    rw [a1, decide_eq_true (show -1048576 ≤ e by omega), decide_eq_false (show ¬ e ≤ 1048576 by omega)]; try rfl
  · rename_i a1 a2 a3 a4
    rw [a1, hc, decide_eq_true (show -1048576 ≤ e by omega), decide_eq_true (show e ≤ 1048576 by omega), if_pos (show l.length = 0 by omega)]; try rfl
  · rename_i a1 a2 a3 a4
    rw [a1, hc, decide_eq_true (show -1048576 ≤ e by omega), decide_eq_true (show e ≤ 1048576 by omega), if_pos (show l.length = 0 by omega)]; try rfl
  · rename_i a1 a2 a3
    rw [a1, decide_eq_true (show -1048576 ≤ e by omega), decide_eq_true (show e ≤ 1048576 by omega), if_neg (show ¬ l.length = 0 by omega)]; try rfl
  · rw [hc]; try rfl
end Go.Proofs.YtbeocnjlepcglaaGreatDoor.Sim
namespace Go.Proofs.YtbeocnjlepcglaaGreatDoor.Sim
open Go.RowKit
set_option linter.unusedVariables false
set_option linter.unusedSimpArgs false
set_option maxRecDepth 10000
set_option maxHeartbeats 8000000
variable {G : List (Nat × List Value)}
def dyR (n e : Int) : PV := .tup [DY n e, .val (.int .i64 0)]
def dyE (c : Int) : PV := .tup [DY 0 0, .val (.int .i64 c)]
/-- n * 2^e in form, as the document has it. -/
def toldS (n e : Int) : PV :=
  if n = 0 then dyE 0 else if 1048576 < e then dyE 5 else if e < -1099511627776 then dyE 5 else if 16384 < L32 (n.natAbs / 2 ^ tz n.natAbs) then dyE 5
  else if e + tz n.natAbs < -1048576 then dyE 5 else if 1048576 < e + tz n.natAbs then dyE 5 else dyR (n / 2 ^ tz n.natAbs) (e + tz n.natAbs)
theorem d64_0 : d64 0 = [] := dgs_nil (B := 18446744073709551616) (by decide)
theorem DY_zero : DY 0 0 = .agg [.val (.bool false), .ws .u64 [], .val (.int .i64 0)] := by
  unfold DY
  rw [show d64 (Int.natAbs 0) = [] from d64_0]
  rfl
theorem lp_dy0 : Lp (.agg [.val (.bool false), .nil, .val (.int .i64 0)]) (DY 0 0) := by
  rw [DY_zero]
  exact .agg (.cons (.refl _) (.cons (.nil _) (.cons (.refl _) .nil)))
theorem lp_dyE (c : Int) : Lp (.tup [.agg [.val (.bool false), .nil, .val (.int .i64 0)], .val (.int .i64 c)]) (dyE c) := .tup (.cons lp_dy0 (.cons (.refl _) .nil))
theorem r_nought (b : Bool) (l : List Int) (e : Int) : FC Tryz.prog G 16 [Dy b l e] (· = .val (.bool (decide ((l.length : Int) = 0)))) := by
  refine FC.intro (X := XX) tok Tryz.func16 rfl Tryz.ntmps16 (by rw [Tryz.results16]) (by kernel_rfl) rfl ?_; intro F hG hO
  repeat' ((try (conv => whnf)); first
  
  | (with_reducible refine Chk.mk' (by first | omega | exact trivial | (simp only [List.length_append, List.length_set, List.length_replicate, List.length_take, List.length_drop, List.length_cons, List.length_nil, List.length_map]; omega)) ?_)
  | (with_reducible refine wrap_g (by dsimp only [inR]; omega) ?_)
  | (with_reducible refine idx_g (by omega) ?_)
  | (with_reducible refine idx_l _ rfl (by decide) ?_)
  | (with_reducible refine BothG.mk ?_ ?_)
  | (with_reducible refine fork_tt ?_) | (with_reducible refine fork_ff ?_)
  | (with_reducible refine fork_e (c := true) (by decide) ?_; with_reducible refine fork_tt ?_) | (with_reducible refine fork_e (c := false) (by decide) ?_; with_reducible refine fork_ff ?_)
  | (with_reducible refine fork_t (by omega) ?_) | (with_reducible refine fork_f (by omega) ?_)
  | (with_reducible refine fork_d ?_ ?_ <;> intro hc)
  | (with_reducible refine fork_n ?_)
  | (with_reducible refine fork_b ?_ ?_ <;> intro hc)
  | (with_reducible refine SlcG.mk (by omega) ?_)
  | (with_reducible refine MakG.mk (by dsimp only; omega) ?_)
  | (with_reducible refine AppG.mk (by first | omega | (simp only [List.length_append, List.length_set, List.length_replicate, List.length_take, List.length_drop, List.length_cons, List.length_nil, List.length_map]; omega)) (by dsimp only [List.length_cons, List.length_nil]; omega) (by omega) ?_)
  | (with_reducible refine div_g (by omega) (by omega) (by dsimp only [inR]; omega) ?_)
  | (with_reducible refine mod_g (by omega) (by omega) ?_)
  | (with_reducible refine mask_g (m := 4294967296) 32 rfl rfl (by decide) (by omega) ?_)
  | (with_reducible refine shr_g (m := 4294967296) 32 rfl (by decide) (by omega) rfl ?_)
  | (with_reducible refine fz_all (by omega) ?_)
  | (with_reducible refine Stuck.h (A := RetE _ _) ?_) | (with_reducible refine Stuck.h (A := RetM _ _ _ _) ?_) | (with_reducible refine Stuck.h (A := Again _ _ _ _ _ _ _ _) ?_) | (with_reducible refine Stuck.h (A := CallF _ _ _ _ _ _ _) ?_) | (with_reducible refine Stuck.h (A := LoopG _ _ _ _ _ _ _ _) ?_) | (with_reducible refine Stuck.h (A := DrawG _ _ _ _ _ _ _ _) ?_)
  | (with_reducible refine Stuck.h (A := WrapG _ _ _) ?_) | (with_reducible refine Stuck.h (A := DivG _ _ _ _) ?_) | (with_reducible refine Stuck.h (A := ModG _ _ _) ?_) | (with_reducible refine Stuck.h (A := ShlG _ _ _ _) ?_) | (with_reducible refine Stuck.h (A := ShrG _ _ _ _) ?_) | (with_reducible refine Stuck.h (A := BitG _ _ _ _ _) ?_)
  | (with_reducible refine Stuck.h (A := IdxG _ _ _) ?_) | (with_reducible refine Stuck.h (A := IdxL _ _ _) ?_) | (with_reducible refine Stuck.h (A := SlcG _ _ _ _ _) ?_) | (with_reducible refine Stuck.h (A := MakG _ _ _ _) ?_) | (with_reducible refine Stuck.h (A := AppG _ _ _ _ _ _ _) ?_) | (with_reducible refine Stuck.h (A := FzG _ _ _ _) ?_)
  | (with_reducible refine Stuck.h (A := RawG _) ?_) | (with_reducible refine Stuck.h (A := TabG _ _ _ _ _) ?_) | (with_reducible refine Stuck.h (A := ExtF _ _ _ _) ?_) | (with_reducible refine Stuck.h (A := Chk _ _) ?_) | (with_reducible refine Stuck.h (A := False) ?_))
  exact ⟨ret_e rfl⟩
theorem r_twin (b : Bool) (l : List Int) (e : Int) (h : l.length ≤ 17592186044415) : FC Tryz.prog G 105 [Dy b l e] (· = Dy b l e) := by
  have f1 := r_twinl (G := G) l h
  refine FC.intro (X := XX) tok Tryz.func105 rfl Tryz.ntmps105 (by rw [Tryz.results105]) (by kernel_rfl) rfl ?_; intro F hG hO
  rw [← hG] at f1
  repeat' ((try (conv => whnf)); first
  | ((with_reducible refine cg ?_); refine call_eq f1 (LpL.refl _) rfl ?_)
  
  | (with_reducible refine draw_g (id := 1) [[0, 1, 2, 3, 4, 5, 8, 9, 6, 7, 10], [11]] tok mixed (by kernel_rfl) ?_)
  | (with_reducible refine Chk.mk' (by first | omega | exact trivial | (simp only [List.length_append, List.length_set, List.length_replicate, List.length_take, List.length_drop, List.length_cons, List.length_nil, List.length_map]; omega)) ?_)
  | (with_reducible refine wrap_g (by dsimp only [inR]; omega) ?_)
  | (with_reducible refine idx_g (by omega) ?_)
  | (with_reducible refine idx_l _ rfl (by decide) ?_)
  | (with_reducible refine BothG.mk ?_ ?_)
  | (with_reducible refine fork_tt ?_) | (with_reducible refine fork_ff ?_)
  | (with_reducible refine fork_e (c := true) (by decide) ?_; with_reducible refine fork_tt ?_) | (with_reducible refine fork_e (c := false) (by decide) ?_; with_reducible refine fork_ff ?_)
  | (with_reducible refine fork_t (by omega) ?_) | (with_reducible refine fork_f (by omega) ?_)
  | (with_reducible refine fork_d ?_ ?_ <;> intro hc)
  | (with_reducible refine fork_n ?_)
  | (with_reducible refine fork_b ?_ ?_ <;> intro hc)
  | (with_reducible refine SlcG.mk (by omega) ?_)
  | (with_reducible refine MakG.mk (by dsimp only; omega) ?_)
  | (with_reducible refine AppG.mk (by first | omega | (simp only [List.length_append, List.length_set, List.length_replicate, List.length_take, List.length_drop, List.length_cons, List.length_nil, List.length_map]; omega)) (by dsimp only [List.length_cons, List.length_nil]; omega) (by omega) ?_)
  | (with_reducible refine div_g (by omega) (by omega) (by dsimp only [inR]; omega) ?_)
  | (with_reducible refine mod_g (by omega) (by omega) ?_)
  | (with_reducible refine mask_g (m := 4294967296) 32 rfl rfl (by decide) (by omega) ?_)
  | (with_reducible refine shr_g (m := 4294967296) 32 rfl (by decide) (by omega) rfl ?_)
  | (with_reducible refine fz_all (by omega) ?_)
  | (with_reducible refine Stuck.h (A := RetE _ _) ?_) | (with_reducible refine Stuck.h (A := RetM _ _ _ _) ?_) | (with_reducible refine Stuck.h (A := Again _ _ _ _ _ _ _ _) ?_) | (with_reducible refine Stuck.h (A := CallF _ _ _ _ _ _ _) ?_) | (with_reducible refine Stuck.h (A := LoopG _ _ _ _ _ _ _ _) ?_) | (with_reducible refine Stuck.h (A := DrawG _ _ _ _ _ _ _ _) ?_)
  | (with_reducible refine Stuck.h (A := WrapG _ _ _) ?_) | (with_reducible refine Stuck.h (A := DivG _ _ _ _) ?_) | (with_reducible refine Stuck.h (A := ModG _ _ _) ?_) | (with_reducible refine Stuck.h (A := ShlG _ _ _ _) ?_) | (with_reducible refine Stuck.h (A := ShrG _ _ _ _) ?_) | (with_reducible refine Stuck.h (A := BitG _ _ _ _ _) ?_)
  | (with_reducible refine Stuck.h (A := IdxG _ _ _) ?_) | (with_reducible refine Stuck.h (A := IdxL _ _ _) ?_) | (with_reducible refine Stuck.h (A := SlcG _ _ _ _ _) ?_) | (with_reducible refine Stuck.h (A := MakG _ _ _ _) ?_) | (with_reducible refine Stuck.h (A := AppG _ _ _ _ _ _ _) ?_) | (with_reducible refine Stuck.h (A := FzG _ _ _ _) ?_)
  | (with_reducible refine Stuck.h (A := RawG _) ?_) | (with_reducible refine Stuck.h (A := TabG _ _ _ _ _) ?_) | (with_reducible refine Stuck.h (A := ExtF _ _ _ _) ?_) | (with_reducible refine Stuck.h (A := Chk _ _) ?_) | (with_reducible refine Stuck.h (A := False) ?_))
  exact ⟨ret_e rfl⟩
def sameB (b : Bool) (l : List Int) (e : Int) (b' : Bool) (l' : List Int) (e' : Int) : Bool := (b == b') && decide (e = e') && decide (l = l')
theorem r_dsame (b : Bool) (l : List Int) (e : Int) (b' : Bool) (l' : List Int) (e' : Int) (h : l.length ≤ 1099511627776) : FC Tryz.prog G 20 [Dy b l e, Dy b' l' e'] (· = .val (.bool (sameB b l e b' l' e'))) := by
  have f1 := r_same (G := G) l l' h
  refine FC.intro (X := XX) tok Tryz.func20 rfl Tryz.ntmps20 (by rw [Tryz.results20]) (by kernel_rfl) rfl ?_; intro F hG hO
  rw [← hG] at f1
  repeat' ((try (conv => whnf)); first
  | ((with_reducible refine cg ?_); refine call_eq f1 (LpL.refl _) rfl ?_)
  
  | (with_reducible refine Chk.mk' (by first | omega | exact trivial | (simp only [List.length_append, List.length_set, List.length_replicate, List.length_take, List.length_drop, List.length_cons, List.length_nil, List.length_map]; omega)) ?_)
  | (with_reducible refine wrap_g (by dsimp only [inR]; omega) ?_)
  | (with_reducible refine idx_g (by omega) ?_)
  | (with_reducible refine idx_l _ rfl (by decide) ?_)
  | (with_reducible refine BothG.mk ?_ ?_)
  | (with_reducible refine fork_tt ?_) | (with_reducible refine fork_ff ?_)
  | (with_reducible refine fork_e (c := true) (by decide) ?_; with_reducible refine fork_tt ?_) | (with_reducible refine fork_e (c := false) (by decide) ?_; with_reducible refine fork_ff ?_)
  | (with_reducible refine fork_t (by omega) ?_) | (with_reducible refine fork_f (by omega) ?_)
  | (with_reducible refine fork_d ?_ ?_ <;> intro hc)
  | (with_reducible refine fork_n ?_)
  | (with_reducible refine fork_b ?_ ?_ <;> intro hc)
  | (with_reducible refine SlcG.mk (by omega) ?_)
  | (with_reducible refine MakG.mk (by dsimp only; omega) ?_)
  | (with_reducible refine AppG.mk (by first | omega | (simp only [List.length_append, List.length_set, List.length_replicate, List.length_take, List.length_drop, List.length_cons, List.length_nil, List.length_map]; omega)) (by dsimp only [List.length_cons, List.length_nil]; omega) (by omega) ?_)
  | (with_reducible refine div_g (by omega) (by omega) (by dsimp only [inR]; omega) ?_)
  | (with_reducible refine mod_g (by omega) (by omega) ?_)
  | (with_reducible refine mask_g (m := 4294967296) 32 rfl rfl (by decide) (by omega) ?_)
  | (with_reducible refine shr_g (m := 4294967296) 32 rfl (by decide) (by omega) rfl ?_)
  | (with_reducible refine fz_all (by omega) ?_)
  | (with_reducible refine Stuck.h (A := RetE _ _) ?_) | (with_reducible refine Stuck.h (A := RetM _ _ _ _) ?_) | (with_reducible refine Stuck.h (A := Again _ _ _ _ _ _ _ _) ?_) | (with_reducible refine Stuck.h (A := CallF _ _ _ _ _ _ _) ?_) | (with_reducible refine Stuck.h (A := LoopG _ _ _ _ _ _ _ _) ?_) | (with_reducible refine Stuck.h (A := DrawG _ _ _ _ _ _ _ _) ?_)
  | (with_reducible refine Stuck.h (A := WrapG _ _ _) ?_) | (with_reducible refine Stuck.h (A := DivG _ _ _ _) ?_) | (with_reducible refine Stuck.h (A := ModG _ _ _) ?_) | (with_reducible refine Stuck.h (A := ShlG _ _ _ _) ?_) | (with_reducible refine Stuck.h (A := ShrG _ _ _ _) ?_) | (with_reducible refine Stuck.h (A := BitG _ _ _ _ _) ?_)
  | (with_reducible refine Stuck.h (A := IdxG _ _ _) ?_) | (with_reducible refine Stuck.h (A := IdxL _ _ _) ?_) | (with_reducible refine Stuck.h (A := SlcG _ _ _ _ _) ?_) | (with_reducible refine Stuck.h (A := MakG _ _ _ _) ?_) | (with_reducible refine Stuck.h (A := AppG _ _ _ _ _ _ _) ?_) | (with_reducible refine Stuck.h (A := FzG _ _ _ _) ?_)
  | (with_reducible refine Stuck.h (A := RawG _) ?_) | (with_reducible refine Stuck.h (A := TabG _ _ _ _ _) ?_) | (with_reducible refine Stuck.h (A := ExtF _ _ _ _) ?_) | (with_reducible refine Stuck.h (A := Chk _ _) ?_) | (with_reducible refine Stuck.h (A := False) ?_))
  all_goals (refine ⟨ret_e (bv_eq ?_)⟩; unfold sameB)
  · rename_i a1; rw [a1, decide_eq_true hc]; simp
  · rw [decide_eq_false hc]; simp
  · rw [hc]; simp
theorem tz_lt {n : Nat} (h : n ≠ 0) : tz n < 32 * L32 n := by
  obtain ⟨h1, h2⟩ := odd_div h
  have h3 := L32_lt n
  have h4 : 2 ^ tz n ≤ n := by
    have h5 : 1 ≤ n / 2 ^ tz n := by
      rcases Nat.eq_zero_or_pos (n / 2 ^ tz n) with h5 | h5
      · rw [h5] at h2; cases h2
      · exact h5
    have h6 : 1 * 2 ^ tz n ≤ n / 2 ^ tz n * 2 ^ tz n := Nat.mul_le_mul_right _ h5
    rw [← h1, Nat.one_mul] at h6
    exact h6
  exact (Nat.pow_lt_pow_iff_right (a := 2) (by decide)).1 (Nat.lt_of_le_of_lt h4 h3)
theorem exact_div {n : Int} {q t : Nat} (h : n.natAbs = q * 2 ^ t) : n / 2 ^ t = sg (decide (n < 0)) q := by
  have h1 := sg_of n
  rw [h, sg_pow] at h1
  have hp : (0 : Int) < 2 ^ t := Int.pow_pos (by decide)
  conv => lhs; rw [← h1]
  exact Int.mul_ediv_cancel _ (by omega)
theorem r_told (n e : Int) (hn : LZ n ≤ 268435454) (he : inR .i64 e) : FC Tryz.prog G 53 [ZI n, .val (.int .i64 e)] (· = toldS n e) := by
  dsimp only [inR] at he
  have hz := r_zeros (G := G) n.natAbs (by unfold LZ at hn; omega)
  have hp := len_pos n.natAbs
  have hdv : n ≠ 0 → n.natAbs = n.natAbs / 2 ^ tz n.natAbs * 2 ^ tz n.natAbs ∧ n.natAbs / 2 ^ tz n.natAbs % 2 = 1 := fun h => odd_div (n := n.natAbs) (by omega)
  unfold toldS
  obtain ⟨t, ht⟩ : ∃ t, t = tz n.natAbs := ⟨_, rfl⟩
  rw [← ht] at hz hdv ⊢
  have lq := L32_mono (Nat.div_le_self n.natAbs (2 ^ t))
  have htb : t ≤ 8589934592 := by
    by_cases h : n = 0
    · rw [ht, h]; exact Nat.le_trans (Nat.le_of_eq tz_zero) (by decide)
    · have := tz_lt (n := n.natAbs) (by omega)
      unfold LZ at hn
      omega
  unfold LZ at hn
  have f1 := r_shr (G := G) n.natAbs (t : Int) (by omega) (by dsimp only [inR]; omega)
  rw [Int.toNat_natCast] at f1
  obtain ⟨q, hq⟩ : ∃ q, q = n.natAbs / 2 ^ t := ⟨_, rfl⟩
  rw [← hq] at f1 lq hdv ⊢
  have hql : (d32 q).length = L32 q := rfl
  have f3 := r_zto (G := G) (sg (decide (n < 0)) q) (by unfold LZ; rw [sg_abs]; omega)
  refine by_sign (a := n) (p := fun p => FC _ _ _ [p, _] _) (fun hs => ?_) (fun hs => ?_)
  · have hx := exact_div (n := n) (q := q) (t := t) (by have := hdv (by omega); omega)
    rw [decide_eq_true hs] at f3 hx
    rw [hx]
    have hn0 : n ≠ 0 := by omega
    refine FC.intro (X := XX) tok Tryz.func53 rfl Tryz.ntmps53 (by rw [Tryz.results53]) (by kernel_rfl) rfl ?_; intro F hG hO
    rw [← hG] at hz f1 f3
    repeat' ((try (conv => whnf)); first
  | ((with_reducible refine cg ?_); refine call_eq hz (LpL.refl _) rfl ?_)
  | ((with_reducible refine cg ?_); refine call_eq f1 (LpL.refl _) rfl ?_)
  | ((with_reducible refine cg ?_); refine call_eq (r_mk _ q (by omega)) (LpL.refl _) rfl ?_)
  | ((with_reducible refine cg ?_); refine call_eq f3 (LpL.refl _) rfl ?_)
  
  | (with_reducible refine Chk.mk' (by first | omega | exact trivial | (simp only [List.length_append, List.length_set, List.length_replicate, List.length_take, List.length_drop, List.length_cons, List.length_nil, List.length_map]; omega)) ?_)
  | (with_reducible refine wrap_g (by dsimp only [inR]; omega) ?_)
  | (with_reducible refine idx_g (by omega) ?_)
  | (with_reducible refine idx_l _ rfl (by decide) ?_)
  | (with_reducible refine BothG.mk ?_ ?_)
  | (with_reducible refine fork_tt ?_) | (with_reducible refine fork_ff ?_)
  | (with_reducible refine fork_e (c := true) (by decide) ?_; with_reducible refine fork_tt ?_) | (with_reducible refine fork_e (c := false) (by decide) ?_; with_reducible refine fork_ff ?_)
  | (with_reducible refine fork_t (by omega) ?_) | (with_reducible refine fork_f (by omega) ?_)
  | (with_reducible refine fork_d ?_ ?_ <;> intro hc)
  | (with_reducible refine fork_n ?_)
  | (with_reducible refine fork_b ?_ ?_ <;> intro hc)
  | (with_reducible refine SlcG.mk (by omega) ?_)
  | (with_reducible refine MakG.mk (by dsimp only; omega) ?_)
  | (with_reducible refine AppG.mk (by first | omega | (simp only [List.length_append, List.length_set, List.length_replicate, List.length_take, List.length_drop, List.length_cons, List.length_nil, List.length_map]; omega)) (by dsimp only [List.length_cons, List.length_nil]; omega) (by omega) ?_)
  | (with_reducible refine div_g (by omega) (by omega) (by dsimp only [inR]; omega) ?_)
  | (with_reducible refine mod_g (by omega) (by omega) ?_)
  | (with_reducible refine mask_g (m := 4294967296) 32 rfl rfl (by decide) (by omega) ?_)
  | (with_reducible refine shr_g (m := 4294967296) 32 rfl (by decide) (by omega) rfl ?_)
  | (with_reducible refine fz_all (by omega) ?_)
  | (with_reducible refine Stuck.h (A := RetE _ _) ?_) | (with_reducible refine Stuck.h (A := RetM _ _ _ _) ?_) | (with_reducible refine Stuck.h (A := Again _ _ _ _ _ _ _ _) ?_) | (with_reducible refine Stuck.h (A := CallF _ _ _ _ _ _ _) ?_) | (with_reducible refine Stuck.h (A := LoopG _ _ _ _ _ _ _ _) ?_) | (with_reducible refine Stuck.h (A := DrawG _ _ _ _ _ _ _ _) ?_)
  | (with_reducible refine Stuck.h (A := WrapG _ _ _) ?_) | (with_reducible refine Stuck.h (A := DivG _ _ _ _) ?_) | (with_reducible refine Stuck.h (A := ModG _ _ _) ?_) | (with_reducible refine Stuck.h (A := ShlG _ _ _ _) ?_) | (with_reducible refine Stuck.h (A := ShrG _ _ _ _) ?_) | (with_reducible refine Stuck.h (A := BitG _ _ _ _ _) ?_)
  | (with_reducible refine Stuck.h (A := IdxG _ _ _) ?_) | (with_reducible refine Stuck.h (A := IdxL _ _ _) ?_) | (with_reducible refine Stuck.h (A := SlcG _ _ _ _ _) ?_) | (with_reducible refine Stuck.h (A := MakG _ _ _ _) ?_) | (with_reducible refine Stuck.h (A := AppG _ _ _ _ _ _ _) ?_) | (with_reducible refine Stuck.h (A := FzG _ _ _ _) ?_)
  | (with_reducible refine Stuck.h (A := RawG _) ?_) | (with_reducible refine Stuck.h (A := TabG _ _ _ _ _) ?_) | (with_reducible refine Stuck.h (A := ExtF _ _ _ _) ?_) | (with_reducible refine Stuck.h (A := Chk _ _) ?_) | (with_reducible refine Stuck.h (A := False) ?_))
    all_goals first
      | (exact ⟨ret_l _ (lp_dyE 5) (by repeat (first | rfl | rw [if_neg (by omega)] | rw [if_pos (by omega)]))⟩)
      | (exact ⟨ret_l _ (lp_dyE 0) (by repeat (first | rfl | rw [if_pos (by omega)]))⟩)
      | (refine ⟨ret_e ?_⟩; repeat (first | rfl | rw [if_neg (by omega)]))
  · have hx := exact_div (n := n) (q := q) (t := t) (by by_cases h : n = 0; (rw [hq, h]; simp); (have := hdv h; omega))
    rw [decide_eq_false hs] at f3 hx
    rw [hx]
    refine FC.intro (X := XX) tok Tryz.func53 rfl Tryz.ntmps53 (by rw [Tryz.results53]) (by kernel_rfl) rfl ?_; intro F hG hO
    rw [← hG] at hz f1 f3
    repeat' ((try (conv => whnf)); first
  | ((with_reducible refine cg ?_); refine call_eq hz (LpL.refl _) rfl ?_)
  | ((with_reducible refine cg ?_); refine call_eq f1 (LpL.refl _) rfl ?_)
  | ((with_reducible refine cg ?_); refine call_eq (r_mk _ q (by omega)) (LpL.refl _) rfl ?_)
  | ((with_reducible refine cg ?_); refine call_eq f3 (LpL.refl _) rfl ?_)
  
  | (with_reducible refine Chk.mk' (by first | omega | exact trivial | (simp only [List.length_append, List.length_set, List.length_replicate, List.length_take, List.length_drop, List.length_cons, List.length_nil, List.length_map]; omega)) ?_)
  | (with_reducible refine wrap_g (by dsimp only [inR]; omega) ?_)
  | (with_reducible refine idx_g (by omega) ?_)
  | (with_reducible refine idx_l _ rfl (by decide) ?_)
  | (with_reducible refine BothG.mk ?_ ?_)
  | (with_reducible refine fork_tt ?_) | (with_reducible refine fork_ff ?_)
  | (with_reducible refine fork_e (c := true) (by decide) ?_; with_reducible refine fork_tt ?_) | (with_reducible refine fork_e (c := false) (by decide) ?_; with_reducible refine fork_ff ?_)
  | (with_reducible refine fork_t (by omega) ?_) | (with_reducible refine fork_f (by omega) ?_)
  | (with_reducible refine fork_d ?_ ?_ <;> intro hc)
  | (with_reducible refine fork_n ?_)
  | (with_reducible refine fork_b ?_ ?_ <;> intro hc)
  | (with_reducible refine SlcG.mk (by omega) ?_)
  | (with_reducible refine MakG.mk (by dsimp only; omega) ?_)
  | (with_reducible refine AppG.mk (by first | omega | (simp only [List.length_append, List.length_set, List.length_replicate, List.length_take, List.length_drop, List.length_cons, List.length_nil, List.length_map]; omega)) (by dsimp only [List.length_cons, List.length_nil]; omega) (by omega) ?_)
  | (with_reducible refine div_g (by omega) (by omega) (by dsimp only [inR]; omega) ?_)
  | (with_reducible refine mod_g (by omega) (by omega) ?_)
  | (with_reducible refine mask_g (m := 4294967296) 32 rfl rfl (by decide) (by omega) ?_)
  | (with_reducible refine shr_g (m := 4294967296) 32 rfl (by decide) (by omega) rfl ?_)
  | (with_reducible refine fz_all (by omega) ?_)
  | (with_reducible refine Stuck.h (A := RetE _ _) ?_) | (with_reducible refine Stuck.h (A := RetM _ _ _ _) ?_) | (with_reducible refine Stuck.h (A := Again _ _ _ _ _ _ _ _) ?_) | (with_reducible refine Stuck.h (A := CallF _ _ _ _ _ _ _) ?_) | (with_reducible refine Stuck.h (A := LoopG _ _ _ _ _ _ _ _) ?_) | (with_reducible refine Stuck.h (A := DrawG _ _ _ _ _ _ _ _) ?_)
  | (with_reducible refine Stuck.h (A := WrapG _ _ _) ?_) | (with_reducible refine Stuck.h (A := DivG _ _ _ _) ?_) | (with_reducible refine Stuck.h (A := ModG _ _ _) ?_) | (with_reducible refine Stuck.h (A := ShlG _ _ _ _) ?_) | (with_reducible refine Stuck.h (A := ShrG _ _ _ _) ?_) | (with_reducible refine Stuck.h (A := BitG _ _ _ _ _) ?_)
  | (with_reducible refine Stuck.h (A := IdxG _ _ _) ?_) | (with_reducible refine Stuck.h (A := IdxL _ _ _) ?_) | (with_reducible refine Stuck.h (A := SlcG _ _ _ _ _) ?_) | (with_reducible refine Stuck.h (A := MakG _ _ _ _) ?_) | (with_reducible refine Stuck.h (A := AppG _ _ _ _ _ _ _) ?_) | (with_reducible refine Stuck.h (A := FzG _ _ _ _) ?_)
  | (with_reducible refine Stuck.h (A := RawG _) ?_) | (with_reducible refine Stuck.h (A := TabG _ _ _ _ _) ?_) | (with_reducible refine Stuck.h (A := ExtF _ _ _ _) ?_) | (with_reducible refine Stuck.h (A := Chk _ _) ?_) | (with_reducible refine Stuck.h (A := False) ?_))
    all_goals first
      | (exact ⟨ret_l _ (lp_dyE 5) (by repeat (first | rfl | rw [if_neg (by omega)] | rw [if_pos (by omega)]))⟩)
      | (exact ⟨ret_l _ (lp_dyE 0) (by repeat (first | rfl | rw [if_pos (by omega)]))⟩)
      | (refine ⟨ret_e ?_⟩; repeat (first | rfl | rw [if_neg (by omega)]))
end Go.Proofs.YtbeocnjlepcglaaGreatDoor.Sim
namespace Go.Proofs.YtbeocnjlepcglaaGreatDoor.Sim
open Go.RowKit
set_option linter.unusedVariables false
set_option linter.unusedSimpArgs false
set_option maxRecDepth 10000
set_option maxHeartbeats 8000000
variable {G : List (Nat × List Value)}
theorem n_trim (a : List Int) (hl : a.length ≤ 1152921504606846976) : FC Tryz.prog G 110 [.ws .u64 a] (· = .ws .u64 (trim a)) := by
  refine FC.intro (X := XX) tok Tryz.func110 rfl Tryz.ntmps110 (by rw [Tryz.results110]) (by kernel_rfl) rfl ?_; intro F hG hO
  repeat' ((try (conv => whnf)); first
  | ((with_reducible refine lg ?_); refine loop_g (A := Nat) (fun m => m ≤ a.length ∧ ∀ j : Nat, m ≤ j → rd a j = 0) id (fun m => [(0, .ws .u64 a), (3, .val (.int .i64 (m : Int)))]) (fun _ => []) (fun _ => []) a.length tok (fun _ => ⟨⟨trivial, trivial, trivial⟩, trivial, by simp only [List.length_nil]; omega⟩) ?_ ⟨rfl, rfl, trivial⟩ ⟨[], rfl⟩ ⟨[], rfl⟩ ?_; rotate_left; rintro m ⟨h1, h2⟩)
  
  | (with_reducible refine Chk.mk' (by first | omega | exact trivial | (simp only [List.length_append, List.length_set, List.length_replicate, List.length_take, List.length_drop, List.length_cons, List.length_nil, List.length_map]; omega)) ?_)
  | (with_reducible refine wrap_g (by dsimp only [inR]; omega) ?_)
  | (with_reducible refine idx_g (by omega) ?_)
  | (with_reducible refine idx_l _ rfl (by decide) ?_)
  | (with_reducible refine BothG.mk ?_ ?_)
  | (with_reducible refine fork_tt ?_) | (with_reducible refine fork_ff ?_)
  | (with_reducible refine fork_e (c := true) (by decide) ?_; with_reducible refine fork_tt ?_) | (with_reducible refine fork_e (c := false) (by decide) ?_; with_reducible refine fork_ff ?_)
  | (with_reducible refine fork_t (by omega) ?_) | (with_reducible refine fork_f (by omega) ?_)
  | (with_reducible refine fork_d ?_ ?_ <;> intro hc)
  | (with_reducible refine fork_n ?_)
  | (with_reducible refine fork_b ?_ ?_ <;> intro hc)
  | (with_reducible refine SlcG.mk (by omega) ?_)
  | (with_reducible refine MakG.mk (by dsimp only; omega) ?_)
  | (with_reducible refine AppG.mk (by first | omega | (simp only [List.length_append, List.length_set, List.length_replicate, List.length_take, List.length_drop, List.length_cons, List.length_nil, List.length_map]; omega)) (by dsimp only [List.length_cons, List.length_nil]; omega) (by omega) ?_)
  | (with_reducible refine div_g (by omega) (by omega) (by dsimp only [inR]; omega) ?_)
  | (with_reducible refine mod_g (by omega) (by omega) ?_)
  | (with_reducible refine mask_g (m := 4294967296) 32 rfl rfl (by decide) (by omega) ?_)
  | (with_reducible refine shr_g (m := 4294967296) 32 rfl (by decide) (by omega) rfl ?_)
  | (with_reducible refine fz_all (by omega) ?_)
  | (with_reducible refine Stuck.h (A := RetE _ _) ?_) | (with_reducible refine Stuck.h (A := RetM _ _ _ _) ?_) | (with_reducible refine Stuck.h (A := Again _ _ _ _ _ _ _ _) ?_) | (with_reducible refine Stuck.h (A := CallF _ _ _ _ _ _ _) ?_) | (with_reducible refine Stuck.h (A := LoopG _ _ _ _ _ _ _ _) ?_) | (with_reducible refine Stuck.h (A := DrawG _ _ _ _ _ _ _ _) ?_)
  | (with_reducible refine Stuck.h (A := WrapG _ _ _) ?_) | (with_reducible refine Stuck.h (A := DivG _ _ _ _) ?_) | (with_reducible refine Stuck.h (A := ModG _ _ _) ?_) | (with_reducible refine Stuck.h (A := ShlG _ _ _ _) ?_) | (with_reducible refine Stuck.h (A := ShrG _ _ _ _) ?_) | (with_reducible refine Stuck.h (A := BitG _ _ _ _ _) ?_)
  | (with_reducible refine Stuck.h (A := IdxG _ _ _) ?_) | (with_reducible refine Stuck.h (A := IdxL _ _ _) ?_) | (with_reducible refine Stuck.h (A := SlcG _ _ _ _ _) ?_) | (with_reducible refine Stuck.h (A := MakG _ _ _ _) ?_) | (with_reducible refine Stuck.h (A := AppG _ _ _ _ _ _ _) ?_) | (with_reducible refine Stuck.h (A := FzG _ _ _ _) ?_)
  | (with_reducible refine Stuck.h (A := RawG _) ?_) | (with_reducible refine Stuck.h (A := TabG _ _ _ _ _) ?_) | (with_reducible refine Stuck.h (A := ExtF _ _ _ _) ?_) | (with_reducible refine Stuck.h (A := Chk _ _) ?_) | (with_reducible refine Stuck.h (A := False) ?_))
  · exact ⟨again (m - 1) ⟨by omega, fun j hj => by
      rcases Nat.lt_or_ge j m with hjm | hjm
      · rw [show (j : Int) = m - 1 by omega]; assumption
      · exact h2 j hjm⟩ (by simp only [id]; omega) ⟨rfl, iv_eq (by omega), trivial⟩ ⟨[], rfl⟩ ⟨[], rfl⟩⟩
  · have e : trim a = a.take m := trim_take a m h1 (fun j hj => by simpa [rd] using h2 j hj) (.inr (by
      have : ((m : Int) - 1).toNat = m - 1 := by omega
      simpa [rd, this] using hc))
    exact ⟨ret_e (by rw [e]; simp)⟩
  · have e : trim a = a.take m := trim_take a m h1 (fun j hj => by simpa [rd] using h2 j hj) (.inl (by omega))
    exact ⟨ret_e (by rw [e]; simp)⟩
  · exact ⟨Nat.le_refl _, fun j hj => by simp [rd, List.getD_eq_getElem?_getD, hj]⟩
def natE (c : Int) : PV := .tup [.ws .u64 [], .val (.int .i64 c)]
def natR (X : Nat) : PV := .tup [.ws .u64 (d64 X), .val (.int .i64 0)]
def natL (X : Nat) : List Int := if 8192 < L64 X then [] else d64 X
def natC (X : Nat) : Int := if 8192 < L64 X then 5 else 0
def natT (X : Nat) : PV := .tup [.ws .u64 (natL X), .val (.int .i64 (natC X))]
theorem natT_ok {X : Nat} (h : L64 X ≤ 8192) : natT X = natR X := by unfold natT natL natC; rw [if_neg (by omega), if_neg (by omega)]; rfl
theorem natT_no {X : Nat} (h : 8192 < L64 X) : natT X = natE 5 := by unfold natT natL natC; rw [if_pos h, if_pos h]; rfl
theorem lp_natE (c : Int) : Lp (.tup [.nil, .val (.int .i64 c)]) (natE c) := .tup (.cons (.nil _) (.cons (.refl _) .nil))
theorem trim64 {a : List Int} (ok : okD 18446744073709551616 a) : trim a = d64 (vl 18446744073709551616 a).toNat := trim_dgs (B := 18446744073709551616) (by decide) ok
theorem n_told (a : List Int) (ok : okD 18446744073709551616 a) (hl : a.length ≤ 1152921504606846976) : FC Tryz.prog G 83 [.ws .u64 a] (· = natT (vl 18446744073709551616 a).toNat) := by
  have f1 := n_trim (G := G) a hl
  rw [trim64 ok] at f1
  obtain ⟨X, hX⟩ : ∃ X, X = (vl 18446744073709551616 a).toNat := ⟨_, rfl⟩
  rw [← hX] at f1 ⊢
  have hl : (d64 X).length = L64 X := rfl
  refine FC.intro (X := XX) tok Tryz.func83 rfl Tryz.ntmps83 (by rw [Tryz.results83]) (by kernel_rfl) rfl ?_; intro F hG hO
  rw [← hG] at f1
  repeat' ((try (conv => whnf)); first
  | ((with_reducible refine cg ?_); refine call_eq (f1) (LpL.refl _) rfl ?_)
  
  | (with_reducible refine Chk.mk' (by first | omega | exact trivial | (simp only [List.length_append, List.length_set, List.length_replicate, List.length_take, List.length_drop, List.length_cons, List.length_nil, List.length_map]; omega)) ?_)
  | (with_reducible refine wrap_g (by dsimp only [inR]; omega) ?_)
  | (with_reducible refine idx_g (by omega) ?_)
  | (with_reducible refine idx_l _ rfl (by decide) ?_)
  | (with_reducible refine BothG.mk ?_ ?_)
  | (with_reducible refine fork_tt ?_) | (with_reducible refine fork_ff ?_)
  | (with_reducible refine fork_e (c := true) (by decide) ?_; with_reducible refine fork_tt ?_) | (with_reducible refine fork_e (c := false) (by decide) ?_; with_reducible refine fork_ff ?_)
  | (with_reducible refine fork_t (by omega) ?_) | (with_reducible refine fork_f (by omega) ?_)
  | (with_reducible refine fork_d ?_ ?_ <;> intro hc)
  | (with_reducible refine fork_n ?_)
  | (with_reducible refine fork_b ?_ ?_ <;> intro hc)
  | (with_reducible refine SlcG.mk (by omega) ?_)
  | (with_reducible refine MakG.mk (by dsimp only; omega) ?_)
  | (with_reducible refine AppG.mk (by first | omega | (simp only [List.length_append, List.length_set, List.length_replicate, List.length_take, List.length_drop, List.length_cons, List.length_nil, List.length_map]; omega)) (by dsimp only [List.length_cons, List.length_nil]; omega) (by omega) ?_)
  | (with_reducible refine div_g (by omega) (by omega) (by dsimp only [inR]; omega) ?_)
  | (with_reducible refine mod_g (by omega) (by omega) ?_)
  | (with_reducible refine mask_g (m := 4294967296) 32 rfl rfl (by decide) (by omega) ?_)
  | (with_reducible refine shr_g (m := 4294967296) 32 rfl (by decide) (by omega) rfl ?_)
  | (with_reducible refine fz_all (by omega) ?_)
  | (with_reducible refine Stuck.h (A := RetE _ _) ?_) | (with_reducible refine Stuck.h (A := RetM _ _ _ _) ?_) | (with_reducible refine Stuck.h (A := Again _ _ _ _ _ _ _ _) ?_) | (with_reducible refine Stuck.h (A := CallF _ _ _ _ _ _ _) ?_) | (with_reducible refine Stuck.h (A := LoopG _ _ _ _ _ _ _ _) ?_) | (with_reducible refine Stuck.h (A := DrawG _ _ _ _ _ _ _ _) ?_)
  | (with_reducible refine Stuck.h (A := WrapG _ _ _) ?_) | (with_reducible refine Stuck.h (A := DivG _ _ _ _) ?_) | (with_reducible refine Stuck.h (A := ModG _ _ _) ?_) | (with_reducible refine Stuck.h (A := ShlG _ _ _ _) ?_) | (with_reducible refine Stuck.h (A := ShrG _ _ _ _) ?_) | (with_reducible refine Stuck.h (A := BitG _ _ _ _ _) ?_)
  | (with_reducible refine Stuck.h (A := IdxG _ _ _) ?_) | (with_reducible refine Stuck.h (A := IdxL _ _ _) ?_) | (with_reducible refine Stuck.h (A := SlcG _ _ _ _ _) ?_) | (with_reducible refine Stuck.h (A := MakG _ _ _ _) ?_) | (with_reducible refine Stuck.h (A := AppG _ _ _ _ _ _ _) ?_) | (with_reducible refine Stuck.h (A := FzG _ _ _ _) ?_)
  | (with_reducible refine Stuck.h (A := RawG _) ?_) | (with_reducible refine Stuck.h (A := TabG _ _ _ _ _) ?_) | (with_reducible refine Stuck.h (A := ExtF _ _ _ _) ?_) | (with_reducible refine Stuck.h (A := Chk _ _) ?_) | (with_reducible refine Stuck.h (A := False) ?_))
  · exact ⟨ret_l _ (lp_natE 5) (natT_no (by omega)).symm⟩
  · exact ⟨ret_e (natT_ok (by omega)).symm⟩
theorem n_form (l : List Int) : FC Tryz.prog G 81 [.ws .u64 l] (· = .val (.bool (formL l))) := by
  refine FC.intro (X := XX) tok Tryz.func81 rfl Tryz.ntmps81 (by rw [Tryz.results81]) (by kernel_rfl) rfl ?_; intro F hG hO
  repeat' ((try (conv => whnf)); first
  
  | (with_reducible refine Chk.mk' (by first | omega | exact trivial | (simp only [List.length_append, List.length_set, List.length_replicate, List.length_take, List.length_drop, List.length_cons, List.length_nil, List.length_map]; omega)) ?_)
  | (with_reducible refine wrap_g (by dsimp only [inR]; omega) ?_)
  | (with_reducible refine idx_g (by omega) ?_)
  | (with_reducible refine idx_l _ rfl (by decide) ?_)
  | (with_reducible refine BothG.mk ?_ ?_)
  | (with_reducible refine fork_tt ?_) | (with_reducible refine fork_ff ?_)
  | (with_reducible refine fork_e (c := true) (by decide) ?_; with_reducible refine fork_tt ?_) | (with_reducible refine fork_e (c := false) (by decide) ?_; with_reducible refine fork_ff ?_)
  | (with_reducible refine fork_t (by omega) ?_) | (with_reducible refine fork_f (by omega) ?_)
  | (with_reducible refine fork_d ?_ ?_ <;> intro hc)
  | (with_reducible refine fork_n ?_)
  | (with_reducible refine fork_b ?_ ?_ <;> intro hc)
  | (with_reducible refine SlcG.mk (by omega) ?_)
  | (with_reducible refine MakG.mk (by dsimp only; omega) ?_)
  | (with_reducible refine AppG.mk (by first | omega | (simp only [List.length_append, List.length_set, List.length_replicate, List.length_take, List.length_drop, List.length_cons, List.length_nil, List.length_map]; omega)) (by dsimp only [List.length_cons, List.length_nil]; omega) (by omega) ?_)
  | (with_reducible refine div_g (by omega) (by omega) (by dsimp only [inR]; omega) ?_)
  | (with_reducible refine mod_g (by omega) (by omega) ?_)
  | (with_reducible refine mask_g (m := 4294967296) 32 rfl rfl (by decide) (by omega) ?_)
  | (with_reducible refine shr_g (m := 4294967296) 32 rfl (by decide) (by omega) rfl ?_)
  | (with_reducible refine fz_all (by omega) ?_)
  | (with_reducible refine Stuck.h (A := RetE _ _) ?_) | (with_reducible refine Stuck.h (A := RetM _ _ _ _) ?_) | (with_reducible refine Stuck.h (A := Again _ _ _ _ _ _ _ _) ?_) | (with_reducible refine Stuck.h (A := CallF _ _ _ _ _ _ _) ?_) | (with_reducible refine Stuck.h (A := LoopG _ _ _ _ _ _ _ _) ?_) | (with_reducible refine Stuck.h (A := DrawG _ _ _ _ _ _ _ _) ?_)
  | (with_reducible refine Stuck.h (A := WrapG _ _ _) ?_) | (with_reducible refine Stuck.h (A := DivG _ _ _ _) ?_) | (with_reducible refine Stuck.h (A := ModG _ _ _) ?_) | (with_reducible refine Stuck.h (A := ShlG _ _ _ _) ?_) | (with_reducible refine Stuck.h (A := ShrG _ _ _ _) ?_) | (with_reducible refine Stuck.h (A := BitG _ _ _ _ _) ?_)
  | (with_reducible refine Stuck.h (A := IdxG _ _ _) ?_) | (with_reducible refine Stuck.h (A := IdxL _ _ _) ?_) | (with_reducible refine Stuck.h (A := SlcG _ _ _ _ _) ?_) | (with_reducible refine Stuck.h (A := MakG _ _ _ _) ?_) | (with_reducible refine Stuck.h (A := AppG _ _ _ _ _ _ _) ?_) | (with_reducible refine Stuck.h (A := FzG _ _ _ _) ?_)
  | (with_reducible refine Stuck.h (A := RawG _) ?_) | (with_reducible refine Stuck.h (A := TabG _ _ _ _ _) ?_) | (with_reducible refine Stuck.h (A := ExtF _ _ _ _) ?_) | (with_reducible refine Stuck.h (A := Chk _ _) ?_) | (with_reducible refine Stuck.h (A := False) ?_))
  · refine ⟨ret_e (bv_eq ?_)⟩
    unfold formL
    rw [decide_eq_true (show l.length ≤ 8192 by omega), decide_eq_true (show l.length = 0 by omega)]; rfl
  · refine ⟨ret_e (bv_eq ?_)⟩
    unfold formL
    rw [decide_eq_true (show l.length ≤ 8192 by omega), decide_eq_false (show ¬ l.length = 0 by omega)]; rfl
  · refine ⟨ret_e (bv_eq ?_)⟩
    unfold formL
    rw [decide_eq_false (show ¬ l.length ≤ 8192 by omega)]; rfl
theorem n_formN (X : Nat) (h : L64 X ≤ 8192) : FC Tryz.prog G 81 [.ws .u64 (d64 X)] (· = .val (.bool true)) := by
  have := n_form (G := G) (d64 X)
  rw [formL_d64, decide_eq_true h] at this
  exact this
theorem d64_word (w : Int) (h : 0 < w ∧ w < 18446744073709551616) : d64 w.toNat = [w] := by
  unfold d64
  rw [dgs_cons (by decide) (by omega), show w.toNat / 18446744073709551616 = 0 by omega, dgs_nil (by decide), Nat.mod_eq_of_lt (by omega)]
  congr 1; omega
theorem n_word (w : Int) (h : 0 ≤ w ∧ w < 18446744073709551616) : FC Tryz.prog G 70 [.val (.int .u64 w)] (· = .ws .u64 (d64 w.toNat)) := by
  refine FC.intro (X := XX) tok Tryz.func70 rfl Tryz.ntmps70 (by rw [Tryz.results70]) (by kernel_rfl) rfl ?_; intro F hG hO
  repeat' ((try (conv => whnf)); first
  
  | (with_reducible refine Chk.mk' (by first | omega | exact trivial | (simp only [List.length_append, List.length_set, List.length_replicate, List.length_take, List.length_drop, List.length_cons, List.length_nil, List.length_map]; omega)) ?_)
  | (with_reducible refine wrap_g (by dsimp only [inR]; omega) ?_)
  | (with_reducible refine idx_g (by omega) ?_)
  | (with_reducible refine idx_l _ rfl (by decide) ?_)
  | (with_reducible refine BothG.mk ?_ ?_)
  | (with_reducible refine fork_tt ?_) | (with_reducible refine fork_ff ?_)
  | (with_reducible refine fork_e (c := true) (by decide) ?_; with_reducible refine fork_tt ?_) | (with_reducible refine fork_e (c := false) (by decide) ?_; with_reducible refine fork_ff ?_)
  | (with_reducible refine fork_t (by omega) ?_) | (with_reducible refine fork_f (by omega) ?_)
  | (with_reducible refine fork_d ?_ ?_ <;> intro hc)
  | (with_reducible refine fork_n ?_)
  | (with_reducible refine fork_b ?_ ?_ <;> intro hc)
  | (with_reducible refine SlcG.mk (by omega) ?_)
  | (with_reducible refine MakG.mk (by dsimp only; omega) ?_)
  | (with_reducible refine AppG.mk (by first | omega | (simp only [List.length_append, List.length_set, List.length_replicate, List.length_take, List.length_drop, List.length_cons, List.length_nil, List.length_map]; omega)) (by dsimp only [List.length_cons, List.length_nil]; omega) (by omega) ?_)
  | (with_reducible refine div_g (by omega) (by omega) (by dsimp only [inR]; omega) ?_)
  | (with_reducible refine mod_g (by omega) (by omega) ?_)
  | (with_reducible refine mask_g (m := 4294967296) 32 rfl rfl (by decide) (by omega) ?_)
  | (with_reducible refine shr_g (m := 4294967296) 32 rfl (by decide) (by omega) rfl ?_)
  | (with_reducible refine fz_all (by omega) ?_)
  | (with_reducible refine Stuck.h (A := RetE _ _) ?_) | (with_reducible refine Stuck.h (A := RetM _ _ _ _) ?_) | (with_reducible refine Stuck.h (A := Again _ _ _ _ _ _ _ _) ?_) | (with_reducible refine Stuck.h (A := CallF _ _ _ _ _ _ _) ?_) | (with_reducible refine Stuck.h (A := LoopG _ _ _ _ _ _ _ _) ?_) | (with_reducible refine Stuck.h (A := DrawG _ _ _ _ _ _ _ _) ?_)
  | (with_reducible refine Stuck.h (A := WrapG _ _ _) ?_) | (with_reducible refine Stuck.h (A := DivG _ _ _ _) ?_) | (with_reducible refine Stuck.h (A := ModG _ _ _) ?_) | (with_reducible refine Stuck.h (A := ShlG _ _ _ _) ?_) | (with_reducible refine Stuck.h (A := ShrG _ _ _ _) ?_) | (with_reducible refine Stuck.h (A := BitG _ _ _ _ _) ?_)
  | (with_reducible refine Stuck.h (A := IdxG _ _ _) ?_) | (with_reducible refine Stuck.h (A := IdxL _ _ _) ?_) | (with_reducible refine Stuck.h (A := SlcG _ _ _ _ _) ?_) | (with_reducible refine Stuck.h (A := MakG _ _ _ _) ?_) | (with_reducible refine Stuck.h (A := AppG _ _ _ _ _ _ _) ?_) | (with_reducible refine Stuck.h (A := FzG _ _ _ _) ?_)
  | (with_reducible refine Stuck.h (A := RawG _) ?_) | (with_reducible refine Stuck.h (A := TabG _ _ _ _ _) ?_) | (with_reducible refine Stuck.h (A := ExtF _ _ _ _) ?_) | (with_reducible refine Stuck.h (A := Chk _ _) ?_) | (with_reducible refine Stuck.h (A := False) ?_))
  · exact ⟨ret_l _ (.nil .u64) (by rw [show w = 0 by omega]; rw [show d64 (Int.toNat 0) = [] from d64_0])⟩
  · exact ⟨ret_e (by rw [d64_word w (by omega)])⟩
theorem d64_trim (X : Nat) : trim (d64 X) = d64 X := (dgs_ok (B := 18446744073709551616) (by decide) X).2.2
theorem n_trimN (X : Nat) (hX : L64 X ≤ 1073741824) : FC Tryz.prog G 110 [.ws .u64 (d64 X)] (· = .ws .u64 (d64 X)) := by
  have := n_trim (G := G) (d64 X) (Nat.le_trans hX (by decide))
  rw [d64_trim] at this
  exact this
theorem n_cmp (X Y : Nat) (hX : L64 X ≤ 1073741824) (hY : L64 Y ≤ 1073741824) : FC Tryz.prog G 112 [.ws .u64 (d64 X), .ws .u64 (d64 Y)] (· = .val (.int .i64 (cmpN X Y))) := by
  have f1 := n_trimN (G := G) X hX
  have f2 := n_trimN (G := G) Y hY
  obtain ⟨a, ea⟩ : ∃ a, a = d64 X := ⟨_, rfl⟩
  obtain ⟨b, eb⟩ : ∃ b, b = d64 Y := ⟨_, rfl⟩
  obtain ⟨oka, va⟩ := d64_ok X
  obtain ⟨okb, vb⟩ := d64_ok Y
  replace hX : (d64 X).length ≤ 1073741824 := hX
  replace hY : (d64 Y).length ≤ 1073741824 := hY
  have hlt : Unit → a.length < b.length → X < Y := fun _ h => dgs_lt (B := 18446744073709551616) (by decide) (by rw [ea, eb] at h; exact h)
  have hgt : Unit → b.length < a.length → Y < X := fun _ h => dgs_lt (B := 18446744073709551616) (by decide) (by rw [ea, eb] at h; exact h)
  rw [← ea] at hX oka va f1
  rw [← eb] at hY okb vb f2
  rw [← ea, ← eb]
  refine FC.intro (X := XX) tok Tryz.func112 rfl Tryz.ntmps112 (by rw [Tryz.results112]) (by kernel_rfl) rfl ?_; intro F hG hO
  rw [← hG] at f1 f2
  repeat' ((try (conv => whnf)); first
  | ((with_reducible refine cg ?_); refine call_eq (f1) (LpL.refl _) rfl ?_)
  | ((with_reducible refine cg ?_); refine call_eq (f2) (LpL.refl _) rfl ?_)
  | ((with_reducible refine lg ?_); refine loop_g (A := Nat) (fun m => m ≤ a.length ∧ a.drop m = b.drop m) (fun m => m) (fun m => [(5, .ws .u64 a), (6, .ws .u64 b), (7, .val (.int .i64 ((m : Int) - 1)))]) (fun _ => []) (fun _ => []) a.length tok (fun _ => ⟨⟨trivial, trivial, trivial, trivial⟩, trivial, by simp only [List.length_nil]; omega⟩) ?_ ⟨rfl, rfl, rfl, trivial⟩ ⟨[], rfl⟩ ⟨[], rfl⟩ ?_; rotate_left; rintro m ⟨h1, h2⟩)
  
  | (with_reducible refine draw_g (id := 9) [[0, 1, 2, 3, 4, 5, 6, 7, 8]] tok mixed (by kernel_rfl) ?_)
  | (with_reducible refine draw_g (id := 10) [[0, 1, 2, 3, 4, 5, 6, 7, 8]] tok mixed (by kernel_rfl) ?_)
  | (with_reducible refine Chk.mk' (by first | omega | exact trivial | (simp only [List.length_append, List.length_set, List.length_replicate, List.length_take, List.length_drop, List.length_cons, List.length_nil, List.length_map]; omega)) ?_)
  | (with_reducible refine wrap_g (by dsimp only [inR]; omega) ?_)
  | (with_reducible refine idx_g (by omega) ?_)
  | (with_reducible refine idx_l _ rfl (by decide) ?_)
  | (with_reducible refine BothG.mk ?_ ?_)
  | (with_reducible refine fork_tt ?_) | (with_reducible refine fork_ff ?_)
  | (with_reducible refine fork_e (c := true) (by decide) ?_; with_reducible refine fork_tt ?_) | (with_reducible refine fork_e (c := false) (by decide) ?_; with_reducible refine fork_ff ?_)
  | (with_reducible refine fork_t (by omega) ?_) | (with_reducible refine fork_f (by omega) ?_)
  | (with_reducible refine fork_d ?_ ?_ <;> intro hc)
  | (with_reducible refine fork_n ?_)
  | (with_reducible refine fork_b ?_ ?_ <;> intro hc)
  | (with_reducible refine SlcG.mk (by omega) ?_)
  | (with_reducible refine MakG.mk (by dsimp only; omega) ?_)
  | (with_reducible refine AppG.mk (by first | omega | (simp only [List.length_append, List.length_set, List.length_replicate, List.length_take, List.length_drop, List.length_cons, List.length_nil, List.length_map]; omega)) (by dsimp only [List.length_cons, List.length_nil]; omega) (by omega) ?_)
  | (with_reducible refine div_g (by omega) (by omega) (by dsimp only [inR]; omega) ?_)
  | (with_reducible refine mod_g (by omega) (by omega) ?_)
  | (with_reducible refine mask_g (m := 4294967296) 32 rfl rfl (by decide) (by omega) ?_)
  | (with_reducible refine shr_g (m := 4294967296) 32 rfl (by decide) (by omega) rfl ?_)
  | (with_reducible refine fz_all (by omega) ?_)
  | (with_reducible refine Stuck.h (A := RetE _ _) ?_) | (with_reducible refine Stuck.h (A := RetM _ _ _ _) ?_) | (with_reducible refine Stuck.h (A := Again _ _ _ _ _ _ _ _) ?_) | (with_reducible refine Stuck.h (A := CallF _ _ _ _ _ _ _) ?_) | (with_reducible refine Stuck.h (A := LoopG _ _ _ _ _ _ _ _) ?_) | (with_reducible refine Stuck.h (A := DrawG _ _ _ _ _ _ _ _) ?_)
  | (with_reducible refine Stuck.h (A := WrapG _ _ _) ?_) | (with_reducible refine Stuck.h (A := DivG _ _ _ _) ?_) | (with_reducible refine Stuck.h (A := ModG _ _ _) ?_) | (with_reducible refine Stuck.h (A := ShlG _ _ _ _) ?_) | (with_reducible refine Stuck.h (A := ShrG _ _ _ _) ?_) | (with_reducible refine Stuck.h (A := BitG _ _ _ _ _) ?_)
  | (with_reducible refine Stuck.h (A := IdxG _ _ _) ?_) | (with_reducible refine Stuck.h (A := IdxL _ _ _) ?_) | (with_reducible refine Stuck.h (A := SlcG _ _ _ _ _) ?_) | (with_reducible refine Stuck.h (A := MakG _ _ _ _) ?_) | (with_reducible refine Stuck.h (A := AppG _ _ _ _ _ _ _) ?_) | (with_reducible refine Stuck.h (A := FzG _ _ _ _) ?_)
  | (with_reducible refine Stuck.h (A := RawG _) ?_) | (with_reducible refine Stuck.h (A := TabG _ _ _ _ _) ?_) | (with_reducible refine Stuck.h (A := ExtF _ _ _ _) ?_) | (with_reducible refine Stuck.h (A := Chk _ _) ?_) | (with_reducible refine Stuck.h (A := False) ?_))
  · have h := hlt () (by omega)
    exact ⟨ret_e (by rw [cmpN, if_pos h])⟩
  · have h := hgt () (by omega)
    exact ⟨ret_e (by rw [cmpN, if_neg (by omega), if_neg (by omega)])⟩
  · have hi : ((m - 1 : Nat) : Int) = (m : Int) - 1 := by omega
    have h := vl_lt_of (by decide) oka okb (by omega) (m - 1) (by omega) (by rw [show m - 1 + 1 = m by omega]; exact h2) (by rw [hi]; assumption)
    exact ⟨ret_e (by rw [cmpN, if_pos (by omega)])⟩
  · have hi : ((m - 1 : Nat) : Int) = (m : Int) - 1 := by omega
    have h := vl_lt_of (by decide) okb oka (by omega) (m - 1) (by omega) (by rw [show m - 1 + 1 = m by omega]; exact h2.symm) (by rw [hi]; omega)
    exact ⟨ret_e (by rw [cmpN, if_neg (by omega), if_neg (by omega)])⟩
  · have hi : ((m - 1 : Nat) : Int) = (m : Int) - 1 := by omega
    have hdr : a.drop (m - 1) = b.drop (m - 1) := by
      rw [drop_rd a (m - 1) (by omega), drop_rd b (m - 1) (by omega), show m - 1 + 1 = m by omega, h2, hi]
      congr 1; omega
    exact ⟨again (m - 1) ⟨by omega, hdr⟩ (by omega) ⟨rfl, rfl, iv_eq (by omega), trivial⟩ ⟨[], rfl⟩ ⟨[], rfl⟩⟩
  · have hm : m = 0 := by omega
    subst hm
    have hab : a = b := by simpa using h2
    have hXY : X = Y := by rw [hab] at va; omega
    exact ⟨ret_e (by rw [cmpN, if_neg (by omega), if_pos hXY])⟩
  · exact ⟨Nat.le_refl _, by rw [List.drop_length, List.drop_eq_nil_of_le (by omega)]⟩
end Go.Proofs.YtbeocnjlepcglaaGreatDoor.Sim
namespace Go.Proofs.YtbeocnjlepcglaaGreatDoor.Sim
set_option linter.unusedVariables false
set_option linter.unusedSimpArgs false
section
variable {P : Program} {f : FuncId} {fn : Func}
theorem threeR (nm : String) (x y c : Int) (hc : c.toNat ≤ 1) (w : World) : (Extern.MathBitsCarry.three nm [Value.int .u64 x, Value.int .u64 y, Value.int .u64 c].toArray).run P w = .ok (x.toNat, y.toNat, c.toNat) w := by
  have h : Extern.MathBitsCarry.three nm [Value.int .u64 x, Value.int .u64 y, Value.int .u64 c].toArray = (do
      let c ← asInt (Value.int .u64 c)
      if c.toNat > 1 then unsupported (.noEntry ("extern/math/bits." ++ nm ++ ": a carry that is neither 0 nor 1"))
      pure ((← asInt (Value.int .u64 x)).toNat, (← asInt (Value.int .u64 y)).toNat, c.toNat)) := rfl
  have h1 : ¬ c.toNat > 1 := by omega
  rw [h]
  simp [asInt, asIntOf]
  omega
theorem extAdd (hf : P.funcs[f]? = some fn) (h1 : (fn.name == "runtime.NumGoroutine") = false) (h2 : fn.body.isNone = true) (h3 : Extern.findNext fn = none) {e : Array Value → Go.Sem Value} (h4 : Extern.find fn = some e) (he : e = fun args => do let (x, y, c) ← Extern.MathBitsCarry.three "Add64" args; pure (Extern.MathBitsCarry.pair ((x + y + c) % Extern.MathBitsCarry.m64) ((x + y + c) / Extern.MathBitsCarry.m64)))
    {x y c : Int} (hc : c.toNat ≤ 1) : ExtOk P f [.int .u64 x, .int .u64 y, .int .u64 c] (.tup [.val (.int .u64 (Int.ofNat ((x.toNat + y.toNat + c.toNat) % 18446744073709551616))), .val (.int .u64 (Int.ofNat ((x.toNat + y.toNat + c.toNat) / 18446744073709551616)))]) := by
  subst he
  refine ⟨_, fun cx => .tup (.cons (.val _) (.cons (.val _) .nil)), fun w => run_ext hf h1 h2 h3 h4 (fun w => ?_) w⟩
  simp only [Go.Sem.run_bind, threeR _ x y c hc, Result.andThen_ok]
  rfl
theorem extSub (hf : P.funcs[f]? = some fn) (h1 : (fn.name == "runtime.NumGoroutine") = false) (h2 : fn.body.isNone = true) (h3 : Extern.findNext fn = none) {e : Array Value → Go.Sem Value} (h4 : Extern.find fn = some e) (he : e = fun args => do let (x, y, b) ← Extern.MathBitsCarry.three "Sub64" args; pure (Extern.MathBitsCarry.pair ((x + Extern.MathBitsCarry.m64 - y - b) % Extern.MathBitsCarry.m64) (if x < y + b then 1 else 0)))
    {x y c : Int} (hc : c.toNat ≤ 1) : ExtOk P f [.int .u64 x, .int .u64 y, .int .u64 c] (.tup [.val (.int .u64 (Int.ofNat ((x.toNat + 18446744073709551616 - y.toNat - c.toNat) % 18446744073709551616))), .val (.int .u64 (Int.ofNat (if x.toNat < y.toNat + c.toNat then 1 else 0)))]) := by
  subst he
  refine ⟨_, fun cx => .tup (.cons (.val _) (.cons (.val _) .nil)), fun w => run_ext hf h1 h2 h3 h4 (fun w => ?_) w⟩
  simp only [Go.Sem.run_bind, threeR _ x y c hc, Result.andThen_ok]
  simp only [Extern.MathBitsCarry.pair, Extern.MathBitsCarry.m64]
  by_cases hlt : x.toNat < y.toNat + c.toNat
  · rw [if_pos hlt]; rfl
  · rw [if_neg hlt]; rfl
end
theorem add64_g {x y c : Int} {K : PV → Prop} (hx : 0 ≤ x ∧ x < 18446744073709551616) (hy : 0 ≤ y ∧ y < 18446744073709551616) (hc : 0 ≤ c ∧ c ≤ 1) (k : K (.tup [.val (.int .u64 ((x + y + c) % 18446744073709551616)), .val (.int .u64 ((x + y + c) / 18446744073709551616))])) :
    ExtF Tryz.prog 118 [.int .u64 x, .int .u64 y, .int .u64 c] K := by
  refine ⟨_, extAdd Tryz.func118 (by rfl) (by rfl) (by rfl) (by rfl) rfl (x := x) (y := y) (c := c) (by omega), ?_⟩
  have e1 : Int.ofNat ((x.toNat + y.toNat + c.toNat) % 18446744073709551616) = (x + y + c) % 18446744073709551616 := by simp only [Int.ofNat_eq_natCast]; omega
  have e2 : Int.ofNat ((x.toNat + y.toNat + c.toNat) / 18446744073709551616) = (x + y + c) / 18446744073709551616 := by simp only [Int.ofNat_eq_natCast]; omega
  rw [e1, e2]; exact k
theorem sub64_g {x y c : Int} {K : PV → Prop} (hx : 0 ≤ x ∧ x < 18446744073709551616) (hy : 0 ≤ y ∧ y < 18446744073709551616) (hc : 0 ≤ c ∧ c ≤ 1) (k : K (.tup [.val (.int .u64 ((x - y - c) % 18446744073709551616)), .val (.int .u64 (-((x - y - c) / 18446744073709551616)))])) :
    ExtF Tryz.prog 146 [.int .u64 x, .int .u64 y, .int .u64 c] K := by
  refine ⟨_, extSub Tryz.func146 (by rfl) (by rfl) (by rfl) (by rfl) rfl (x := x) (y := y) (c := c) (by omega), ?_⟩
  have e1 : Int.ofNat ((x.toNat + 18446744073709551616 - y.toNat - c.toNat) % 18446744073709551616) = (x - y - c) % 18446744073709551616 := by simp only [Int.ofNat_eq_natCast]; omega
  have e2 : Int.ofNat (if x.toNat < y.toNat + c.toNat then 1 else 0) = -((x - y - c) / 18446744073709551616) := by
    simp only [Int.ofNat_eq_natCast]
    split <;> omega
  rw [e1, e2]; exact k
end Go.Proofs.YtbeocnjlepcglaaGreatDoor.Sim
namespace Go.Proofs.YtbeocnjlepcglaaGreatDoor.Sim
open Go.RowKit
set_option linter.unusedVariables false
set_option linter.unusedSimpArgs false
set_option maxRecDepth 10000
set_option maxHeartbeats 8000000
variable {G : List (Nat × List Value)}
theorem ins_full {p s : List Int} (h : s.length = p.length) : ins p 0 s = s := by
  unfold ins
  rw [List.take_zero, List.nil_append, Nat.zero_add, List.drop_eq_nil_of_le (by omega), List.append_nil]
theorem len_snoc (s : List Int) (d : Int) : (s ++ [d]).length = s.length + 1 := by simp
theorem ins_last {p s : List Int} (c : Int) (h : s.length + 1 = p.length) (k : Nat) (hk : k = s.length) : (ins p 0 s).set k c = s ++ [c] := by
  have h1 := ins_set (p := p) (s := s) (lo := 0) c (by omega)
  rw [Nat.zero_add] at h1
  rw [hk, h1, ins_full (by rw [len_snoc]; omega)]
/-- A place of a sum. -/
def AddI (u v s : List Int) (c : Int) : Prop := s.length ≤ u.length ∧ okD 18446744073709551616 s ∧ (0 ≤ c ∧ c ≤ 1) ∧ vl 18446744073709551616 s + 18446744073709551616 ^ s.length * c = vl 18446744073709551616 (u.take s.length) + vl 18446744073709551616 (v.take s.length)
theorem AddI.step {u v s : List Int} {c T : Int} (h : AddI u v s c) (hlt : s.length < u.length) (oku : okD 18446744073709551616 u) (okv : okD 18446744073709551616 v) (hT : T = rd u s.length + rd v s.length + c) : AddI u v (s ++ [T % 18446744073709551616]) (T / 18446744073709551616) := by
  obtain ⟨h1, h2, h3, h4⟩ := h
  have ru := rd_bd (by decide) oku (s.length : Int)
  have rv := rd_bd (by decide) okv (s.length : Int)
  refine ⟨by rw [len_snoc]; omega, okD_append.2 ⟨h2, okD_cons.2 ⟨by omega, okD_nil _⟩⟩, by omega, ?_⟩
  rw [vl_snoc, len_snoc, sum_step (T := T) s.length (by omega), vl_take_step, vl_take_step, hT, Int.mul_add, Int.mul_add]
  omega
theorem AddI.done {u v s : List Int} {c : Int} (h : AddI u v s c) (hl : s.length = u.length) (hv : v.length ≤ u.length) : okD 18446744073709551616 (s ++ [c]) ∧ vl 18446744073709551616 (s ++ [c]) = vl 18446744073709551616 u + vl 18446744073709551616 v := by
  obtain ⟨h1, h2, h3, h4⟩ := h
  refine ⟨okD_append.2 ⟨h2, okD_cons.2 ⟨by omega, okD_nil _⟩⟩, ?_⟩
  rw [vl_snoc, h4, List.take_of_length_le (by omega), List.take_of_length_le (by omega)]
/-- A place of a difference. -/
def SubI (u v s : List Int) (c : Int) : Prop := s.length ≤ u.length ∧ okD 18446744073709551616 s ∧ (0 ≤ c ∧ c ≤ 1) ∧ vl 18446744073709551616 s - 18446744073709551616 ^ s.length * c = vl 18446744073709551616 (u.take s.length) - vl 18446744073709551616 (v.take s.length)
theorem SubI.step {u v s : List Int} {c T : Int} (h : SubI u v s c) (hlt : s.length < u.length) (oku : okD 18446744073709551616 u) (okv : okD 18446744073709551616 v) (hT : T = rd u s.length - rd v s.length - c) : SubI u v (s ++ [T % 18446744073709551616]) (-(T / 18446744073709551616)) := by
  obtain ⟨h1, h2, h3, h4⟩ := h
  have ru := rd_bd (by decide) oku (s.length : Int)
  have rv := rd_bd (by decide) okv (s.length : Int)
  refine ⟨by rw [len_snoc]; omega, okD_append.2 ⟨h2, okD_cons.2 ⟨by omega, okD_nil _⟩⟩, by omega, ?_⟩
  have h := sum_step (B := 18446744073709551616) (vs := vl 18446744073709551616 s) (d := T % 18446744073709551616) (c2 := T / 18446744073709551616) (T := T) s.length (by omega)
  rw [vl_snoc, len_snoc, Int.mul_neg, Int.sub_neg, h, vl_take_step, vl_take_step, hT, Int.mul_sub, Int.mul_sub]
  omega
theorem n_add (X Y : Nat) (hX : L64 X ≤ 8192) (hY : L64 Y ≤ 8192) : FC Tryz.prog G 69 [.ws .u64 (d64 X), .ws .u64 (d64 Y)] (· = natT (X + Y)) := by
  have fa := n_formN (G := G) X hX
  have fb := n_formN (G := G) Y hY
  obtain ⟨a, ea⟩ : ∃ a, a = d64 X := ⟨_, rfl⟩
  obtain ⟨b, eb⟩ : ∃ b, b = d64 Y := ⟨_, rfl⟩
  obtain ⟨oka, va⟩ := d64_ok X
  obtain ⟨okb, vb⟩ := d64_ok Y
  replace hX : (d64 X).length ≤ 8192 := hX
  replace hY : (d64 Y).length ≤ 8192 := hY
  rw [← ea] at hX oka va fa
  rw [← eb] at hY okb vb fb
  rw [← ea, ← eb]
  by_cases hlen : a.length < b.length
  · have oku := okb
    have okv := oka
    refine FC.intro (X := XX) tok Tryz.func69 rfl Tryz.ntmps69 (by rw [Tryz.results69]) (by kernel_rfl) rfl ?_; intro F hG hO
    rw [← hG] at fa fb
    repeat' ((try (conv => whnf)); first
  | ((with_reducible refine cg ?_); refine call_eq (fa) (LpL.refl _) rfl ?_)
  | ((with_reducible refine cg ?_); refine call_eq (fb) (LpL.refl _) rfl ?_)
  | (with_reducible refine add64_g (by omega) (by omega) (by omega) ?_)
  | ((with_reducible refine lg ?_); refine loop_g (A := List Int × Int) (fun (s, c) => AddI b a s c) (fun (s, c) => b.length - s.length) (fun (s, c) => [(0, .ws .u64 b), (1, .ws .u64 a), (6, .arr 0 0 (b.length + 1)), (7, .val (.int .u64 c)), (30, .val (.int .i64 (b.length : Int))), (31, .val (.int .i64 (s.length : Int)))]) (fun _ => []) (fun (s, c) => [some ⟨1, 44, .w .u64 (ins (List.replicate (b.length + 1) 0) 0 s)⟩]) ([], 0) tok (fun (s, c) => ⟨⟨trivial, trivial, Nat.one_pos, trivial, trivial, trivial, trivial⟩, trivial, by simp only [List.length_cons]; omega⟩) ?_ ⟨rfl, rfl, congrArg (PV.arr 0 0) (by omega), rfl, rfl, rfl, trivial⟩ ⟨[], rfl⟩ ⟨[], (by dsimp only; rw [ins_nil, show ((b.length : Int) + 1).toNat = b.length + 1 by omega]; rfl)⟩ ?_; rotate_left; rintro ⟨s, c⟩ hI; have hI2 := hI; obtain ⟨i1, i2, i3, i4⟩ := hI2; have ra := rd_bd (by decide) oku (s.length : Int); have rb := rd_bd (by decide) okv (s.length : Int); have hil : (ins (List.replicate (b.length + 1) 0) 0 s).length = b.length + 1 := (by rw [ins_len (by simp; omega)]; simp))
  | ((with_reducible refine cg ?_); have hse : s.length = b.length := (by omega); have hdn := hI.done hse (by omega); have hset := ins_last (p := List.replicate (b.length + 1) 0) (s := s) c (by simp; omega) (0 + ((b.length : Nat) : Int).toNat) (by omega); refine call_fz 0 (B := s ++ [c]) rfl rfl (by rw [hset]; simp; omega) (by rw [hset, List.drop_zero]; exact List.take_of_length_le (by simp; omega)) (by omega) ?_; refine call_eq (n_told (s ++ [c]) hdn.1 (by simp; omega)) (LpL.refl _) rfl ?_; rw [hdn.2])
  
  | (with_reducible refine Chk.mk' (by first | omega | exact trivial | (simp only [List.length_append, List.length_set, List.length_replicate, List.length_take, List.length_drop, List.length_cons, List.length_nil, List.length_map]; omega)) ?_)
  | (with_reducible refine wrap_g (by dsimp only [inR]; omega) ?_)
  | (with_reducible refine idx_g (by omega) ?_)
  | (with_reducible refine idx_l _ rfl (by decide) ?_)
  | (with_reducible refine BothG.mk ?_ ?_)
  | (with_reducible refine fork_tt ?_) | (with_reducible refine fork_ff ?_)
  | (with_reducible refine fork_e (c := true) (by decide) ?_; with_reducible refine fork_tt ?_) | (with_reducible refine fork_e (c := false) (by decide) ?_; with_reducible refine fork_ff ?_)
  | (with_reducible refine fork_t (by omega) ?_) | (with_reducible refine fork_f (by omega) ?_)
  | (with_reducible refine fork_d ?_ ?_ <;> intro hc)
  | (with_reducible refine fork_n ?_)
  | (with_reducible refine fork_b ?_ ?_ <;> intro hc)
  | (with_reducible refine SlcG.mk (by omega) ?_)
  | (with_reducible refine MakG.mk (by dsimp only; omega) ?_)
  | (with_reducible refine AppG.mk (by first | omega | (simp only [List.length_append, List.length_set, List.length_replicate, List.length_take, List.length_drop, List.length_cons, List.length_nil, List.length_map]; omega)) (by dsimp only [List.length_cons, List.length_nil]; omega) (by omega) ?_)
  | (with_reducible refine div_g (by omega) (by omega) (by dsimp only [inR]; omega) ?_)
  | (with_reducible refine mod_g (by omega) (by omega) ?_)
  | (with_reducible refine mask_g (m := 4294967296) 32 rfl rfl (by decide) (by omega) ?_)
  | (with_reducible refine shr_g (m := 4294967296) 32 rfl (by decide) (by omega) rfl ?_)
  | (with_reducible refine fz_all (by omega) ?_)
  | (with_reducible refine Stuck.h (A := RetE _ _) ?_) | (with_reducible refine Stuck.h (A := RetM _ _ _ _) ?_) | (with_reducible refine Stuck.h (A := Again _ _ _ _ _ _ _ _) ?_) | (with_reducible refine Stuck.h (A := CallF _ _ _ _ _ _ _) ?_) | (with_reducible refine Stuck.h (A := LoopG _ _ _ _ _ _ _ _) ?_) | (with_reducible refine Stuck.h (A := DrawG _ _ _ _ _ _ _ _) ?_)
  | (with_reducible refine Stuck.h (A := WrapG _ _ _) ?_) | (with_reducible refine Stuck.h (A := DivG _ _ _ _) ?_) | (with_reducible refine Stuck.h (A := ModG _ _ _) ?_) | (with_reducible refine Stuck.h (A := ShlG _ _ _ _) ?_) | (with_reducible refine Stuck.h (A := ShrG _ _ _ _) ?_) | (with_reducible refine Stuck.h (A := BitG _ _ _ _ _) ?_)
  | (with_reducible refine Stuck.h (A := IdxG _ _ _) ?_) | (with_reducible refine Stuck.h (A := IdxL _ _ _) ?_) | (with_reducible refine Stuck.h (A := SlcG _ _ _ _ _) ?_) | (with_reducible refine Stuck.h (A := MakG _ _ _ _) ?_) | (with_reducible refine Stuck.h (A := AppG _ _ _ _ _ _ _) ?_) | (with_reducible refine Stuck.h (A := FzG _ _ _ _) ?_)
  | (with_reducible refine Stuck.h (A := RawG _) ?_) | (with_reducible refine Stuck.h (A := TabG _ _ _ _ _) ?_) | (with_reducible refine Stuck.h (A := ExtF _ _ _ _) ?_) | (with_reducible refine Stuck.h (A := Chk _ _) ?_) | (with_reducible refine Stuck.h (A := False) ?_))
    · refine ⟨again (s ++ [(rd b (s.length : Int) + rd a (s.length : Int) + c) % 18446744073709551616], (rd b (s.length : Int) + rd a (s.length : Int) + c) / 18446744073709551616) (hI.step (by omega) oku okv rfl) (by dsimp only; rw [len_snoc]; omega) ⟨rfl, rfl, rfl, rfl, rfl, iv_eq (by rw [len_snoc]; omega), trivial⟩ ⟨[], rfl⟩ ⟨[], ?_⟩⟩
      have hset := ins_set (p := List.replicate (b.length + 1) (0 : Int)) (s := s) (lo := 0) ((rd b (s.length : Int) + rd a (s.length : Int) + c) % 18446744073709551616) (by simp; omega)
      dsimp only
      rw [← hset]; rfl
    · have hz : rd a (s.length : Int) = 0 := rd_out a s.length (by omega)
      refine ⟨again (s ++ [(rd b (s.length : Int) + 0 + c) % 18446744073709551616], (rd b (s.length : Int) + 0 + c) / 18446744073709551616) (hI.step (by omega) oku okv (by rw [hz])) (by dsimp only; rw [len_snoc]; omega) ⟨rfl, rfl, rfl, rfl, rfl, iv_eq (by rw [len_snoc]; omega), trivial⟩ ⟨[], rfl⟩ ⟨[], ?_⟩⟩
      have hset := ins_set (p := List.replicate (b.length + 1) (0 : Int)) (s := s) (lo := 0) ((rd b (s.length : Int) + 0 + c) % 18446744073709551616) (by simp; omega)
      dsimp only
      rw [← hset]; rfl
    · refine ⟨ret_e ?_⟩
      rw [va, vb, ← Int.natCast_add, Int.toNat_natCast, Nat.add_comm Y X]; rfl
    · exact ⟨Nat.zero_le _, okD_nil _, by decide, by simp [vl]⟩
  · have oku := oka
    have okv := okb
    refine FC.intro (X := XX) tok Tryz.func69 rfl Tryz.ntmps69 (by rw [Tryz.results69]) (by kernel_rfl) rfl ?_; intro F hG hO
    rw [← hG] at fa fb
    repeat' ((try (conv => whnf)); first
  | ((with_reducible refine cg ?_); refine call_eq (fa) (LpL.refl _) rfl ?_)
  | ((with_reducible refine cg ?_); refine call_eq (fb) (LpL.refl _) rfl ?_)
  | (with_reducible refine add64_g (by omega) (by omega) (by omega) ?_)
  | ((with_reducible refine lg ?_); refine loop_g (A := List Int × Int) (fun (s, c) => AddI a b s c) (fun (s, c) => a.length - s.length) (fun (s, c) => [(0, .ws .u64 a), (1, .ws .u64 b), (6, .arr 0 0 (a.length + 1)), (7, .val (.int .u64 c)), (30, .val (.int .i64 (a.length : Int))), (31, .val (.int .i64 (s.length : Int)))]) (fun _ => []) (fun (s, c) => [some ⟨1, 44, .w .u64 (ins (List.replicate (a.length + 1) 0) 0 s)⟩]) ([], 0) tok (fun (s, c) => ⟨⟨trivial, trivial, Nat.one_pos, trivial, trivial, trivial, trivial⟩, trivial, by simp only [List.length_cons]; omega⟩) ?_ ⟨rfl, rfl, congrArg (PV.arr 0 0) (by omega), rfl, rfl, rfl, trivial⟩ ⟨[], rfl⟩ ⟨[], (by dsimp only; rw [ins_nil, show ((a.length : Int) + 1).toNat = a.length + 1 by omega]; rfl)⟩ ?_; rotate_left; rintro ⟨s, c⟩ hI; have hI2 := hI; obtain ⟨i1, i2, i3, i4⟩ := hI2; have ra := rd_bd (by decide) oku (s.length : Int); have rb := rd_bd (by decide) okv (s.length : Int); have hil : (ins (List.replicate (a.length + 1) 0) 0 s).length = a.length + 1 := (by rw [ins_len (by simp; omega)]; simp))
  | ((with_reducible refine cg ?_); have hse : s.length = a.length := (by omega); have hdn := hI.done hse (by omega); have hset := ins_last (p := List.replicate (a.length + 1) 0) (s := s) c (by simp; omega) (0 + ((a.length : Nat) : Int).toNat) (by omega); refine call_fz 0 (B := s ++ [c]) rfl rfl (by rw [hset]; simp; omega) (by rw [hset, List.drop_zero]; exact List.take_of_length_le (by simp; omega)) (by omega) ?_; refine call_eq (n_told (s ++ [c]) hdn.1 (by simp; omega)) (LpL.refl _) rfl ?_; rw [hdn.2])
  
  | (with_reducible refine Chk.mk' (by first | omega | exact trivial | (simp only [List.length_append, List.length_set, List.length_replicate, List.length_take, List.length_drop, List.length_cons, List.length_nil, List.length_map]; omega)) ?_)
  | (with_reducible refine wrap_g (by dsimp only [inR]; omega) ?_)
  | (with_reducible refine idx_g (by omega) ?_)
  | (with_reducible refine idx_l _ rfl (by decide) ?_)
  | (with_reducible refine BothG.mk ?_ ?_)
  | (with_reducible refine fork_tt ?_) | (with_reducible refine fork_ff ?_)
  | (with_reducible refine fork_e (c := true) (by decide) ?_; with_reducible refine fork_tt ?_) | (with_reducible refine fork_e (c := false) (by decide) ?_; with_reducible refine fork_ff ?_)
  | (with_reducible refine fork_t (by omega) ?_) | (with_reducible refine fork_f (by omega) ?_)
  | (with_reducible refine fork_d ?_ ?_ <;> intro hc)
  | (with_reducible refine fork_n ?_)
  | (with_reducible refine fork_b ?_ ?_ <;> intro hc)
  | (with_reducible refine SlcG.mk (by omega) ?_)
  | (with_reducible refine MakG.mk (by dsimp only; omega) ?_)
  | (with_reducible refine AppG.mk (by first | omega | (simp only [List.length_append, List.length_set, List.length_replicate, List.length_take, List.length_drop, List.length_cons, List.length_nil, List.length_map]; omega)) (by dsimp only [List.length_cons, List.length_nil]; omega) (by omega) ?_)
  | (with_reducible refine div_g (by omega) (by omega) (by dsimp only [inR]; omega) ?_)
  | (with_reducible refine mod_g (by omega) (by omega) ?_)
  | (with_reducible refine mask_g (m := 4294967296) 32 rfl rfl (by decide) (by omega) ?_)
  | (with_reducible refine shr_g (m := 4294967296) 32 rfl (by decide) (by omega) rfl ?_)
  | (with_reducible refine fz_all (by omega) ?_)
  | (with_reducible refine Stuck.h (A := RetE _ _) ?_) | (with_reducible refine Stuck.h (A := RetM _ _ _ _) ?_) | (with_reducible refine Stuck.h (A := Again _ _ _ _ _ _ _ _) ?_) | (with_reducible refine Stuck.h (A := CallF _ _ _ _ _ _ _) ?_) | (with_reducible refine Stuck.h (A := LoopG _ _ _ _ _ _ _ _) ?_) | (with_reducible refine Stuck.h (A := DrawG _ _ _ _ _ _ _ _) ?_)
  | (with_reducible refine Stuck.h (A := WrapG _ _ _) ?_) | (with_reducible refine Stuck.h (A := DivG _ _ _ _) ?_) | (with_reducible refine Stuck.h (A := ModG _ _ _) ?_) | (with_reducible refine Stuck.h (A := ShlG _ _ _ _) ?_) | (with_reducible refine Stuck.h (A := ShrG _ _ _ _) ?_) | (with_reducible refine Stuck.h (A := BitG _ _ _ _ _) ?_)
  | (with_reducible refine Stuck.h (A := IdxG _ _ _) ?_) | (with_reducible refine Stuck.h (A := IdxL _ _ _) ?_) | (with_reducible refine Stuck.h (A := SlcG _ _ _ _ _) ?_) | (with_reducible refine Stuck.h (A := MakG _ _ _ _) ?_) | (with_reducible refine Stuck.h (A := AppG _ _ _ _ _ _ _) ?_) | (with_reducible refine Stuck.h (A := FzG _ _ _ _) ?_)
  | (with_reducible refine Stuck.h (A := RawG _) ?_) | (with_reducible refine Stuck.h (A := TabG _ _ _ _ _) ?_) | (with_reducible refine Stuck.h (A := ExtF _ _ _ _) ?_) | (with_reducible refine Stuck.h (A := Chk _ _) ?_) | (with_reducible refine Stuck.h (A := False) ?_))
    · refine ⟨again (s ++ [(rd a (s.length : Int) + rd b (s.length : Int) + c) % 18446744073709551616], (rd a (s.length : Int) + rd b (s.length : Int) + c) / 18446744073709551616) (hI.step (by omega) oku okv rfl) (by dsimp only; rw [len_snoc]; omega) ⟨rfl, rfl, rfl, rfl, rfl, iv_eq (by rw [len_snoc]; omega), trivial⟩ ⟨[], rfl⟩ ⟨[], ?_⟩⟩
      have hset := ins_set (p := List.replicate (a.length + 1) (0 : Int)) (s := s) (lo := 0) ((rd a (s.length : Int) + rd b (s.length : Int) + c) % 18446744073709551616) (by simp; omega)
      dsimp only
      rw [← hset]; rfl
    · have hz : rd b (s.length : Int) = 0 := rd_out b s.length (by omega)
      refine ⟨again (s ++ [(rd a (s.length : Int) + 0 + c) % 18446744073709551616], (rd a (s.length : Int) + 0 + c) / 18446744073709551616) (hI.step (by omega) oku okv (by rw [hz])) (by dsimp only; rw [len_snoc]; omega) ⟨rfl, rfl, rfl, rfl, rfl, iv_eq (by rw [len_snoc]; omega), trivial⟩ ⟨[], rfl⟩ ⟨[], ?_⟩⟩
      have hset := ins_set (p := List.replicate (a.length + 1) (0 : Int)) (s := s) (lo := 0) ((rd a (s.length : Int) + 0 + c) % 18446744073709551616) (by simp; omega)
      dsimp only
      rw [← hset]; rfl
    · refine ⟨ret_e ?_⟩
      rw [va, vb, ← Int.natCast_add, Int.toNat_natCast]; rfl
    · exact ⟨Nat.zero_le _, okD_nil _, by decide, by simp [vl]⟩
theorem SubI.done {u v s : List Int} {c : Int} (h : SubI u v s c) (hl : s.length = u.length) (hv : v.length ≤ u.length) (oku : okD 18446744073709551616 u) (okv : okD 18446744073709551616 v) (hle : vl 18446744073709551616 v ≤ vl 18446744073709551616 u) : vl 18446744073709551616 s = vl 18446744073709551616 u - vl 18446744073709551616 v := by
  obtain ⟨h1, h2, h3, h4⟩ := h
  rw [List.take_of_length_le (by omega), List.take_of_length_le (by omega)] at h4
  have b1 := vl_lt (B := 18446744073709551616) (by decide) h2
  have b2 := vl_nonneg (B := 18446744073709551616) (by decide) h2
  have hp : (0 : Int) < 18446744073709551616 ^ s.length := Int.pow_pos (by decide)
  rcases (show c = 0 ∨ c = 1 by omega) with h5 | h5
  · rw [h5, Int.mul_zero] at h4; omega
  · rw [h5, Int.mul_one] at h4; omega
end Go.Proofs.YtbeocnjlepcglaaGreatDoor.Sim
namespace Go.Proofs.YtbeocnjlepcglaaGreatDoor.Sim
open Go.RowKit
set_option linter.unusedVariables false
set_option linter.unusedSimpArgs false
set_option maxRecDepth 10000
set_option maxHeartbeats 8000000
variable {G : List (Nat × List Value)}
theorem wrap64 (n : Int) : IntKind.u64.wrap n = n % 18446744073709551616 := by
  simp [IntKind.wrap, IntKind.bits, IntKind.signed]
theorem shl_m {a b : Int} {K : Int → Prop} (hb : 0 ≤ b ∧ b ≤ 64) (x : K (a * 2 ^ b.toNat % 18446744073709551616)) : ShlG .u64 a b K := by
  refine ⟨hb.1, ?_⟩
  rw [show min b.toNat IntKind.u64.bits = b.toNat by simp only [IntKind.bits]; omega, wrap64]
  exact x
theorem or_add {x y k : Nat} (h : x < 2 ^ k) (hy : y % 2 ^ k = 0) : x ||| y = x + y := by
  have h1 := Nat.two_pow_add_eq_or_of_lt h (y / 2 ^ k)
  have h2 := Nat.div_add_mod y (2 ^ k)
  rw [hy, Nat.add_zero] at h2
  rw [h2] at h1
  rw [Nat.or_comm, ← h1, Nat.add_comm]
theorem or_g {a b : Int} {K : Int → Prop} (k : Nat) (ha : 0 ≤ a ∧ a < 18446744073709551616) (hb : 0 ≤ b ∧ b < 18446744073709551616) (h : a < 2 ^ k) (hm : b % 2 ^ k = 0) (hs : a + b < 18446744073709551616) (x : K (a + b)) : BitG .or .u64 a b K := by
  refine ⟨?_⟩
  have e : bitI .or .u64 a b = a + b := by
    obtain ⟨a, rfl⟩ := Int.eq_ofNat_of_zero_le ha.1
    obtain ⟨b, rfl⟩ := Int.eq_ofNat_of_zero_le hb.1
    have h1 : a < 2 ^ k := by
      have : ((2 ^ k : Nat) : Int) = (2 : Int) ^ k := by simp
      omega
    have h2 : b % 2 ^ k = 0 := by
      have h3 : ((b % 2 ^ k : Nat) : Int) = 0 := by rw [← hm]; simp
      omega
    show IntKind.u64.wrap ((BitVec.ofNat 64 a ||| BitVec.ofNat 64 b).toNat : Int) = _
    rw [wrap64, BitVec.toNat_or, BitVec.toNat_ofNat, BitVec.toNat_ofNat]
    rw [Nat.mod_eq_of_lt (by omega), Nat.mod_eq_of_lt (by omega), or_add h1 h2]
    omega
  rw [e]; exact x
theorem ins_over {p t : List Int} {lo : Nat} (c d : Int) (h : lo + t.length < p.length) : (ins p lo (t ++ [c])).set (lo + t.length) d = ins p lo (t ++ [d]) := by
  have e : (p.take lo ++ t).length = lo + t.length := by simp; omega
  unfold ins
  rw [← List.append_assoc, ← List.append_assoc, List.append_assoc, List.set_append_right _ _ (by omega), e, Nat.sub_self]
  simp
theorem ins_zero (n lo : Nat) (h : lo < n) : ins (List.replicate n (0 : Int)) lo [0] = List.replicate n 0 := by
  unfold ins
  rw [List.take_replicate, List.drop_replicate, Nat.min_eq_left (by omega)]
  rw [show [(0 : Int)] = List.replicate 1 0 by rfl, List.replicate_append_replicate, List.replicate_append_replicate]
  congr 1
  simp; omega
theorem ins_getE {p s : List Int} {lo : Nat} (c : Int) (h : lo ≤ p.length) : (ins p lo (s ++ [c])).getD (lo + s.length) 0 = c := by
  have e : (p.take lo ++ s).length = lo + s.length := by simp; omega
  unfold ins
  rw [← List.append_assoc, List.append_assoc, List.getD_eq_getElem?_getD, List.getElem?_append_right (by omega), e, Nat.sub_self]
  simp
end Go.Proofs.YtbeocnjlepcglaaGreatDoor.Sim
namespace Go.Proofs.YtbeocnjlepcglaaGreatDoor.Sim
open Go.RowKit
set_option linter.unusedVariables false
set_option linter.unusedSimpArgs false
set_option maxRecDepth 10000
set_option maxHeartbeats 8000000
variable {G : List (Nat × List Value)}
def lenTab (s : ByteArray) : Bool := (List.range 256).all fun i => match s[i]? with
  | some b => Nat.beq b.toNat (bl i)
  | none => false
theorem still_lenT {P : Program} {F : Fr} {o : Oper} {st : St} {t : TypeId} {x y : Operand} {s : ByteArray} {k : IntKind} {i : Int} (ho : o.op = .index t x y) (hx : pev st x = .val (.string s)) (hy : pev st y = .val (.int k i)) (ht : P.underlying t = some .string) (hs : lenTab s = true) (h : 0 ≤ i ∧ i < 256) : Still P F o st (.val (.int .u8 ((min (bl i.toNat) 8 : Nat) : Int))) := by
  intro c A w hi
  have h1 := List.all_eq_true.1 hs i.toNat (List.mem_range.2 (by omega))
  refine ⟨_, .val _, fun w' _ => ?_⟩
  cases hb : s[i.toNat]? with
  | none => simp [hb] at h1
  | some b =>
    simp only [hb] at h1
    have h2 := Nat.eq_of_beq_eq_true h1
    have h3 : bl i.toNat ≤ 8 := bl_le (show i.toNat < 2 ^ 8 by omega)
    rw [Nat.min_eq_left h3]
    simp [execOp, ho, pev_val hi hx, pev_val hi hy, Instr.index, asIntOf, run_underlying ht, h.1, hb, h2]
theorem len_end {x : Nat} {z : Int} (k : Nat) (hz : z.toNat = x / 2 ^ k) (h : x / 2 ^ k < 256) (hk : k = 0 ∨ x / 2 ^ k ≠ 0) : (k : Int) + ((min (bl z.toNat) 8 : Nat) : Int) = (bl x : Int) := by
  have h1 : bl z.toNat ≤ 8 := bl_le (by rw [hz]; exact h)
  rw [Nat.min_eq_left h1, hz]
  rcases hk with h2 | h2
  · subst h2; simp
  · rw [bl_top x k h2]; omega
theorem b_len (x : Nat) (h : x < 18446744073709551616) : FC Tryz.prog G 111 [.val (.int .u64 (x : Int))] (· = .val (.int .i64 (bl x : Int))) := by
  refine FC.intro (X := XX) tok Tryz.func111 rfl Tryz.ntmps111 (by rw [Tryz.results111]) (by kernel_rfl) rfl ?_; intro F hG hO
  repeat' ((try (conv => whnf)); first
  | (with_reducible refine shr_g (m := 65536) 16 rfl (by decide) (by omega) rfl ?_)
  | (with_reducible refine shr_g (m := 256) 8 rfl (by decide) (by omega) rfl ?_)
  | (refine RawG.mk ?_; refine vPut_still (still_lenT rfl rfl rfl (by kernel_rfl) (by kernel_rfl) (by omega)) ?_)
  
  | (with_reducible refine Chk.mk' (by first | omega | exact trivial | (simp only [List.length_append, List.length_set, List.length_replicate, List.length_take, List.length_drop, List.length_cons, List.length_nil, List.length_map]; omega)) ?_)
  | (with_reducible refine wrap_g (by dsimp only [inR]; omega) ?_)
  | (with_reducible refine idx_g (by omega) ?_)
  | (with_reducible refine idx_l _ rfl (by decide) ?_)
  | (with_reducible refine BothG.mk ?_ ?_)
  | (with_reducible refine fork_tt ?_) | (with_reducible refine fork_ff ?_)
  | (with_reducible refine fork_e (c := true) (by decide) ?_; with_reducible refine fork_tt ?_) | (with_reducible refine fork_e (c := false) (by decide) ?_; with_reducible refine fork_ff ?_)
  | (with_reducible refine fork_t (by omega) ?_) | (with_reducible refine fork_f (by omega) ?_)
  | (with_reducible refine fork_d ?_ ?_ <;> intro hc)
  | (with_reducible refine fork_n ?_)
  | (with_reducible refine fork_b ?_ ?_ <;> intro hc)
  | (with_reducible refine SlcG.mk (by omega) ?_)
  | (with_reducible refine MakG.mk (by dsimp only; omega) ?_)
  | (with_reducible refine AppG.mk (by first | omega | (simp only [List.length_append, List.length_set, List.length_replicate, List.length_take, List.length_drop, List.length_cons, List.length_nil, List.length_map]; omega)) (by dsimp only [List.length_cons, List.length_nil]; omega) (by omega) ?_)
  | (with_reducible refine div_g (by omega) (by omega) (by dsimp only [inR]; omega) ?_)
  | (with_reducible refine mod_g (by omega) (by omega) ?_)
  | (with_reducible refine mask_g (m := 4294967296) 32 rfl rfl (by decide) (by omega) ?_)
  | (with_reducible refine shr_g (m := 4294967296) 32 rfl (by decide) (by omega) rfl ?_)
  | (with_reducible refine fz_all (by omega) ?_)
  | (with_reducible refine Stuck.h (A := RetE _ _) ?_) | (with_reducible refine Stuck.h (A := RetM _ _ _ _) ?_) | (with_reducible refine Stuck.h (A := Again _ _ _ _ _ _ _ _) ?_) | (with_reducible refine Stuck.h (A := CallF _ _ _ _ _ _ _) ?_) | (with_reducible refine Stuck.h (A := LoopG _ _ _ _ _ _ _ _) ?_) | (with_reducible refine Stuck.h (A := DrawG _ _ _ _ _ _ _ _) ?_)
  | (with_reducible refine Stuck.h (A := WrapG _ _ _) ?_) | (with_reducible refine Stuck.h (A := DivG _ _ _ _) ?_) | (with_reducible refine Stuck.h (A := ModG _ _ _) ?_) | (with_reducible refine Stuck.h (A := ShlG _ _ _ _) ?_) | (with_reducible refine Stuck.h (A := ShrG _ _ _ _) ?_) | (with_reducible refine Stuck.h (A := BitG _ _ _ _ _) ?_)
  | (with_reducible refine Stuck.h (A := IdxG _ _ _) ?_) | (with_reducible refine Stuck.h (A := IdxL _ _ _) ?_) | (with_reducible refine Stuck.h (A := SlcG _ _ _ _ _) ?_) | (with_reducible refine Stuck.h (A := MakG _ _ _ _) ?_) | (with_reducible refine Stuck.h (A := AppG _ _ _ _ _ _ _) ?_) | (with_reducible refine Stuck.h (A := FzG _ _ _ _) ?_)
  | (with_reducible refine Stuck.h (A := RawG _) ?_) | (with_reducible refine Stuck.h (A := TabG _ _ _ _ _) ?_) | (with_reducible refine Stuck.h (A := ExtF _ _ _ _) ?_) | (with_reducible refine Stuck.h (A := Chk _ _) ?_) | (with_reducible refine Stuck.h (A := False) ?_))
  all_goals (refine ⟨ret_e (iv_eq ?_)⟩)
  · exact len_end (x := x) 56 (show _ = x / 72057594037927936 by omega) (show x / 72057594037927936 < 256 by omega) (.inr (show x / 72057594037927936 ≠ 0 by omega))
  · exact len_end (x := x) 48 (show _ = x / 281474976710656 by omega) (show x / 281474976710656 < 256 by omega) (.inr (show x / 281474976710656 ≠ 0 by omega))
  · exact len_end (x := x) 40 (show _ = x / 1099511627776 by omega) (show x / 1099511627776 < 256 by omega) (.inr (show x / 1099511627776 ≠ 0 by omega))
  · exact len_end (x := x) 32 (show _ = x / 4294967296 by omega) (show x / 4294967296 < 256 by omega) (.inr (show x / 4294967296 ≠ 0 by omega))
  · exact len_end (x := x) 24 (show _ = x / 16777216 by omega) (show x / 16777216 < 256 by omega) (.inr (show x / 16777216 ≠ 0 by omega))
  · exact len_end (x := x) 16 (show _ = x / 65536 by omega) (show x / 65536 < 256 by omega) (.inr (show x / 65536 ≠ 0 by omega))
  · exact len_end (x := x) 8 (show _ = x / 256 by omega) (show x / 256 < 256 by omega) (.inr (show x / 256 ≠ 0 by omega))
  · exact len_end (x := x) 0 (show _ = x / 1 by omega) (show x / 1 < 256 by omega) (.inl rfl)
theorem tz_odd' {n : Nat} (h : n % 2 = 1) : tz n = 0 := tz_eq (m := n) (by simp) h
theorem and_even (a b : Nat) : (2 * a) &&& (2 * b) = 2 * (a &&& b) := by
  apply Nat.eq_of_testBit_eq
  intro i
  cases i with
  | zero => simp [Nat.testBit_zero]
  | succ i =>
    rw [Nat.testBit_and, Nat.testBit_succ, Nat.testBit_succ, Nat.testBit_succ, Nat.mul_div_cancel_left _ (by decide), Nat.mul_div_cancel_left _ (by decide), Nat.mul_div_cancel_left _ (by decide), Nat.testBit_and]
theorem and_neg : ∀ (n x : Nat), 0 < x → x < 2 ^ n → x &&& (2 ^ n - x) = 2 ^ tz x
  | 0, x, h0, h => by simp at h; omega
  | n + 1, x, h0, h => by
    rw [Nat.pow_succ] at h ⊢
    by_cases hx : x % 2 = 0
    · obtain ⟨a, ha⟩ : ∃ a, x = 2 * a := ⟨x / 2, by omega⟩
      subst ha
      have ih := and_neg n a (by omega) (by omega)
      rw [show 2 ^ n * 2 - 2 * a = 2 * (2 ^ n - a) by omega, and_even, ih]
      obtain ⟨m, hm1, hm2⟩ := tz_ok (n := a) (by omega)
      rw [tz_eq (n := 2 * a) (m := m) (k := tz a + 1) (by rw [Nat.pow_succ, ← Nat.mul_assoc, ← hm1]; omega) hm2, Nat.pow_succ]; omega
    · have h1 : tz x = 0 := tz_odd' (by omega)
      rw [h1, Nat.pow_zero]
      apply Nat.eq_of_testBit_eq
      intro i
      have hs := Nat.testBit_two_pow_sub_succ (x := x - 1) (n := n + 1) (by rw [Nat.pow_succ]; omega) i
      rw [show x - 1 + 1 = x by omega, Nat.pow_succ] at hs
      rw [Nat.testBit_and, hs]
      cases i with
      | zero =>
        have h3 : x.testBit 0 = true := by simp [Nat.testBit_zero]; omega
        have h4 : (x - 1).testBit 0 = false := by simp [Nat.testBit_zero]; omega
        rw [h3, h4]; simp
      | succ i =>
        have h5 : (x - 1).testBit (i + 1) = x.testBit (i + 1) := by
          rw [Nat.testBit_succ, Nat.testBit_succ, show (x - 1) / 2 = x / 2 by omega]
        rw [h5]
        cases x.testBit (i + 1) <;> simp [Nat.testBit_succ]
def debT : List Int := [0, 1, 56, 2, 57, 49, 28, 3, 61, 58, 42, 50, 38, 29, 17, 4, 62, 47, 59, 36, 45, 43, 51, 22, 53, 39, 33, 30, 24, 18, 12, 5, 63, 55, 48, 27, 60, 41, 37, 16, 46, 35, 44, 21, 52, 32, 23, 11, 54, 26, 40, 15, 34, 20, 31, 10, 25, 14, 19, 9, 13, 8, 7, 6]
theorem deb_all : (List.range 64).all (fun k => Nat.beq (rd debT ((2 ^ k * 285870213051353865 % 18446744073709551616 / 288230376151711744 : Nat) : Int)).toNat k && decide (0 ≤ rd debT ((2 ^ k * 285870213051353865 % 18446744073709551616 / 288230376151711744 : Nat) : Int))) = true := by decide +kernel
theorem deb_ok (k : Nat) (h : k < 64) : rd debT ((2 ^ k * 285870213051353865 % 18446744073709551616 / 288230376151711744 : Nat) : Int) = (k : Int) := by
  have := List.all_eq_true.1 deb_all k (List.mem_range.2 h)
  simp only [Bool.and_eq_true, decide_eq_true_eq] at this
  have h1 := Nat.eq_of_beq_eq_true this.1
  omega
theorem deb_len : debT.length = 64 := rfl
theorem and_g {a : Int} {K : Int → Prop} (ha : 0 < a ∧ a < 18446744073709551616) (x : K (2 ^ tz a.toNat)) : BitG .and .u64 a (IntKind.u64.wrap (0 - a)) K := by
  refine ⟨?_⟩
  have e : bitI .and .u64 a (IntKind.u64.wrap (0 - a)) = 2 ^ tz a.toNat := by
    obtain ⟨a, rfl⟩ := Int.eq_ofNat_of_zero_le (Int.le_of_lt ha.1)
    have e1 : IntKind.u64.wrap (0 - (a : Int)) = ((18446744073709551616 - a : Nat) : Int) := by rw [wrap64]; omega
    rw [e1]
    show IntKind.u64.wrap ((BitVec.ofNat 64 a &&& BitVec.ofNat 64 (18446744073709551616 - a)).toNat : Int) = _
    rw [wrap64, BitVec.toNat_and, BitVec.toNat_ofNat, BitVec.toNat_ofNat, Nat.mod_eq_of_lt (by omega), Nat.mod_eq_of_lt (by omega)]
    have h1 := and_neg 64 a (by omega) (by omega)
    rw [show (2 : Nat) ^ 64 = 18446744073709551616 by decide] at h1
    rw [h1, Int.toNat_natCast]
    have h2 : 2 ^ tz a < 18446744073709551616 := by rw [← h1]; exact Nat.lt_of_le_of_lt Nat.and_le_left (by omega)
    rw [Int.emod_eq_of_lt (by omega) (by omega)]
    simp
  rw [e]; exact x
theorem tz_64 {x : Nat} (h0 : x ≠ 0) (h : x < 18446744073709551616) : tz x < 64 := by
  have h1 := and_neg 64 x (by omega) (by omega)
  have h2 : 2 ^ tz x ≤ x := by rw [← h1]; exact Nat.and_le_left
  exact (Nat.pow_lt_pow_iff_right (a := 2) (by decide)).1 (Nat.lt_of_le_of_lt h2 (show x < 2 ^ 64 by omega))
theorem b_tz {g : List (Nat × List Value)} (hD : (0, debT.map (Value.int .u8)) ∈ g) (x : Nat) (h0 : x ≠ 0) (h : x < 18446744073709551616) : FC Tryz.prog g 82 [.val (.int .u64 (x : Int))] (· = .val (.int .i64 (tz x : Int))) := by
  have h64 := tz_64 h0 h
  have hk := deb_ok (tz x) h64
  refine FC.intro (X := XX) tok Tryz.func82 rfl Tryz.ntmps82 (by rw [Tryz.results82]) (by kernel_rfl) rfl ?_; intro F hG hO
  rw [← hG] at hD
  have hk' : rd debT (2 ^ tz ((x : Int)).toNat * 285870213051353865 % 18446744073709551616 / 288230376151711744) = (tz x : Int) := by
    rw [← hk, Int.toNat_natCast]
    simp
  repeat' ((try (conv => whnf)); first
  | (rw [hk']; with_reducible refine wrap_g (by dsimp only [inR]; omega) ?_)
  | (with_reducible refine wrap_r ?_)
  | (refine and_g (by omega) ?_)
  | (rw [wrap64]; refine shr_g (m := 288230376151711744) 58 rfl (by decide) (Int.emod_nonneg _ (by decide)) rfl ?_)
  | (with_reducible refine TabG.mk ⟨.u8, debT, hD, deb_len, by omega, ?_⟩)
  
  | (with_reducible refine Chk.mk' (by first | omega | exact trivial | (simp only [List.length_append, List.length_set, List.length_replicate, List.length_take, List.length_drop, List.length_cons, List.length_nil, List.length_map]; omega)) ?_)
  | (with_reducible refine wrap_g (by dsimp only [inR]; omega) ?_)
  | (with_reducible refine idx_g (by omega) ?_)
  | (with_reducible refine idx_l _ rfl (by decide) ?_)
  | (with_reducible refine BothG.mk ?_ ?_)
  | (with_reducible refine fork_tt ?_) | (with_reducible refine fork_ff ?_)
  | (with_reducible refine fork_e (c := true) (by decide) ?_; with_reducible refine fork_tt ?_) | (with_reducible refine fork_e (c := false) (by decide) ?_; with_reducible refine fork_ff ?_)
  | (with_reducible refine fork_t (by omega) ?_) | (with_reducible refine fork_f (by omega) ?_)
  | (with_reducible refine fork_d ?_ ?_ <;> intro hc)
  | (with_reducible refine fork_n ?_)
  | (with_reducible refine fork_b ?_ ?_ <;> intro hc)
  | (with_reducible refine SlcG.mk (by omega) ?_)
  | (with_reducible refine MakG.mk (by dsimp only; omega) ?_)
  | (with_reducible refine AppG.mk (by first | omega | (simp only [List.length_append, List.length_set, List.length_replicate, List.length_take, List.length_drop, List.length_cons, List.length_nil, List.length_map]; omega)) (by dsimp only [List.length_cons, List.length_nil]; omega) (by omega) ?_)
  | (with_reducible refine div_g (by omega) (by omega) (by dsimp only [inR]; omega) ?_)
  | (with_reducible refine mod_g (by omega) (by omega) ?_)
  | (with_reducible refine mask_g (m := 4294967296) 32 rfl rfl (by decide) (by omega) ?_)
  | (with_reducible refine shr_g (m := 4294967296) 32 rfl (by decide) (by omega) rfl ?_)
  | (with_reducible refine fz_all (by omega) ?_)
  | (with_reducible refine Stuck.h (A := RetE _ _) ?_) | (with_reducible refine Stuck.h (A := RetM _ _ _ _) ?_) | (with_reducible refine Stuck.h (A := Again _ _ _ _ _ _ _ _) ?_) | (with_reducible refine Stuck.h (A := CallF _ _ _ _ _ _ _) ?_) | (with_reducible refine Stuck.h (A := LoopG _ _ _ _ _ _ _ _) ?_) | (with_reducible refine Stuck.h (A := DrawG _ _ _ _ _ _ _ _) ?_)
  | (with_reducible refine Stuck.h (A := WrapG _ _ _) ?_) | (with_reducible refine Stuck.h (A := DivG _ _ _ _) ?_) | (with_reducible refine Stuck.h (A := ModG _ _ _) ?_) | (with_reducible refine Stuck.h (A := ShlG _ _ _ _) ?_) | (with_reducible refine Stuck.h (A := ShrG _ _ _ _) ?_) | (with_reducible refine Stuck.h (A := BitG _ _ _ _ _) ?_)
  | (with_reducible refine Stuck.h (A := IdxG _ _ _) ?_) | (with_reducible refine Stuck.h (A := IdxL _ _ _) ?_) | (with_reducible refine Stuck.h (A := SlcG _ _ _ _ _) ?_) | (with_reducible refine Stuck.h (A := MakG _ _ _ _) ?_) | (with_reducible refine Stuck.h (A := AppG _ _ _ _ _ _ _) ?_) | (with_reducible refine Stuck.h (A := FzG _ _ _ _) ?_)
  | (with_reducible refine Stuck.h (A := RawG _) ?_) | (with_reducible refine Stuck.h (A := TabG _ _ _ _ _) ?_) | (with_reducible refine Stuck.h (A := ExtF _ _ _ _) ?_) | (with_reducible refine Stuck.h (A := Chk _ _) ?_) | (with_reducible refine Stuck.h (A := False) ?_))
  exact ⟨ret_e rfl⟩
end Go.Proofs.YtbeocnjlepcglaaGreatDoor.Sim
namespace Go.Proofs.YtbeocnjlepcglaaGreatDoor.Sim
open Go.RowKit
set_option linter.unusedVariables false
set_option linter.unusedSimpArgs false
set_option maxRecDepth 10000
set_option maxHeartbeats 8000000
variable {G : List (Nat × List Value)}
theorem n_bits (X : Nat) (hX : L64 X ≤ 1073741824) : FC Tryz.prog G 66 [.ws .u64 (d64 X)] (· = .val (.int .i64 (bl X : Int))) := by
  have hl : (d64 X).length = L64 X := rfl
  have hp := len64_pos X
  obtain ⟨T, hT⟩ : ∃ T, T = X / 2 ^ (64 * (L64 X - 1)) := ⟨_, rfl⟩
  have hr : Unit → 0 < L64 X → rd (d64 X) ((L64 X : Int) - 1) = (T : Int) ∧ T < 18446744073709551616 ∧ bl X = 64 * (L64 X - 1) + bl T ∧ bl T ≤ 64 := fun _ h => by
    have h0 : X ≠ 0 := fun h1 => by subst h1; rw [L64, lenB_zero] at h; omega
    obtain ⟨h1, h2⟩ := top64 h0
    rw [← hT] at h1 h2
    refine ⟨?_, h1, ?_, bl_le h1⟩
    · have := d64_rd X (L64 X - 1)
      rw [← hT, Nat.mod_eq_of_lt h1] at this
      rw [← this]; congr 1; omega
    · rw [hT]; exact bl_top X _ (by rw [← hT]; exact h2)
  refine FC.intro (X := XX) tok Tryz.func66 rfl Tryz.ntmps66 (by rw [Tryz.results66]) (by kernel_rfl) rfl ?_; intro F hG hO
  repeat' ((try (conv => whnf)); first
  | ((with_reducible refine cg ?_); refine call_eq (n_trimN X hX) (LpL.refl _) rfl ?_)
  | ((with_reducible refine cg ?_); have hr2 := hr () (by omega); rw [hl, hr2.1]; refine call_eq (b_len T hr2.2.1) (LpL.refl _) rfl ?_)
  
  | (with_reducible refine Chk.mk' (by first | omega | exact trivial | (simp only [List.length_append, List.length_set, List.length_replicate, List.length_take, List.length_drop, List.length_cons, List.length_nil, List.length_map]; omega)) ?_)
  | (with_reducible refine wrap_g (by dsimp only [inR]; omega) ?_)
  | (with_reducible refine idx_g (by omega) ?_)
  | (with_reducible refine idx_l _ rfl (by decide) ?_)
  | (with_reducible refine BothG.mk ?_ ?_)
  | (with_reducible refine fork_tt ?_) | (with_reducible refine fork_ff ?_)
  | (with_reducible refine fork_e (c := true) (by decide) ?_; with_reducible refine fork_tt ?_) | (with_reducible refine fork_e (c := false) (by decide) ?_; with_reducible refine fork_ff ?_)
  | (with_reducible refine fork_t (by omega) ?_) | (with_reducible refine fork_f (by omega) ?_)
  | (with_reducible refine fork_d ?_ ?_ <;> intro hc)
  | (with_reducible refine fork_n ?_)
  | (with_reducible refine fork_b ?_ ?_ <;> intro hc)
  | (with_reducible refine SlcG.mk (by omega) ?_)
  | (with_reducible refine MakG.mk (by dsimp only; omega) ?_)
  | (with_reducible refine AppG.mk (by first | omega | (simp only [List.length_append, List.length_set, List.length_replicate, List.length_take, List.length_drop, List.length_cons, List.length_nil, List.length_map]; omega)) (by dsimp only [List.length_cons, List.length_nil]; omega) (by omega) ?_)
  | (with_reducible refine div_g (by omega) (by omega) (by dsimp only [inR]; omega) ?_)
  | (with_reducible refine mod_g (by omega) (by omega) ?_)
  | (with_reducible refine mask_g (m := 4294967296) 32 rfl rfl (by decide) (by omega) ?_)
  | (with_reducible refine shr_g (m := 4294967296) 32 rfl (by decide) (by omega) rfl ?_)
  | (with_reducible refine fz_all (by omega) ?_)
  | (with_reducible refine Stuck.h (A := RetE _ _) ?_) | (with_reducible refine Stuck.h (A := RetM _ _ _ _) ?_) | (with_reducible refine Stuck.h (A := Again _ _ _ _ _ _ _ _) ?_) | (with_reducible refine Stuck.h (A := CallF _ _ _ _ _ _ _) ?_) | (with_reducible refine Stuck.h (A := LoopG _ _ _ _ _ _ _ _) ?_) | (with_reducible refine Stuck.h (A := DrawG _ _ _ _ _ _ _ _) ?_)
  | (with_reducible refine Stuck.h (A := WrapG _ _ _) ?_) | (with_reducible refine Stuck.h (A := DivG _ _ _ _) ?_) | (with_reducible refine Stuck.h (A := ModG _ _ _) ?_) | (with_reducible refine Stuck.h (A := ShlG _ _ _ _) ?_) | (with_reducible refine Stuck.h (A := ShrG _ _ _ _) ?_) | (with_reducible refine Stuck.h (A := BitG _ _ _ _ _) ?_)
  | (with_reducible refine Stuck.h (A := IdxG _ _ _) ?_) | (with_reducible refine Stuck.h (A := IdxL _ _ _) ?_) | (with_reducible refine Stuck.h (A := SlcG _ _ _ _ _) ?_) | (with_reducible refine Stuck.h (A := MakG _ _ _ _) ?_) | (with_reducible refine Stuck.h (A := AppG _ _ _ _ _ _ _) ?_) | (with_reducible refine Stuck.h (A := FzG _ _ _ _) ?_)
  | (with_reducible refine Stuck.h (A := RawG _) ?_) | (with_reducible refine Stuck.h (A := TabG _ _ _ _ _) ?_) | (with_reducible refine Stuck.h (A := ExtF _ _ _ _) ?_) | (with_reducible refine Stuck.h (A := Chk _ _) ?_) | (with_reducible refine Stuck.h (A := False) ?_))
  · have h0 : X = 0 := by omega
    subst h0
    exact ⟨ret_e rfl⟩
  · have hr2 := hr () (by omega)
    exact ⟨ret_e (iv_eq (by omega))⟩
theorem n_bit (X : Nat) (i : Int) (hX : L64 X ≤ 1073741824) (hi : inR .i64 i) : FC Tryz.prog G 165 [.ws .u64 (d64 X), .val (.int .i64 i)] (· = .val (.bool (decide (0 ≤ i ∧ X / 2 ^ i.toNat % 2 = 1)))) := by
  dsimp only [inR] at hi
  have hl : (d64 X).length = L64 X := rfl
  have hr := rd_bd (by decide) (d64_ok X).1 (i / 64)
  have hp := (pw64 (n := (i % 64).toNat) (by omega)).1
  have hq0 := Int.ediv_nonneg hr.1 (Int.le_of_lt hp)
  have hq1 := Int.ediv_le_self (2 ^ (i % 64).toNat) hr.1
  refine FC.intro (X := XX) tok Tryz.func165 rfl Tryz.ntmps165 (by rw [Tryz.results165]) (by kernel_rfl) rfl ?_; intro F hG hO
  repeat' ((try (conv => whnf)); first
  | (with_reducible refine shr_p (by omega) (by dsimp only [IntKind.bits]; omega) ?_)
  | (with_reducible refine mask_g (m := 2) 1 rfl rfl (by decide) (by omega) ?_)
  
  | (with_reducible refine Chk.mk' (by first | omega | exact trivial | (simp only [List.length_append, List.length_set, List.length_replicate, List.length_take, List.length_drop, List.length_cons, List.length_nil, List.length_map]; omega)) ?_)
  | (with_reducible refine wrap_g (by dsimp only [inR]; omega) ?_)
  | (with_reducible refine idx_g (by omega) ?_)
  | (with_reducible refine idx_l _ rfl (by decide) ?_)
  | (with_reducible refine BothG.mk ?_ ?_)
  | (with_reducible refine fork_tt ?_) | (with_reducible refine fork_ff ?_)
  | (with_reducible refine fork_e (c := true) (by decide) ?_; with_reducible refine fork_tt ?_) | (with_reducible refine fork_e (c := false) (by decide) ?_; with_reducible refine fork_ff ?_)
  | (with_reducible refine fork_t (by omega) ?_) | (with_reducible refine fork_f (by omega) ?_)
  | (with_reducible refine fork_d ?_ ?_ <;> intro hc)
  | (with_reducible refine fork_n ?_)
  | (with_reducible refine fork_b ?_ ?_ <;> intro hc)
  | (with_reducible refine SlcG.mk (by omega) ?_)
  | (with_reducible refine MakG.mk (by dsimp only; omega) ?_)
  | (with_reducible refine AppG.mk (by first | omega | (simp only [List.length_append, List.length_set, List.length_replicate, List.length_take, List.length_drop, List.length_cons, List.length_nil, List.length_map]; omega)) (by dsimp only [List.length_cons, List.length_nil]; omega) (by omega) ?_)
  | (with_reducible refine div_g (by omega) (by omega) (by dsimp only [inR]; omega) ?_)
  | (with_reducible refine mod_g (by omega) (by omega) ?_)
  | (with_reducible refine mask_g (m := 4294967296) 32 rfl rfl (by decide) (by omega) ?_)
  | (with_reducible refine shr_g (m := 4294967296) 32 rfl (by decide) (by omega) rfl ?_)
  | (with_reducible refine fz_all (by omega) ?_)
  | (with_reducible refine Stuck.h (A := RetE _ _) ?_) | (with_reducible refine Stuck.h (A := RetM _ _ _ _) ?_) | (with_reducible refine Stuck.h (A := Again _ _ _ _ _ _ _ _) ?_) | (with_reducible refine Stuck.h (A := CallF _ _ _ _ _ _ _) ?_) | (with_reducible refine Stuck.h (A := LoopG _ _ _ _ _ _ _ _) ?_) | (with_reducible refine Stuck.h (A := DrawG _ _ _ _ _ _ _ _) ?_)
  | (with_reducible refine Stuck.h (A := WrapG _ _ _) ?_) | (with_reducible refine Stuck.h (A := DivG _ _ _ _) ?_) | (with_reducible refine Stuck.h (A := ModG _ _ _) ?_) | (with_reducible refine Stuck.h (A := ShlG _ _ _ _) ?_) | (with_reducible refine Stuck.h (A := ShrG _ _ _ _) ?_) | (with_reducible refine Stuck.h (A := BitG _ _ _ _ _) ?_)
  | (with_reducible refine Stuck.h (A := IdxG _ _ _) ?_) | (with_reducible refine Stuck.h (A := IdxL _ _ _) ?_) | (with_reducible refine Stuck.h (A := SlcG _ _ _ _ _) ?_) | (with_reducible refine Stuck.h (A := MakG _ _ _ _) ?_) | (with_reducible refine Stuck.h (A := AppG _ _ _ _ _ _ _) ?_) | (with_reducible refine Stuck.h (A := FzG _ _ _ _) ?_)
  | (with_reducible refine Stuck.h (A := RawG _) ?_) | (with_reducible refine Stuck.h (A := TabG _ _ _ _ _) ?_) | (with_reducible refine Stuck.h (A := ExtF _ _ _ _) ?_) | (with_reducible refine Stuck.h (A := Chk _ _) ?_) | (with_reducible refine Stuck.h (A := False) ?_))
  · exact ⟨ret_e (bv_eq (decide_eq_false (fun h => by omega)).symm)⟩
  · refine ⟨ret_e (bv_eq (decide_eq_false (fun h => ?_)).symm)⟩
    have h1 := L64_lt X
    have h2 : X < 2 ^ i.toNat := Nat.lt_of_lt_of_le h1 (Nat.pow_le_pow_right (by decide) (by omega))
    rw [Nat.div_eq_of_lt h2] at h
    exact absurd h.2 (by decide)
  · refine ⟨ret_e (bv_eq ?_)⟩
    have h1 := d64_rd X (i / 64).toNat
    rw [show (((i / 64).toNat : Nat) : Int) = i / 64 by omega] at h1
    have h2 := bit_in X (64 * (i / 64).toNat) (i % 64).toNat 64 (by omega)
    rw [show 64 * (i / 64).toNat + (i % 64).toNat = i.toNat by omega, show (2 : Nat) ^ 64 = 18446744073709551616 by decide] at h2
    have h3 : ((2 : Int) ^ (i % 64).toNat) = ((2 ^ (i % 64).toNat : Nat) : Int) := by simp
    refine decide_eq_decide.2 ?_
    rw [h1, h3, ← Int.natCast_ediv]
    omega
theorem tz_part {X W k : Nat} (h : X % 2 ^ k = 0) (hW : W = X / 2 ^ k % 18446744073709551616) (h0 : W ≠ 0) : tz X = k + tz W := by
  obtain ⟨m, h1, h2⟩ := tz_ok h0
  have hl := tz_64 h0 (by rw [hW]; exact Nat.mod_lt _ (by decide))
  have h3 := Nat.div_add_mod X (2 ^ k)
  rw [h, Nat.add_zero] at h3
  have h4 := Nat.div_add_mod (X / 2 ^ k) 18446744073709551616
  rw [← hW] at h4
  obtain ⟨q, hq⟩ : ∃ q, q = X / 2 ^ k / 18446744073709551616 := ⟨_, rfl⟩
  rw [← hq] at h4
  obtain ⟨t, ht⟩ : ∃ t, t = tz W := ⟨_, rfl⟩
  rw [← ht] at h1 hl ⊢
  have e1 : (18446744073709551616 : Nat) = 2 ^ (63 - t) * 2 * 2 ^ t := by
    rw [Nat.mul_right_comm, ← Nat.pow_add, show 63 - t + t = 63 by omega]
  have h5 : X = (2 * (2 ^ (63 - t) * q) + m) * 2 ^ (k + t) := by
    rw [← h3, ← h4, h1, e1, Nat.pow_add]
    simp only [Nat.add_mul, Nat.mul_add]
    ac_rfl
  exact tz_eq h5 (by omega)
theorem n_trail {g : List (Nat × List Value)} (hD : (0, debT.map (Value.int .u8)) ∈ g) (X : Nat) (hX : L64 X ≤ 1073741824) : FC Tryz.prog g 47 [.ws .u64 (d64 X)] (· = .val (.int .i64 (tz X : Int))) := by
  have hl : (d64 X).length = L64 X := rfl
  refine FC.intro (X := XX) tok Tryz.func47 rfl Tryz.ntmps47 (by rw [Tryz.results47]) (by kernel_rfl) rfl ?_; intro F hG hO
  rw [← hG] at hD
  repeat' ((try (conv => whnf)); first
  | ((with_reducible refine lg ?_); refine loop_g (A := Nat) (fun j => j ≤ L64 X ∧ X % 2 ^ (64 * j) = 0) (fun j => L64 X - j) (fun j => [(0, .ws .u64 (d64 X)), (5, .val (.int .i64 (L64 X : Int))), (6, .val (.int .i64 (j : Int)))]) (fun _ => []) (fun _ => []) 0 tok (fun _ => ⟨⟨trivial, trivial, trivial, trivial⟩, trivial, by simp only [List.length_nil]; omega⟩) ?_ ⟨rfl, rfl, rfl, trivial⟩ ⟨[], rfl⟩ ⟨[], rfl⟩ ?_; rotate_left; rintro j ⟨h1, h2⟩; have hr := d64_rd X j; obtain ⟨W, hW⟩ : ∃ W, W = X / 2 ^ (64 * j) % 18446744073709551616 := ⟨_, rfl⟩; rw [← hW] at hr; have hWl : W < 18446744073709551616 := (by rw [hW]; exact Nat.mod_lt _ (by decide)))
  | ((with_reducible refine cg ?_); have h64 := tz_64 (x := W) (by omega) hWl; rw [hr]; refine call_eq (b_tz hD W (by omega) hWl) (LpL.refl _) rfl ?_)
  
  | (with_reducible refine Chk.mk' (by first | omega | exact trivial | (simp only [List.length_append, List.length_set, List.length_replicate, List.length_take, List.length_drop, List.length_cons, List.length_nil, List.length_map]; omega)) ?_)
  | (with_reducible refine wrap_g (by dsimp only [inR]; omega) ?_)
  | (with_reducible refine idx_g (by omega) ?_)
  | (with_reducible refine idx_l _ rfl (by decide) ?_)
  | (with_reducible refine BothG.mk ?_ ?_)
  | (with_reducible refine fork_tt ?_) | (with_reducible refine fork_ff ?_)
  | (with_reducible refine fork_e (c := true) (by decide) ?_; with_reducible refine fork_tt ?_) | (with_reducible refine fork_e (c := false) (by decide) ?_; with_reducible refine fork_ff ?_)
  | (with_reducible refine fork_t (by omega) ?_) | (with_reducible refine fork_f (by omega) ?_)
  | (with_reducible refine fork_d ?_ ?_ <;> intro hc)
  | (with_reducible refine fork_n ?_)
  | (with_reducible refine fork_b ?_ ?_ <;> intro hc)
  | (with_reducible refine SlcG.mk (by omega) ?_)
  | (with_reducible refine MakG.mk (by dsimp only; omega) ?_)
  | (with_reducible refine AppG.mk (by first | omega | (simp only [List.length_append, List.length_set, List.length_replicate, List.length_take, List.length_drop, List.length_cons, List.length_nil, List.length_map]; omega)) (by dsimp only [List.length_cons, List.length_nil]; omega) (by omega) ?_)
  | (with_reducible refine div_g (by omega) (by omega) (by dsimp only [inR]; omega) ?_)
  | (with_reducible refine mod_g (by omega) (by omega) ?_)
  | (with_reducible refine mask_g (m := 4294967296) 32 rfl rfl (by decide) (by omega) ?_)
  | (with_reducible refine shr_g (m := 4294967296) 32 rfl (by decide) (by omega) rfl ?_)
  | (with_reducible refine fz_all (by omega) ?_)
  | (with_reducible refine Stuck.h (A := RetE _ _) ?_) | (with_reducible refine Stuck.h (A := RetM _ _ _ _) ?_) | (with_reducible refine Stuck.h (A := Again _ _ _ _ _ _ _ _) ?_) | (with_reducible refine Stuck.h (A := CallF _ _ _ _ _ _ _) ?_) | (with_reducible refine Stuck.h (A := LoopG _ _ _ _ _ _ _ _) ?_) | (with_reducible refine Stuck.h (A := DrawG _ _ _ _ _ _ _ _) ?_)
  | (with_reducible refine Stuck.h (A := WrapG _ _ _) ?_) | (with_reducible refine Stuck.h (A := DivG _ _ _ _) ?_) | (with_reducible refine Stuck.h (A := ModG _ _ _) ?_) | (with_reducible refine Stuck.h (A := ShlG _ _ _ _) ?_) | (with_reducible refine Stuck.h (A := ShrG _ _ _ _) ?_) | (with_reducible refine Stuck.h (A := BitG _ _ _ _ _) ?_)
  | (with_reducible refine Stuck.h (A := IdxG _ _ _) ?_) | (with_reducible refine Stuck.h (A := IdxL _ _ _) ?_) | (with_reducible refine Stuck.h (A := SlcG _ _ _ _ _) ?_) | (with_reducible refine Stuck.h (A := MakG _ _ _ _) ?_) | (with_reducible refine Stuck.h (A := AppG _ _ _ _ _ _ _) ?_) | (with_reducible refine Stuck.h (A := FzG _ _ _ _) ?_)
  | (with_reducible refine Stuck.h (A := RawG _) ?_) | (with_reducible refine Stuck.h (A := TabG _ _ _ _ _) ?_) | (with_reducible refine Stuck.h (A := ExtF _ _ _ _) ?_) | (with_reducible refine Stuck.h (A := Chk _ _) ?_) | (with_reducible refine Stuck.h (A := False) ?_))
  · have h0 : W ≠ 0 := by omega
    have h4 := tz_part h2 hW h0
    exact ⟨ret_e (iv_eq (by rw [h4]; omega))⟩
  · have h0 : W = 0 := by omega
    refine ⟨again (j + 1) ⟨by omega, ?_⟩ (by omega) ⟨rfl, rfl, iv_eq (by omega), trivial⟩ ⟨[], rfl⟩ ⟨[], rfl⟩⟩
    rw [show 64 * (j + 1) = 64 * j + 64 by omega]
    exact mod_step X (64 * j) 64 h2 (by rw [show (2 : Nat) ^ 64 = 18446744073709551616 by decide]; omega)
  · have h3 := L64_lt X
    rw [show L64 X = j by omega] at h3
    rw [Nat.mod_eq_of_lt h3] at h2
    exact ⟨ret_e (iv_eq (by rw [h2, tz_zero]; rfl))⟩
  · exact ⟨Nat.zero_le _, by rw [Nat.mul_zero, Nat.pow_zero, Nat.mod_one]⟩
end Go.Proofs.YtbeocnjlepcglaaGreatDoor.Sim
namespace Go.Proofs.YtbeocnjlepcglaaGreatDoor.Sim
open Go.RowKit
set_option linter.unusedVariables false
set_option linter.unusedSimpArgs false
set_option maxRecDepth 10000
set_option maxHeartbeats 8000000
variable {G : List (Nat × List Value)}
theorem L32_L64 (x : Nat) : L32 x ≤ 2 * L64 x := L32_le (by have := L64_lt x; rw [show 32 * (2 * L64 x) = 64 * L64 x by omega]; exact this)
theorem Good.lz {n e : Int} (h : Good n e) : LZ n ≤ 16384 := by have := L32_L64 n.natAbs; unfold LZ; have := h.1; omega
theorem bl_L64 (x : Nat) : bl x ≤ 64 * L64 x := bl_le (L64_lt x)
theorem Good.bl {n e : Int} (h : Good n e) : Sim.bl n.natAbs ≤ 524288 := by have := bl_L64 n.natAbs; have := h.1; omega
theorem vl_d64 (m : Nat) : (vl 18446744073709551616 (d64 m)).toNat = m := by rw [(d64_ok m).2, Int.toNat_natCast]
theorem r_zfromN (n : Int) (h : L64 n.natAbs ≤ 134217728) : FC Tryz.prog G 72 [NI n] (· = ZI n) := by
  have := r_zfrom (G := G) (decide (n < 0)) (d64 n.natAbs) (d64_ok _).1 h
  rw [vl_d64, sg_of] at this
  exact this
theorem r_formg {n e : Int} (h : Good n e) : FC Tryz.prog G 36 [DY n e] (· = .val (.bool true)) := by
  have := r_docform (G := G) (decide (n < 0)) (d64 n.natAbs) e (rd_bd (by decide) (d64_ok _).1 0)
  rw [dyF_DY n e h] at this
  exact this
theorem r_noughtg (n e : Int) : FC Tryz.prog G 16 [DY n e] (· = .val (.bool (decide (n = 0)))) := by
  have := r_nought (G := G) (decide (n < 0)) (d64 n.natAbs) e
  have hl := len64_pos n.natAbs
  rw [show decide (((d64 n.natAbs).length : Int) = 0) = decide (n = 0) from decide_eq_decide.2 (by omega)] at this
  exact this
def ofS (n : Int) : PV := DY (n / 2 ^ tz n.natAbs) (tz n.natAbs)
theorem told_of (n : Int) (h : LZ n ≤ 2) : toldS n 0 = .tup [ofS n, .val (.int .i64 0)] := by
  unfold toldS ofS
  by_cases h0 : n = 0
  · subst h0
    rw [if_pos rfl, show tz (Int.natAbs 0) = 0 from tz_zero]; rfl
  · have h1 := tz_lt (n := n.natAbs) (by omega)
    have h2 := L32_mono (Nat.div_le_self n.natAbs (2 ^ tz n.natAbs))
    unfold LZ at h
    rw [if_neg h0, if_neg (by omega), if_neg (by omega), if_neg (by omega), if_neg (by omega), if_neg (by omega), Int.zero_add]; rfl
theorem r_docof (n : Int) (h : inR .i64 n) : FC Tryz.prog G 31 [.val (.int .i64 n)] (· = ofS n) := by
  have hL : LZ n ≤ 2 := by
    dsimp only [inR] at h
    exact L32_le (show n.natAbs < 2 ^ (32 * 2) by omega)
  have f1 := r_told (G := G) n 0 (by omega) (by dsimp only [inR]; omega)
  rw [told_of n hL] at f1
  unfold ofS at f1 ⊢
  refine FC.intro (X := XX) tok Tryz.func31 rfl Tryz.ntmps31 (by rw [Tryz.results31]) (by kernel_rfl) rfl ?_; intro F hG hO
  rw [← hG] at f1
  repeat' ((try (conv => whnf)); first
  | ((with_reducible refine cg ?_); refine call_eq (r_of n h) (LpL.refl _) rfl ?_)
  | ((with_reducible refine cg ?_); refine call_eq (f1) (LpL.refl _) rfl ?_)
  
  | (with_reducible refine Chk.mk' (by first | omega | exact trivial | (simp only [List.length_append, List.length_set, List.length_replicate, List.length_take, List.length_drop, List.length_cons, List.length_nil, List.length_map]; omega)) ?_)
  | (with_reducible refine wrap_g (by dsimp only [inR]; omega) ?_)
  | (with_reducible refine idx_g (by omega) ?_)
  | (with_reducible refine idx_l _ rfl (by decide) ?_)
  | (with_reducible refine BothG.mk ?_ ?_)
  | (with_reducible refine fork_tt ?_) | (with_reducible refine fork_ff ?_)
  | (with_reducible refine fork_e (c := true) (by decide) ?_; with_reducible refine fork_tt ?_) | (with_reducible refine fork_e (c := false) (by decide) ?_; with_reducible refine fork_ff ?_)
  | (with_reducible refine fork_t (by omega) ?_) | (with_reducible refine fork_f (by omega) ?_)
  | (with_reducible refine fork_d ?_ ?_ <;> intro hc)
  | (with_reducible refine fork_n ?_)
  | (with_reducible refine fork_b ?_ ?_ <;> intro hc)
  | (with_reducible refine SlcG.mk (by omega) ?_)
  | (with_reducible refine MakG.mk (by dsimp only; omega) ?_)
  | (with_reducible refine AppG.mk (by first | omega | (simp only [List.length_append, List.length_set, List.length_replicate, List.length_take, List.length_drop, List.length_cons, List.length_nil, List.length_map]; omega)) (by dsimp only [List.length_cons, List.length_nil]; omega) (by omega) ?_)
  | (with_reducible refine div_g (by omega) (by omega) (by dsimp only [inR]; omega) ?_)
  | (with_reducible refine mod_g (by omega) (by omega) ?_)
  | (with_reducible refine mask_g (m := 4294967296) 32 rfl rfl (by decide) (by omega) ?_)
  | (with_reducible refine shr_g (m := 4294967296) 32 rfl (by decide) (by omega) rfl ?_)
  | (with_reducible refine fz_all (by omega) ?_)
  | (with_reducible refine Stuck.h (A := RetE _ _) ?_) | (with_reducible refine Stuck.h (A := RetM _ _ _ _) ?_) | (with_reducible refine Stuck.h (A := Again _ _ _ _ _ _ _ _) ?_) | (with_reducible refine Stuck.h (A := CallF _ _ _ _ _ _ _) ?_) | (with_reducible refine Stuck.h (A := LoopG _ _ _ _ _ _ _ _) ?_) | (with_reducible refine Stuck.h (A := DrawG _ _ _ _ _ _ _ _) ?_)
  | (with_reducible refine Stuck.h (A := WrapG _ _ _) ?_) | (with_reducible refine Stuck.h (A := DivG _ _ _ _) ?_) | (with_reducible refine Stuck.h (A := ModG _ _ _) ?_) | (with_reducible refine Stuck.h (A := ShlG _ _ _ _) ?_) | (with_reducible refine Stuck.h (A := ShrG _ _ _ _) ?_) | (with_reducible refine Stuck.h (A := BitG _ _ _ _ _) ?_)
  | (with_reducible refine Stuck.h (A := IdxG _ _ _) ?_) | (with_reducible refine Stuck.h (A := IdxL _ _ _) ?_) | (with_reducible refine Stuck.h (A := SlcG _ _ _ _ _) ?_) | (with_reducible refine Stuck.h (A := MakG _ _ _ _) ?_) | (with_reducible refine Stuck.h (A := AppG _ _ _ _ _ _ _) ?_) | (with_reducible refine Stuck.h (A := FzG _ _ _ _) ?_)
  | (with_reducible refine Stuck.h (A := RawG _) ?_) | (with_reducible refine Stuck.h (A := TabG _ _ _ _ _) ?_) | (with_reducible refine Stuck.h (A := ExtF _ _ _ _) ?_) | (with_reducible refine Stuck.h (A := Chk _ _) ?_) | (with_reducible refine Stuck.h (A := False) ?_))
  exact ⟨ret_e rfl⟩
theorem LZ_shl (a : Int) (k : Nat) : LZ (a * 2 ^ k) ≤ LZ a + k / 32 + 1 := by
  have h := L32_shl a.natAbs k
  unfold LZ
  have e : (a * 2 ^ k).natAbs = a.natAbs * 2 ^ k := by rw [Int.natAbs_mul, Int.natAbs_pow]; rfl
  rw [e]; exact h
theorem tz_odd {n : Nat} (h : n % 2 = 1) : tz n = 0 := tz_eq (m := n) (by simp) h
theorem told_good {n e : Int} (h : Good n e) : toldS n e = dyR n e := by
  obtain ⟨g1, g2, g3, g4, g5⟩ := h
  unfold toldS
  by_cases h0 : n = 0
  · rw [if_pos h0, h0, g4 h0]; rfl
  · have h1 : tz n.natAbs = 0 := tz_odd (by have := g5 h0; omega)
    have h2 := L32_L64 n.natAbs
    rw [if_neg h0, h1, Nat.pow_zero, Nat.div_one, if_neg (by omega), if_neg (by omega), if_neg (by omega), if_neg (by omega), if_neg (by omega)]
    simp
theorem Good.neg {n e : Int} (h : Good n e) : Good (-n) e := by
  obtain ⟨g1, g2, g3, g4, g5⟩ := h
  exact ⟨by rw [Int.natAbs_neg]; exact g1, g2, g3, fun h => g4 (by omega), fun h => by have := g5 (by omega); omega⟩
end Go.Proofs.YtbeocnjlepcglaaGreatDoor.Sim
namespace Go.Proofs.YtbeocnjlepcglaaGreatDoor.Sim
open Go.RowKit
set_option linter.unusedVariables false
set_option linter.unusedSimpArgs false
set_option maxRecDepth 10000
set_option maxHeartbeats 8000000
variable {G : List (Nat × List Value)}
theorem L64_L32 (x : Nat) : L64 x ≤ (L32 x + 1) / 2 := L64_le (Nat.lt_of_lt_of_le (L32_lt x) (Nat.pow_le_pow_right (by decide) (by omega)))
theorem Good.zero : Good 0 0 := ⟨by rw [show Int.natAbs 0 = 0 from rfl, L64, lenB_zero]; omega, by decide, by decide, fun _ => rfl, fun h => absurd rfl h⟩
/-- What is told is a dyadic in form and an error. -/
theorem told_form (n e : Int) : ∃ x y c, toldS n e = .tup [DY x y, .val (.int .i64 c)] ∧ Good x y ∧ (c = 0 ∨ c = 5) := by
  unfold toldS
  split
  · exact ⟨0, 0, 0, rfl, Good.zero, .inl rfl⟩
  · rename_i h0
    have h1 := odd_div (n := n.natAbs) (by omega)
    obtain ⟨t, ht⟩ : ∃ t, t = tz n.natAbs := ⟨_, rfl⟩
    rw [← ht] at h1 ⊢
    obtain ⟨q, hq⟩ : ∃ q, q = n.natAbs / 2 ^ t := ⟨_, rfl⟩
    rw [← hq] at h1 ⊢
    have hx := exact_div (n := n) (q := q) (t := t) h1.1
    repeat' split
    · exact ⟨0, 0, 5, rfl, Good.zero, .inr rfl⟩
    · exact ⟨0, 0, 5, rfl, Good.zero, .inr rfl⟩
    · exact ⟨0, 0, 5, rfl, Good.zero, .inr rfl⟩
    · exact ⟨0, 0, 5, rfl, Good.zero, .inr rfl⟩
    · exact ⟨0, 0, 5, rfl, Good.zero, .inr rfl⟩
    · refine ⟨_, _, 0, rfl, ?_, .inl rfl⟩
      rw [hx]
      have h3 := L64_L32 q
      have h2 := h1.2
      refine ⟨by rw [sg_abs]; omega, by omega, by omega, fun h => ?_, fun _ => ?_⟩
      · have := sg_abs (decide (n < 0)) q
        rw [h] at this
        have : q = 0 := by simpa using this.symm
        omega
      · generalize decide (n < 0) = b
        cases b <;> simp only [sg] <;> omega
end Go.Proofs.YtbeocnjlepcglaaGreatDoor.Sim
namespace Go.Proofs.YtbeocnjlepcglaaGreatDoor.Sim
open Go.RowKit
set_option linter.unusedVariables false
set_option linter.unusedSimpArgs false
set_option maxRecDepth 10000
set_option maxHeartbeats 8000000
variable {G : List (Nat × List Value)}
def scaleS (n e k : Int) : PV := if n = 0 then dyE 0 else if 2097152 < k then dyE 5 else if k < -2097152 then dyE 5 else toldS n (e + k)
theorem r_docscale {n e : Int} (k : Int) (h : Good n e) (hk : inR .i64 k) : FC Tryz.prog G 35 [DY n e, .val (.int .i64 k)] (· = scaleS n e k) := by
  dsimp only [inR] at hk
  have l1 := h.lz
  have e1 := h.2.1
  have e2 := h.2.2.1
  unfold scaleS
  obtain ⟨x, y, c, hr, hgd, hcc⟩ := told_form n (e + k)
  have f1 : -2097152 ≤ k ∧ k ≤ 2097152 → FC Tryz.prog G 53 [ZI n, .val (.int .i64 (e + k))] (· = .tup [DY x y, .val (.int .i64 c)]) := fun hk => by rw [← hr]; exact r_told (G := G) n (e + k) (by omega) (by dsimp only [inR]; omega)
  rw [hr]
  refine FC.intro (X := XX) tok Tryz.func35 rfl Tryz.ntmps35 (by rw [Tryz.results35]) (by kernel_rfl) rfl ?_; intro F hG hO
  rw [← hG] at f1
  repeat' ((try (conv => whnf)); first
  | ((with_reducible refine cg ?_); refine call_eq (r_formg h) (LpL.refl _) rfl ?_)
  | ((with_reducible refine cg ?_); refine call_eq (r_noughtg n e) (LpL.refl _) rfl ?_)
  | ((with_reducible refine cg ?_); refine call_eq (r_zfromN n (Nat.le_trans h.1 (by decide))) (LpL.refl _) rfl ?_)
  | ((with_reducible refine cg ?_); refine call_eq (f1 (by omega)) (LpL.refl _) rfl ?_)
  
  | (with_reducible refine draw_g (id := 7) [[0, 1, 3, 4, 5, 6, 2, 7, 8, 9], [10, 11]] tok mixed (by kernel_rfl) ?_)
  | (with_reducible refine Chk.mk' (by first | omega | exact trivial | (simp only [List.length_append, List.length_set, List.length_replicate, List.length_take, List.length_drop, List.length_cons, List.length_nil, List.length_map]; omega)) ?_)
  | (with_reducible refine wrap_g (by dsimp only [inR]; omega) ?_)
  | (with_reducible refine idx_g (by omega) ?_)
  | (with_reducible refine idx_l _ rfl (by decide) ?_)
  | (with_reducible refine BothG.mk ?_ ?_)
  | (with_reducible refine fork_tt ?_) | (with_reducible refine fork_ff ?_)
  | (with_reducible refine fork_e (c := true) (by decide) ?_; with_reducible refine fork_tt ?_) | (with_reducible refine fork_e (c := false) (by decide) ?_; with_reducible refine fork_ff ?_)
  | (with_reducible refine fork_t (by omega) ?_) | (with_reducible refine fork_f (by omega) ?_)
  | (with_reducible refine fork_d ?_ ?_ <;> intro hc)
  | (with_reducible refine fork_n ?_)
  | (with_reducible refine fork_b ?_ ?_ <;> intro hc)
  | (with_reducible refine SlcG.mk (by omega) ?_)
  | (with_reducible refine MakG.mk (by dsimp only; omega) ?_)
  | (with_reducible refine AppG.mk (by first | omega | (simp only [List.length_append, List.length_set, List.length_replicate, List.length_take, List.length_drop, List.length_cons, List.length_nil, List.length_map]; omega)) (by dsimp only [List.length_cons, List.length_nil]; omega) (by omega) ?_)
  | (with_reducible refine div_g (by omega) (by omega) (by dsimp only [inR]; omega) ?_)
  | (with_reducible refine mod_g (by omega) (by omega) ?_)
  | (with_reducible refine mask_g (m := 4294967296) 32 rfl rfl (by decide) (by omega) ?_)
  | (with_reducible refine shr_g (m := 4294967296) 32 rfl (by decide) (by omega) rfl ?_)
  | (with_reducible refine fz_all (by omega) ?_)
  | (with_reducible refine Stuck.h (A := RetE _ _) ?_) | (with_reducible refine Stuck.h (A := RetM _ _ _ _) ?_) | (with_reducible refine Stuck.h (A := Again _ _ _ _ _ _ _ _) ?_) | (with_reducible refine Stuck.h (A := CallF _ _ _ _ _ _ _) ?_) | (with_reducible refine Stuck.h (A := LoopG _ _ _ _ _ _ _ _) ?_) | (with_reducible refine Stuck.h (A := DrawG _ _ _ _ _ _ _ _) ?_)
  | (with_reducible refine Stuck.h (A := WrapG _ _ _) ?_) | (with_reducible refine Stuck.h (A := DivG _ _ _ _) ?_) | (with_reducible refine Stuck.h (A := ModG _ _ _) ?_) | (with_reducible refine Stuck.h (A := ShlG _ _ _ _) ?_) | (with_reducible refine Stuck.h (A := ShrG _ _ _ _) ?_) | (with_reducible refine Stuck.h (A := BitG _ _ _ _ _) ?_)
  | (with_reducible refine Stuck.h (A := IdxG _ _ _) ?_) | (with_reducible refine Stuck.h (A := IdxL _ _ _) ?_) | (with_reducible refine Stuck.h (A := SlcG _ _ _ _ _) ?_) | (with_reducible refine Stuck.h (A := MakG _ _ _ _) ?_) | (with_reducible refine Stuck.h (A := AppG _ _ _ _ _ _ _) ?_) | (with_reducible refine Stuck.h (A := FzG _ _ _ _) ?_)
  | (with_reducible refine Stuck.h (A := RawG _) ?_) | (with_reducible refine Stuck.h (A := TabG _ _ _ _ _) ?_) | (with_reducible refine Stuck.h (A := ExtF _ _ _ _) ?_) | (with_reducible refine Stuck.h (A := Chk _ _) ?_) | (with_reducible refine Stuck.h (A := False) ?_))
  all_goals first
    | (refine ⟨ret_l _ (lp_dyE 0) ?_⟩; rw [if_pos (by omega)])
    | (refine ⟨ret_l _ (lp_dyE 5) ?_⟩; rw [if_neg (by omega), if_pos (by omega)])
    | (refine ⟨ret_l _ (lp_dyE 5) ?_⟩; rw [if_neg (by omega), if_neg (by omega), if_pos (by omega)])
    | (refine ⟨ret_e ?_⟩; rw [if_neg (by omega), if_neg (by omega), if_neg (by omega)]; rfl)
def wholeS (n k : Int) (up : Bool) : Int := match up with
  | true => -((-n) / 2 ^ k.toNat)
  | false => n / 2 ^ k.toNat
theorem wholeS_L (n k : Int) (up : Bool) : LZ (wholeS n k up) ≤ LZ n + 2 := by
  cases up
  · exact LZ_shr n k.toNat
  · show LZ (-((-n) / 2 ^ k.toNat)) ≤ _
    rw [LZ_neg, ← LZ_neg n]
    exact LZ_shr (-n) k.toNat
theorem r_whole (n k : Int) (up : Bool) (h : LZ n ≤ 268435454) (hk : inR .i64 k) : FC Tryz.prog G 157 [ZI n, .val (.int .i64 k), .val (.bool up)] (· = ZI (wholeS n k up)) := by
  cases up
  · refine FC.intro (X := XX) tok Tryz.func157 rfl Tryz.ntmps157 (by rw [Tryz.results157]) (by kernel_rfl) rfl ?_; intro F hG hO
    repeat' ((try (conv => whnf)); first
  | ((with_reducible refine cg ?_); refine call_eq (r_zfshr n k h hk) (LpL.refl _) rfl ?_)
  
  | (with_reducible refine Chk.mk' (by first | omega | exact trivial | (simp only [List.length_append, List.length_set, List.length_replicate, List.length_take, List.length_drop, List.length_cons, List.length_nil, List.length_map]; omega)) ?_)
  | (with_reducible refine wrap_g (by dsimp only [inR]; omega) ?_)
  | (with_reducible refine idx_g (by omega) ?_)
  | (with_reducible refine idx_l _ rfl (by decide) ?_)
  | (with_reducible refine BothG.mk ?_ ?_)
  | (with_reducible refine fork_tt ?_) | (with_reducible refine fork_ff ?_)
  | (with_reducible refine fork_e (c := true) (by decide) ?_; with_reducible refine fork_tt ?_) | (with_reducible refine fork_e (c := false) (by decide) ?_; with_reducible refine fork_ff ?_)
  | (with_reducible refine fork_t (by omega) ?_) | (with_reducible refine fork_f (by omega) ?_)
  | (with_reducible refine fork_d ?_ ?_ <;> intro hc)
  | (with_reducible refine fork_n ?_)
  | (with_reducible refine fork_b ?_ ?_ <;> intro hc)
  | (with_reducible refine SlcG.mk (by omega) ?_)
  | (with_reducible refine MakG.mk (by dsimp only; omega) ?_)
  | (with_reducible refine AppG.mk (by first | omega | (simp only [List.length_append, List.length_set, List.length_replicate, List.length_take, List.length_drop, List.length_cons, List.length_nil, List.length_map]; omega)) (by dsimp only [List.length_cons, List.length_nil]; omega) (by omega) ?_)
  | (with_reducible refine div_g (by omega) (by omega) (by dsimp only [inR]; omega) ?_)
  | (with_reducible refine mod_g (by omega) (by omega) ?_)
  | (with_reducible refine mask_g (m := 4294967296) 32 rfl rfl (by decide) (by omega) ?_)
  | (with_reducible refine shr_g (m := 4294967296) 32 rfl (by decide) (by omega) rfl ?_)
  | (with_reducible refine fz_all (by omega) ?_)
  | (with_reducible refine Stuck.h (A := RetE _ _) ?_) | (with_reducible refine Stuck.h (A := RetM _ _ _ _) ?_) | (with_reducible refine Stuck.h (A := Again _ _ _ _ _ _ _ _) ?_) | (with_reducible refine Stuck.h (A := CallF _ _ _ _ _ _ _) ?_) | (with_reducible refine Stuck.h (A := LoopG _ _ _ _ _ _ _ _) ?_) | (with_reducible refine Stuck.h (A := DrawG _ _ _ _ _ _ _ _) ?_)
  | (with_reducible refine Stuck.h (A := WrapG _ _ _) ?_) | (with_reducible refine Stuck.h (A := DivG _ _ _ _) ?_) | (with_reducible refine Stuck.h (A := ModG _ _ _) ?_) | (with_reducible refine Stuck.h (A := ShlG _ _ _ _) ?_) | (with_reducible refine Stuck.h (A := ShrG _ _ _ _) ?_) | (with_reducible refine Stuck.h (A := BitG _ _ _ _ _) ?_)
  | (with_reducible refine Stuck.h (A := IdxG _ _ _) ?_) | (with_reducible refine Stuck.h (A := IdxL _ _ _) ?_) | (with_reducible refine Stuck.h (A := SlcG _ _ _ _ _) ?_) | (with_reducible refine Stuck.h (A := MakG _ _ _ _) ?_) | (with_reducible refine Stuck.h (A := AppG _ _ _ _ _ _ _) ?_) | (with_reducible refine Stuck.h (A := FzG _ _ _ _) ?_)
  | (with_reducible refine Stuck.h (A := RawG _) ?_) | (with_reducible refine Stuck.h (A := TabG _ _ _ _ _) ?_) | (with_reducible refine Stuck.h (A := ExtF _ _ _ _) ?_) | (with_reducible refine Stuck.h (A := Chk _ _) ?_) | (with_reducible refine Stuck.h (A := False) ?_))
    exact ⟨ret_e rfl⟩
  · refine FC.intro (X := XX) tok Tryz.func157 rfl Tryz.ntmps157 (by rw [Tryz.results157]) (by kernel_rfl) rfl ?_; intro F hG hO
    repeat' ((try (conv => whnf)); first
  | ((with_reducible refine cg ?_); refine call_eq (r_zcshr n k h hk) (LpL.refl _) rfl ?_)
  
  | (with_reducible refine Chk.mk' (by first | omega | exact trivial | (simp only [List.length_append, List.length_set, List.length_replicate, List.length_take, List.length_drop, List.length_cons, List.length_nil, List.length_map]; omega)) ?_)
  | (with_reducible refine wrap_g (by dsimp only [inR]; omega) ?_)
  | (with_reducible refine idx_g (by omega) ?_)
  | (with_reducible refine idx_l _ rfl (by decide) ?_)
  | (with_reducible refine BothG.mk ?_ ?_)
  | (with_reducible refine fork_tt ?_) | (with_reducible refine fork_ff ?_)
  | (with_reducible refine fork_e (c := true) (by decide) ?_; with_reducible refine fork_tt ?_) | (with_reducible refine fork_e (c := false) (by decide) ?_; with_reducible refine fork_ff ?_)
  | (with_reducible refine fork_t (by omega) ?_) | (with_reducible refine fork_f (by omega) ?_)
  | (with_reducible refine fork_d ?_ ?_ <;> intro hc)
  | (with_reducible refine fork_n ?_)
  | (with_reducible refine fork_b ?_ ?_ <;> intro hc)
  | (with_reducible refine SlcG.mk (by omega) ?_)
  | (with_reducible refine MakG.mk (by dsimp only; omega) ?_)
  | (with_reducible refine AppG.mk (by first | omega | (simp only [List.length_append, List.length_set, List.length_replicate, List.length_take, List.length_drop, List.length_cons, List.length_nil, List.length_map]; omega)) (by dsimp only [List.length_cons, List.length_nil]; omega) (by omega) ?_)
  | (with_reducible refine div_g (by omega) (by omega) (by dsimp only [inR]; omega) ?_)
  | (with_reducible refine mod_g (by omega) (by omega) ?_)
  | (with_reducible refine mask_g (m := 4294967296) 32 rfl rfl (by decide) (by omega) ?_)
  | (with_reducible refine shr_g (m := 4294967296) 32 rfl (by decide) (by omega) rfl ?_)
  | (with_reducible refine fz_all (by omega) ?_)
  | (with_reducible refine Stuck.h (A := RetE _ _) ?_) | (with_reducible refine Stuck.h (A := RetM _ _ _ _) ?_) | (with_reducible refine Stuck.h (A := Again _ _ _ _ _ _ _ _) ?_) | (with_reducible refine Stuck.h (A := CallF _ _ _ _ _ _ _) ?_) | (with_reducible refine Stuck.h (A := LoopG _ _ _ _ _ _ _ _) ?_) | (with_reducible refine Stuck.h (A := DrawG _ _ _ _ _ _ _ _) ?_)
  | (with_reducible refine Stuck.h (A := WrapG _ _ _) ?_) | (with_reducible refine Stuck.h (A := DivG _ _ _ _) ?_) | (with_reducible refine Stuck.h (A := ModG _ _ _) ?_) | (with_reducible refine Stuck.h (A := ShlG _ _ _ _) ?_) | (with_reducible refine Stuck.h (A := ShrG _ _ _ _) ?_) | (with_reducible refine Stuck.h (A := BitG _ _ _ _ _) ?_)
  | (with_reducible refine Stuck.h (A := IdxG _ _ _) ?_) | (with_reducible refine Stuck.h (A := IdxL _ _ _) ?_) | (with_reducible refine Stuck.h (A := SlcG _ _ _ _ _) ?_) | (with_reducible refine Stuck.h (A := MakG _ _ _ _) ?_) | (with_reducible refine Stuck.h (A := AppG _ _ _ _ _ _ _) ?_) | (with_reducible refine Stuck.h (A := FzG _ _ _ _) ?_)
  | (with_reducible refine Stuck.h (A := RawG _) ?_) | (with_reducible refine Stuck.h (A := TabG _ _ _ _ _) ?_) | (with_reducible refine Stuck.h (A := ExtF _ _ _ _) ?_) | (with_reducible refine Stuck.h (A := Chk _ _) ?_) | (with_reducible refine Stuck.h (A := False) ?_))
    exact ⟨ret_e rfl⟩
def cutS (n e p : Int) (up : Bool) : PV := if (bl n.natAbs : Int) - p ≤ 0 then toldS n e else toldS (wholeS n ((bl n.natAbs : Int) - p) up) (e + ((bl n.natAbs : Int) - p))
theorem cut_form (n e p : Int) (up : Bool) : ∃ x y c, cutS n e p up = .tup [DY x y, .val (.int .i64 c)] ∧ Good x y ∧ (c = 0 ∨ c = 5) := by
  unfold cutS
  split <;> exact told_form _ _
theorem r_cut (n e p : Int) (up : Bool) (h : LZ n ≤ 134217728) (he : -1099511627776 ≤ e ∧ e ≤ 1099511627776) (hp : 0 ≤ p ∧ p ≤ 1099511627776) : FC Tryz.prog G 156 [ZI n, .val (.int .i64 e), .val (.int .i64 p), .val (.bool up)] (· = cutS n e p up) := by
  have hb := bl_L64 n.natAbs
  have hb2 := L64_L32 n.natAbs
  have hLZ : LZ n = L32 n.natAbs := rfl
  have f0 := r_bits (G := G) n.natAbs (by omega)
  unfold cutS
  obtain ⟨b, hbb⟩ : ∃ b, b = bl n.natAbs := ⟨_, rfl⟩
  rw [← hbb] at hb f0 ⊢
  have hw := wholeS_L n ((b : Int) - p) up
  have f1 := r_told (G := G) n e (by omega) (by dsimp only [inR]; omega)
  have f2 := r_told (G := G) (wholeS n ((b : Int) - p) up) (e + ((b : Int) - p)) (by omega) (by dsimp only [inR]; omega)
  obtain ⟨x, y, c, hr, hgd, hcc⟩ := told_form n e
  obtain ⟨x2, y2, c2, hr2, hgd2, hcc2⟩ := told_form (wholeS n ((b : Int) - p) up) (e + ((b : Int) - p))
  rw [hr] at f1 ⊢
  rw [hr2] at f2 ⊢
  have f3 := r_whole (G := G) n ((b : Int) - p) up (by omega) (by dsimp only [inR]; omega)
  obtain ⟨v, hv⟩ : ∃ v, v = wholeS n ((b : Int) - p) up := ⟨_, rfl⟩
  rw [← hv] at f2 f3
  refine FC.intro (X := XX) tok Tryz.func156 rfl Tryz.ntmps156 (by rw [Tryz.results156]) (by kernel_rfl) rfl ?_; intro F hG hO
  rw [← hG] at f0 f1 f2 f3
  repeat' ((try (conv => whnf)); first
  | ((with_reducible refine cg ?_); refine call_eq (f0) (LpL.refl _) rfl ?_)
  | ((with_reducible refine cg ?_); refine call_eq (f1) (LpL.refl _) rfl ?_)
  | ((with_reducible refine cg ?_); refine call_eq (f2) (LpL.refl _) rfl ?_)
  | ((with_reducible refine cg ?_); refine call_eq (f3) (LpL.refl _) rfl ?_)
  
  | (with_reducible refine Chk.mk' (by first | omega | exact trivial | (simp only [List.length_append, List.length_set, List.length_replicate, List.length_take, List.length_drop, List.length_cons, List.length_nil, List.length_map]; omega)) ?_)
  | (with_reducible refine wrap_g (by dsimp only [inR]; omega) ?_)
  | (with_reducible refine idx_g (by omega) ?_)
  | (with_reducible refine idx_l _ rfl (by decide) ?_)
  | (with_reducible refine BothG.mk ?_ ?_)
  | (with_reducible refine fork_tt ?_) | (with_reducible refine fork_ff ?_)
  | (with_reducible refine fork_e (c := true) (by decide) ?_; with_reducible refine fork_tt ?_) | (with_reducible refine fork_e (c := false) (by decide) ?_; with_reducible refine fork_ff ?_)
  | (with_reducible refine fork_t (by omega) ?_) | (with_reducible refine fork_f (by omega) ?_)
  | (with_reducible refine fork_d ?_ ?_ <;> intro hc)
  | (with_reducible refine fork_n ?_)
  | (with_reducible refine fork_b ?_ ?_ <;> intro hc)
  | (with_reducible refine SlcG.mk (by omega) ?_)
  | (with_reducible refine MakG.mk (by dsimp only; omega) ?_)
  | (with_reducible refine AppG.mk (by first | omega | (simp only [List.length_append, List.length_set, List.length_replicate, List.length_take, List.length_drop, List.length_cons, List.length_nil, List.length_map]; omega)) (by dsimp only [List.length_cons, List.length_nil]; omega) (by omega) ?_)
  | (with_reducible refine div_g (by omega) (by omega) (by dsimp only [inR]; omega) ?_)
  | (with_reducible refine mod_g (by omega) (by omega) ?_)
  | (with_reducible refine mask_g (m := 4294967296) 32 rfl rfl (by decide) (by omega) ?_)
  | (with_reducible refine shr_g (m := 4294967296) 32 rfl (by decide) (by omega) rfl ?_)
  | (with_reducible refine fz_all (by omega) ?_)
  | (with_reducible refine Stuck.h (A := RetE _ _) ?_) | (with_reducible refine Stuck.h (A := RetM _ _ _ _) ?_) | (with_reducible refine Stuck.h (A := Again _ _ _ _ _ _ _ _) ?_) | (with_reducible refine Stuck.h (A := CallF _ _ _ _ _ _ _) ?_) | (with_reducible refine Stuck.h (A := LoopG _ _ _ _ _ _ _ _) ?_) | (with_reducible refine Stuck.h (A := DrawG _ _ _ _ _ _ _ _) ?_)
  | (with_reducible refine Stuck.h (A := WrapG _ _ _) ?_) | (with_reducible refine Stuck.h (A := DivG _ _ _ _) ?_) | (with_reducible refine Stuck.h (A := ModG _ _ _) ?_) | (with_reducible refine Stuck.h (A := ShlG _ _ _ _) ?_) | (with_reducible refine Stuck.h (A := ShrG _ _ _ _) ?_) | (with_reducible refine Stuck.h (A := BitG _ _ _ _ _) ?_)
  | (with_reducible refine Stuck.h (A := IdxG _ _ _) ?_) | (with_reducible refine Stuck.h (A := IdxL _ _ _) ?_) | (with_reducible refine Stuck.h (A := SlcG _ _ _ _ _) ?_) | (with_reducible refine Stuck.h (A := MakG _ _ _ _) ?_) | (with_reducible refine Stuck.h (A := AppG _ _ _ _ _ _ _) ?_) | (with_reducible refine Stuck.h (A := FzG _ _ _ _) ?_)
  | (with_reducible refine Stuck.h (A := RawG _) ?_) | (with_reducible refine Stuck.h (A := TabG _ _ _ _ _) ?_) | (with_reducible refine Stuck.h (A := ExtF _ _ _ _) ?_) | (with_reducible refine Stuck.h (A := Chk _ _) ?_) | (with_reducible refine Stuck.h (A := False) ?_))
  · exact ⟨ret_e (by rw [if_pos (by omega)]; rfl)⟩
  · exact ⟨ret_e (by rw [if_neg (by omega)]; rfl)⟩
end Go.Proofs.YtbeocnjlepcglaaGreatDoor.Sim
namespace Go.Proofs.YtbeocnjlepcglaaGreatDoor.Sim
open Go.RowKit
set_option linter.unusedVariables false
set_option linter.unusedSimpArgs false
set_option maxRecDepth 10000
set_option maxHeartbeats 8000000
variable {G : List (Nat × List Value)}
def shlC (X : Nat) (n : Int) : Int := if n < 0 then 1 else if X = 0 then 0 else if 524288 - (bl X : Int) < n then 5 else 0
def shlL (X : Nat) (n : Int) : List Int := if shlC X n = 0 then d64 (X * 2 ^ n.toNat) else []
def shlT (X : Nat) (n : Int) : PV := .tup [.ws .u64 (shlL X n), .val (.int .i64 (shlC X n))]
theorem shl_word (a k : Nat) (ha : a < 18446744073709551616) (hk : k < 64) : a * 2 ^ k % 18446744073709551616 + 18446744073709551616 * (a / 2 / 2 ^ (63 - k)) = a * 2 ^ k ∧ a / 2 / 2 ^ (63 - k) < 2 ^ k ∧ a * 2 ^ k % 18446744073709551616 % 2 ^ k = 0 ∧ a * 2 ^ k % 18446744073709551616 + 2 ^ k ≤ 18446744073709551616 := by
  have e1 : a / 2 / 2 ^ (63 - k) = a * 2 ^ k / 18446744073709551616 := by
    rw [Nat.div_div_eq_div_mul, show 2 * 2 ^ (63 - k) = 2 ^ (64 - k) by rw [Nat.mul_comm, ← Nat.pow_succ]; congr 1; omega]
    rw [show (18446744073709551616 : Nat) = 2 ^ (64 - k) * 2 ^ k by rw [← Nat.pow_add, show 64 - k + k = 64 by omega], Nat.mul_div_mul_right _ _ (Nat.pow_pos (by decide))]
  have e2 : (18446744073709551616 : Nat) = 2 ^ (64 - k) * 2 ^ k := by rw [← Nat.pow_add, show 64 - k + k = 64 by omega]
  have h3 : a * 2 ^ k % 18446744073709551616 % 2 ^ k = 0 := by
    rw [Nat.mod_mod_of_dvd _ (by rw [e2]; exact Nat.dvd_mul_left _ _), Nat.mul_mod_left]
  refine ⟨by rw [e1]; exact Nat.mod_add_div _ _, ?_, h3, ?_⟩
  · rw [e1, Nat.div_lt_iff_lt_mul (by decide), Nat.mul_comm]
    exact Nat.mul_lt_mul_of_pos_left ha (Nat.pow_pos (by decide))
  · have h4 := Nat.mod_lt (a * 2 ^ k) (show 0 < 18446744073709551616 by decide)
    have h5 := Nat.div_add_mod (a * 2 ^ k % 18446744073709551616) (2 ^ k)
    rw [h3, Nat.add_zero] at h5
    rw [← h5] at h4 ⊢
    generalize a * 2 ^ k % 18446744073709551616 / 2 ^ k = q at *
    rw [e2, Nat.mul_comm] at h4
    have h6 : q < 2 ^ (64 - k) := Nat.lt_of_mul_lt_mul_right h4
    have h7 : 2 ^ k * (q + 1) ≤ 2 ^ k * 2 ^ (64 - k) := Nat.mul_le_mul_left _ h6
    rw [Nat.mul_add, Nat.mul_one, Nat.mul_comm (2 ^ k) (2 ^ (64 - k)), ← e2] at h7
    exact h7
def ShlI (a t : List Int) (k : Nat) (c : Int) : Prop := t.length ≤ a.length ∧ okD 18446744073709551616 t ∧ (0 ≤ c ∧ c < 2 ^ k) ∧ vl 18446744073709551616 t + 18446744073709551616 ^ t.length * c = vl 18446744073709551616 (a.take t.length) * 2 ^ k
theorem ShlI.step {a t : List Int} {k : Nat} {c : Int} (h : ShlI a t k c) (hlt : t.length < a.length) (ok : okD 18446744073709551616 a) (hk : k < 64) :
    (0 ≤ rd a t.length * 2 ^ k % 18446744073709551616 ∧ rd a t.length * 2 ^ k % 18446744073709551616 < 18446744073709551616) ∧ rd a t.length * 2 ^ k % 18446744073709551616 % 2 ^ k = 0 ∧ c + rd a t.length * 2 ^ k % 18446744073709551616 < 18446744073709551616 ∧ ShlI a (t ++ [c + rd a t.length * 2 ^ k % 18446744073709551616]) k (rd a t.length / 2 / 2 ^ (63 - k)) := by
  obtain ⟨h1, h2, h3, h4⟩ := h
  obtain ⟨x, hx⟩ := Int.eq_ofNat_of_zero_le (rd_bd (by decide) ok (t.length : Int)).1
  have hb := (rd_bd (by decide) ok (t.length : Int)).2
  rw [hx] at hb
  obtain ⟨g1, g2, g3, g4⟩ := shl_word x k (by omega) hk
  have p1 : ((2 : Int) ^ k) = ((2 ^ k : Nat) : Int) := by simp
  have p2 : ((2 : Int) ^ (63 - k)) = ((2 ^ (63 - k) : Nat) : Int) := by simp
  rw [p1] at h3 h4
  rw [hx, p1, p2]
  have q1 : ((x : Int) * ((2 ^ k : Nat) : Int) % 18446744073709551616) = ((x * 2 ^ k % 18446744073709551616 : Nat) : Int) := by simp
  have q2 : ((x : Int) / 2 / ((2 ^ (63 - k) : Nat) : Int)) = ((x / 2 / 2 ^ (63 - k) : Nat) : Int) := by simp
  rw [q1, q2]
  have q3 : (((x * 2 ^ k % 18446744073709551616 : Nat) : Int) % ((2 ^ k : Nat) : Int)) = ((x * 2 ^ k % 18446744073709551616 % 2 ^ k : Nat) : Int) := by simp
  rw [q3, g3]
  refine ⟨by omega, rfl, by omega, ?_⟩
  refine ⟨by rw [len_snoc]; omega, okD_append.2 ⟨h2, okD_cons.2 ⟨by omega, okD_nil _⟩⟩, by rw [p1]; omega, ?_⟩
  have g5 : ((x * 2 ^ k % 18446744073709551616 : Nat) : Int) + 18446744073709551616 * ((x / 2 / 2 ^ (63 - k) : Nat) : Int) = (x : Int) * ((2 ^ k : Nat) : Int) := by
    rw [← Int.natCast_mul, ← g1]; simp
  rw [p1, vl_snoc, len_snoc, sum_step (T := c + (x : Int) * ((2 ^ k : Nat) : Int)) t.length (by omega), Int.mul_add, ← Int.add_assoc, h4, vl_take_step, hx, Int.add_mul, Int.mul_assoc]
theorem ins_end {p s : List Int} {lo : Nat} (h : lo + s.length = p.length) : ins p lo s = p.take lo ++ s := by
  unfold ins
  rw [List.drop_eq_nil_of_le (by omega), List.append_nil]
theorem ShlI.done {a t : List Int} {k : Nat} {c : Int} (h : ShlI a t k c) (hk : (2 : Int) ^ k < 18446744073709551616) (hl : t.length = a.length) (lo : Nat) : okD 18446744073709551616 (List.replicate lo 0 ++ (t ++ [c])) ∧ vl 18446744073709551616 (List.replicate lo 0 ++ (t ++ [c])) = 18446744073709551616 ^ lo * (vl 18446744073709551616 a * 2 ^ k) := by
  obtain ⟨h1, h2, h3, h4⟩ := h
  rw [List.take_of_length_le (by omega)] at h4
  refine ⟨okD_append.2 ⟨fun x hx => by rw [List.eq_of_mem_replicate hx]; decide, okD_append.2 ⟨h2, okD_cons.2 ⟨by omega, okD_nil _⟩⟩⟩, ?_⟩
  rw [vl_append, vl_zero, List.length_replicate, Int.zero_add, vl_snoc, h4]
theorem shlT_1 {X : Nat} {n : Int} (h : n < 0) : shlT X n = natE 1 := by unfold shlT shlL shlC; rw [if_pos h]; rfl
theorem shlT_0 {X : Nat} {n : Int} (h : ¬ n < 0) (h0 : X = 0) : shlT X n = natE 0 := by
  unfold shlT shlL shlC
  rw [if_neg h, if_pos h0, if_pos rfl, h0, Nat.zero_mul, d64_0]; rfl
theorem shlT_5 {X : Nat} {n : Int} (h : ¬ n < 0) (h0 : X ≠ 0) (h1 : 524288 - (bl X : Int) < n) : shlT X n = natE 5 := by unfold shlT shlL shlC; rw [if_neg h, if_neg h0, if_pos h1]; rfl
theorem shlT_ok {X : Nat} {n : Int} (h : ¬ n < 0) (h0 : X ≠ 0) (h1 : ¬ 524288 - (bl X : Int) < n) : shlT X n = natT (X * 2 ^ n.toNat) := by
  rw [natT_ok]
  · unfold shlT shlL shlC; rw [if_neg h, if_neg h0, if_neg h1, if_pos rfl]; rfl
  · rw [L64_bl, bl_mul_pow X n.toNat h0]; omega
theorem shl_final (X : Nat) (n : Int) (h : 0 ≤ n) : ((18446744073709551616 : Int) ^ (n / 64).toNat * ((X : Int) * 2 ^ (n % 64).toNat)).toNat = X * 2 ^ n.toNat := by
  have e : ((18446744073709551616 : Int) ^ (n / 64).toNat * ((X : Int) * 2 ^ (n % 64).toNat)) = ((18446744073709551616 ^ (n / 64).toNat * (X * 2 ^ (n % 64).toNat) : Nat) : Int) := by simp
  rw [e, Int.toNat_natCast, pow64, Nat.mul_left_comm, ← Nat.pow_add]
  congr 2
  omega
theorem n_shl (X : Nat) (n : Int) (hX : L64 X ≤ 8192) (hn : inR .i64 n) : FC Tryz.prog G 67 [.ws .u64 (d64 X), .val (.int .i64 n)] (· = shlT X n) := by
  dsimp only [inR] at hn
  have fa := n_formN (G := G) X hX
  have fb := n_bits (G := G) X (by omega)
  have hbl : bl X ≤ 524288 := by have := bl_L64 X; omega
  have hp := len64_pos X
  obtain ⟨a, ea⟩ : ∃ a, a = d64 X := ⟨_, rfl⟩
  obtain ⟨oka, va⟩ := d64_ok X
  replace hX : (d64 X).length ≤ 8192 := hX
  rw [← ea] at hX oka va fa fb hp
  rw [← ea]
  have hk : (n % 64).toNat < 64 := by omega
  have hw := pw64 hk
  refine FC.intro (X := XX) tok Tryz.func67 rfl Tryz.ntmps67 (by rw [Tryz.results67]) (by kernel_rfl) rfl ?_; intro F hG hO
  rw [← hG] at fa fb
  repeat' ((try (conv => whnf)); first
  | ((with_reducible refine cg ?_); refine call_eq (fa) (LpL.refl _) rfl ?_)
  | ((with_reducible refine cg ?_); refine call_eq (fb) (LpL.refl _) rfl ?_)
  | ((with_reducible refine lg ?_); refine loop_g (A := List Int × Int) (fun (t, c) => ShlI a t (n % 64).toNat c) (fun (t, c) => a.length - t.length) (fun (t, c) => [(0, .ws .u64 a), (6, .val (.int .i64 (n / 64))), (7, .val (.int .i64 (n % 64))), (8, .arr 0 0 ((n / 64).toNat + a.length + 1)), (34, .val (.int .i64 (a.length : Int))), (35, .val (.int .i64 (t.length : Int)))]) (fun _ => []) (fun (t, c) => [some ⟨1, 44, .w .u64 (ins (List.replicate ((n / 64).toNat + a.length + 1) 0) (n / 64).toNat (t ++ [c]))⟩]) ([], 0) tok (fun (t, c) => ⟨⟨trivial, trivial, trivial, Nat.one_pos, trivial, trivial, trivial⟩, trivial, by simp only [List.length_cons]; omega⟩) ?_ ⟨rfl, rfl, rfl, congrArg (PV.arr 0 0) (by omega), rfl, rfl, trivial⟩ ⟨[], rfl⟩ ⟨[], (by dsimp only; rw [List.nil_append, ins_zero _ _ (by omega), show (n / 64 + (a.length : Int) + 1).toNat = (n / 64).toNat + a.length + 1 by omega]; rfl)⟩ ?_; rotate_left; rintro ⟨t, c⟩ hI; have hI2 := hI; obtain ⟨i1, i2, i3, i4⟩ := hI2; have ra := rd_bd (by decide) oka (t.length : Int); have hil : (ins (List.replicate ((n / 64).toNat + a.length + 1) 0) (n / 64).toNat (t ++ [c])).length = (n / 64).toNat + a.length + 1 := (by rw [ins_len (by simp; omega)]; simp))
  | (with_reducible refine shl_m (by omega) ?_)
  | (with_reducible refine shr_g (m := 2) 1 rfl (by decide) (by omega) rfl ?_)
  | (with_reducible refine shr_p (by omega) (by dsimp only [IntKind.bits]; omega) ?_)
  | (have hst := hI.step (by omega) oka hk; rw [show 0 + (n / 64 + (t.length : Int)).toNat = (n / 64).toNat + t.length by omega, ins_getE c (by simp; omega)]; refine or_g (n % 64).toNat (by omega) hst.1 i3.2 hst.2.1 hst.2.2.1 ?_)
  | ((with_reducible refine cg ?_); have hdn := hI.done hw.2 (by omega) (n / 64).toNat; refine call_fz 0 (A := ins (List.replicate ((n / 64).toNat + a.length + 1) 0) (n / 64).toNat (t ++ [c])) (B := List.replicate (n / 64).toNat 0 ++ (t ++ [c])) rfl rfl (by omega) (by rw [List.drop_zero, ins_end (by simp; omega), List.take_replicate, Nat.min_eq_left (by omega)]; exact List.take_of_length_le (by simp; omega)) (by omega) ?_; refine call_eq (n_told (List.replicate (n / 64).toNat 0 ++ (t ++ [c])) hdn.1 (by simp; omega)) (LpL.refl _) rfl ?_; rw [hdn.2])
  
  | (with_reducible refine draw_g (id := 14) [[0, 1, 2, 3, 4, 5, 6, 7, 8, 9, 10, 11, 12, 13], [14]] tok mixed (by kernel_rfl) ?_)
  | (with_reducible refine Chk.mk' (by first | omega | exact trivial | (simp only [List.length_append, List.length_set, List.length_replicate, List.length_take, List.length_drop, List.length_cons, List.length_nil, List.length_map]; omega)) ?_)
  | (with_reducible refine wrap_g (by dsimp only [inR]; omega) ?_)
  | (with_reducible refine idx_g (by omega) ?_)
  | (with_reducible refine idx_l _ rfl (by decide) ?_)
  | (with_reducible refine BothG.mk ?_ ?_)
  | (with_reducible refine fork_tt ?_) | (with_reducible refine fork_ff ?_)
  | (with_reducible refine fork_e (c := true) (by decide) ?_; with_reducible refine fork_tt ?_) | (with_reducible refine fork_e (c := false) (by decide) ?_; with_reducible refine fork_ff ?_)
  | (with_reducible refine fork_t (by omega) ?_) | (with_reducible refine fork_f (by omega) ?_)
  | (with_reducible refine fork_d ?_ ?_ <;> intro hc)
  | (with_reducible refine fork_n ?_)
  | (with_reducible refine fork_b ?_ ?_ <;> intro hc)
  | (with_reducible refine SlcG.mk (by omega) ?_)
  | (with_reducible refine MakG.mk (by dsimp only; omega) ?_)
  | (with_reducible refine AppG.mk (by first | omega | (simp only [List.length_append, List.length_set, List.length_replicate, List.length_take, List.length_drop, List.length_cons, List.length_nil, List.length_map]; omega)) (by dsimp only [List.length_cons, List.length_nil]; omega) (by omega) ?_)
  | (with_reducible refine div_g (by omega) (by omega) (by dsimp only [inR]; omega) ?_)
  | (with_reducible refine mod_g (by omega) (by omega) ?_)
  | (with_reducible refine mask_g (m := 4294967296) 32 rfl rfl (by decide) (by omega) ?_)
  | (with_reducible refine shr_g (m := 4294967296) 32 rfl (by decide) (by omega) rfl ?_)
  | (with_reducible refine fz_all (by omega) ?_)
  | (with_reducible refine Stuck.h (A := RetE _ _) ?_) | (with_reducible refine Stuck.h (A := RetM _ _ _ _) ?_) | (with_reducible refine Stuck.h (A := Again _ _ _ _ _ _ _ _) ?_) | (with_reducible refine Stuck.h (A := CallF _ _ _ _ _ _ _) ?_) | (with_reducible refine Stuck.h (A := LoopG _ _ _ _ _ _ _ _) ?_) | (with_reducible refine Stuck.h (A := DrawG _ _ _ _ _ _ _ _) ?_)
  | (with_reducible refine Stuck.h (A := WrapG _ _ _) ?_) | (with_reducible refine Stuck.h (A := DivG _ _ _ _) ?_) | (with_reducible refine Stuck.h (A := ModG _ _ _) ?_) | (with_reducible refine Stuck.h (A := ShlG _ _ _ _) ?_) | (with_reducible refine Stuck.h (A := ShrG _ _ _ _) ?_) | (with_reducible refine Stuck.h (A := BitG _ _ _ _ _) ?_)
  | (with_reducible refine Stuck.h (A := IdxG _ _ _) ?_) | (with_reducible refine Stuck.h (A := IdxL _ _ _) ?_) | (with_reducible refine Stuck.h (A := SlcG _ _ _ _ _) ?_) | (with_reducible refine Stuck.h (A := MakG _ _ _ _) ?_) | (with_reducible refine Stuck.h (A := AppG _ _ _ _ _ _ _) ?_) | (with_reducible refine Stuck.h (A := FzG _ _ _ _) ?_)
  | (with_reducible refine Stuck.h (A := RawG _) ?_) | (with_reducible refine Stuck.h (A := TabG _ _ _ _ _) ?_) | (with_reducible refine Stuck.h (A := ExtF _ _ _ _) ?_) | (with_reducible refine Stuck.h (A := Chk _ _) ?_) | (with_reducible refine Stuck.h (A := False) ?_))
  · exact ⟨ret_l _ (lp_natE 1) (shlT_1 hc).symm⟩
  · exact ⟨ret_l _ (lp_natE 0) (shlT_0 (by omega) (by omega)).symm⟩
  · exact ⟨ret_l _ (lp_natE 5) (shlT_5 (by omega) (by omega) (by omega)).symm⟩
  · have hst := hI.step (by omega) oka hk
    have e3 : (63 - n % 64).toNat = 63 - (n % 64).toNat := by omega
    refine ⟨again (t ++ [c + rd a (t.length : Int) * 2 ^ (n % 64).toNat % 18446744073709551616], rd a (t.length : Int) / 2 / 2 ^ (63 - (n % 64).toNat)) hst.2.2.2 (by dsimp only; rw [len_snoc]; omega) ⟨rfl, rfl, rfl, rfl, rfl, iv_eq (by rw [len_snoc]; omega), trivial⟩ ⟨[], rfl⟩ ⟨[], ?_⟩⟩
    have hs1 := ins_over (p := List.replicate ((n / 64).toNat + a.length + 1) (0 : Int)) (t := t) (lo := (n / 64).toNat) c (c + rd a (t.length : Int) * 2 ^ (n % 64).toNat % 18446744073709551616) (by simp; omega)
    have hs2 := ins_set (p := List.replicate ((n / 64).toNat + a.length + 1) (0 : Int)) (s := t ++ [c + rd a (t.length : Int) * 2 ^ (n % 64).toNat % 18446744073709551616]) (lo := (n / 64).toNat) (rd a (t.length : Int) / 2 / 2 ^ (63 - (n % 64).toNat)) (by simp; omega)
    rw [len_snoc] at hs2
    dsimp only
    rw [← hs2, ← hs1, e3, show 0 + (n / 64 + (t.length : Int)).toNat = (n / 64).toNat + t.length by omega, show 0 + (n / 64 + (t.length : Int) + 1).toNat = (n / 64).toNat + (t.length + 1) by omega]; rfl
  · refine ⟨ret_e ?_⟩
    rw [va, shlT_ok (by omega) (by omega) (by omega), shl_final X n (by omega)]; rfl
  · exact ⟨Nat.zero_le _, okD_nil _, ⟨Int.le_refl _, hw.1⟩, by simp [vl]⟩
end Go.Proofs.YtbeocnjlepcglaaGreatDoor.Sim
namespace Go.Proofs.YtbeocnjlepcglaaGreatDoor.Sim
open Go.RowKit
set_option linter.unusedVariables false
set_option linter.unusedSimpArgs false
set_option maxRecDepth 10000
set_option maxHeartbeats 8000000
variable {G : List (Nat × List Value)}
theorem shr_word (Z k : Nat) (hk : k < 64) : Z / 2 ^ k % 18446744073709551616 = Z % 18446744073709551616 / 2 ^ k + Z / 18446744073709551616 % 18446744073709551616 * 2 % 18446744073709551616 * 2 ^ (63 - k) % 18446744073709551616 ∧ Z % 18446744073709551616 / 2 ^ k < 2 ^ (64 - k) ∧ Z / 18446744073709551616 % 18446744073709551616 * 2 % 18446744073709551616 * 2 ^ (63 - k) % 18446744073709551616 % 2 ^ (64 - k) = 0 := by
  have e2 : (18446744073709551616 : Nat) = 2 ^ (64 - k) * 2 ^ k := by rw [← Nat.pow_add, show 64 - k + k = 64 by omega]
  have hp : 0 < 2 ^ k := Nat.pow_pos (by decide)
  have h1 : Z % 18446744073709551616 / 2 ^ k < 2 ^ (64 - k) := by
    rw [Nat.div_lt_iff_lt_mul hp, ← e2]; exact Nat.mod_lt _ (by decide)
  have h2 : Z / 18446744073709551616 % 18446744073709551616 * 2 % 18446744073709551616 * 2 ^ (63 - k) % 18446744073709551616 = Z / 18446744073709551616 * 2 ^ (64 - k) % 18446744073709551616 := by
    rw [Nat.mod_mul_mod, Nat.mul_assoc, Nat.mod_mul_mod, show 2 * 2 ^ (63 - k) = 2 ^ (64 - k) by rw [Nat.mul_comm, ← Nat.pow_succ]; congr 1; omega]
  have h3 : Z / 18446744073709551616 * 2 ^ (64 - k) % 18446744073709551616 % 2 ^ (64 - k) = 0 := by
    rw [Nat.mod_mod_of_dvd _ (by rw [e2]; exact Nat.dvd_mul_right _ _), Nat.mul_mod_left]
  rw [h2]
  refine ⟨?_, h1, h3⟩
  have h4 : Z / 2 ^ k = Z % 18446744073709551616 / 2 ^ k + Z / 18446744073709551616 * 2 ^ (64 - k) := by
    have h5 := Nat.mod_add_div Z 18446744073709551616
    conv => lhs; rw [← h5]
    have h6 : 18446744073709551616 * (Z / 18446744073709551616) = 2 ^ k * (Z / 18446744073709551616 * 2 ^ (64 - k)) := by
      generalize Z / 18446744073709551616 = q
      rw [e2, Nat.mul_comm (2 ^ (64 - k)), Nat.mul_assoc, Nat.mul_comm (2 ^ (64 - k))]
    rw [h6, Nat.add_mul_div_left _ _ hp]
  have h7 : Z / 18446744073709551616 * 2 ^ (64 - k) % 18446744073709551616 + 2 ^ (64 - k) ≤ 18446744073709551616 := by
    have h8 := Nat.mod_lt (Z / 18446744073709551616 * 2 ^ (64 - k)) (show 0 < 18446744073709551616 by decide)
    have h9 := Nat.div_add_mod (Z / 18446744073709551616 * 2 ^ (64 - k) % 18446744073709551616) (2 ^ (64 - k))
    rw [h3, Nat.add_zero] at h9
    rw [← h9] at h8 ⊢
    generalize Z / 18446744073709551616 * 2 ^ (64 - k) % 18446744073709551616 / 2 ^ (64 - k) = q at *
    have h10 : q < 2 ^ k := by
      rw [e2] at h8
      exact Nat.lt_of_mul_lt_mul_left h8
    have h11 : 2 ^ (64 - k) * (q + 1) ≤ 2 ^ (64 - k) * 2 ^ k := Nat.mul_le_mul_left _ h10
    rw [← e2, Nat.mul_add, Nat.mul_one] at h11
    exact h11
  rw [h4, Nat.add_mod, Nat.mod_eq_of_lt (show Z % 18446744073709551616 / 2 ^ k < 18446744073709551616 from Nat.lt_of_le_of_lt (Nat.div_le_self _ _) (Nat.mod_lt _ (by decide)))]
  exact Nat.mod_eq_of_lt (by omega)
def ShrI (Y m : Nat) (s : List Int) : Prop := s.length ≤ m ∧ okD 18446744073709551616 s ∧ vl 18446744073709551616 s = ((Y % 2 ^ (64 * s.length) : Nat) : Int)
theorem ShrI.step {Y m : Nat} {s : List Int} {d : Int} (h : ShrI Y m s) (hlt : s.length < m) (hd : d = ((Y / 2 ^ (64 * s.length) % 18446744073709551616 : Nat) : Int)) : ShrI Y m (s ++ [d]) := by
  obtain ⟨h1, h2, h3⟩ := h
  have hm := Nat.mod_lt (Y / 2 ^ (64 * s.length)) (show 0 < 18446744073709551616 by decide)
  refine ⟨by rw [len_snoc]; omega, okD_append.2 ⟨h2, okD_cons.2 ⟨by omega, okD_nil _⟩⟩, ?_⟩
  rw [vl_snoc, len_snoc, h3, hd, show 64 * (s.length + 1) = 64 * s.length + 64 by omega, Nat.pow_add, Nat.mod_mul]
  have e : ((18446744073709551616 : Int) ^ s.length) = ((2 ^ (64 * s.length) : Nat) : Int) := by rw [← pow64]; simp
  rw [e, ← Int.natCast_mul, ← Int.natCast_add]
def shrT (X : Nat) (n : Int) : PV := .tup [.ws .u64 (if n < 0 then [] else d64 (X / 2 ^ n.toNat)), .val (.int .i64 (if n < 0 then 1 else 0))]
theorem shr_dig {X : Nat} {a : List Int} (hdig : ∀ j : Nat, rd a (j : Int) = ((X / 2 ^ (64 * j) % 18446744073709551616 : Nat) : Int)) (l i k : Nat) (hk : k < 64) {u v : Int} (hu : u = rd a ((l + i : Nat) : Int)) (hv : v = rd a ((l + i + 1 : Nat) : Int)) :
    (0 ≤ u / 2 ^ k ∧ u / 2 ^ k < 18446744073709551616) ∧ (0 ≤ v * 2 % 18446744073709551616 * 2 ^ (63 - k) % 18446744073709551616 ∧ v * 2 % 18446744073709551616 * 2 ^ (63 - k) % 18446744073709551616 < 18446744073709551616) ∧ u / 2 ^ k < 2 ^ (64 - k) ∧ v * 2 % 18446744073709551616 * 2 ^ (63 - k) % 18446744073709551616 % 2 ^ (64 - k) = 0 ∧
    u / 2 ^ k + v * 2 % 18446744073709551616 * 2 ^ (63 - k) % 18446744073709551616 = ((X / 2 ^ (64 * l + k) / 2 ^ (64 * i) % 18446744073709551616 : Nat) : Int) := by
  obtain ⟨Z, hZ⟩ : ∃ Z, Z = X / 2 ^ (64 * (l + i)) := ⟨_, rfl⟩
  rw [hdig] at hu hv
  rw [← hZ] at hu
  have e1 : X / 2 ^ (64 * (l + i + 1)) = Z / 18446744073709551616 := by
    rw [hZ, Nat.div_div_eq_div_mul, show (18446744073709551616 : Nat) = 2 ^ 64 by decide, ← Nat.pow_add]; congr 2
  rw [e1] at hv
  have e2 : X / 2 ^ (64 * l + k) / 2 ^ (64 * i) = Z / 2 ^ k := by
    rw [hZ, Nat.div_div_eq_div_mul, Nat.div_div_eq_div_mul, ← Nat.pow_add, ← Nat.pow_add]; congr 2; omega
  obtain ⟨g1, g2, g3⟩ := shr_word Z k hk
  rw [e2, g1]
  have p1 : ((2 : Int) ^ k) = ((2 ^ k : Nat) : Int) := by simp
  have p2 : ((2 : Int) ^ (63 - k)) = ((2 ^ (63 - k) : Nat) : Int) := by simp
  have p3 : ((2 : Int) ^ (64 - k)) = ((2 ^ (64 - k) : Nat) : Int) := by simp
  have q1 : u / 2 ^ k = ((Z % 18446744073709551616 / 2 ^ k : Nat) : Int) := by rw [hu, p1]; simp
  have q2 : v * 2 % 18446744073709551616 * 2 ^ (63 - k) % 18446744073709551616 = ((Z / 18446744073709551616 % 18446744073709551616 * 2 % 18446744073709551616 * 2 ^ (63 - k) % 18446744073709551616 : Nat) : Int) := by rw [hv, p2]; simp only [Int.natCast_mul, Int.natCast_emod, Int.natCast_ediv]; rfl
  rw [q1, q2, p3, ← Int.natCast_emod, g3]
  have h5 := Nat.mod_lt (Z / 18446744073709551616 % 18446744073709551616 * 2 % 18446744073709551616 * 2 ^ (63 - k)) (show 0 < 18446744073709551616 by decide)
  have h6 := Nat.lt_of_le_of_lt (Nat.div_le_self (Z % 18446744073709551616) (2 ^ k)) (Nat.mod_lt Z (show 0 < 18446744073709551616 by decide))
  exact ⟨⟨Int.natCast_nonneg _, Int.ofNat_lt.2 h6⟩, ⟨Int.natCast_nonneg _, Int.ofNat_lt.2 h5⟩, Int.ofNat_lt.2 g2, rfl, (Int.natCast_add _ _).symm⟩
theorem lp_shr1 {X : Nat} {n : Int} (h : n < 0) : shrT X n = natE 1 := by unfold shrT; rw [if_pos h, if_pos h]; rfl
theorem shrT_ok {X : Nat} {n : Int} (h : ¬ n < 0) : shrT X n = natR (X / 2 ^ n.toNat) := by unfold shrT; rw [if_neg h, if_neg h]; rfl
theorem n_shr (X : Nat) (n : Int) (hX : L64 X ≤ 8192) (hn : inR .i64 n) : FC Tryz.prog G 48 [.ws .u64 (d64 X), .val (.int .i64 n)] (· = shrT X n) := by
  dsimp only [inR] at hn
  have fa := n_formN (G := G) X hX
  have hlt := L64_lt X
  have hk : (n % 64).toNat < 64 := by omega
  have hw := pw64 hk
  have hres : natT (X / 2 ^ n.toNat) = natR (X / 2 ^ n.toNat) := natT_ok (Nat.le_trans (lenB_mono (by decide) (Nat.div_le_self _ _)) hX)
  have hdig : ∀ j : Nat, rd (d64 X) (j : Int) = ((X / 2 ^ (64 * j) % 18446744073709551616 : Nat) : Int) := fun j => d64_rd X j
  obtain ⟨a, ea⟩ : ∃ a, a = d64 X := ⟨_, rfl⟩
  obtain ⟨oka, va⟩ := d64_ok X
  have hL : a.length = L64 X := by rw [ea]; rfl
  rw [← ea] at oka va fa hdig
  rw [← ea]
  refine FC.intro (X := XX) tok Tryz.func48 rfl Tryz.ntmps48 (by rw [Tryz.results48]) (by kernel_rfl) rfl ?_; intro F hG hO
  rw [← hG] at fa
  repeat' ((try (conv => whnf)); first
  | ((with_reducible refine cg ?_); refine call_eq (fa) (LpL.refl _) rfl ?_)
  | ((with_reducible refine lg ?_); refine loop_g (A := List Int) (fun s => ShrI (X / 2 ^ n.toNat) (a.length - (n / 64).toNat) s) (fun s => a.length - (n / 64).toNat - s.length) (fun s => [(0, .ws .u64 a), (6, .val (.int .i64 (n / 64))), (7, .val (.int .i64 (n % 64))), (8, .arr 0 0 (a.length - (n / 64).toNat)), (29, .val (.int .i64 ((a.length - (n / 64).toNat : Nat) : Int))), (30, .val (.int .i64 (s.length : Int)))]) (fun _ => []) (fun s => [some ⟨1, 44, .w .u64 (ins (List.replicate (a.length - (n / 64).toNat) 0) 0 s)⟩]) [] tok (fun s => ⟨⟨trivial, trivial, trivial, Nat.one_pos, trivial, trivial, trivial⟩, trivial, by simp only [List.length_cons]; omega⟩) ?_ ⟨rfl, rfl, rfl, congrArg (PV.arr 0 0) (by omega), iv_eq (by omega), rfl, trivial⟩ ⟨[], rfl⟩ ⟨[], (by rw [ins_nil, show ((a.length : Int) - n / 64).toNat = a.length - (n / 64).toNat by omega]; rfl)⟩ ?_; rotate_left; rintro s hI; have hI2 := hI; obtain ⟨i1, i2, i3⟩ := hI2; have ra := rd_bd (by decide) oka (n / 64 + (s.length : Int)); have rb := rd_bd (by decide) oka (n / 64 + (s.length : Int) + 1); have hil : (ins (List.replicate (a.length - (n / 64).toNat) 0) 0 s).length = a.length - (n / 64).toNat := (by rw [ins_len (by simp; omega)]; simp))
  | (with_reducible refine shl_m (by omega) ?_)
  | (with_reducible refine shr_p (by omega) (by dsimp only [IntKind.bits]; omega) ?_)
  | (have hz := shr_dig hdig (n / 64).toNat s.length (n % 64).toNat hk (u := rd a (n / 64 + (s.length : Int))) (v := rd a (n / 64 + (s.length : Int) + 1)) (by congr 1; omega) (by congr 1; omega); have hs1 := ins_set (p := List.replicate (a.length - (n / 64).toNat) (0 : Int)) (s := s) (lo := 0) (rd a (n / 64 + (s.length : Int)) / 2 ^ (n % 64).toNat) (by simp; omega); rw [show (63 - n % 64).toNat = 63 - (n % 64).toNat by omega, show Int.toNat 1 = 1 from rfl, Int.pow_succ, Int.pow_zero, Int.one_mul, show 0 + ((s.length : Nat) : Int).toNat = 0 + s.length by omega, hs1, ins_getE _ (by simp)]; refine or_g (64 - (n % 64).toNat) hz.1 hz.2.1 hz.2.2.1 hz.2.2.2.1 (by have := hz.2.2.2.2; omega) ?_; rw [hz.2.2.2.2]; have hil2 : (ins (List.replicate (a.length - (n / 64).toNat) (0 : Int)) 0 (s ++ [rd a (n / 64 + (s.length : Int)) / 2 ^ (n % 64).toNat])).length = a.length - (n / 64).toNat := (by rw [ins_len (by simp; omega)]; simp))
  | ((with_reducible refine cg ?_); refine call_fz 0 (A := ins (List.replicate (a.length - (n / 64).toNat) 0) 0 s) (B := s) rfl rfl (by omega) (by rw [List.drop_zero, ins_full (by simp; omega)]; exact List.take_of_length_le (by omega)) (by omega) ?_; refine call_eq (n_told s i2 (by omega)) (LpL.refl _) rfl ?_; rw [i3])
  
  | (with_reducible refine draw_g (id := 14) [[0, 1, 2, 3, 4, 5, 6, 7, 8, 9, 10, 11, 12, 13, 14, 15, 16], [17]] tok mixed (by kernel_rfl) ?_)
  | (with_reducible refine Chk.mk' (by first | omega | exact trivial | (simp only [List.length_append, List.length_set, List.length_replicate, List.length_take, List.length_drop, List.length_cons, List.length_nil, List.length_map]; omega)) ?_)
  | (with_reducible refine wrap_g (by dsimp only [inR]; omega) ?_)
  | (with_reducible refine idx_g (by omega) ?_)
  | (with_reducible refine idx_l _ rfl (by decide) ?_)
  | (with_reducible refine BothG.mk ?_ ?_)
  | (with_reducible refine fork_tt ?_) | (with_reducible refine fork_ff ?_)
  | (with_reducible refine fork_e (c := true) (by decide) ?_; with_reducible refine fork_tt ?_) | (with_reducible refine fork_e (c := false) (by decide) ?_; with_reducible refine fork_ff ?_)
  | (with_reducible refine fork_t (by omega) ?_) | (with_reducible refine fork_f (by omega) ?_)
  | (with_reducible refine fork_d ?_ ?_ <;> intro hc)
  | (with_reducible refine fork_n ?_)
  | (with_reducible refine fork_b ?_ ?_ <;> intro hc)
  | (with_reducible refine SlcG.mk (by omega) ?_)
  | (with_reducible refine MakG.mk (by dsimp only; omega) ?_)
  | (with_reducible refine AppG.mk (by first | omega | (simp only [List.length_append, List.length_set, List.length_replicate, List.length_take, List.length_drop, List.length_cons, List.length_nil, List.length_map]; omega)) (by dsimp only [List.length_cons, List.length_nil]; omega) (by omega) ?_)
  | (with_reducible refine div_g (by omega) (by omega) (by dsimp only [inR]; omega) ?_)
  | (with_reducible refine mod_g (by omega) (by omega) ?_)
  | (with_reducible refine mask_g (m := 4294967296) 32 rfl rfl (by decide) (by omega) ?_)
  | (with_reducible refine shr_g (m := 4294967296) 32 rfl (by decide) (by omega) rfl ?_)
  | (with_reducible refine fz_all (by omega) ?_)
  | (with_reducible refine Stuck.h (A := RetE _ _) ?_) | (with_reducible refine Stuck.h (A := RetM _ _ _ _) ?_) | (with_reducible refine Stuck.h (A := Again _ _ _ _ _ _ _ _) ?_) | (with_reducible refine Stuck.h (A := CallF _ _ _ _ _ _ _) ?_) | (with_reducible refine Stuck.h (A := LoopG _ _ _ _ _ _ _ _) ?_) | (with_reducible refine Stuck.h (A := DrawG _ _ _ _ _ _ _ _) ?_)
  | (with_reducible refine Stuck.h (A := WrapG _ _ _) ?_) | (with_reducible refine Stuck.h (A := DivG _ _ _ _) ?_) | (with_reducible refine Stuck.h (A := ModG _ _ _) ?_) | (with_reducible refine Stuck.h (A := ShlG _ _ _ _) ?_) | (with_reducible refine Stuck.h (A := ShrG _ _ _ _) ?_) | (with_reducible refine Stuck.h (A := BitG _ _ _ _ _) ?_)
  | (with_reducible refine Stuck.h (A := IdxG _ _ _) ?_) | (with_reducible refine Stuck.h (A := IdxL _ _ _) ?_) | (with_reducible refine Stuck.h (A := SlcG _ _ _ _ _) ?_) | (with_reducible refine Stuck.h (A := MakG _ _ _ _) ?_) | (with_reducible refine Stuck.h (A := AppG _ _ _ _ _ _ _) ?_) | (with_reducible refine Stuck.h (A := FzG _ _ _ _) ?_)
  | (with_reducible refine Stuck.h (A := RawG _) ?_) | (with_reducible refine Stuck.h (A := TabG _ _ _ _ _) ?_) | (with_reducible refine Stuck.h (A := ExtF _ _ _ _) ?_) | (with_reducible refine Stuck.h (A := Chk _ _) ?_) | (with_reducible refine Stuck.h (A := False) ?_))
  · exact ⟨ret_l _ (lp_natE 1) (lp_shr1 hc).symm⟩
  · refine ⟨ret_l _ (lp_natE 0) ?_⟩
    have h2 : X < 2 ^ n.toNat := Nat.lt_of_lt_of_le hlt (Nat.pow_le_pow_right (by decide) (by omega))
    rw [shrT_ok (by omega), Nat.div_eq_of_lt h2]
    unfold natE natR
    rw [d64_0]
  · have hd := shr_dig hdig (n / 64).toNat s.length (n % 64).toNat hk (u := rd a (n / 64 + (s.length : Int))) (v := rd a (n / 64 + (s.length : Int) + 1)) (by congr 1; omega) (by congr 1; omega)
    rw [show 64 * (n / 64).toNat + (n % 64).toNat = n.toNat by omega]
    refine ⟨again (s ++ [((X / 2 ^ n.toNat / 2 ^ (64 * s.length) % 18446744073709551616 : Nat) : Int)]) (hI.step (by omega) rfl) (by rw [len_snoc]; omega) ⟨rfl, rfl, rfl, rfl, rfl, iv_eq (by rw [len_snoc]; omega), trivial⟩ ⟨[], rfl⟩ ⟨[], ?_⟩⟩
    have hs2 := ins_over (p := List.replicate (a.length - (n / 64).toNat) (0 : Int)) (t := s) (lo := 0) (rd a (n / 64 + (s.length : Int)) / 2 ^ (n % 64).toNat) ((X / 2 ^ n.toNat / 2 ^ (64 * s.length) % 18446744073709551616 : Nat) : Int) (by simp; omega)
    rw [← hs2]; rfl
  · have hd := shr_dig hdig (n / 64).toNat s.length (n % 64).toNat hk (u := rd a (n / 64 + (s.length : Int))) (v := rd a (n / 64 + (s.length : Int) + 1)) (by congr 1; omega) (by congr 1; omega)
    have hv0 : rd a (n / 64 + (s.length : Int) + 1) = 0 := by
      have := rd_out a ((n / 64).toNat + s.length + 1) (by omega)
      rw [← this]; congr 1; omega
    have hd2 := hd.2.2.2.2
    rw [hv0, show 64 * (n / 64).toNat + (n % 64).toNat = n.toNat by omega] at hd2
    simp only [Int.zero_mul, Int.zero_emod, Int.add_zero] at hd2
    refine ⟨again (s ++ [rd a (n / 64 + (s.length : Int)) / 2 ^ (n % 64).toNat]) (hI.step (by omega) hd2) (by rw [len_snoc]; omega) ⟨rfl, rfl, rfl, rfl, rfl, iv_eq (by rw [len_snoc]; omega), trivial⟩ ⟨[], rfl⟩ ⟨[], ?_⟩⟩
    have hs2 := ins_set (p := List.replicate (a.length - (n / 64).toNat) (0 : Int)) (s := s) (lo := 0) (rd a (n / 64 + (s.length : Int)) / 2 ^ (n % 64).toNat) (by simp; omega)
    rw [← hs2]; rfl
  · refine ⟨ret_e ?_⟩
    have hY : X / 2 ^ n.toNat < 2 ^ (64 * s.length) := by
      rw [Nat.div_lt_iff_lt_mul (Nat.pow_pos (by decide)), ← Nat.pow_add]
      exact Nat.lt_of_lt_of_le hlt (Nat.pow_le_pow_right (by decide) (by omega))
    rw [shrT_ok (by omega), Nat.mod_eq_of_lt hY, Int.toNat_natCast, ← hres]; rfl
  · exact ⟨Nat.zero_le _, okD_nil _, by rw [List.length_nil, Nat.mul_zero, Nat.pow_zero, Nat.mod_one]; rfl⟩
end Go.Proofs.YtbeocnjlepcglaaGreatDoor.Sim
namespace Go.Proofs.YtbeocnjlepcglaaGreatDoor.Sim
open Go.RowKit
set_option linter.unusedVariables false
set_option linter.unusedSimpArgs false
set_option maxRecDepth 10000
set_option maxHeartbeats 8000000
variable {G : List (Nat × List Value)}
theorem ni_sg (b : Bool) (m : Nat) (c : Bool) (h : c = (b && decide (0 < m))) : PV.agg [.val (.bool c), .ws .u64 (d64 m)] = NI (sg b m) := by
  subst h
  unfold NI N64
  rw [sg_abs]
  congr 4
  cases b
  · simp only [sg, Bool.false_and]
    exact (decide_eq_false (by omega)).symm
  · simp [sg]
def numR (n : Int) : PV := .tup [NI n, .val (.int .i64 0)]
theorem n_whole (b : Bool) (X : Nat) : FC Tryz.prog G 121 [.val (.bool b), .ws .u64 (d64 X)] (· = NI (sg b X)) := by
  have hp := len64_pos X
  cases b
  · refine FC.intro (X := XX) tok Tryz.func121 rfl Tryz.ntmps121 (by rw [Tryz.results121]) (by kernel_rfl) rfl ?_; intro F hG hO
    repeat' ((try (conv => whnf)); first
  
  | (with_reducible refine Chk.mk' (by first | omega | exact trivial | (simp only [List.length_append, List.length_set, List.length_replicate, List.length_take, List.length_drop, List.length_cons, List.length_nil, List.length_map]; omega)) ?_)
  | (with_reducible refine wrap_g (by dsimp only [inR]; omega) ?_)
  | (with_reducible refine idx_g (by omega) ?_)
  | (with_reducible refine idx_l _ rfl (by decide) ?_)
  | (with_reducible refine BothG.mk ?_ ?_)
  | (with_reducible refine fork_tt ?_) | (with_reducible refine fork_ff ?_)
  | (with_reducible refine fork_e (c := true) (by decide) ?_; with_reducible refine fork_tt ?_) | (with_reducible refine fork_e (c := false) (by decide) ?_; with_reducible refine fork_ff ?_)
  | (with_reducible refine fork_t (by omega) ?_) | (with_reducible refine fork_f (by omega) ?_)
  | (with_reducible refine fork_d ?_ ?_ <;> intro hc)
  | (with_reducible refine fork_n ?_)
  | (with_reducible refine fork_b ?_ ?_ <;> intro hc)
  | (with_reducible refine SlcG.mk (by omega) ?_)
  | (with_reducible refine MakG.mk (by dsimp only; omega) ?_)
  | (with_reducible refine AppG.mk (by first | omega | (simp only [List.length_append, List.length_set, List.length_replicate, List.length_take, List.length_drop, List.length_cons, List.length_nil, List.length_map]; omega)) (by dsimp only [List.length_cons, List.length_nil]; omega) (by omega) ?_)
  | (with_reducible refine div_g (by omega) (by omega) (by dsimp only [inR]; omega) ?_)
  | (with_reducible refine mod_g (by omega) (by omega) ?_)
  | (with_reducible refine mask_g (m := 4294967296) 32 rfl rfl (by decide) (by omega) ?_)
  | (with_reducible refine shr_g (m := 4294967296) 32 rfl (by decide) (by omega) rfl ?_)
  | (with_reducible refine fz_all (by omega) ?_)
  | (with_reducible refine Stuck.h (A := RetE _ _) ?_) | (with_reducible refine Stuck.h (A := RetM _ _ _ _) ?_) | (with_reducible refine Stuck.h (A := Again _ _ _ _ _ _ _ _) ?_) | (with_reducible refine Stuck.h (A := CallF _ _ _ _ _ _ _) ?_) | (with_reducible refine Stuck.h (A := LoopG _ _ _ _ _ _ _ _) ?_) | (with_reducible refine Stuck.h (A := DrawG _ _ _ _ _ _ _ _) ?_)
  | (with_reducible refine Stuck.h (A := WrapG _ _ _) ?_) | (with_reducible refine Stuck.h (A := DivG _ _ _ _) ?_) | (with_reducible refine Stuck.h (A := ModG _ _ _) ?_) | (with_reducible refine Stuck.h (A := ShlG _ _ _ _) ?_) | (with_reducible refine Stuck.h (A := ShrG _ _ _ _) ?_) | (with_reducible refine Stuck.h (A := BitG _ _ _ _ _) ?_)
  | (with_reducible refine Stuck.h (A := IdxG _ _ _) ?_) | (with_reducible refine Stuck.h (A := IdxL _ _ _) ?_) | (with_reducible refine Stuck.h (A := SlcG _ _ _ _ _) ?_) | (with_reducible refine Stuck.h (A := MakG _ _ _ _) ?_) | (with_reducible refine Stuck.h (A := AppG _ _ _ _ _ _ _) ?_) | (with_reducible refine Stuck.h (A := FzG _ _ _ _) ?_)
  | (with_reducible refine Stuck.h (A := RawG _) ?_) | (with_reducible refine Stuck.h (A := TabG _ _ _ _ _) ?_) | (with_reducible refine Stuck.h (A := ExtF _ _ _ _) ?_) | (with_reducible refine Stuck.h (A := Chk _ _) ?_) | (with_reducible refine Stuck.h (A := False) ?_))
    all_goals exact ⟨ret_e (ni_sg _ X _ (by simp))⟩
  · refine FC.intro (X := XX) tok Tryz.func121 rfl Tryz.ntmps121 (by rw [Tryz.results121]) (by kernel_rfl) rfl ?_; intro F hG hO
    repeat' ((try (conv => whnf)); first
  
  | (with_reducible refine Chk.mk' (by first | omega | exact trivial | (simp only [List.length_append, List.length_set, List.length_replicate, List.length_take, List.length_drop, List.length_cons, List.length_nil, List.length_map]; omega)) ?_)
  | (with_reducible refine wrap_g (by dsimp only [inR]; omega) ?_)
  | (with_reducible refine idx_g (by omega) ?_)
  | (with_reducible refine idx_l _ rfl (by decide) ?_)
  | (with_reducible refine BothG.mk ?_ ?_)
  | (with_reducible refine fork_tt ?_) | (with_reducible refine fork_ff ?_)
  | (with_reducible refine fork_e (c := true) (by decide) ?_; with_reducible refine fork_tt ?_) | (with_reducible refine fork_e (c := false) (by decide) ?_; with_reducible refine fork_ff ?_)
  | (with_reducible refine fork_t (by omega) ?_) | (with_reducible refine fork_f (by omega) ?_)
  | (with_reducible refine fork_d ?_ ?_ <;> intro hc)
  | (with_reducible refine fork_n ?_)
  | (with_reducible refine fork_b ?_ ?_ <;> intro hc)
  | (with_reducible refine SlcG.mk (by omega) ?_)
  | (with_reducible refine MakG.mk (by dsimp only; omega) ?_)
  | (with_reducible refine AppG.mk (by first | omega | (simp only [List.length_append, List.length_set, List.length_replicate, List.length_take, List.length_drop, List.length_cons, List.length_nil, List.length_map]; omega)) (by dsimp only [List.length_cons, List.length_nil]; omega) (by omega) ?_)
  | (with_reducible refine div_g (by omega) (by omega) (by dsimp only [inR]; omega) ?_)
  | (with_reducible refine mod_g (by omega) (by omega) ?_)
  | (with_reducible refine mask_g (m := 4294967296) 32 rfl rfl (by decide) (by omega) ?_)
  | (with_reducible refine shr_g (m := 4294967296) 32 rfl (by decide) (by omega) rfl ?_)
  | (with_reducible refine fz_all (by omega) ?_)
  | (with_reducible refine Stuck.h (A := RetE _ _) ?_) | (with_reducible refine Stuck.h (A := RetM _ _ _ _) ?_) | (with_reducible refine Stuck.h (A := Again _ _ _ _ _ _ _ _) ?_) | (with_reducible refine Stuck.h (A := CallF _ _ _ _ _ _ _) ?_) | (with_reducible refine Stuck.h (A := LoopG _ _ _ _ _ _ _ _) ?_) | (with_reducible refine Stuck.h (A := DrawG _ _ _ _ _ _ _ _) ?_)
  | (with_reducible refine Stuck.h (A := WrapG _ _ _) ?_) | (with_reducible refine Stuck.h (A := DivG _ _ _ _) ?_) | (with_reducible refine Stuck.h (A := ModG _ _ _) ?_) | (with_reducible refine Stuck.h (A := ShlG _ _ _ _) ?_) | (with_reducible refine Stuck.h (A := ShrG _ _ _ _) ?_) | (with_reducible refine Stuck.h (A := BitG _ _ _ _ _) ?_)
  | (with_reducible refine Stuck.h (A := IdxG _ _ _) ?_) | (with_reducible refine Stuck.h (A := IdxL _ _ _) ?_) | (with_reducible refine Stuck.h (A := SlcG _ _ _ _ _) ?_) | (with_reducible refine Stuck.h (A := MakG _ _ _ _) ?_) | (with_reducible refine Stuck.h (A := AppG _ _ _ _ _ _ _) ?_) | (with_reducible refine Stuck.h (A := FzG _ _ _ _) ?_)
  | (with_reducible refine Stuck.h (A := RawG _) ?_) | (with_reducible refine Stuck.h (A := TabG _ _ _ _ _) ?_) | (with_reducible refine Stuck.h (A := ExtF _ _ _ _) ?_) | (with_reducible refine Stuck.h (A := Chk _ _) ?_) | (with_reducible refine Stuck.h (A := False) ?_))
    all_goals exact ⟨ret_e (ni_sg _ X _ (by rw [Bool.true_and]; exact decide_eq_decide.2 (by omega)))⟩
theorem n_ntold (b : Bool) (X : Nat) : FC Tryz.prog G 80 [.val (.bool b), .ws .u64 (d64 X), .val (.int .i64 0)] (· = numR (sg b X)) := by
  refine FC.intro (X := XX) tok Tryz.func80 rfl Tryz.ntmps80 (by rw [Tryz.results80]) (by kernel_rfl) rfl ?_; intro F hG hO
  repeat' ((try (conv => whnf)); first
  | ((with_reducible refine cg ?_); refine call_eq (n_whole b X) (LpL.refl _) rfl ?_)
  
  | (with_reducible refine Chk.mk' (by first | omega | exact trivial | (simp only [List.length_append, List.length_set, List.length_replicate, List.length_take, List.length_drop, List.length_cons, List.length_nil, List.length_map]; omega)) ?_)
  | (with_reducible refine wrap_g (by dsimp only [inR]; omega) ?_)
  | (with_reducible refine idx_g (by omega) ?_)
  | (with_reducible refine idx_l _ rfl (by decide) ?_)
  | (with_reducible refine BothG.mk ?_ ?_)
  | (with_reducible refine fork_tt ?_) | (with_reducible refine fork_ff ?_)
  | (with_reducible refine fork_e (c := true) (by decide) ?_; with_reducible refine fork_tt ?_) | (with_reducible refine fork_e (c := false) (by decide) ?_; with_reducible refine fork_ff ?_)
  | (with_reducible refine fork_t (by omega) ?_) | (with_reducible refine fork_f (by omega) ?_)
  | (with_reducible refine fork_d ?_ ?_ <;> intro hc)
  | (with_reducible refine fork_n ?_)
  | (with_reducible refine fork_b ?_ ?_ <;> intro hc)
  | (with_reducible refine SlcG.mk (by omega) ?_)
  | (with_reducible refine MakG.mk (by dsimp only; omega) ?_)
  | (with_reducible refine AppG.mk (by first | omega | (simp only [List.length_append, List.length_set, List.length_replicate, List.length_take, List.length_drop, List.length_cons, List.length_nil, List.length_map]; omega)) (by dsimp only [List.length_cons, List.length_nil]; omega) (by omega) ?_)
  | (with_reducible refine div_g (by omega) (by omega) (by dsimp only [inR]; omega) ?_)
  | (with_reducible refine mod_g (by omega) (by omega) ?_)
  | (with_reducible refine mask_g (m := 4294967296) 32 rfl rfl (by decide) (by omega) ?_)
  | (with_reducible refine shr_g (m := 4294967296) 32 rfl (by decide) (by omega) rfl ?_)
  | (with_reducible refine fz_all (by omega) ?_)
  | (with_reducible refine Stuck.h (A := RetE _ _) ?_) | (with_reducible refine Stuck.h (A := RetM _ _ _ _) ?_) | (with_reducible refine Stuck.h (A := Again _ _ _ _ _ _ _ _) ?_) | (with_reducible refine Stuck.h (A := CallF _ _ _ _ _ _ _) ?_) | (with_reducible refine Stuck.h (A := LoopG _ _ _ _ _ _ _ _) ?_) | (with_reducible refine Stuck.h (A := DrawG _ _ _ _ _ _ _ _) ?_)
  | (with_reducible refine Stuck.h (A := WrapG _ _ _) ?_) | (with_reducible refine Stuck.h (A := DivG _ _ _ _) ?_) | (with_reducible refine Stuck.h (A := ModG _ _ _) ?_) | (with_reducible refine Stuck.h (A := ShlG _ _ _ _) ?_) | (with_reducible refine Stuck.h (A := ShrG _ _ _ _) ?_) | (with_reducible refine Stuck.h (A := BitG _ _ _ _ _) ?_)
  | (with_reducible refine Stuck.h (A := IdxG _ _ _) ?_) | (with_reducible refine Stuck.h (A := IdxL _ _ _) ?_) | (with_reducible refine Stuck.h (A := SlcG _ _ _ _ _) ?_) | (with_reducible refine Stuck.h (A := MakG _ _ _ _) ?_) | (with_reducible refine Stuck.h (A := AppG _ _ _ _ _ _ _) ?_) | (with_reducible refine Stuck.h (A := FzG _ _ _ _) ?_)
  | (with_reducible refine Stuck.h (A := RawG _) ?_) | (with_reducible refine Stuck.h (A := TabG _ _ _ _ _) ?_) | (with_reducible refine Stuck.h (A := ExtF _ _ _ _) ?_) | (with_reducible refine Stuck.h (A := Chk _ _) ?_) | (with_reducible refine Stuck.h (A := False) ?_))
  exact ⟨ret_e rfl⟩
theorem n_nform (n : Int) (h : L64 n.natAbs ≤ 8192) : FC Tryz.prog G 46 [NI n] (· = .val (.bool true)) := by
  have hp := len64_pos n.natAbs
  have f1 := n_formN (G := G) n.natAbs h
  refine FC.intro (X := XX) tok Tryz.func46 rfl Tryz.ntmps46 (by rw [Tryz.results46]) (by kernel_rfl) rfl ?_; intro F hG hO
  rw [← hG] at f1
  repeat' ((try (conv => whnf)); first
  | ((with_reducible refine cg ?_); refine call_eq (f1) (LpL.refl _) rfl ?_)
  
  | (with_reducible refine Chk.mk' (by first | omega | exact trivial | (simp only [List.length_append, List.length_set, List.length_replicate, List.length_take, List.length_drop, List.length_cons, List.length_nil, List.length_map]; omega)) ?_)
  | (with_reducible refine wrap_g (by dsimp only [inR]; omega) ?_)
  | (with_reducible refine idx_g (by omega) ?_)
  | (with_reducible refine idx_l _ rfl (by decide) ?_)
  | (with_reducible refine BothG.mk ?_ ?_)
  | (with_reducible refine fork_tt ?_) | (with_reducible refine fork_ff ?_)
  | (with_reducible refine fork_e (c := true) (by decide) ?_; with_reducible refine fork_tt ?_) | (with_reducible refine fork_e (c := false) (by decide) ?_; with_reducible refine fork_ff ?_)
  | (with_reducible refine fork_t (by omega) ?_) | (with_reducible refine fork_f (by omega) ?_)
  | (with_reducible refine fork_d ?_ ?_ <;> intro hc)
  | (with_reducible refine fork_n ?_)
  | (with_reducible refine fork_b ?_ ?_ <;> intro hc)
  | (with_reducible refine SlcG.mk (by omega) ?_)
  | (with_reducible refine MakG.mk (by dsimp only; omega) ?_)
  | (with_reducible refine AppG.mk (by first | omega | (simp only [List.length_append, List.length_set, List.length_replicate, List.length_take, List.length_drop, List.length_cons, List.length_nil, List.length_map]; omega)) (by dsimp only [List.length_cons, List.length_nil]; omega) (by omega) ?_)
  | (with_reducible refine div_g (by omega) (by omega) (by dsimp only [inR]; omega) ?_)
  | (with_reducible refine mod_g (by omega) (by omega) ?_)
  | (with_reducible refine mask_g (m := 4294967296) 32 rfl rfl (by decide) (by omega) ?_)
  | (with_reducible refine shr_g (m := 4294967296) 32 rfl (by decide) (by omega) rfl ?_)
  | (with_reducible refine fz_all (by omega) ?_)
  | (with_reducible refine Stuck.h (A := RetE _ _) ?_) | (with_reducible refine Stuck.h (A := RetM _ _ _ _) ?_) | (with_reducible refine Stuck.h (A := Again _ _ _ _ _ _ _ _) ?_) | (with_reducible refine Stuck.h (A := CallF _ _ _ _ _ _ _) ?_) | (with_reducible refine Stuck.h (A := LoopG _ _ _ _ _ _ _ _) ?_) | (with_reducible refine Stuck.h (A := DrawG _ _ _ _ _ _ _ _) ?_)
  | (with_reducible refine Stuck.h (A := WrapG _ _ _) ?_) | (with_reducible refine Stuck.h (A := DivG _ _ _ _) ?_) | (with_reducible refine Stuck.h (A := ModG _ _ _) ?_) | (with_reducible refine Stuck.h (A := ShlG _ _ _ _) ?_) | (with_reducible refine Stuck.h (A := ShrG _ _ _ _) ?_) | (with_reducible refine Stuck.h (A := BitG _ _ _ _ _) ?_)
  | (with_reducible refine Stuck.h (A := IdxG _ _ _) ?_) | (with_reducible refine Stuck.h (A := IdxL _ _ _) ?_) | (with_reducible refine Stuck.h (A := SlcG _ _ _ _ _) ?_) | (with_reducible refine Stuck.h (A := MakG _ _ _ _) ?_) | (with_reducible refine Stuck.h (A := AppG _ _ _ _ _ _ _) ?_) | (with_reducible refine Stuck.h (A := FzG _ _ _ _) ?_)
  | (with_reducible refine Stuck.h (A := RawG _) ?_) | (with_reducible refine Stuck.h (A := TabG _ _ _ _ _) ?_) | (with_reducible refine Stuck.h (A := ExtF _ _ _ _) ?_) | (with_reducible refine Stuck.h (A := Chk _ _) ?_) | (with_reducible refine Stuck.h (A := False) ?_))
  · exact ⟨ret_e (bv_eq (by rw [decide_eq_false (by omega)]; rfl))⟩
  · exact ⟨ret_e rfl⟩
end Go.Proofs.YtbeocnjlepcglaaGreatDoor.Sim
namespace Go.Proofs.YtbeocnjlepcglaaGreatDoor.Sim
open Go.RowKit
set_option linter.unusedVariables false
set_option linter.unusedSimpArgs false
set_option maxRecDepth 10000
set_option maxHeartbeats 8000000
variable {G : List (Nat × List Value)}
theorem numR_eq {a b : Int} (h : a = b) : numR a = numR b := by rw [h]
end Go.Proofs.YtbeocnjlepcglaaGreatDoor.Sim
