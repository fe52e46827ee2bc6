/-
  What the statement DyadicQuotedCardSaid leans on, part 10: the logic of walks, digits, contracts of the functions, the plain law. Conditions stand in each theorem.
-/
import Derived.Test.YtbeocnjlepcglaaGreatDoorPkDyadicQuotedCardSaidI
namespace Go.Proofs.YtbeocnjlepcglaaGreatDoor.Sim
open Go.RowKit
set_option linter.unusedVariables false
set_option linter.unusedSimpArgs false
set_option maxRecDepth 10000
set_option maxHeartbeats 8000000
variable {G : List (Nat × List Value)}
theorem sub_sign (x y : Nat) : ((x : Int) - y).sign = cmpN x y := by
  unfold cmpN
  split
  · exact Int.sign_eq_neg_one_of_neg (by omega)
  · split
    · rw [show (x : Int) - y = 0 by omega]; rfl
    · exact Int.sign_eq_one_of_pos (by omega)
theorem cmp_size {n e m f : Int} (hn : n.sign ≠ 0) (h : n.sign = m.sign) : cmpS n e m f = n.sign * sizeS n e m f := by
  unfold cmpS sizeS
  rw [if_neg (by rintro (h1 | h1); exact h1 h; exact hn h1)]
  by_cases h1 : topN n e < topN m f
  · rw [if_pos (by omega), if_pos h1, show (topN n e - topN m f).sign = -1 from Int.sign_eq_neg_one_of_neg (by omega)]
  · by_cases h2 : topN m f < topN n e
    · rw [if_pos (by omega), if_neg h1, if_pos h2, show (topN n e - topN m f).sign = 1 from Int.sign_eq_one_of_pos (by omega)]
    · rw [if_neg (by omega), if_neg h1, if_neg h2, ← sub_sign]
      have e1 := Int.sign_mul_natAbs n
      have e2 := Int.sign_mul_natAbs m
      have e3 : n * 2 ^ (e - min e f).toNat - m * 2 ^ (f - min e f).toNat = n.sign * (((n.natAbs * 2 ^ (e - min e f).toNat : Nat) : Int) - ((m.natAbs * 2 ^ (f - min e f).toNat : Nat) : Int)) := by
        conv => lhs; rw [← e1, ← e2, ← h]
        rw [Int.mul_sub, Int.natCast_mul, Int.natCast_mul, Int.mul_assoc, Int.mul_assoc]
        simp
      rw [e3, Int.sign_mul, Int.sign_sign]
theorem cmp_ne {n e m f : Int} (h : n.sign ≠ m.sign) : cmpS n e m f = (n.sign - m.sign).sign := by unfold cmpS; rw [if_pos (.inl h)]
theorem cmp_z {n e m f : Int} (h : n.sign = m.sign) (h0 : n.sign = 0) : cmpS n e m f = 0 := by unfold cmpS; rw [if_pos (.inr h0), ← h, h0]; rfl
theorem sign_z {n : Int} (h : n.sign ≠ 0) : n ≠ 0 := fun h0 => h (by rw [h0]; rfl)
theorem y_cmp {n e m f : Int} (h : Good n e) (g : Good m f) : FC Tryz.prog G 38 [DY n e, DY m f] (· = .tup [.val (.int .i64 (cmpS n e m f)), .val (.int .i64 0)]) := by
  have f1 := y_form (G := G) h
  have f2 := y_form (G := G) g
  have f3 := n_sign (G := G) n h.1
  have f4 := n_sign (G := G) m g.1
  have s1 := sign_bd n
  have s2 := sign_bd m
  have f5 : Unit → n.sign = m.sign → n.sign ≠ 0 → FC Tryz.prog G 77 [DY n e, DY m f] (· = .val (.int .i64 (sizeS n e m f))) := fun _ h1 h2 => y_size (G := G) h g (sign_z h2) (sign_z (by rw [← h1]; exact h2))
  have c1 := fun (_ : Unit) => cmp_ne (n := n) (e := e) (m := m) (f := f)
  have c2 := fun (_ : Unit) => cmp_z (n := n) (e := e) (m := m) (f := f)
  have c3 := fun (_ : Unit) => cmp_size (n := n) (e := e) (m := m) (f := f)
  have c4 := sizeS_bd n e m f
  obtain ⟨z, hz⟩ : ∃ z, z = sizeS n e m f := ⟨_, rfl⟩
  rw [← hz] at f5 c3 c4
  have c5 : Unit → -1 ≤ n.sign * z ∧ n.sign * z ≤ 1 := fun _ => by
    rcases (by omega : n.sign = -1 ∨ n.sign = 0 ∨ n.sign = 1) with h1 | h1 | h1 <;> rw [h1] <;> omega
  refine FC.intro (X := XX) tok Tryz.func38 rfl Tryz.ntmps38 (by rw [Tryz.results38]) (by kernel_rfl) rfl ?_; intro F hG hO
  rw [← hG] at f1 f2 f3 f4 f5
  repeat' ((try (conv => whnf)); first
  | ((with_reducible refine cg ?_); refine call_eq (f1) (LpL.refl _) rfl ?_)
  | ((with_reducible refine cg ?_); refine call_eq (f2) (LpL.refl _) rfl ?_)
  | ((with_reducible refine cg ?_); refine call_eq (f3) (LpL.refl _) rfl ?_)
  | ((with_reducible refine cg ?_); refine call_eq (f4) (LpL.refl _) rfl ?_)
  | ((with_reducible refine cg ?_); refine call_eq (f5 () (by omega) (by omega)) (LpL.refl _) rfl ?_)
  | (with_reducible refine wrap_g (by have := c5 (); dsimp only [inR]; omega) ?_)
  
  | (with_reducible refine draw_g (id := 3) [[0, 1, 3, 4, 2, 5, 6, 7]] tok mixed (by kernel_rfl) ?_)
  | (with_reducible refine Chk.mk' (by first | omega | exact trivial | (simp only [List.length_append, List.length_set, List.length_replicate, List.length_take, List.length_drop, List.length_cons, List.length_nil, List.length_map]; omega)) ?_)
  | (with_reducible refine wrap_g (by dsimp only [inR]; omega) ?_)
  | (with_reducible refine idx_g (by omega) ?_)
  | (with_reducible refine idx_l _ rfl (by decide) ?_)
  | (with_reducible refine BothG.mk ?_ ?_)
  | (with_reducible refine fork_tt ?_) | (with_reducible refine fork_ff ?_)
  | (with_reducible refine fork_e (c := true) (by decide) ?_; with_reducible refine fork_tt ?_) | (with_reducible refine fork_e (c := false) (by decide) ?_; with_reducible refine fork_ff ?_)
  | (with_reducible refine fork_t (by omega) ?_) | (with_reducible refine fork_f (by omega) ?_)
  | (with_reducible refine fork_d ?_ ?_ <;> intro hc)
  | (with_reducible refine fork_n ?_)
  | (with_reducible refine fork_b ?_ ?_ <;> intro hc)
  | (with_reducible refine SlcG.mk (by omega) ?_)
  | (with_reducible refine MakG.mk (by dsimp only; omega) ?_)
  | (with_reducible refine AppG.mk (by first | omega | (simp only [List.length_append, List.length_set, List.length_replicate, List.length_take, List.length_drop, List.length_cons, List.length_nil, List.length_map]; omega)) (by dsimp only [List.length_cons, List.length_nil]; omega) (by omega) ?_)
  | (with_reducible refine div_g (by omega) (by omega) (by dsimp only [inR]; omega) ?_)
  | (with_reducible refine mod_g (by omega) (by omega) ?_)
  | (with_reducible refine mask_g (m := 4294967296) 32 rfl rfl (by decide) (by omega) ?_)
  | (with_reducible refine shr_g (m := 4294967296) 32 rfl (by decide) (by omega) rfl ?_)
  | (with_reducible refine fz_all (by omega) ?_)
  | (with_reducible refine Stuck.h (A := RetE _ _) ?_) | (with_reducible refine Stuck.h (A := RetM _ _ _ _) ?_) | (with_reducible refine Stuck.h (A := Again _ _ _ _ _ _ _ _) ?_) | (with_reducible refine Stuck.h (A := CallF _ _ _ _ _ _ _) ?_) | (with_reducible refine Stuck.h (A := LoopG _ _ _ _ _ _ _ _) ?_) | (with_reducible refine Stuck.h (A := DrawG _ _ _ _ _ _ _ _) ?_)
  | (with_reducible refine Stuck.h (A := WrapG _ _ _) ?_) | (with_reducible refine Stuck.h (A := DivG _ _ _ _) ?_) | (with_reducible refine Stuck.h (A := ModG _ _ _) ?_) | (with_reducible refine Stuck.h (A := ShlG _ _ _ _) ?_) | (with_reducible refine Stuck.h (A := ShrG _ _ _ _) ?_) | (with_reducible refine Stuck.h (A := BitG _ _ _ _ _) ?_)
  | (with_reducible refine Stuck.h (A := IdxG _ _ _) ?_) | (with_reducible refine Stuck.h (A := IdxL _ _ _) ?_) | (with_reducible refine Stuck.h (A := SlcG _ _ _ _ _) ?_) | (with_reducible refine Stuck.h (A := MakG _ _ _ _) ?_) | (with_reducible refine Stuck.h (A := AppG _ _ _ _ _ _ _) ?_) | (with_reducible refine Stuck.h (A := FzG _ _ _ _) ?_)
  | (with_reducible refine Stuck.h (A := RawG _) ?_) | (with_reducible refine Stuck.h (A := TabG _ _ _ _ _) ?_) | (with_reducible refine Stuck.h (A := ExtF _ _ _ _) ?_) | (with_reducible refine Stuck.h (A := Chk _ _) ?_) | (with_reducible refine Stuck.h (A := False) ?_))
  · exact ⟨ret_e (by rw [c1 () (by omega), Int.sign_eq_neg_one_of_neg (by omega)])⟩
  · exact ⟨ret_e (by rw [c1 () (by omega), Int.sign_eq_one_of_pos (by omega)])⟩
  · exact ⟨ret_e (by rw [c2 () (by omega) (by omega)])⟩
  · exact ⟨ret_e (by rw [c3 () (by omega) (by omega)])⟩
theorem shlC_pos {X : Nat} {k : Int} (h : ¬ k < 0) (h0 : X ≠ 0) : shlC X k = if 524288 - (bl X : Int) < k then 5 else 0 := by unfold shlC; rw [if_neg h, if_neg h0]
theorem nshl_form (n k : Int) : ∃ r, nshlS n k = .tup [NI r, .val (.int .i64 (shlC n.natAbs k))] := by
  unfold nshlS
  split
  · rename_i h; rw [h]; exact ⟨_, rfl⟩
  · exact ⟨0, rfl⟩
theorem nshl_no {n k : Int} (h : ¬ k < 0) (h0 : n ≠ 0) (h1 : 524288 < k + (bl n.natAbs : Int)) : nshlS n k = numE 5 := by
  unfold nshlS
  have hc : shlC n.natAbs k = 5 := by rw [shlC_pos h (by omega), if_pos (by omega)]
  rw [hc, if_neg (by decide)]
theorem nshl_ok {n k : Int} (h : ¬ k < 0) (h0 : n ≠ 0) (h1 : k + (bl n.natAbs : Int) ≤ 524288) : nshlS n k = numR (n * 2 ^ k.toNat) ∧ L64 (n * 2 ^ k.toNat).natAbs ≤ 8192 := by
  unfold nshlS
  have hc : shlC n.natAbs k = 0 := by rw [shlC_pos h (by omega), if_neg (by omega)]
  rw [hc, if_pos rfl]
  refine ⟨rfl, ?_⟩
  rw [Int.natAbs_mul, Int.natAbs_pow, show Int.natAbs 2 = 2 from rfl, L64_bl, bl_mul_pow n.natAbs k.toNat (by omega)]
  omega
theorem y_add {g : List (Nat × List Value)} (hD : (0, debT.map (Value.int .u8)) ∈ g) {n e m f : Int} (h : Good n e) (k : Good m f) : FC Tryz.prog g 37 [DY n e, DY m f] (· = addS n e m f) := by
  have f1 := y_form (G := g) h
  have f2 := y_form (G := g) k
  have f3 := y_noughtg (G := g) n e
  have f4 := y_noughtg (G := g) m f
  have f5 := y_twing (G := g) h
  have f6 := y_twing (G := g) k
  have e1 := h.2.1
  have e2 := h.2.2.1
  have e3 := k.2.1
  have e4 := k.2.2.1
  have s1 := n_nshl (G := g) n (e - min e f) h.1 (by dsimp only [inR]; omega)
  have s2 := n_nshl (G := g) m (f - min e f) k.1 (by dsimp only [inR]; omega)
  have hd1 : topN n e = e + (bl n.natAbs : Int) - 1 := rfl
  have hd2 : topN m f = f + (bl m.natAbs : Int) - 1 := rfl
  unfold addS
  by_cases hn : n = 0
  · rw [if_pos hn]
    clear s1 s2 hd1 hd2
    refine FC.intro (X := XX) tok Tryz.func37 rfl Tryz.ntmps37 (by rw [Tryz.results37]) (by kernel_rfl) rfl ?_; intro F hG hO
    rw [← hG] at f1 f2 f3 f6
    repeat' ((try (conv => whnf)); first
  | ((with_reducible refine cg ?_); refine call_eq (f1) (LpL.refl _) rfl ?_)
  | ((with_reducible refine cg ?_); refine call_eq (f2) (LpL.refl _) rfl ?_)
  | ((with_reducible refine cg ?_); refine call_eq (f3) (LpL.refl _) rfl ?_)
  | ((with_reducible refine cg ?_); refine call_eq (f6) (LpL.refl _) rfl ?_)
  
  | (with_reducible refine Chk.mk' (by first | omega | exact trivial | (simp only [List.length_append, List.length_set, List.length_replicate, List.length_take, List.length_drop, List.length_cons, List.length_nil, List.length_map]; omega)) ?_)
  | (with_reducible refine wrap_g (by dsimp only [inR]; omega) ?_)
  | (with_reducible refine idx_g (by omega) ?_)
  | (with_reducible refine idx_l _ rfl (by decide) ?_)
  | (with_reducible refine BothG.mk ?_ ?_)
  | (with_reducible refine fork_tt ?_) | (with_reducible refine fork_ff ?_)
  | (with_reducible refine fork_e (c := true) (by decide) ?_; with_reducible refine fork_tt ?_) | (with_reducible refine fork_e (c := false) (by decide) ?_; with_reducible refine fork_ff ?_)
  | (with_reducible refine fork_t (by omega) ?_) | (with_reducible refine fork_f (by omega) ?_)
  | (with_reducible refine fork_d ?_ ?_ <;> intro hc)
  | (with_reducible refine fork_n ?_)
  | (with_reducible refine fork_b ?_ ?_ <;> intro hc)
  | (with_reducible refine SlcG.mk (by omega) ?_)
  | (with_reducible refine MakG.mk (by dsimp only; omega) ?_)
  | (with_reducible refine AppG.mk (by first | omega | (simp only [List.length_append, List.length_set, List.length_replicate, List.length_take, List.length_drop, List.length_cons, List.length_nil, List.length_map]; omega)) (by dsimp only [List.length_cons, List.length_nil]; omega) (by omega) ?_)
  | (with_reducible refine div_g (by omega) (by omega) (by dsimp only [inR]; omega) ?_)
  | (with_reducible refine mod_g (by omega) (by omega) ?_)
  | (with_reducible refine mask_g (m := 4294967296) 32 rfl rfl (by decide) (by omega) ?_)
  | (with_reducible refine shr_g (m := 4294967296) 32 rfl (by decide) (by omega) rfl ?_)
  | (with_reducible refine fz_all (by omega) ?_)
  | (with_reducible refine Stuck.h (A := RetE _ _) ?_) | (with_reducible refine Stuck.h (A := RetM _ _ _ _) ?_) | (with_reducible refine Stuck.h (A := Again _ _ _ _ _ _ _ _) ?_) | (with_reducible refine Stuck.h (A := CallF _ _ _ _ _ _ _) ?_) | (with_reducible refine Stuck.h (A := LoopG _ _ _ _ _ _ _ _) ?_) | (with_reducible refine Stuck.h (A := DrawG _ _ _ _ _ _ _ _) ?_)
  | (with_reducible refine Stuck.h (A := WrapG _ _ _) ?_) | (with_reducible refine Stuck.h (A := DivG _ _ _ _) ?_) | (with_reducible refine Stuck.h (A := ModG _ _ _) ?_) | (with_reducible refine Stuck.h (A := ShlG _ _ _ _) ?_) | (with_reducible refine Stuck.h (A := ShrG _ _ _ _) ?_) | (with_reducible refine Stuck.h (A := BitG _ _ _ _ _) ?_)
  | (with_reducible refine Stuck.h (A := IdxG _ _ _) ?_) | (with_reducible refine Stuck.h (A := IdxL _ _ _) ?_) | (with_reducible refine Stuck.h (A := SlcG _ _ _ _ _) ?_) | (with_reducible refine Stuck.h (A := MakG _ _ _ _) ?_) | (with_reducible refine Stuck.h (A := AppG _ _ _ _ _ _ _) ?_) | (with_reducible refine Stuck.h (A := FzG _ _ _ _) ?_)
  | (with_reducible refine Stuck.h (A := RawG _) ?_) | (with_reducible refine Stuck.h (A := TabG _ _ _ _ _) ?_) | (with_reducible refine Stuck.h (A := ExtF _ _ _ _) ?_) | (with_reducible refine Stuck.h (A := Chk _ _) ?_) | (with_reducible refine Stuck.h (A := False) ?_))
    exact ⟨ret_e rfl⟩
  rw [if_neg hn]
  by_cases hm : m = 0
  · rw [if_pos hm]
    clear s1 s2 hd1 hd2
    refine FC.intro (X := XX) tok Tryz.func37 rfl Tryz.ntmps37 (by rw [Tryz.results37]) (by kernel_rfl) rfl ?_; intro F hG hO
    rw [← hG] at f1 f2 f3 f4 f5
    repeat' ((try (conv => whnf)); first
  | ((with_reducible refine cg ?_); refine call_eq (f1) (LpL.refl _) rfl ?_)
  | ((with_reducible refine cg ?_); refine call_eq (f2) (LpL.refl _) rfl ?_)
  | ((with_reducible refine cg ?_); refine call_eq (f3) (LpL.refl _) rfl ?_)
  | ((with_reducible refine cg ?_); refine call_eq (f4) (LpL.refl _) rfl ?_)
  | ((with_reducible refine cg ?_); refine call_eq (f5) (LpL.refl _) rfl ?_)
  
  | (with_reducible refine Chk.mk' (by first | omega | exact trivial | (simp only [List.length_append, List.length_set, List.length_replicate, List.length_take, List.length_drop, List.length_cons, List.length_nil, List.length_map]; omega)) ?_)
  | (with_reducible refine wrap_g (by dsimp only [inR]; omega) ?_)
  | (with_reducible refine idx_g (by omega) ?_)
  | (with_reducible refine idx_l _ rfl (by decide) ?_)
  | (with_reducible refine BothG.mk ?_ ?_)
  | (with_reducible refine fork_tt ?_) | (with_reducible refine fork_ff ?_)
  | (with_reducible refine fork_e (c := true) (by decide) ?_; with_reducible refine fork_tt ?_) | (with_reducible refine fork_e (c := false) (by decide) ?_; with_reducible refine fork_ff ?_)
  | (with_reducible refine fork_t (by omega) ?_) | (with_reducible refine fork_f (by omega) ?_)
  | (with_reducible refine fork_d ?_ ?_ <;> intro hc)
  | (with_reducible refine fork_n ?_)
  | (with_reducible refine fork_b ?_ ?_ <;> intro hc)
  | (with_reducible refine SlcG.mk (by omega) ?_)
  | (with_reducible refine MakG.mk (by dsimp only; omega) ?_)
  | (with_reducible refine AppG.mk (by first | omega | (simp only [List.length_append, List.length_set, List.length_replicate, List.length_take, List.length_drop, List.length_cons, List.length_nil, List.length_map]; omega)) (by dsimp only [List.length_cons, List.length_nil]; omega) (by omega) ?_)
  | (with_reducible refine div_g (by omega) (by omega) (by dsimp only [inR]; omega) ?_)
  | (with_reducible refine mod_g (by omega) (by omega) ?_)
  | (with_reducible refine mask_g (m := 4294967296) 32 rfl rfl (by decide) (by omega) ?_)
  | (with_reducible refine shr_g (m := 4294967296) 32 rfl (by decide) (by omega) rfl ?_)
  | (with_reducible refine fz_all (by omega) ?_)
  | (with_reducible refine Stuck.h (A := RetE _ _) ?_) | (with_reducible refine Stuck.h (A := RetM _ _ _ _) ?_) | (with_reducible refine Stuck.h (A := Again _ _ _ _ _ _ _ _) ?_) | (with_reducible refine Stuck.h (A := CallF _ _ _ _ _ _ _) ?_) | (with_reducible refine Stuck.h (A := LoopG _ _ _ _ _ _ _ _) ?_) | (with_reducible refine Stuck.h (A := DrawG _ _ _ _ _ _ _ _) ?_)
  | (with_reducible refine Stuck.h (A := WrapG _ _ _) ?_) | (with_reducible refine Stuck.h (A := DivG _ _ _ _) ?_) | (with_reducible refine Stuck.h (A := ModG _ _ _) ?_) | (with_reducible refine Stuck.h (A := ShlG _ _ _ _) ?_) | (with_reducible refine Stuck.h (A := ShrG _ _ _ _) ?_) | (with_reducible refine Stuck.h (A := BitG _ _ _ _ _) ?_)
  | (with_reducible refine Stuck.h (A := IdxG _ _ _) ?_) | (with_reducible refine Stuck.h (A := IdxL _ _ _) ?_) | (with_reducible refine Stuck.h (A := SlcG _ _ _ _ _) ?_) | (with_reducible refine Stuck.h (A := MakG _ _ _ _) ?_) | (with_reducible refine Stuck.h (A := AppG _ _ _ _ _ _ _) ?_) | (with_reducible refine Stuck.h (A := FzG _ _ _ _) ?_)
  | (with_reducible refine Stuck.h (A := RawG _) ?_) | (with_reducible refine Stuck.h (A := TabG _ _ _ _ _) ?_) | (with_reducible refine Stuck.h (A := ExtF _ _ _ _) ?_) | (with_reducible refine Stuck.h (A := Chk _ _) ?_) | (with_reducible refine Stuck.h (A := False) ?_))
    exact ⟨ret_e rfl⟩
  rw [if_neg hm]
  by_cases hA : 524288 < (e - min e f) + (bl n.natAbs : Int)
  · rw [if_pos (.inl (by omega))]
    rw [nshl_no (by omega) hn hA] at s1
    obtain ⟨r2, hr2⟩ := nshl_form m (f - min e f)
    rw [hr2] at s2
    obtain ⟨c2, hc2⟩ : ∃ c, c = shlC m.natAbs (f - min e f) := ⟨_, rfl⟩
    rw [← hc2] at s2
    clear hd1 hd2 hr2 hc2
    refine FC.intro (X := XX) tok Tryz.func37 rfl Tryz.ntmps37 (by rw [Tryz.results37]) (by kernel_rfl) rfl ?_; intro F hG hO
    rw [← hG] at f1 f2 f3 f4 s1 s2
    repeat' ((try (conv => whnf)); first
  | ((with_reducible refine cg ?_); refine call_eq (f1) (LpL.refl _) rfl ?_)
  | ((with_reducible refine cg ?_); refine call_eq (f2) (LpL.refl _) rfl ?_)
  | ((with_reducible refine cg ?_); refine call_eq (f3) (LpL.refl _) rfl ?_)
  | ((with_reducible refine cg ?_); refine call_eq (f4) (LpL.refl _) rfl ?_)
  | ((with_reducible refine cg ?_); refine call_eq (s1) (LpL.refl _) rfl ?_)
  | ((with_reducible refine cg ?_); refine call_eq (s2) (LpL.refl _) rfl ?_)
  
  | (with_reducible refine Chk.mk' (by first | omega | exact trivial | (simp only [List.length_append, List.length_set, List.length_replicate, List.length_take, List.length_drop, List.length_cons, List.length_nil, List.length_map]; omega)) ?_)
  | (with_reducible refine wrap_g (by dsimp only [inR]; omega) ?_)
  | (with_reducible refine idx_g (by omega) ?_)
  | (with_reducible refine idx_l _ rfl (by decide) ?_)
  | (with_reducible refine BothG.mk ?_ ?_)
  | (with_reducible refine fork_tt ?_) | (with_reducible refine fork_ff ?_)
  | (with_reducible refine fork_e (c := true) (by decide) ?_; with_reducible refine fork_tt ?_) | (with_reducible refine fork_e (c := false) (by decide) ?_; with_reducible refine fork_ff ?_)
  | (with_reducible refine fork_t (by omega) ?_) | (with_reducible refine fork_f (by omega) ?_)
  | (with_reducible refine fork_d ?_ ?_ <;> intro hc)
  | (with_reducible refine fork_n ?_)
  | (with_reducible refine fork_b ?_ ?_ <;> intro hc)
  | (with_reducible refine SlcG.mk (by omega) ?_)
  | (with_reducible refine MakG.mk (by dsimp only; omega) ?_)
  | (with_reducible refine AppG.mk (by first | omega | (simp only [List.length_append, List.length_set, List.length_replicate, List.length_take, List.length_drop, List.length_cons, List.length_nil, List.length_map]; omega)) (by dsimp only [List.length_cons, List.length_nil]; omega) (by omega) ?_)
  | (with_reducible refine div_g (by omega) (by omega) (by dsimp only [inR]; omega) ?_)
  | (with_reducible refine mod_g (by omega) (by omega) ?_)
  | (with_reducible refine mask_g (m := 4294967296) 32 rfl rfl (by decide) (by omega) ?_)
  | (with_reducible refine shr_g (m := 4294967296) 32 rfl (by decide) (by omega) rfl ?_)
  | (with_reducible refine fz_all (by omega) ?_)
  | (with_reducible refine Stuck.h (A := RetE _ _) ?_) | (with_reducible refine Stuck.h (A := RetM _ _ _ _) ?_) | (with_reducible refine Stuck.h (A := Again _ _ _ _ _ _ _ _) ?_) | (with_reducible refine Stuck.h (A := CallF _ _ _ _ _ _ _) ?_) | (with_reducible refine Stuck.h (A := LoopG _ _ _ _ _ _ _ _) ?_) | (with_reducible refine Stuck.h (A := DrawG _ _ _ _ _ _ _ _) ?_)
  | (with_reducible refine Stuck.h (A := WrapG _ _ _) ?_) | (with_reducible refine Stuck.h (A := DivG _ _ _ _) ?_) | (with_reducible refine Stuck.h (A := ModG _ _ _) ?_) | (with_reducible refine Stuck.h (A := ShlG _ _ _ _) ?_) | (with_reducible refine Stuck.h (A := ShrG _ _ _ _) ?_) | (with_reducible refine Stuck.h (A := BitG _ _ _ _ _) ?_)
  | (with_reducible refine Stuck.h (A := IdxG _ _ _) ?_) | (with_reducible refine Stuck.h (A := IdxL _ _ _) ?_) | (with_reducible refine Stuck.h (A := SlcG _ _ _ _ _) ?_) | (with_reducible refine Stuck.h (A := MakG _ _ _ _) ?_) | (with_reducible refine Stuck.h (A := AppG _ _ _ _ _ _ _) ?_) | (with_reducible refine Stuck.h (A := FzG _ _ _ _) ?_)
  | (with_reducible refine Stuck.h (A := RawG _) ?_) | (with_reducible refine Stuck.h (A := TabG _ _ _ _ _) ?_) | (with_reducible refine Stuck.h (A := ExtF _ _ _ _) ?_) | (with_reducible refine Stuck.h (A := Chk _ _) ?_) | (with_reducible refine Stuck.h (A := False) ?_))
    exact ⟨ret_l _ (lp_dyE 5) rfl⟩
  obtain ⟨q1, l1⟩ := nshl_ok (n := n) (k := e - min e f) (by omega) hn (by omega)
  rw [q1] at s1
  by_cases hB : 524288 < (f - min e f) + (bl m.natAbs : Int)
  · rw [if_pos (.inr (by omega))]
    rw [nshl_no (by omega) hm hB] at s2
    obtain ⟨x, hx⟩ : ∃ x, x = n * 2 ^ (e - min e f).toNat := ⟨_, rfl⟩
    rw [← hx] at s1
    clear hd1 hd2
    refine FC.intro (X := XX) tok Tryz.func37 rfl Tryz.ntmps37 (by rw [Tryz.results37]) (by kernel_rfl) rfl ?_; intro F hG hO
    rw [← hG] at f1 f2 f3 f4 s1 s2
    repeat' ((try (conv => whnf)); first
  | ((with_reducible refine cg ?_); refine call_eq (f1) (LpL.refl _) rfl ?_)
  | ((with_reducible refine cg ?_); refine call_eq (f2) (LpL.refl _) rfl ?_)
  | ((with_reducible refine cg ?_); refine call_eq (f3) (LpL.refl _) rfl ?_)
  | ((with_reducible refine cg ?_); refine call_eq (f4) (LpL.refl _) rfl ?_)
  | ((with_reducible refine cg ?_); refine call_eq (s1) (LpL.refl _) rfl ?_)
  | ((with_reducible refine cg ?_); refine call_eq (s2) (LpL.refl _) rfl ?_)
  
  | (with_reducible refine Chk.mk' (by first | omega | exact trivial | (simp only [List.length_append, List.length_set, List.length_replicate, List.length_take, List.length_drop, List.length_cons, List.length_nil, List.length_map]; omega)) ?_)
  | (with_reducible refine wrap_g (by dsimp only [inR]; omega) ?_)
  | (with_reducible refine idx_g (by omega) ?_)
  | (with_reducible refine idx_l _ rfl (by decide) ?_)
  | (with_reducible refine BothG.mk ?_ ?_)
  | (with_reducible refine fork_tt ?_) | (with_reducible refine fork_ff ?_)
  | (with_reducible refine fork_e (c := true) (by decide) ?_; with_reducible refine fork_tt ?_) | (with_reducible refine fork_e (c := false) (by decide) ?_; with_reducible refine fork_ff ?_)
  | (with_reducible refine fork_t (by omega) ?_) | (with_reducible refine fork_f (by omega) ?_)
  | (with_reducible refine fork_d ?_ ?_ <;> intro hc)
  | (with_reducible refine fork_n ?_)
  | (with_reducible refine fork_b ?_ ?_ <;> intro hc)
  | (with_reducible refine SlcG.mk (by omega) ?_)
  | (with_reducible refine MakG.mk (by dsimp only; omega) ?_)
  | (with_reducible refine AppG.mk (by first | omega | (simp only [List.length_append, List.length_set, List.length_replicate, List.length_take, List.length_drop, List.length_cons, List.length_nil, List.length_map]; omega)) (by dsimp only [List.length_cons, List.length_nil]; omega) (by omega) ?_)
  | (with_reducible refine div_g (by omega) (by omega) (by dsimp only [inR]; omega) ?_)
  | (with_reducible refine mod_g (by omega) (by omega) ?_)
  | (with_reducible refine mask_g (m := 4294967296) 32 rfl rfl (by decide) (by omega) ?_)
  | (with_reducible refine shr_g (m := 4294967296) 32 rfl (by decide) (by omega) rfl ?_)
  | (with_reducible refine fz_all (by omega) ?_)
  | (with_reducible refine Stuck.h (A := RetE _ _) ?_) | (with_reducible refine Stuck.h (A := RetM _ _ _ _) ?_) | (with_reducible refine Stuck.h (A := Again _ _ _ _ _ _ _ _) ?_) | (with_reducible refine Stuck.h (A := CallF _ _ _ _ _ _ _) ?_) | (with_reducible refine Stuck.h (A := LoopG _ _ _ _ _ _ _ _) ?_) | (with_reducible refine Stuck.h (A := DrawG _ _ _ _ _ _ _ _) ?_)
  | (with_reducible refine Stuck.h (A := WrapG _ _ _) ?_) | (with_reducible refine Stuck.h (A := DivG _ _ _ _) ?_) | (with_reducible refine Stuck.h (A := ModG _ _ _) ?_) | (with_reducible refine Stuck.h (A := ShlG _ _ _ _) ?_) | (with_reducible refine Stuck.h (A := ShrG _ _ _ _) ?_) | (with_reducible refine Stuck.h (A := BitG _ _ _ _ _) ?_)
  | (with_reducible refine Stuck.h (A := IdxG _ _ _) ?_) | (with_reducible refine Stuck.h (A := IdxL _ _ _) ?_) | (with_reducible refine Stuck.h (A := SlcG _ _ _ _ _) ?_) | (with_reducible refine Stuck.h (A := MakG _ _ _ _) ?_) | (with_reducible refine Stuck.h (A := AppG _ _ _ _ _ _ _) ?_) | (with_reducible refine Stuck.h (A := FzG _ _ _ _) ?_)
  | (with_reducible refine Stuck.h (A := RawG _) ?_) | (with_reducible refine Stuck.h (A := TabG _ _ _ _ _) ?_) | (with_reducible refine Stuck.h (A := ExtF _ _ _ _) ?_) | (with_reducible refine Stuck.h (A := Chk _ _) ?_) | (with_reducible refine Stuck.h (A := False) ?_))
    exact ⟨ret_l _ (lp_dyE 5) rfl⟩
  obtain ⟨q2, l2⟩ := nshl_ok (n := m) (k := f - min e f) (by omega) hm (by omega)
  rw [q2] at s2
  rw [if_neg (by omega)]
  have s3 := n_nadd (G := g) _ _ l1 l2
  obtain ⟨x, hx⟩ : ∃ x, x = n * 2 ^ (e - min e f).toNat := ⟨_, rfl⟩
  obtain ⟨y, hy⟩ : ∃ y, y = m * 2 ^ (f - min e f).toNat := ⟨_, rfl⟩
  rw [← hx] at s1 s3 ⊢
  rw [← hy] at s2 s3 ⊢
  clear hx hy q1 q2 l1 l2 hd1 hd2
  obtain ⟨s, hs⟩ : ∃ s, s = x + y := ⟨_, rfl⟩
  unfold naddS at s3
  rw [← hs] at s3 ⊢
  have hL := L64_bl s.natAbs
  by_cases hC : 8192 < L64 s.natAbs
  · rw [if_pos (by omega)]
    rw [if_pos hC] at s3
    refine FC.intro (X := XX) tok Tryz.func37 rfl Tryz.ntmps37 (by rw [Tryz.results37]) (by kernel_rfl) rfl ?_; intro F hG hO
    rw [← hG] at f1 f2 f3 f4 s1 s2 s3
    repeat' ((try (conv => whnf)); first
  | ((with_reducible refine cg ?_); refine call_eq (f1) (LpL.refl _) rfl ?_)
  | ((with_reducible refine cg ?_); refine call_eq (f2) (LpL.refl _) rfl ?_)
  | ((with_reducible refine cg ?_); refine call_eq (f3) (LpL.refl _) rfl ?_)
  | ((with_reducible refine cg ?_); refine call_eq (f4) (LpL.refl _) rfl ?_)
  | ((with_reducible refine cg ?_); refine call_eq (s1) (LpL.refl _) rfl ?_)
  | ((with_reducible refine cg ?_); refine call_eq (s2) (LpL.refl _) rfl ?_)
  | ((with_reducible refine cg ?_); refine call_eq (s3) (LpL.refl _) rfl ?_)
  
  | (with_reducible refine Chk.mk' (by first | omega | exact trivial | (simp only [List.length_append, List.length_set, List.length_replicate, List.length_take, List.length_drop, List.length_cons, List.length_nil, List.length_map]; omega)) ?_)
  | (with_reducible refine wrap_g (by dsimp only [inR]; omega) ?_)
  | (with_reducible refine idx_g (by omega) ?_)
  | (with_reducible refine idx_l _ rfl (by decide) ?_)
  | (with_reducible refine BothG.mk ?_ ?_)
  | (with_reducible refine fork_tt ?_) | (with_reducible refine fork_ff ?_)
  | (with_reducible refine fork_e (c := true) (by decide) ?_; with_reducible refine fork_tt ?_) | (with_reducible refine fork_e (c := false) (by decide) ?_; with_reducible refine fork_ff ?_)
  | (with_reducible refine fork_t (by omega) ?_) | (with_reducible refine fork_f (by omega) ?_)
  | (with_reducible refine fork_d ?_ ?_ <;> intro hc)
  | (with_reducible refine fork_n ?_)
  | (with_reducible refine fork_b ?_ ?_ <;> intro hc)
  | (with_reducible refine SlcG.mk (by omega) ?_)
  | (with_reducible refine MakG.mk (by dsimp only; omega) ?_)
  | (with_reducible refine AppG.mk (by first | omega | (simp only [List.length_append, List.length_set, List.length_replicate, List.length_take, List.length_drop, List.length_cons, List.length_nil, List.length_map]; omega)) (by dsimp only [List.length_cons, List.length_nil]; omega) (by omega) ?_)
  | (with_reducible refine div_g (by omega) (by omega) (by dsimp only [inR]; omega) ?_)
  | (with_reducible refine mod_g (by omega) (by omega) ?_)
  | (with_reducible refine mask_g (m := 4294967296) 32 rfl rfl (by decide) (by omega) ?_)
  | (with_reducible refine shr_g (m := 4294967296) 32 rfl (by decide) (by omega) rfl ?_)
  | (with_reducible refine fz_all (by omega) ?_)
  | (with_reducible refine Stuck.h (A := RetE _ _) ?_) | (with_reducible refine Stuck.h (A := RetM _ _ _ _) ?_) | (with_reducible refine Stuck.h (A := Again _ _ _ _ _ _ _ _) ?_) | (with_reducible refine Stuck.h (A := CallF _ _ _ _ _ _ _) ?_) | (with_reducible refine Stuck.h (A := LoopG _ _ _ _ _ _ _ _) ?_) | (with_reducible refine Stuck.h (A := DrawG _ _ _ _ _ _ _ _) ?_)
  | (with_reducible refine Stuck.h (A := WrapG _ _ _) ?_) | (with_reducible refine Stuck.h (A := DivG _ _ _ _) ?_) | (with_reducible refine Stuck.h (A := ModG _ _ _) ?_) | (with_reducible refine Stuck.h (A := ShlG _ _ _ _) ?_) | (with_reducible refine Stuck.h (A := ShrG _ _ _ _) ?_) | (with_reducible refine Stuck.h (A := BitG _ _ _ _ _) ?_)
  | (with_reducible refine Stuck.h (A := IdxG _ _ _) ?_) | (with_reducible refine Stuck.h (A := IdxL _ _ _) ?_) | (with_reducible refine Stuck.h (A := SlcG _ _ _ _ _) ?_) | (with_reducible refine Stuck.h (A := MakG _ _ _ _) ?_) | (with_reducible refine Stuck.h (A := AppG _ _ _ _ _ _ _) ?_) | (with_reducible refine Stuck.h (A := FzG _ _ _ _) ?_)
  | (with_reducible refine Stuck.h (A := RawG _) ?_) | (with_reducible refine Stuck.h (A := TabG _ _ _ _ _) ?_) | (with_reducible refine Stuck.h (A := ExtF _ _ _ _) ?_) | (with_reducible refine Stuck.h (A := Chk _ _) ?_) | (with_reducible refine Stuck.h (A := False) ?_))
    exact ⟨ret_l _ (lp_dyE 5) rfl⟩
  · rw [if_neg (by omega)]
    rw [if_neg hC] at s3
    have s4 := y_make hD s (min e f) (by omega) (by dsimp only [inR]; omega)
    obtain ⟨u, v, c, hr, hgd, hcc⟩ := told_form s (min e f)
    rw [hr] at s4 ⊢
    refine FC.intro (X := XX) tok Tryz.func37 rfl Tryz.ntmps37 (by rw [Tryz.results37]) (by kernel_rfl) rfl ?_; intro F hG hO
    rw [← hG] at f1 f2 f3 f4 s1 s2 s3 s4
    repeat' ((try (conv => whnf)); first
  | ((with_reducible refine cg ?_); refine call_eq (f1) (LpL.refl _) rfl ?_)
  | ((with_reducible refine cg ?_); refine call_eq (f2) (LpL.refl _) rfl ?_)
  | ((with_reducible refine cg ?_); refine call_eq (f3) (LpL.refl _) rfl ?_)
  | ((with_reducible refine cg ?_); refine call_eq (f4) (LpL.refl _) rfl ?_)
  | ((with_reducible refine cg ?_); refine call_eq (s1) (LpL.refl _) rfl ?_)
  | ((with_reducible refine cg ?_); refine call_eq (s2) (LpL.refl _) rfl ?_)
  | ((with_reducible refine cg ?_); refine call_eq (s3) (LpL.refl _) rfl ?_)
  | ((with_reducible refine cg ?_); refine call_eq (s4) (LpL.refl _) rfl ?_)
  
  | (with_reducible refine Chk.mk' (by first | omega | exact trivial | (simp only [List.length_append, List.length_set, List.length_replicate, List.length_take, List.length_drop, List.length_cons, List.length_nil, List.length_map]; omega)) ?_)
  | (with_reducible refine wrap_g (by dsimp only [inR]; omega) ?_)
  | (with_reducible refine idx_g (by omega) ?_)
  | (with_reducible refine idx_l _ rfl (by decide) ?_)
  | (with_reducible refine BothG.mk ?_ ?_)
  | (with_reducible refine fork_tt ?_) | (with_reducible refine fork_ff ?_)
  | (with_reducible refine fork_e (c := true) (by decide) ?_; with_reducible refine fork_tt ?_) | (with_reducible refine fork_e (c := false) (by decide) ?_; with_reducible refine fork_ff ?_)
  | (with_reducible refine fork_t (by omega) ?_) | (with_reducible refine fork_f (by omega) ?_)
  | (with_reducible refine fork_d ?_ ?_ <;> intro hc)
  | (with_reducible refine fork_n ?_)
  | (with_reducible refine fork_b ?_ ?_ <;> intro hc)
  | (with_reducible refine SlcG.mk (by omega) ?_)
  | (with_reducible refine MakG.mk (by dsimp only; omega) ?_)
  | (with_reducible refine AppG.mk (by first | omega | (simp only [List.length_append, List.length_set, List.length_replicate, List.length_take, List.length_drop, List.length_cons, List.length_nil, List.length_map]; omega)) (by dsimp only [List.length_cons, List.length_nil]; omega) (by omega) ?_)
  | (with_reducible refine div_g (by omega) (by omega) (by dsimp only [inR]; omega) ?_)
  | (with_reducible refine mod_g (by omega) (by omega) ?_)
  | (with_reducible refine mask_g (m := 4294967296) 32 rfl rfl (by decide) (by omega) ?_)
  | (with_reducible refine shr_g (m := 4294967296) 32 rfl (by decide) (by omega) rfl ?_)
  | (with_reducible refine fz_all (by omega) ?_)
  | (with_reducible refine Stuck.h (A := RetE _ _) ?_) | (with_reducible refine Stuck.h (A := RetM _ _ _ _) ?_) | (with_reducible refine Stuck.h (A := Again _ _ _ _ _ _ _ _) ?_) | (with_reducible refine Stuck.h (A := CallF _ _ _ _ _ _ _) ?_) | (with_reducible refine Stuck.h (A := LoopG _ _ _ _ _ _ _ _) ?_) | (with_reducible refine Stuck.h (A := DrawG _ _ _ _ _ _ _ _) ?_)
  | (with_reducible refine Stuck.h (A := WrapG _ _ _) ?_) | (with_reducible refine Stuck.h (A := DivG _ _ _ _) ?_) | (with_reducible refine Stuck.h (A := ModG _ _ _) ?_) | (with_reducible refine Stuck.h (A := ShlG _ _ _ _) ?_) | (with_reducible refine Stuck.h (A := ShrG _ _ _ _) ?_) | (with_reducible refine Stuck.h (A := BitG _ _ _ _ _) ?_)
  | (with_reducible refine Stuck.h (A := IdxG _ _ _) ?_) | (with_reducible refine Stuck.h (A := IdxL _ _ _) ?_) | (with_reducible refine Stuck.h (A := SlcG _ _ _ _ _) ?_) | (with_reducible refine Stuck.h (A := MakG _ _ _ _) ?_) | (with_reducible refine Stuck.h (A := AppG _ _ _ _ _ _ _) ?_) | (with_reducible refine Stuck.h (A := FzG _ _ _ _) ?_)
  | (with_reducible refine Stuck.h (A := RawG _) ?_) | (with_reducible refine Stuck.h (A := TabG _ _ _ _ _) ?_) | (with_reducible refine Stuck.h (A := ExtF _ _ _ _) ?_) | (with_reducible refine Stuck.h (A := Chk _ _) ?_) | (with_reducible refine Stuck.h (A := False) ?_))
    exact ⟨ret_e rfl⟩
theorem y_sub {g : List (Nat × List Value)} (hD : (0, debT.map (Value.int .u8)) ∈ g) {n e m f : Int} (h : Good n e) (k : Good m f) : FC Tryz.prog g 22 [DY n e, DY m f] (· = addS n e (-m) f) := by
  have f1 := y_add hD h k.neg
  obtain ⟨x, y, c, hr, hgd, hcc⟩ := add_form h k.neg
  rw [hr] at f1 ⊢
  have f2 := y_neg (G := g) k
  refine FC.intro (X := XX) tok Tryz.func22 rfl Tryz.ntmps22 (by rw [Tryz.results22]) (by kernel_rfl) rfl ?_; intro F hG hO
  rw [← hG] at f1 f2
  repeat' ((try (conv => whnf)); first
  | ((with_reducible refine cg ?_); refine call_eq (f1) (LpL.refl _) rfl ?_)
  | ((with_reducible refine cg ?_); refine call_eq (f2) (LpL.refl _) rfl ?_)
  
  | (with_reducible refine Chk.mk' (by first | omega | exact trivial | (simp only [List.length_append, List.length_set, List.length_replicate, List.length_take, List.length_drop, List.length_cons, List.length_nil, List.length_map]; omega)) ?_)
  | (with_reducible refine wrap_g (by dsimp only [inR]; omega) ?_)
  | (with_reducible refine idx_g (by omega) ?_)
  | (with_reducible refine idx_l _ rfl (by decide) ?_)
  | (with_reducible refine BothG.mk ?_ ?_)
  | (with_reducible refine fork_tt ?_) | (with_reducible refine fork_ff ?_)
  | (with_reducible refine fork_e (c := true) (by decide) ?_; with_reducible refine fork_tt ?_) | (with_reducible refine fork_e (c := false) (by decide) ?_; with_reducible refine fork_ff ?_)
  | (with_reducible refine fork_t (by omega) ?_) | (with_reducible refine fork_f (by omega) ?_)
  | (with_reducible refine fork_d ?_ ?_ <;> intro hc)
  | (with_reducible refine fork_n ?_)
  | (with_reducible refine fork_b ?_ ?_ <;> intro hc)
  | (with_reducible refine SlcG.mk (by omega) ?_)
  | (with_reducible refine MakG.mk (by dsimp only; omega) ?_)
  | (with_reducible refine AppG.mk (by first | omega | (simp only [List.length_append, List.length_set, List.length_replicate, List.length_take, List.length_drop, List.length_cons, List.length_nil, List.length_map]; omega)) (by dsimp only [List.length_cons, List.length_nil]; omega) (by omega) ?_)
  | (with_reducible refine div_g (by omega) (by omega) (by dsimp only [inR]; omega) ?_)
  | (with_reducible refine mod_g (by omega) (by omega) ?_)
  | (with_reducible refine mask_g (m := 4294967296) 32 rfl rfl (by decide) (by omega) ?_)
  | (with_reducible refine shr_g (m := 4294967296) 32 rfl (by decide) (by omega) rfl ?_)
  | (with_reducible refine fz_all (by omega) ?_)
  | (with_reducible refine Stuck.h (A := RetE _ _) ?_) | (with_reducible refine Stuck.h (A := RetM _ _ _ _) ?_) | (with_reducible refine Stuck.h (A := Again _ _ _ _ _ _ _ _) ?_) | (with_reducible refine Stuck.h (A := CallF _ _ _ _ _ _ _) ?_) | (with_reducible refine Stuck.h (A := LoopG _ _ _ _ _ _ _ _) ?_) | (with_reducible refine Stuck.h (A := DrawG _ _ _ _ _ _ _ _) ?_)
  | (with_reducible refine Stuck.h (A := WrapG _ _ _) ?_) | (with_reducible refine Stuck.h (A := DivG _ _ _ _) ?_) | (with_reducible refine Stuck.h (A := ModG _ _ _) ?_) | (with_reducible refine Stuck.h (A := ShlG _ _ _ _) ?_) | (with_reducible refine Stuck.h (A := ShrG _ _ _ _) ?_) | (with_reducible refine Stuck.h (A := BitG _ _ _ _ _) ?_)
  | (with_reducible refine Stuck.h (A := IdxG _ _ _) ?_) | (with_reducible refine Stuck.h (A := IdxL _ _ _) ?_) | (with_reducible refine Stuck.h (A := SlcG _ _ _ _ _) ?_) | (with_reducible refine Stuck.h (A := MakG _ _ _ _) ?_) | (with_reducible refine Stuck.h (A := AppG _ _ _ _ _ _ _) ?_) | (with_reducible refine Stuck.h (A := FzG _ _ _ _) ?_)
  | (with_reducible refine Stuck.h (A := RawG _) ?_) | (with_reducible refine Stuck.h (A := TabG _ _ _ _ _) ?_) | (with_reducible refine Stuck.h (A := ExtF _ _ _ _) ?_) | (with_reducible refine Stuck.h (A := Chk _ _) ?_) | (with_reducible refine Stuck.h (A := False) ?_))
  exact ⟨ret_e rfl⟩
end Go.Proofs.YtbeocnjlepcglaaGreatDoor.Sim
namespace Go.Proofs.YtbeocnjlepcglaaGreatDoor.Sim
open Go.RowKit
set_option linter.unusedVariables false
set_option linter.unusedSimpArgs false
set_option maxRecDepth 10000
set_option maxHeartbeats 8000000
variable {G : List (Nat × List Value)}
theorem ediv_abs (n P : Int) (hP : 0 < P) : (n / P).natAbs ≤ n.natAbs := by
  obtain ⟨q, hq⟩ : ∃ q, q = n / P := ⟨_, rfl⟩
  have h1 := Int.mul_ediv_add_emod n P
  have h2 := Int.emod_nonneg n (show P ≠ 0 by omega)
  have h3 := Int.emod_lt_of_pos n hP
  rw [← hq] at h1 ⊢
  rcases Int.lt_or_le q 0 with h | h
  · have h4 : 0 ≤ (P - 1) * (-1 - q) := Int.mul_nonneg (by omega) (by omega)
    have h5 : (P - 1) * (-1 - q) = -P - P * q + 1 + q := by
      rw [Int.sub_mul, Int.mul_sub, Int.one_mul]; omega
    omega
  · have h4 : 0 ≤ (P - 1) * q := Int.mul_nonneg (by omega) h
    have h5 : (P - 1) * q = P * q - q := by rw [Int.sub_mul, Int.one_mul]
    omega
theorem wholeS_abs (n k : Int) (up : Bool) : (wholeS n k up).natAbs ≤ n.natAbs := by
  have hP : (0 : Int) < 2 ^ k.toNat := Int.pow_pos (by decide)
  cases up
  · exact ediv_abs n _ hP
  · show (-((-n) / 2 ^ k.toNat)).natAbs ≤ _
    have := ediv_abs (-n) _ hP
    rw [Int.natAbs_neg] at this ⊢
    exact this
theorem wholeS_L64 (n k : Int) (up : Bool) (h : L64 n.natAbs ≤ 8192) : L64 (wholeS n k up).natAbs ≤ 8192 := Nat.le_trans (lenB_mono (by decide) (wholeS_abs n k up)) h
theorem y_cut {g : List (Nat × List Value)} (hD : (0, debT.map (Value.int .u8)) ∈ g) (n k : Int) (up : Bool) (h : L64 n.natAbs ≤ 8192) (hk : inR .i64 k) (hk0 : 0 ≤ k) : FC Tryz.prog g 87 [NI n, .val (.int .i64 k), .val (.bool up)] (· = NI (wholeS n k up)) := by
  cases up
  · have f1 := n_floorshr hD n k h hk hk0
    refine FC.intro (X := XX) tok Tryz.func87 rfl Tryz.ntmps87 (by rw [Tryz.results87]) (by kernel_rfl) rfl ?_; intro F hG hO
    rw [← hG] at f1
    repeat' ((try (conv => whnf)); first
  | ((with_reducible refine cg ?_); refine call_eq (f1) (LpL.refl _) rfl ?_)
  
  | (with_reducible refine Chk.mk' (by first | omega | exact trivial | (simp only [List.length_append, List.length_set, List.length_replicate, List.length_take, List.length_drop, List.length_cons, List.length_nil, List.length_map]; omega)) ?_)
  | (with_reducible refine wrap_g (by dsimp only [inR]; omega) ?_)
  | (with_reducible refine idx_g (by omega) ?_)
  | (with_reducible refine idx_l _ rfl (by decide) ?_)
  | (with_reducible refine BothG.mk ?_ ?_)
  | (with_reducible refine fork_tt ?_) | (with_reducible refine fork_ff ?_)
  | (with_reducible refine fork_e (c := true) (by decide) ?_; with_reducible refine fork_tt ?_) | (with_reducible refine fork_e (c := false) (by decide) ?_; with_reducible refine fork_ff ?_)
  | (with_reducible refine fork_t (by omega) ?_) | (with_reducible refine fork_f (by omega) ?_)
  | (with_reducible refine fork_d ?_ ?_ <;> intro hc)
  | (with_reducible refine fork_n ?_)
  | (with_reducible refine fork_b ?_ ?_ <;> intro hc)
  | (with_reducible refine SlcG.mk (by omega) ?_)
  | (with_reducible refine MakG.mk (by dsimp only; omega) ?_)
  | (with_reducible refine AppG.mk (by first | omega | (simp only [List.length_append, List.length_set, List.length_replicate, List.length_take, List.length_drop, List.length_cons, List.length_nil, List.length_map]; omega)) (by dsimp only [List.length_cons, List.length_nil]; omega) (by omega) ?_)
  | (with_reducible refine div_g (by omega) (by omega) (by dsimp only [inR]; omega) ?_)
  | (with_reducible refine mod_g (by omega) (by omega) ?_)
  | (with_reducible refine mask_g (m := 4294967296) 32 rfl rfl (by decide) (by omega) ?_)
  | (with_reducible refine shr_g (m := 4294967296) 32 rfl (by decide) (by omega) rfl ?_)
  | (with_reducible refine fz_all (by omega) ?_)
  | (with_reducible refine Stuck.h (A := RetE _ _) ?_) | (with_reducible refine Stuck.h (A := RetM _ _ _ _) ?_) | (with_reducible refine Stuck.h (A := Again _ _ _ _ _ _ _ _) ?_) | (with_reducible refine Stuck.h (A := CallF _ _ _ _ _ _ _) ?_) | (with_reducible refine Stuck.h (A := LoopG _ _ _ _ _ _ _ _) ?_) | (with_reducible refine Stuck.h (A := DrawG _ _ _ _ _ _ _ _) ?_)
  | (with_reducible refine Stuck.h (A := WrapG _ _ _) ?_) | (with_reducible refine Stuck.h (A := DivG _ _ _ _) ?_) | (with_reducible refine Stuck.h (A := ModG _ _ _) ?_) | (with_reducible refine Stuck.h (A := ShlG _ _ _ _) ?_) | (with_reducible refine Stuck.h (A := ShrG _ _ _ _) ?_) | (with_reducible refine Stuck.h (A := BitG _ _ _ _ _) ?_)
  | (with_reducible refine Stuck.h (A := IdxG _ _ _) ?_) | (with_reducible refine Stuck.h (A := IdxL _ _ _) ?_) | (with_reducible refine Stuck.h (A := SlcG _ _ _ _ _) ?_) | (with_reducible refine Stuck.h (A := MakG _ _ _ _) ?_) | (with_reducible refine Stuck.h (A := AppG _ _ _ _ _ _ _) ?_) | (with_reducible refine Stuck.h (A := FzG _ _ _ _) ?_)
  | (with_reducible refine Stuck.h (A := RawG _) ?_) | (with_reducible refine Stuck.h (A := TabG _ _ _ _ _) ?_) | (with_reducible refine Stuck.h (A := ExtF _ _ _ _) ?_) | (with_reducible refine Stuck.h (A := Chk _ _) ?_) | (with_reducible refine Stuck.h (A := False) ?_))
    exact ⟨ret_e rfl⟩
  · have f1 := n_ceilshr hD n k h hk hk0
    refine FC.intro (X := XX) tok Tryz.func87 rfl Tryz.ntmps87 (by rw [Tryz.results87]) (by kernel_rfl) rfl ?_; intro F hG hO
    rw [← hG] at f1
    repeat' ((try (conv => whnf)); first
  | ((with_reducible refine cg ?_); refine call_eq (f1) (LpL.refl _) rfl ?_)
  
  | (with_reducible refine Chk.mk' (by first | omega | exact trivial | (simp only [List.length_append, List.length_set, List.length_replicate, List.length_take, List.length_drop, List.length_cons, List.length_nil, List.length_map]; omega)) ?_)
  | (with_reducible refine wrap_g (by dsimp only [inR]; omega) ?_)
  | (with_reducible refine idx_g (by omega) ?_)
  | (with_reducible refine idx_l _ rfl (by decide) ?_)
  | (with_reducible refine BothG.mk ?_ ?_)
  | (with_reducible refine fork_tt ?_) | (with_reducible refine fork_ff ?_)
  | (with_reducible refine fork_e (c := true) (by decide) ?_; with_reducible refine fork_tt ?_) | (with_reducible refine fork_e (c := false) (by decide) ?_; with_reducible refine fork_ff ?_)
  | (with_reducible refine fork_t (by omega) ?_) | (with_reducible refine fork_f (by omega) ?_)
  | (with_reducible refine fork_d ?_ ?_ <;> intro hc)
  | (with_reducible refine fork_n ?_)
  | (with_reducible refine fork_b ?_ ?_ <;> intro hc)
  | (with_reducible refine SlcG.mk (by omega) ?_)
  | (with_reducible refine MakG.mk (by dsimp only; omega) ?_)
  | (with_reducible refine AppG.mk (by first | omega | (simp only [List.length_append, List.length_set, List.length_replicate, List.length_take, List.length_drop, List.length_cons, List.length_nil, List.length_map]; omega)) (by dsimp only [List.length_cons, List.length_nil]; omega) (by omega) ?_)
  | (with_reducible refine div_g (by omega) (by omega) (by dsimp only [inR]; omega) ?_)
  | (with_reducible refine mod_g (by omega) (by omega) ?_)
  | (with_reducible refine mask_g (m := 4294967296) 32 rfl rfl (by decide) (by omega) ?_)
  | (with_reducible refine shr_g (m := 4294967296) 32 rfl (by decide) (by omega) rfl ?_)
  | (with_reducible refine fz_all (by omega) ?_)
  | (with_reducible refine Stuck.h (A := RetE _ _) ?_) | (with_reducible refine Stuck.h (A := RetM _ _ _ _) ?_) | (with_reducible refine Stuck.h (A := Again _ _ _ _ _ _ _ _) ?_) | (with_reducible refine Stuck.h (A := CallF _ _ _ _ _ _ _) ?_) | (with_reducible refine Stuck.h (A := LoopG _ _ _ _ _ _ _ _) ?_) | (with_reducible refine Stuck.h (A := DrawG _ _ _ _ _ _ _ _) ?_)
  | (with_reducible refine Stuck.h (A := WrapG _ _ _) ?_) | (with_reducible refine Stuck.h (A := DivG _ _ _ _) ?_) | (with_reducible refine Stuck.h (A := ModG _ _ _) ?_) | (with_reducible refine Stuck.h (A := ShlG _ _ _ _) ?_) | (with_reducible refine Stuck.h (A := ShrG _ _ _ _) ?_) | (with_reducible refine Stuck.h (A := BitG _ _ _ _ _) ?_)
  | (with_reducible refine Stuck.h (A := IdxG _ _ _) ?_) | (with_reducible refine Stuck.h (A := IdxL _ _ _) ?_) | (with_reducible refine Stuck.h (A := SlcG _ _ _ _ _) ?_) | (with_reducible refine Stuck.h (A := MakG _ _ _ _) ?_) | (with_reducible refine Stuck.h (A := AppG _ _ _ _ _ _ _) ?_) | (with_reducible refine Stuck.h (A := FzG _ _ _ _) ?_)
  | (with_reducible refine Stuck.h (A := RawG _) ?_) | (with_reducible refine Stuck.h (A := TabG _ _ _ _ _) ?_) | (with_reducible refine Stuck.h (A := ExtF _ _ _ _) ?_) | (with_reducible refine Stuck.h (A := Chk _ _) ?_) | (with_reducible refine Stuck.h (A := False) ?_))
    exact ⟨ret_e rfl⟩
theorem y_short {g : List (Nat × List Value)} (hD : (0, debT.map (Value.int .u8)) ∈ g) (n e p : Int) (up : Bool) (h : L64 n.natAbs ≤ 8192) (he : -1099511627776 ≤ e ∧ e ≤ 1099511627776) (hp : 0 ≤ p ∧ p ≤ 1099511627776) : FC Tryz.prog g 71 [NI n, .val (.int .i64 e), .val (.int .i64 p), .val (.bool up)] (· = cutS n e p up) := by
  have hb := bl_L64 n.natAbs
  have f0 := n_bits (G := g) n.natAbs (by omega)
  unfold cutS
  have hw := wholeS_L64 n ((bl n.natAbs : Int) - p) up h
  have f3 := fun hk => y_cut hD n ((bl n.natAbs : Int) - p) up h (by dsimp only [inR]; omega) hk
  obtain ⟨b, hbb⟩ : ∃ b, b = bl n.natAbs := ⟨_, rfl⟩
  rw [← hbb] at hb f0 hw f3 ⊢
  have f1 := y_make hD n e h (by dsimp only [inR]; omega)
  have f2 := y_make hD (wholeS n ((b : Int) - p) up) (e + ((b : Int) - p)) hw (by dsimp only [inR]; omega)
  obtain ⟨x, y, c, hr, hgd, hcc⟩ := told_form n e
  obtain ⟨x2, y2, c2, hr2, hgd2, hcc2⟩ := told_form (wholeS n ((b : Int) - p) up) (e + ((b : Int) - p))
  rw [hr] at f1 ⊢
  rw [hr2] at f2 ⊢
  obtain ⟨v, hv⟩ : ∃ v, v = wholeS n ((b : Int) - p) up := ⟨_, rfl⟩
  rw [← hv] at f2 f3
  refine FC.intro (X := XX) tok Tryz.func71 rfl Tryz.ntmps71 (by rw [Tryz.results71]) (by kernel_rfl) rfl ?_; intro F hG hO
  rw [← hG] at f0 f1 f2 f3
  repeat' ((try (conv => whnf)); first
  | ((with_reducible refine cg ?_); refine call_eq (f0) (LpL.refl _) rfl ?_)
  | ((with_reducible refine cg ?_); refine call_eq (f1) (LpL.refl _) rfl ?_)
  | ((with_reducible refine cg ?_); refine call_eq (f3 (by omega)) (LpL.refl _) rfl ?_)
  | ((with_reducible refine cg ?_); refine call_eq (f2) (LpL.refl _) rfl ?_)
  
  | (with_reducible refine Chk.mk' (by first | omega | exact trivial | (simp only [List.length_append, List.length_set, List.length_replicate, List.length_take, List.length_drop, List.length_cons, List.length_nil, List.length_map]; omega)) ?_)
  | (with_reducible refine wrap_g (by dsimp only [inR]; omega) ?_)
  | (with_reducible refine idx_g (by omega) ?_)
  | (with_reducible refine idx_l _ rfl (by decide) ?_)
  | (with_reducible refine BothG.mk ?_ ?_)
  | (with_reducible refine fork_tt ?_) | (with_reducible refine fork_ff ?_)
  | (with_reducible refine fork_e (c := true) (by decide) ?_; with_reducible refine fork_tt ?_) | (with_reducible refine fork_e (c := false) (by decide) ?_; with_reducible refine fork_ff ?_)
  | (with_reducible refine fork_t (by omega) ?_) | (with_reducible refine fork_f (by omega) ?_)
  | (with_reducible refine fork_d ?_ ?_ <;> intro hc)
  | (with_reducible refine fork_n ?_)
  | (with_reducible refine fork_b ?_ ?_ <;> intro hc)
  | (with_reducible refine SlcG.mk (by omega) ?_)
  | (with_reducible refine MakG.mk (by dsimp only; omega) ?_)
  | (with_reducible refine AppG.mk (by first | omega | (simp only [List.length_append, List.length_set, List.length_replicate, List.length_take, List.length_drop, List.length_cons, List.length_nil, List.length_map]; omega)) (by dsimp only [List.length_cons, List.length_nil]; omega) (by omega) ?_)
  | (with_reducible refine div_g (by omega) (by omega) (by dsimp only [inR]; omega) ?_)
  | (with_reducible refine mod_g (by omega) (by omega) ?_)
  | (with_reducible refine mask_g (m := 4294967296) 32 rfl rfl (by decide) (by omega) ?_)
  | (with_reducible refine shr_g (m := 4294967296) 32 rfl (by decide) (by omega) rfl ?_)
  | (with_reducible refine fz_all (by omega) ?_)
  | (with_reducible refine Stuck.h (A := RetE _ _) ?_) | (with_reducible refine Stuck.h (A := RetM _ _ _ _) ?_) | (with_reducible refine Stuck.h (A := Again _ _ _ _ _ _ _ _) ?_) | (with_reducible refine Stuck.h (A := CallF _ _ _ _ _ _ _) ?_) | (with_reducible refine Stuck.h (A := LoopG _ _ _ _ _ _ _ _) ?_) | (with_reducible refine Stuck.h (A := DrawG _ _ _ _ _ _ _ _) ?_)
  | (with_reducible refine Stuck.h (A := WrapG _ _ _) ?_) | (with_reducible refine Stuck.h (A := DivG _ _ _ _) ?_) | (with_reducible refine Stuck.h (A := ModG _ _ _) ?_) | (with_reducible refine Stuck.h (A := ShlG _ _ _ _) ?_) | (with_reducible refine Stuck.h (A := ShrG _ _ _ _) ?_) | (with_reducible refine Stuck.h (A := BitG _ _ _ _ _) ?_)
  | (with_reducible refine Stuck.h (A := IdxG _ _ _) ?_) | (with_reducible refine Stuck.h (A := IdxL _ _ _) ?_) | (with_reducible refine Stuck.h (A := SlcG _ _ _ _ _) ?_) | (with_reducible refine Stuck.h (A := MakG _ _ _ _) ?_) | (with_reducible refine Stuck.h (A := AppG _ _ _ _ _ _ _) ?_) | (with_reducible refine Stuck.h (A := FzG _ _ _ _) ?_)
  | (with_reducible refine Stuck.h (A := RawG _) ?_) | (with_reducible refine Stuck.h (A := TabG _ _ _ _ _) ?_) | (with_reducible refine Stuck.h (A := ExtF _ _ _ _) ?_) | (with_reducible refine Stuck.h (A := Chk _ _) ?_) | (with_reducible refine Stuck.h (A := False) ?_))
  · exact ⟨ret_e (by rw [if_pos (by omega)]; rfl)⟩
  · exact ⟨ret_e (by rw [if_neg (by omega)]; rfl)⟩
theorem y_precise (p : Int) : FC Tryz.prog G 65 [.val (.int .i64 p)] (· = .val (.bool (decide (1 ≤ p) && decide (p ≤ 70000)))) := by
  refine FC.intro (X := XX) tok Tryz.func65 rfl Tryz.ntmps65 (by rw [Tryz.results65]) (by kernel_rfl) rfl ?_; intro F hG hO
  repeat' ((try (conv => whnf)); first
  
  | (with_reducible refine Chk.mk' (by first | omega | exact trivial | (simp only [List.length_append, List.length_set, List.length_replicate, List.length_take, List.length_drop, List.length_cons, List.length_nil, List.length_map]; omega)) ?_)
  | (with_reducible refine wrap_g (by dsimp only [inR]; omega) ?_)
  | (with_reducible refine idx_g (by omega) ?_)
  | (with_reducible refine idx_l _ rfl (by decide) ?_)
  | (with_reducible refine BothG.mk ?_ ?_)
  | (with_reducible refine fork_tt ?_) | (with_reducible refine fork_ff ?_)
  | (with_reducible refine fork_e (c := true) (by decide) ?_; with_reducible refine fork_tt ?_) | (with_reducible refine fork_e (c := false) (by decide) ?_; with_reducible refine fork_ff ?_)
  | (with_reducible refine fork_t (by omega) ?_) | (with_reducible refine fork_f (by omega) ?_)
  | (with_reducible refine fork_d ?_ ?_ <;> intro hc)
  | (with_reducible refine fork_n ?_)
  | (with_reducible refine fork_b ?_ ?_ <;> intro hc)
  | (with_reducible refine SlcG.mk (by omega) ?_)
  | (with_reducible refine MakG.mk (by dsimp only; omega) ?_)
  | (with_reducible refine AppG.mk (by first | omega | (simp only [List.length_append, List.length_set, List.length_replicate, List.length_take, List.length_drop, List.length_cons, List.length_nil, List.length_map]; omega)) (by dsimp only [List.length_cons, List.length_nil]; omega) (by omega) ?_)
  | (with_reducible refine div_g (by omega) (by omega) (by dsimp only [inR]; omega) ?_)
  | (with_reducible refine mod_g (by omega) (by omega) ?_)
  | (with_reducible refine mask_g (m := 4294967296) 32 rfl rfl (by decide) (by omega) ?_)
  | (with_reducible refine shr_g (m := 4294967296) 32 rfl (by decide) (by omega) rfl ?_)
  | (with_reducible refine fz_all (by omega) ?_)
  | (with_reducible refine Stuck.h (A := RetE _ _) ?_) | (with_reducible refine Stuck.h (A := RetM _ _ _ _) ?_) | (with_reducible refine Stuck.h (A := Again _ _ _ _ _ _ _ _) ?_) | (with_reducible refine Stuck.h (A := CallF _ _ _ _ _ _ _) ?_) | (with_reducible refine Stuck.h (A := LoopG _ _ _ _ _ _ _ _) ?_) | (with_reducible refine Stuck.h (A := DrawG _ _ _ _ _ _ _ _) ?_)
  | (with_reducible refine Stuck.h (A := WrapG _ _ _) ?_) | (with_reducible refine Stuck.h (A := DivG _ _ _ _) ?_) | (with_reducible refine Stuck.h (A := ModG _ _ _) ?_) | (with_reducible refine Stuck.h (A := ShlG _ _ _ _) ?_) | (with_reducible refine Stuck.h (A := ShrG _ _ _ _) ?_) | (with_reducible refine Stuck.h (A := BitG _ _ _ _ _) ?_)
  | (with_reducible refine Stuck.h (A := IdxG _ _ _) ?_) | (with_reducible refine Stuck.h (A := IdxL _ _ _) ?_) | (with_reducible refine Stuck.h (A := SlcG _ _ _ _ _) ?_) | (with_reducible refine Stuck.h (A := MakG _ _ _ _) ?_) | (with_reducible refine Stuck.h (A := AppG _ _ _ _ _ _ _) ?_) | (with_reducible refine Stuck.h (A := FzG _ _ _ _) ?_)
  | (with_reducible refine Stuck.h (A := RawG _) ?_) | (with_reducible refine Stuck.h (A := TabG _ _ _ _ _) ?_) | (with_reducible refine Stuck.h (A := ExtF _ _ _ _) ?_) | (with_reducible refine Stuck.h (A := Chk _ _) ?_) | (with_reducible refine Stuck.h (A := False) ?_))
  · exact ⟨ret_e (bv_eq (by rw [decide_eq_true hc]; rfl))⟩
  · exact ⟨ret_e (bv_eq (by rw [decide_eq_false hc]; rfl))⟩
theorem y_next {g : List (Nat × List Value)} (hD : (0, debT.map (Value.int .u8)) ∈ g) {n e : Int} (p : Int) (up : Bool) (h : Good n e) : FC Tryz.prog g 51 [DY n e, .val (.int .i64 p), .val (.bool up)] (· = cutsS n e p up) := by
  have e1 := h.2.1
  have e2 := h.2.2.1
  have f0 := y_precise (G := g) p
  have f1 := y_form (G := g) h
  unfold cutsS
  by_cases hp : 1 ≤ p ∧ p ≤ 70000
  · rw [if_neg (by omega), if_neg (by omega)]
    rw [decide_eq_true hp.1, decide_eq_true hp.2] at f0
    have f2 := y_short hD n e p up h.1 (by omega) (by omega)
    obtain ⟨x, y, c, hr, hgd⟩ := cut_form n e p up
    rw [hr] at f2 ⊢
    refine FC.intro (X := XX) tok Tryz.func51 rfl Tryz.ntmps51 (by rw [Tryz.results51]) (by kernel_rfl) rfl ?_; intro F hG hO
    rw [← hG] at f0 f1 f2
    repeat' ((try (conv => whnf)); first
  | ((with_reducible refine cg ?_); refine call_eq (f0) (LpL.refl _) rfl ?_)
  | ((with_reducible refine cg ?_); refine call_eq (f1) (LpL.refl _) rfl ?_)
  | ((with_reducible refine cg ?_); refine call_eq (f2) (LpL.refl _) rfl ?_)
  
  | (with_reducible refine Chk.mk' (by first | omega | exact trivial | (simp only [List.length_append, List.length_set, List.length_replicate, List.length_take, List.length_drop, List.length_cons, List.length_nil, List.length_map]; omega)) ?_)
  | (with_reducible refine wrap_g (by dsimp only [inR]; omega) ?_)
  | (with_reducible refine idx_g (by omega) ?_)
  | (with_reducible refine idx_l _ rfl (by decide) ?_)
  | (with_reducible refine BothG.mk ?_ ?_)
  | (with_reducible refine fork_tt ?_) | (with_reducible refine fork_ff ?_)
  | (with_reducible refine fork_e (c := true) (by decide) ?_; with_reducible refine fork_tt ?_) | (with_reducible refine fork_e (c := false) (by decide) ?_; with_reducible refine fork_ff ?_)
  | (with_reducible refine fork_t (by omega) ?_) | (with_reducible refine fork_f (by omega) ?_)
  | (with_reducible refine fork_d ?_ ?_ <;> intro hc)
  | (with_reducible refine fork_n ?_)
  | (with_reducible refine fork_b ?_ ?_ <;> intro hc)
  | (with_reducible refine SlcG.mk (by omega) ?_)
  | (with_reducible refine MakG.mk (by dsimp only; omega) ?_)
  | (with_reducible refine AppG.mk (by first | omega | (simp only [List.length_append, List.length_set, List.length_replicate, List.length_take, List.length_drop, List.length_cons, List.length_nil, List.length_map]; omega)) (by dsimp only [List.length_cons, List.length_nil]; omega) (by omega) ?_)
  | (with_reducible refine div_g (by omega) (by omega) (by dsimp only [inR]; omega) ?_)
  | (with_reducible refine mod_g (by omega) (by omega) ?_)
  | (with_reducible refine mask_g (m := 4294967296) 32 rfl rfl (by decide) (by omega) ?_)
  | (with_reducible refine shr_g (m := 4294967296) 32 rfl (by decide) (by omega) rfl ?_)
  | (with_reducible refine fz_all (by omega) ?_)
  | (with_reducible refine Stuck.h (A := RetE _ _) ?_) | (with_reducible refine Stuck.h (A := RetM _ _ _ _) ?_) | (with_reducible refine Stuck.h (A := Again _ _ _ _ _ _ _ _) ?_) | (with_reducible refine Stuck.h (A := CallF _ _ _ _ _ _ _) ?_) | (with_reducible refine Stuck.h (A := LoopG _ _ _ _ _ _ _ _) ?_) | (with_reducible refine Stuck.h (A := DrawG _ _ _ _ _ _ _ _) ?_)
  | (with_reducible refine Stuck.h (A := WrapG _ _ _) ?_) | (with_reducible refine Stuck.h (A := DivG _ _ _ _) ?_) | (with_reducible refine Stuck.h (A := ModG _ _ _) ?_) | (with_reducible refine Stuck.h (A := ShlG _ _ _ _) ?_) | (with_reducible refine Stuck.h (A := ShrG _ _ _ _) ?_) | (with_reducible refine Stuck.h (A := BitG _ _ _ _ _) ?_)
  | (with_reducible refine Stuck.h (A := IdxG _ _ _) ?_) | (with_reducible refine Stuck.h (A := IdxL _ _ _) ?_) | (with_reducible refine Stuck.h (A := SlcG _ _ _ _ _) ?_) | (with_reducible refine Stuck.h (A := MakG _ _ _ _) ?_) | (with_reducible refine Stuck.h (A := AppG _ _ _ _ _ _ _) ?_) | (with_reducible refine Stuck.h (A := FzG _ _ _ _) ?_)
  | (with_reducible refine Stuck.h (A := RawG _) ?_) | (with_reducible refine Stuck.h (A := TabG _ _ _ _ _) ?_) | (with_reducible refine Stuck.h (A := ExtF _ _ _ _) ?_) | (with_reducible refine Stuck.h (A := Chk _ _) ?_) | (with_reducible refine Stuck.h (A := False) ?_))
    exact ⟨ret_e rfl⟩
  · have hb : (decide (1 ≤ p) && decide (p ≤ 70000)) = false := by
      by_cases h1 : 1 ≤ p
      · rw [decide_eq_false (show ¬ p ≤ 70000 by omega)]; simp
      · rw [decide_eq_false h1]; rfl
    rw [hb] at f0
    refine FC.intro (X := XX) tok Tryz.func51 rfl Tryz.ntmps51 (by rw [Tryz.results51]) (by kernel_rfl) rfl ?_; intro F hG hO
    rw [← hG] at f0
    repeat' ((try (conv => whnf)); first
  | ((with_reducible refine cg ?_); refine call_eq (f0) (LpL.refl _) rfl ?_)
  
  | (with_reducible refine Chk.mk' (by first | omega | exact trivial | (simp only [List.length_append, List.length_set, List.length_replicate, List.length_take, List.length_drop, List.length_cons, List.length_nil, List.length_map]; omega)) ?_)
  | (with_reducible refine wrap_g (by dsimp only [inR]; omega) ?_)
  | (with_reducible refine idx_g (by omega) ?_)
  | (with_reducible refine idx_l _ rfl (by decide) ?_)
  | (with_reducible refine BothG.mk ?_ ?_)
  | (with_reducible refine fork_tt ?_) | (with_reducible refine fork_ff ?_)
  | (with_reducible refine fork_e (c := true) (by decide) ?_; with_reducible refine fork_tt ?_) | (with_reducible refine fork_e (c := false) (by decide) ?_; with_reducible refine fork_ff ?_)
  | (with_reducible refine fork_t (by omega) ?_) | (with_reducible refine fork_f (by omega) ?_)
  | (with_reducible refine fork_d ?_ ?_ <;> intro hc)
  | (with_reducible refine fork_n ?_)
  | (with_reducible refine fork_b ?_ ?_ <;> intro hc)
  | (with_reducible refine SlcG.mk (by omega) ?_)
  | (with_reducible refine MakG.mk (by dsimp only; omega) ?_)
  | (with_reducible refine AppG.mk (by first | omega | (simp only [List.length_append, List.length_set, List.length_replicate, List.length_take, List.length_drop, List.length_cons, List.length_nil, List.length_map]; omega)) (by dsimp only [List.length_cons, List.length_nil]; omega) (by omega) ?_)
  | (with_reducible refine div_g (by omega) (by omega) (by dsimp only [inR]; omega) ?_)
  | (with_reducible refine mod_g (by omega) (by omega) ?_)
  | (with_reducible refine mask_g (m := 4294967296) 32 rfl rfl (by decide) (by omega) ?_)
  | (with_reducible refine shr_g (m := 4294967296) 32 rfl (by decide) (by omega) rfl ?_)
  | (with_reducible refine fz_all (by omega) ?_)
  | (with_reducible refine Stuck.h (A := RetE _ _) ?_) | (with_reducible refine Stuck.h (A := RetM _ _ _ _) ?_) | (with_reducible refine Stuck.h (A := Again _ _ _ _ _ _ _ _) ?_) | (with_reducible refine Stuck.h (A := CallF _ _ _ _ _ _ _) ?_) | (with_reducible refine Stuck.h (A := LoopG _ _ _ _ _ _ _ _) ?_) | (with_reducible refine Stuck.h (A := DrawG _ _ _ _ _ _ _ _) ?_)
  | (with_reducible refine Stuck.h (A := WrapG _ _ _) ?_) | (with_reducible refine Stuck.h (A := DivG _ _ _ _) ?_) | (with_reducible refine Stuck.h (A := ModG _ _ _) ?_) | (with_reducible refine Stuck.h (A := ShlG _ _ _ _) ?_) | (with_reducible refine Stuck.h (A := ShrG _ _ _ _) ?_) | (with_reducible refine Stuck.h (A := BitG _ _ _ _ _) ?_)
  | (with_reducible refine Stuck.h (A := IdxG _ _ _) ?_) | (with_reducible refine Stuck.h (A := IdxL _ _ _) ?_) | (with_reducible refine Stuck.h (A := SlcG _ _ _ _ _) ?_) | (with_reducible refine Stuck.h (A := MakG _ _ _ _) ?_) | (with_reducible refine Stuck.h (A := AppG _ _ _ _ _ _ _) ?_) | (with_reducible refine Stuck.h (A := FzG _ _ _ _) ?_)
  | (with_reducible refine Stuck.h (A := RawG _) ?_) | (with_reducible refine Stuck.h (A := TabG _ _ _ _ _) ?_) | (with_reducible refine Stuck.h (A := ExtF _ _ _ _) ?_) | (with_reducible refine Stuck.h (A := Chk _ _) ?_) | (with_reducible refine Stuck.h (A := False) ?_))
    refine ⟨ret_l _ (lp_dyE 1) ?_⟩
    by_cases h1 : p < 1
    · rw [if_pos h1]
    · rw [if_neg h1, if_pos (by omega)]
theorem y_down {g : List (Nat × List Value)} (hD : (0, debT.map (Value.int .u8)) ∈ g) {n e : Int} (p : Int) (h : Good n e) : FC Tryz.prog g 29 [DY n e, .val (.int .i64 p)] (· = cutsS n e p false) := by
  obtain ⟨x, y, c, hr, hgd⟩ := cuts_form n e p false
  have f1 := y_next hD p false h
  rw [hr] at f1 ⊢
  refine FC.intro (X := XX) tok Tryz.func29 rfl Tryz.ntmps29 (by rw [Tryz.results29]) (by kernel_rfl) rfl ?_; intro F hG hO
  rw [← hG] at f1
  repeat' ((try (conv => whnf)); first
  | ((with_reducible refine cg ?_); refine call_eq (f1) (LpL.refl _) rfl ?_)
  
  | (with_reducible refine Chk.mk' (by first | omega | exact trivial | (simp only [List.length_append, List.length_set, List.length_replicate, List.length_take, List.length_drop, List.length_cons, List.length_nil, List.length_map]; omega)) ?_)
  | (with_reducible refine wrap_g (by dsimp only [inR]; omega) ?_)
  | (with_reducible refine idx_g (by omega) ?_)
  | (with_reducible refine idx_l _ rfl (by decide) ?_)
  | (with_reducible refine BothG.mk ?_ ?_)
  | (with_reducible refine fork_tt ?_) | (with_reducible refine fork_ff ?_)
  | (with_reducible refine fork_e (c := true) (by decide) ?_; with_reducible refine fork_tt ?_) | (with_reducible refine fork_e (c := false) (by decide) ?_; with_reducible refine fork_ff ?_)
  | (with_reducible refine fork_t (by omega) ?_) | (with_reducible refine fork_f (by omega) ?_)
  | (with_reducible refine fork_d ?_ ?_ <;> intro hc)
  | (with_reducible refine fork_n ?_)
  | (with_reducible refine fork_b ?_ ?_ <;> intro hc)
  | (with_reducible refine SlcG.mk (by omega) ?_)
  | (with_reducible refine MakG.mk (by dsimp only; omega) ?_)
  | (with_reducible refine AppG.mk (by first | omega | (simp only [List.length_append, List.length_set, List.length_replicate, List.length_take, List.length_drop, List.length_cons, List.length_nil, List.length_map]; omega)) (by dsimp only [List.length_cons, List.length_nil]; omega) (by omega) ?_)
  | (with_reducible refine div_g (by omega) (by omega) (by dsimp only [inR]; omega) ?_)
  | (with_reducible refine mod_g (by omega) (by omega) ?_)
  | (with_reducible refine mask_g (m := 4294967296) 32 rfl rfl (by decide) (by omega) ?_)
  | (with_reducible refine shr_g (m := 4294967296) 32 rfl (by decide) (by omega) rfl ?_)
  | (with_reducible refine fz_all (by omega) ?_)
  | (with_reducible refine Stuck.h (A := RetE _ _) ?_) | (with_reducible refine Stuck.h (A := RetM _ _ _ _) ?_) | (with_reducible refine Stuck.h (A := Again _ _ _ _ _ _ _ _) ?_) | (with_reducible refine Stuck.h (A := CallF _ _ _ _ _ _ _) ?_) | (with_reducible refine Stuck.h (A := LoopG _ _ _ _ _ _ _ _) ?_) | (with_reducible refine Stuck.h (A := DrawG _ _ _ _ _ _ _ _) ?_)
  | (with_reducible refine Stuck.h (A := WrapG _ _ _) ?_) | (with_reducible refine Stuck.h (A := DivG _ _ _ _) ?_) | (with_reducible refine Stuck.h (A := ModG _ _ _) ?_) | (with_reducible refine Stuck.h (A := ShlG _ _ _ _) ?_) | (with_reducible refine Stuck.h (A := ShrG _ _ _ _) ?_) | (with_reducible refine Stuck.h (A := BitG _ _ _ _ _) ?_)
  | (with_reducible refine Stuck.h (A := IdxG _ _ _) ?_) | (with_reducible refine Stuck.h (A := IdxL _ _ _) ?_) | (with_reducible refine Stuck.h (A := SlcG _ _ _ _ _) ?_) | (with_reducible refine Stuck.h (A := MakG _ _ _ _) ?_) | (with_reducible refine Stuck.h (A := AppG _ _ _ _ _ _ _) ?_) | (with_reducible refine Stuck.h (A := FzG _ _ _ _) ?_)
  | (with_reducible refine Stuck.h (A := RawG _) ?_) | (with_reducible refine Stuck.h (A := TabG _ _ _ _ _) ?_) | (with_reducible refine Stuck.h (A := ExtF _ _ _ _) ?_) | (with_reducible refine Stuck.h (A := Chk _ _) ?_) | (with_reducible refine Stuck.h (A := False) ?_))
  exact ⟨ret_e rfl⟩
theorem y_up {g : List (Nat × List Value)} (hD : (0, debT.map (Value.int .u8)) ∈ g) {n e : Int} (p : Int) (h : Good n e) : FC Tryz.prog g 41 [DY n e, .val (.int .i64 p)] (· = cutsS n e p true) := by
  obtain ⟨x, y, c, hr, hgd⟩ := cuts_form n e p true
  have f1 := y_next hD p true h
  rw [hr] at f1 ⊢
  refine FC.intro (X := XX) tok Tryz.func41 rfl Tryz.ntmps41 (by rw [Tryz.results41]) (by kernel_rfl) rfl ?_; intro F hG hO
  rw [← hG] at f1
  repeat' ((try (conv => whnf)); first
  | ((with_reducible refine cg ?_); refine call_eq (f1) (LpL.refl _) rfl ?_)
  
  | (with_reducible refine Chk.mk' (by first | omega | exact trivial | (simp only [List.length_append, List.length_set, List.length_replicate, List.length_take, List.length_drop, List.length_cons, List.length_nil, List.length_map]; omega)) ?_)
  | (with_reducible refine wrap_g (by dsimp only [inR]; omega) ?_)
  | (with_reducible refine idx_g (by omega) ?_)
  | (with_reducible refine idx_l _ rfl (by decide) ?_)
  | (with_reducible refine BothG.mk ?_ ?_)
  | (with_reducible refine fork_tt ?_) | (with_reducible refine fork_ff ?_)
  | (with_reducible refine fork_e (c := true) (by decide) ?_; with_reducible refine fork_tt ?_) | (with_reducible refine fork_e (c := false) (by decide) ?_; with_reducible refine fork_ff ?_)
  | (with_reducible refine fork_t (by omega) ?_) | (with_reducible refine fork_f (by omega) ?_)
  | (with_reducible refine fork_d ?_ ?_ <;> intro hc)
  | (with_reducible refine fork_n ?_)
  | (with_reducible refine fork_b ?_ ?_ <;> intro hc)
  | (with_reducible refine SlcG.mk (by omega) ?_)
  | (with_reducible refine MakG.mk (by dsimp only; omega) ?_)
  | (with_reducible refine AppG.mk (by first | omega | (simp only [List.length_append, List.length_set, List.length_replicate, List.length_take, List.length_drop, List.length_cons, List.length_nil, List.length_map]; omega)) (by dsimp only [List.length_cons, List.length_nil]; omega) (by omega) ?_)
  | (with_reducible refine div_g (by omega) (by omega) (by dsimp only [inR]; omega) ?_)
  | (with_reducible refine mod_g (by omega) (by omega) ?_)
  | (with_reducible refine mask_g (m := 4294967296) 32 rfl rfl (by decide) (by omega) ?_)
  | (with_reducible refine shr_g (m := 4294967296) 32 rfl (by decide) (by omega) rfl ?_)
  | (with_reducible refine fz_all (by omega) ?_)
  | (with_reducible refine Stuck.h (A := RetE _ _) ?_) | (with_reducible refine Stuck.h (A := RetM _ _ _ _) ?_) | (with_reducible refine Stuck.h (A := Again _ _ _ _ _ _ _ _) ?_) | (with_reducible refine Stuck.h (A := CallF _ _ _ _ _ _ _) ?_) | (with_reducible refine Stuck.h (A := LoopG _ _ _ _ _ _ _ _) ?_) | (with_reducible refine Stuck.h (A := DrawG _ _ _ _ _ _ _ _) ?_)
  | (with_reducible refine Stuck.h (A := WrapG _ _ _) ?_) | (with_reducible refine Stuck.h (A := DivG _ _ _ _) ?_) | (with_reducible refine Stuck.h (A := ModG _ _ _) ?_) | (with_reducible refine Stuck.h (A := ShlG _ _ _ _) ?_) | (with_reducible refine Stuck.h (A := ShrG _ _ _ _) ?_) | (with_reducible refine Stuck.h (A := BitG _ _ _ _ _) ?_)
  | (with_reducible refine Stuck.h (A := IdxG _ _ _) ?_) | (with_reducible refine Stuck.h (A := IdxL _ _ _) ?_) | (with_reducible refine Stuck.h (A := SlcG _ _ _ _ _) ?_) | (with_reducible refine Stuck.h (A := MakG _ _ _ _) ?_) | (with_reducible refine Stuck.h (A := AppG _ _ _ _ _ _ _) ?_) | (with_reducible refine Stuck.h (A := FzG _ _ _ _) ?_)
  | (with_reducible refine Stuck.h (A := RawG _) ?_) | (with_reducible refine Stuck.h (A := TabG _ _ _ _ _) ?_) | (with_reducible refine Stuck.h (A := ExtF _ _ _ _) ?_) | (with_reducible refine Stuck.h (A := Chk _ _) ?_) | (with_reducible refine Stuck.h (A := False) ?_))
  exact ⟨ret_e rfl⟩
theorem y_of {g : List (Nat × List Value)} (hD : (0, debT.map (Value.int .u8)) ∈ g) (n : Int) (h : inR .i64 n) : FC Tryz.prog g 39 [.val (.int .i64 n)] (· = ofS n) := by
  have f1 := n_of (G := g) n h
  dsimp only [inR] at h
  have hL : LZ n ≤ 2 := L32_le (show n.natAbs < 2 ^ (32 * 2) by omega)
  have hL6 : L64 n.natAbs ≤ 8192 := Nat.le_trans (L64_le (n := 1) (show n.natAbs < 2 ^ (64 * 1) by omega)) (by decide)
  have f2 := y_make hD n 0 hL6 (by dsimp only [inR]; omega)
  rw [told_of n hL] at f2
  unfold ofS at f2 ⊢
  refine FC.intro (X := XX) tok Tryz.func39 rfl Tryz.ntmps39 (by rw [Tryz.results39]) (by kernel_rfl) rfl ?_; intro F hG hO
  rw [← hG] at f1 f2
  repeat' ((try (conv => whnf)); first
  | ((with_reducible refine cg ?_); refine call_eq (f1) (LpL.refl _) rfl ?_)
  | ((with_reducible refine cg ?_); refine call_eq (f2) (LpL.refl _) rfl ?_)
  
  | (with_reducible refine Chk.mk' (by first | omega | exact trivial | (simp only [List.length_append, List.length_set, List.length_replicate, List.length_take, List.length_drop, List.length_cons, List.length_nil, List.length_map]; omega)) ?_)
  | (with_reducible refine wrap_g (by dsimp only [inR]; omega) ?_)
  | (with_reducible refine idx_g (by omega) ?_)
  | (with_reducible refine idx_l _ rfl (by decide) ?_)
  | (with_reducible refine BothG.mk ?_ ?_)
  | (with_reducible refine fork_tt ?_) | (with_reducible refine fork_ff ?_)
  | (with_reducible refine fork_e (c := true) (by decide) ?_; with_reducible refine fork_tt ?_) | (with_reducible refine fork_e (c := false) (by decide) ?_; with_reducible refine fork_ff ?_)
  | (with_reducible refine fork_t (by omega) ?_) | (with_reducible refine fork_f (by omega) ?_)
  | (with_reducible refine fork_d ?_ ?_ <;> intro hc)
  | (with_reducible refine fork_n ?_)
  | (with_reducible refine fork_b ?_ ?_ <;> intro hc)
  | (with_reducible refine SlcG.mk (by omega) ?_)
  | (with_reducible refine MakG.mk (by dsimp only; omega) ?_)
  | (with_reducible refine AppG.mk (by first | omega | (simp only [List.length_append, List.length_set, List.length_replicate, List.length_take, List.length_drop, List.length_cons, List.length_nil, List.length_map]; omega)) (by dsimp only [List.length_cons, List.length_nil]; omega) (by omega) ?_)
  | (with_reducible refine div_g (by omega) (by omega) (by dsimp only [inR]; omega) ?_)
  | (with_reducible refine mod_g (by omega) (by omega) ?_)
  | (with_reducible refine mask_g (m := 4294967296) 32 rfl rfl (by decide) (by omega) ?_)
  | (with_reducible refine shr_g (m := 4294967296) 32 rfl (by decide) (by omega) rfl ?_)
  | (with_reducible refine fz_all (by omega) ?_)
  | (with_reducible refine Stuck.h (A := RetE _ _) ?_) | (with_reducible refine Stuck.h (A := RetM _ _ _ _) ?_) | (with_reducible refine Stuck.h (A := Again _ _ _ _ _ _ _ _) ?_) | (with_reducible refine Stuck.h (A := CallF _ _ _ _ _ _ _) ?_) | (with_reducible refine Stuck.h (A := LoopG _ _ _ _ _ _ _ _) ?_) | (with_reducible refine Stuck.h (A := DrawG _ _ _ _ _ _ _ _) ?_)
  | (with_reducible refine Stuck.h (A := WrapG _ _ _) ?_) | (with_reducible refine Stuck.h (A := DivG _ _ _ _) ?_) | (with_reducible refine Stuck.h (A := ModG _ _ _) ?_) | (with_reducible refine Stuck.h (A := ShlG _ _ _ _) ?_) | (with_reducible refine Stuck.h (A := ShrG _ _ _ _) ?_) | (with_reducible refine Stuck.h (A := BitG _ _ _ _ _) ?_)
  | (with_reducible refine Stuck.h (A := IdxG _ _ _) ?_) | (with_reducible refine Stuck.h (A := IdxL _ _ _) ?_) | (with_reducible refine Stuck.h (A := SlcG _ _ _ _ _) ?_) | (with_reducible refine Stuck.h (A := MakG _ _ _ _) ?_) | (with_reducible refine Stuck.h (A := AppG _ _ _ _ _ _ _) ?_) | (with_reducible refine Stuck.h (A := FzG _ _ _ _) ?_)
  | (with_reducible refine Stuck.h (A := RawG _) ?_) | (with_reducible refine Stuck.h (A := TabG _ _ _ _ _) ?_) | (with_reducible refine Stuck.h (A := ExtF _ _ _ _) ?_) | (with_reducible refine Stuck.h (A := Chk _ _) ?_) | (with_reducible refine Stuck.h (A := False) ?_))
  exact ⟨ret_e rfl⟩
end Go.Proofs.YtbeocnjlepcglaaGreatDoor.Sim
namespace Go.Proofs.YtbeocnjlepcglaaGreatDoor.Sim
open Go.RowKit
set_option linter.unusedVariables false
set_option linter.unusedSimpArgs false
set_option maxRecDepth 10000
set_option maxHeartbeats 8000000
variable {G : List (Nat × List Value)}
def niF (b : Bool) (l : List Int) : Bool := formL l && !(b && decide (l.length = 0))
theorem n_nformX (b : Bool) (l : List Int) : FC Tryz.prog G 46 [.agg [.val (.bool b), .ws .u64 l]] (· = .val (.bool (niF b l))) := by
  have f1 := n_form (G := G) l
  unfold niF
  obtain ⟨x, hx⟩ : ∃ x, x = formL l := ⟨_, rfl⟩
  rw [← hx] at f1 ⊢
  clear hx
  cases x
  · refine FC.intro (X := XX) tok Tryz.func46 rfl Tryz.ntmps46 (by rw [Tryz.results46]) (by kernel_rfl) rfl ?_; intro F hG hO
    rw [← hG] at f1
    repeat' ((try (conv => whnf)); first
  | ((with_reducible refine cg ?_); refine call_eq (f1) (LpL.refl _) rfl ?_)
  
  | (with_reducible refine Chk.mk' (by first | omega | exact trivial | (simp only [List.length_append, List.length_set, List.length_replicate, List.length_take, List.length_drop, List.length_cons, List.length_nil, List.length_map]; omega)) ?_)
  | (with_reducible refine wrap_g (by dsimp only [inR]; omega) ?_)
  | (with_reducible refine idx_g (by omega) ?_)
  | (with_reducible refine idx_l _ rfl (by decide) ?_)
  | (with_reducible refine BothG.mk ?_ ?_)
  | (with_reducible refine fork_tt ?_) | (with_reducible refine fork_ff ?_)
  | (with_reducible refine fork_e (c := true) (by decide) ?_; with_reducible refine fork_tt ?_) | (with_reducible refine fork_e (c := false) (by decide) ?_; with_reducible refine fork_ff ?_)
  | (with_reducible refine fork_t (by omega) ?_) | (with_reducible refine fork_f (by omega) ?_)
  | (with_reducible refine fork_d ?_ ?_ <;> intro hc)
  | (with_reducible refine fork_n ?_)
  | (with_reducible refine fork_b ?_ ?_ <;> intro hc)
  | (with_reducible refine SlcG.mk (by omega) ?_)
  | (with_reducible refine MakG.mk (by dsimp only; omega) ?_)
  | (with_reducible refine AppG.mk (by first | omega | (simp only [List.length_append, List.length_set, List.length_replicate, List.length_take, List.length_drop, List.length_cons, List.length_nil, List.length_map]; omega)) (by dsimp only [List.length_cons, List.length_nil]; omega) (by omega) ?_)
  | (with_reducible refine div_g (by omega) (by omega) (by dsimp only [inR]; omega) ?_)
  | (with_reducible refine mod_g (by omega) (by omega) ?_)
  | (with_reducible refine mask_g (m := 4294967296) 32 rfl rfl (by decide) (by omega) ?_)
  | (with_reducible refine shr_g (m := 4294967296) 32 rfl (by decide) (by omega) rfl ?_)
  | (with_reducible refine fz_all (by omega) ?_)
  | (with_reducible refine Stuck.h (A := RetE _ _) ?_) | (with_reducible refine Stuck.h (A := RetM _ _ _ _) ?_) | (with_reducible refine Stuck.h (A := Again _ _ _ _ _ _ _ _) ?_) | (with_reducible refine Stuck.h (A := CallF _ _ _ _ _ _ _) ?_) | (with_reducible refine Stuck.h (A := LoopG _ _ _ _ _ _ _ _) ?_) | (with_reducible refine Stuck.h (A := DrawG _ _ _ _ _ _ _ _) ?_)
  | (with_reducible refine Stuck.h (A := WrapG _ _ _) ?_) | (with_reducible refine Stuck.h (A := DivG _ _ _ _) ?_) | (with_reducible refine Stuck.h (A := ModG _ _ _) ?_) | (with_reducible refine Stuck.h (A := ShlG _ _ _ _) ?_) | (with_reducible refine Stuck.h (A := ShrG _ _ _ _) ?_) | (with_reducible refine Stuck.h (A := BitG _ _ _ _ _) ?_)
  | (with_reducible refine Stuck.h (A := IdxG _ _ _) ?_) | (with_reducible refine Stuck.h (A := IdxL _ _ _) ?_) | (with_reducible refine Stuck.h (A := SlcG _ _ _ _ _) ?_) | (with_reducible refine Stuck.h (A := MakG _ _ _ _) ?_) | (with_reducible refine Stuck.h (A := AppG _ _ _ _ _ _ _) ?_) | (with_reducible refine Stuck.h (A := FzG _ _ _ _) ?_)
  | (with_reducible refine Stuck.h (A := RawG _) ?_) | (with_reducible refine Stuck.h (A := TabG _ _ _ _ _) ?_) | (with_reducible refine Stuck.h (A := ExtF _ _ _ _) ?_) | (with_reducible refine Stuck.h (A := Chk _ _) ?_) | (with_reducible refine Stuck.h (A := False) ?_))
    exact ⟨ret_e rfl⟩
  · cases b
    · refine FC.intro (X := XX) tok Tryz.func46 rfl Tryz.ntmps46 (by rw [Tryz.results46]) (by kernel_rfl) rfl ?_; intro F hG hO
      rw [← hG] at f1
      repeat' ((try (conv => whnf)); first
  | ((with_reducible refine cg ?_); refine call_eq (f1) (LpL.refl _) rfl ?_)
  
  | (with_reducible refine Chk.mk' (by first | omega | exact trivial | (simp only [List.length_append, List.length_set, List.length_replicate, List.length_take, List.length_drop, List.length_cons, List.length_nil, List.length_map]; omega)) ?_)
  | (with_reducible refine wrap_g (by dsimp only [inR]; omega) ?_)
  | (with_reducible refine idx_g (by omega) ?_)
  | (with_reducible refine idx_l _ rfl (by decide) ?_)
  | (with_reducible refine BothG.mk ?_ ?_)
  | (with_reducible refine fork_tt ?_) | (with_reducible refine fork_ff ?_)
  | (with_reducible refine fork_e (c := true) (by decide) ?_; with_reducible refine fork_tt ?_) | (with_reducible refine fork_e (c := false) (by decide) ?_; with_reducible refine fork_ff ?_)
  | (with_reducible refine fork_t (by omega) ?_) | (with_reducible refine fork_f (by omega) ?_)
  | (with_reducible refine fork_d ?_ ?_ <;> intro hc)
  | (with_reducible refine fork_n ?_)
  | (with_reducible refine fork_b ?_ ?_ <;> intro hc)
  | (with_reducible refine SlcG.mk (by omega) ?_)
  | (with_reducible refine MakG.mk (by dsimp only; omega) ?_)
  | (with_reducible refine AppG.mk (by first | omega | (simp only [List.length_append, List.length_set, List.length_replicate, List.length_take, List.length_drop, List.length_cons, List.length_nil, List.length_map]; omega)) (by dsimp only [List.length_cons, List.length_nil]; omega) (by omega) ?_)
  | (with_reducible refine div_g (by omega) (by omega) (by dsimp only [inR]; omega) ?_)
  | (with_reducible refine mod_g (by omega) (by omega) ?_)
  | (with_reducible refine mask_g (m := 4294967296) 32 rfl rfl (by decide) (by omega) ?_)
  | (with_reducible refine shr_g (m := 4294967296) 32 rfl (by decide) (by omega) rfl ?_)
  | (with_reducible refine fz_all (by omega) ?_)
  | (with_reducible refine Stuck.h (A := RetE _ _) ?_) | (with_reducible refine Stuck.h (A := RetM _ _ _ _) ?_) | (with_reducible refine Stuck.h (A := Again _ _ _ _ _ _ _ _) ?_) | (with_reducible refine Stuck.h (A := CallF _ _ _ _ _ _ _) ?_) | (with_reducible refine Stuck.h (A := LoopG _ _ _ _ _ _ _ _) ?_) | (with_reducible refine Stuck.h (A := DrawG _ _ _ _ _ _ _ _) ?_)
  | (with_reducible refine Stuck.h (A := WrapG _ _ _) ?_) | (with_reducible refine Stuck.h (A := DivG _ _ _ _) ?_) | (with_reducible refine Stuck.h (A := ModG _ _ _) ?_) | (with_reducible refine Stuck.h (A := ShlG _ _ _ _) ?_) | (with_reducible refine Stuck.h (A := ShrG _ _ _ _) ?_) | (with_reducible refine Stuck.h (A := BitG _ _ _ _ _) ?_)
  | (with_reducible refine Stuck.h (A := IdxG _ _ _) ?_) | (with_reducible refine Stuck.h (A := IdxL _ _ _) ?_) | (with_reducible refine Stuck.h (A := SlcG _ _ _ _ _) ?_) | (with_reducible refine Stuck.h (A := MakG _ _ _ _) ?_) | (with_reducible refine Stuck.h (A := AppG _ _ _ _ _ _ _) ?_) | (with_reducible refine Stuck.h (A := FzG _ _ _ _) ?_)
  | (with_reducible refine Stuck.h (A := RawG _) ?_) | (with_reducible refine Stuck.h (A := TabG _ _ _ _ _) ?_) | (with_reducible refine Stuck.h (A := ExtF _ _ _ _) ?_) | (with_reducible refine Stuck.h (A := Chk _ _) ?_) | (with_reducible refine Stuck.h (A := False) ?_))
      all_goals exact ⟨ret_e rfl⟩
    · refine FC.intro (X := XX) tok Tryz.func46 rfl Tryz.ntmps46 (by rw [Tryz.results46]) (by kernel_rfl) rfl ?_; intro F hG hO
      rw [← hG] at f1
      repeat' ((try (conv => whnf)); first
  | ((with_reducible refine cg ?_); refine call_eq (f1) (LpL.refl _) rfl ?_)
  
  | (with_reducible refine Chk.mk' (by first | omega | exact trivial | (simp only [List.length_append, List.length_set, List.length_replicate, List.length_take, List.length_drop, List.length_cons, List.length_nil, List.length_map]; omega)) ?_)
  | (with_reducible refine wrap_g (by dsimp only [inR]; omega) ?_)
  | (with_reducible refine idx_g (by omega) ?_)
  | (with_reducible refine idx_l _ rfl (by decide) ?_)
  | (with_reducible refine BothG.mk ?_ ?_)
  | (with_reducible refine fork_tt ?_) | (with_reducible refine fork_ff ?_)
  | (with_reducible refine fork_e (c := true) (by decide) ?_; with_reducible refine fork_tt ?_) | (with_reducible refine fork_e (c := false) (by decide) ?_; with_reducible refine fork_ff ?_)
  | (with_reducible refine fork_t (by omega) ?_) | (with_reducible refine fork_f (by omega) ?_)
  | (with_reducible refine fork_d ?_ ?_ <;> intro hc)
  | (with_reducible refine fork_n ?_)
  | (with_reducible refine fork_b ?_ ?_ <;> intro hc)
  | (with_reducible refine SlcG.mk (by omega) ?_)
  | (with_reducible refine MakG.mk (by dsimp only; omega) ?_)
  | (with_reducible refine AppG.mk (by first | omega | (simp only [List.length_append, List.length_set, List.length_replicate, List.length_take, List.length_drop, List.length_cons, List.length_nil, List.length_map]; omega)) (by dsimp only [List.length_cons, List.length_nil]; omega) (by omega) ?_)
  | (with_reducible refine div_g (by omega) (by omega) (by dsimp only [inR]; omega) ?_)
  | (with_reducible refine mod_g (by omega) (by omega) ?_)
  | (with_reducible refine mask_g (m := 4294967296) 32 rfl rfl (by decide) (by omega) ?_)
  | (with_reducible refine shr_g (m := 4294967296) 32 rfl (by decide) (by omega) rfl ?_)
  | (with_reducible refine fz_all (by omega) ?_)
  | (with_reducible refine Stuck.h (A := RetE _ _) ?_) | (with_reducible refine Stuck.h (A := RetM _ _ _ _) ?_) | (with_reducible refine Stuck.h (A := Again _ _ _ _ _ _ _ _) ?_) | (with_reducible refine Stuck.h (A := CallF _ _ _ _ _ _ _) ?_) | (with_reducible refine Stuck.h (A := LoopG _ _ _ _ _ _ _ _) ?_) | (with_reducible refine Stuck.h (A := DrawG _ _ _ _ _ _ _ _) ?_)
  | (with_reducible refine Stuck.h (A := WrapG _ _ _) ?_) | (with_reducible refine Stuck.h (A := DivG _ _ _ _) ?_) | (with_reducible refine Stuck.h (A := ModG _ _ _) ?_) | (with_reducible refine Stuck.h (A := ShlG _ _ _ _) ?_) | (with_reducible refine Stuck.h (A := ShrG _ _ _ _) ?_) | (with_reducible refine Stuck.h (A := BitG _ _ _ _ _) ?_)
  | (with_reducible refine Stuck.h (A := IdxG _ _ _) ?_) | (with_reducible refine Stuck.h (A := IdxL _ _ _) ?_) | (with_reducible refine Stuck.h (A := SlcG _ _ _ _ _) ?_) | (with_reducible refine Stuck.h (A := MakG _ _ _ _) ?_) | (with_reducible refine Stuck.h (A := AppG _ _ _ _ _ _ _) ?_) | (with_reducible refine Stuck.h (A := FzG _ _ _ _) ?_)
  | (with_reducible refine Stuck.h (A := RawG _) ?_) | (with_reducible refine Stuck.h (A := TabG _ _ _ _ _) ?_) | (with_reducible refine Stuck.h (A := ExtF _ _ _ _) ?_) | (with_reducible refine Stuck.h (A := Chk _ _) ?_) | (with_reducible refine Stuck.h (A := False) ?_))
      all_goals first
        | exact ⟨ret_e (bv_eq (by rw [decide_eq_true (show l.length = 0 by omega)]; rfl))⟩
        | exact ⟨ret_e (bv_eq (by rw [decide_eq_false (show ¬ l.length = 0 by omega)]; rfl))⟩
        | exact ⟨ret_e (bv_eq (by by_cases h : l.length = 0 <;> simp [h]))⟩
        | exact ⟨ret_e (bv_eq (by by_cases h : l.length = 0; (simp [h]); (rw [decide_eq_false h, decide_eq_true (show (0 : Int) < (l.length : Int) by omega)]; rfl)))⟩
theorem y_formX (b : Bool) (l : List Int) (e : Int) (ok : okD 18446744073709551616 l) : FC Tryz.prog G 26 [Dy b l e] (· = .val (.bool (dyF b l e))) := by
  have f0 := n_nformX (G := G) b l
  have f1 := y_nought (G := G) b l e
  have hb := rd_bd (by decide) ok 0
  have hd : dyF b l e = (niF b l && decide (-1048576 ≤ e) && decide (e ≤ 1048576) && (if l.length = 0 then decide (e = 0) else decide (rd l 0 % 2 = 1))) := by
    unfold dyF niF
    by_cases h0 : l.length = 0
    · rw [if_pos h0, if_pos h0, decide_eq_true h0, Bool.and_true]
      cases formL l <;> cases b <;> cases decide (-1048576 ≤ e) <;> cases decide (e ≤ 1048576) <;> rfl
    · rw [if_neg h0, if_neg h0, decide_eq_false h0, Bool.and_false, Bool.not_false, Bool.and_true]
  rw [hd]
  obtain ⟨x, hx⟩ : ∃ x, x = niF b l := ⟨_, rfl⟩
  rw [← hx] at f0 ⊢
  clear hx hd
  cases x
  · refine FC.intro (X := XX) tok Tryz.func26 rfl Tryz.ntmps26 (by rw [Tryz.results26]) (by kernel_rfl) rfl ?_; intro F hG hO
    rw [← hG] at f0
    repeat' ((try (conv => whnf)); first
  | ((with_reducible refine cg ?_); refine call_eq (f0) (LpL.refl _) rfl ?_)
  
  | (with_reducible refine Chk.mk' (by first | omega | exact trivial | (simp only [List.length_append, List.length_set, List.length_replicate, List.length_take, List.length_drop, List.length_cons, List.length_nil, List.length_map]; omega)) ?_)
  | (with_reducible refine wrap_g (by dsimp only [inR]; omega) ?_)
  | (with_reducible refine idx_g (by omega) ?_)
  | (with_reducible refine idx_l _ rfl (by decide) ?_)
  | (with_reducible refine BothG.mk ?_ ?_)
  | (with_reducible refine fork_tt ?_) | (with_reducible refine fork_ff ?_)
  | (with_reducible refine fork_e (c := true) (by decide) ?_; with_reducible refine fork_tt ?_) | (with_reducible refine fork_e (c := false) (by decide) ?_; with_reducible refine fork_ff ?_)
  | (with_reducible refine fork_t (by omega) ?_) | (with_reducible refine fork_f (by omega) ?_)
  | (with_reducible refine fork_d ?_ ?_ <;> intro hc)
  | (with_reducible refine fork_n ?_)
  | (with_reducible refine fork_b ?_ ?_ <;> intro hc)
  | (with_reducible refine SlcG.mk (by omega) ?_)
  | (with_reducible refine MakG.mk (by dsimp only; omega) ?_)
  | (with_reducible refine AppG.mk (by first | omega | (simp only [List.length_append, List.length_set, List.length_replicate, List.length_take, List.length_drop, List.length_cons, List.length_nil, List.length_map]; omega)) (by dsimp only [List.length_cons, List.length_nil]; omega) (by omega) ?_)
  | (with_reducible refine div_g (by omega) (by omega) (by dsimp only [inR]; omega) ?_)
  | (with_reducible refine mod_g (by omega) (by omega) ?_)
  | (with_reducible refine mask_g (m := 4294967296) 32 rfl rfl (by decide) (by omega) ?_)
  | (with_reducible refine shr_g (m := 4294967296) 32 rfl (by decide) (by omega) rfl ?_)
  | (with_reducible refine fz_all (by omega) ?_)
  | (with_reducible refine Stuck.h (A := RetE _ _) ?_) | (with_reducible refine Stuck.h (A := RetM _ _ _ _) ?_) | (with_reducible refine Stuck.h (A := Again _ _ _ _ _ _ _ _) ?_) | (with_reducible refine Stuck.h (A := CallF _ _ _ _ _ _ _) ?_) | (with_reducible refine Stuck.h (A := LoopG _ _ _ _ _ _ _ _) ?_) | (with_reducible refine Stuck.h (A := DrawG _ _ _ _ _ _ _ _) ?_)
  | (with_reducible refine Stuck.h (A := WrapG _ _ _) ?_) | (with_reducible refine Stuck.h (A := DivG _ _ _ _) ?_) | (with_reducible refine Stuck.h (A := ModG _ _ _) ?_) | (with_reducible refine Stuck.h (A := ShlG _ _ _ _) ?_) | (with_reducible refine Stuck.h (A := ShrG _ _ _ _) ?_) | (with_reducible refine Stuck.h (A := BitG _ _ _ _ _) ?_)
  | (with_reducible refine Stuck.h (A := IdxG _ _ _) ?_) | (with_reducible refine Stuck.h (A := IdxL _ _ _) ?_) | (with_reducible refine Stuck.h (A := SlcG _ _ _ _ _) ?_) | (with_reducible refine Stuck.h (A := MakG _ _ _ _) ?_) | (with_reducible refine Stuck.h (A := AppG _ _ _ _ _ _ _) ?_) | (with_reducible refine Stuck.h (A := FzG _ _ _ _) ?_)
  | (with_reducible refine Stuck.h (A := RawG _) ?_) | (with_reducible refine Stuck.h (A := TabG _ _ _ _ _) ?_) | (with_reducible refine Stuck.h (A := ExtF _ _ _ _) ?_) | (with_reducible refine Stuck.h (A := Chk _ _) ?_) | (with_reducible refine Stuck.h (A := False) ?_))
    exact ⟨ret_e rfl⟩
  refine FC.intro (X := XX) tok Tryz.func26 rfl Tryz.ntmps26 (by rw [Tryz.results26]) (by kernel_rfl) rfl ?_; intro F hG hO
  rw [← hG] at f0 f1
  repeat' ((try (conv => whnf)); first
  | ((with_reducible refine cg ?_); refine call_eq (f0) (LpL.refl _) rfl ?_)
  | ((with_reducible refine cg ?_); refine call_eq (f1) (LpL.refl _) rfl ?_)
  | (with_reducible refine mask_g (m := 2) 1 rfl rfl (by decide) hb ?_)
  
  | (with_reducible refine Chk.mk' (by first | omega | exact trivial | (simp only [List.length_append, List.length_set, List.length_replicate, List.length_take, List.length_drop, List.length_cons, List.length_nil, List.length_map]; omega)) ?_)
  | (with_reducible refine wrap_g (by dsimp only [inR]; omega) ?_)
  | (with_reducible refine idx_g (by omega) ?_)
  | (with_reducible refine idx_l _ rfl (by decide) ?_)
  | (with_reducible refine BothG.mk ?_ ?_)
  | (with_reducible refine fork_tt ?_) | (with_reducible refine fork_ff ?_)
  | (with_reducible refine fork_e (c := true) (by decide) ?_; with_reducible refine fork_tt ?_) | (with_reducible refine fork_e (c := false) (by decide) ?_; with_reducible refine fork_ff ?_)
  | (with_reducible refine fork_t (by omega) ?_) | (with_reducible refine fork_f (by omega) ?_)
  | (with_reducible refine fork_d ?_ ?_ <;> intro hc)
  | (with_reducible refine fork_n ?_)
  | (with_reducible refine fork_b ?_ ?_ <;> intro hc)
  | (with_reducible refine SlcG.mk (by omega) ?_)
  | (with_reducible refine MakG.mk (by dsimp only; omega) ?_)
  | (with_reducible refine AppG.mk (by first | omega | (simp only [List.length_append, List.length_set, List.length_replicate, List.length_take, List.length_drop, List.length_cons, List.length_nil, List.length_map]; omega)) (by dsimp only [List.length_cons, List.length_nil]; omega) (by omega) ?_)
  | (with_reducible refine div_g (by omega) (by omega) (by dsimp only [inR]; omega) ?_)
  | (with_reducible refine mod_g (by omega) (by omega) ?_)
  | (with_reducible refine mask_g (m := 4294967296) 32 rfl rfl (by decide) (by omega) ?_)
  | (with_reducible refine shr_g (m := 4294967296) 32 rfl (by decide) (by omega) rfl ?_)
  | (with_reducible refine fz_all (by omega) ?_)
  | (with_reducible refine Stuck.h (A := RetE _ _) ?_) | (with_reducible refine Stuck.h (A := RetM _ _ _ _) ?_) | (with_reducible refine Stuck.h (A := Again _ _ _ _ _ _ _ _) ?_) | (with_reducible refine Stuck.h (A := CallF _ _ _ _ _ _ _) ?_) | (with_reducible refine Stuck.h (A := LoopG _ _ _ _ _ _ _ _) ?_) | (with_reducible refine Stuck.h (A := DrawG _ _ _ _ _ _ _ _) ?_)
  | (with_reducible refine Stuck.h (A := WrapG _ _ _) ?_) | (with_reducible refine Stuck.h (A := DivG _ _ _ _) ?_) | (with_reducible refine Stuck.h (A := ModG _ _ _) ?_) | (with_reducible refine Stuck.h (A := ShlG _ _ _ _) ?_) | (with_reducible refine Stuck.h (A := ShrG _ _ _ _) ?_) | (with_reducible refine Stuck.h (A := BitG _ _ _ _ _) ?_)
  | (with_reducible refine Stuck.h (A := IdxG _ _ _) ?_) | (with_reducible refine Stuck.h (A := IdxL _ _ _) ?_) | (with_reducible refine Stuck.h (A := SlcG _ _ _ _ _) ?_) | (with_reducible refine Stuck.h (A := MakG _ _ _ _) ?_) | (with_reducible refine Stuck.h (A := AppG _ _ _ _ _ _ _) ?_) | (with_reducible refine Stuck.h (A := FzG _ _ _ _) ?_)
  | (with_reducible refine Stuck.h (A := RawG _) ?_) | (with_reducible refine Stuck.h (A := TabG _ _ _ _ _) ?_) | (with_reducible refine Stuck.h (A := ExtF _ _ _ _) ?_) | (with_reducible refine Stuck.h (A := Chk _ _) ?_) | (with_reducible refine Stuck.h (A := False) ?_))
  all_goals (refine ⟨ret_e (bv_eq ?_)⟩)
  all_goals first
    | (rw [decide_eq_false (show ¬ -1048576 ≤ e by omega)]; rfl)
    | (rw [decide_eq_true (show -1048576 ≤ e by omega), decide_eq_false (show ¬ e ≤ 1048576 by omega)]; rfl)
    | (rw [decide_eq_true (show -1048576 ≤ e by omega), decide_eq_true (show e ≤ 1048576 by omega), if_pos (show l.length = 0 by omega)]; rfl)
    | (rw [decide_eq_true (show -1048576 ≤ e by omega), decide_eq_true (show e ≤ 1048576 by omega), if_neg (show ¬ l.length = 0 by omega)]; rfl)
end Go.Proofs.YtbeocnjlepcglaaGreatDoor.Sim
namespace Go.Proofs.YtbeocnjlepcglaaGreatDoor.Sim
open Go.RowKit
set_option linter.unusedVariables false
set_option linter.unusedSimpArgs false
set_option maxRecDepth 10000
set_option maxHeartbeats 8000000
variable {G : List (Nat × List Value)}
theorem y_formN (b : Bool) (l : List Int) (e : Int) (ok : okD 18446744073709551616 l) (h : dyF b l e = false) : FC Tryz.prog G 26 [Dy b l e] (· = .val (.bool false)) := by
  have := y_formX (G := G) b l e ok
  rw [h] at this
  exact this
def cutsE (p : Int) : PV := if p < 1 then dyE 1 else if 70000 < p then dyE 1 else dyE 2
theorem cutsE_form (p : Int) : ∃ c, cutsE p = dyE c := by
  unfold cutsE
  by_cases h1 : p < 1
  · rw [if_pos h1]; exact ⟨1, rfl⟩
  · rw [if_neg h1]
    by_cases h2 : 70000 < p
    · rw [if_pos h2]; exact ⟨1, rfl⟩
    · rw [if_neg h2]; exact ⟨2, rfl⟩
end Go.Proofs.YtbeocnjlepcglaaGreatDoor.Sim
namespace Go.Proofs.YtbeocnjlepcglaaGreatDoor.Sim
open Go.RowKit
set_option linter.unusedVariables false
set_option linter.unusedSimpArgs false
/-- n * 2^e, in parts of 2^-1048576. -/
def VV (n e : Int) : Int := n * 2 ^ (e + 1048576).toNat
theorem p2_pos (k : Nat) : (0 : Int) < 2 ^ k := Int.pow_pos (by decide)
theorem VV_low {n e k : Int} (h : -1048576 ≤ k) (hk : k ≤ e) : VV n e = VV (n * 2 ^ (e - k).toNat) k := by
  unfold VV
  rw [Int.mul_assoc, ← Int.pow_add, show (e - k).toNat + (k + 1048576).toNat = (e + 1048576).toNat by omega]
theorem VV_inj {a b k : Int} (h : VV a k = VV b k) : a = b := by
  unfold VV at h
  exact Int.eq_of_mul_eq_mul_right (by have := p2_pos (k + 1048576).toNat; omega) h
theorem VV_add (a b k : Int) : VV (a + b) k = VV a k + VV b k := by unfold VV; exact Int.add_mul _ _ _
theorem VV_neg (a k : Int) : VV (-a) k = -VV a k := by unfold VV; exact Int.neg_mul _ _
theorem VV_zero (k : Int) : VV 0 k = 0 := by unfold VV; exact Int.zero_mul _
theorem VV_le {a b k : Int} : VV a k ≤ VV b k ↔ a ≤ b := by
  unfold VV
  have h := p2_pos (k + 1048576).toNat
  exact ⟨fun hh => Int.le_of_mul_le_mul_right hh h, fun hh => Int.mul_le_mul_of_nonneg_right hh (by omega)⟩
theorem low_exp {s k z w : Int} (hk : -1048576 ≤ k) (g : Good z w) (h0 : z ≠ 0) (h : VV z w = VV s k) : k ≤ w ∧ s = z * 2 ^ (w - k).toNat := by
  have h1 : k ≤ w := by
    rcases Int.lt_or_le w k with h2 | h2
    · exfalso
      rw [VV_low (n := s) g.2.1 (by omega)] at h
      have h3 := VV_inj h
      rw [show (k - w).toNat = (k - w).toNat - 1 + 1 by omega, Int.pow_succ, ← Int.mul_assoc] at h3
      have := g.2.2.2.2 h0
      omega
    · exact h2
  rw [VV_low hk h1] at h
  exact ⟨h1, (VV_inj h).symm⟩
theorem told_eq {s k z w : Int} (hk : -1048576 ≤ k) (g : Good z w) (h : VV z w = VV s k) : toldS s k = dyR z w := by
  by_cases h0 : z = 0
  · subst h0
    rw [VV_zero, ← VV_zero k] at h
    rw [← VV_inj h, g.2.2.2.1 rfl]
    rfl
  · obtain ⟨h1, h2⟩ := low_exp hk g h0 h
    have ho := g.2.2.2.2 h0
    have ha : s.natAbs = z.natAbs * 2 ^ (w - k).toNat := by rw [h2, Int.natAbs_mul, Int.natAbs_pow]; rfl
    have ht : tz s.natAbs = (w - k).toNat := tz_eq ha (by omega)
    have hs0 : s ≠ 0 := by
      intro h3
      rw [h3] at ha
      have : z.natAbs * 2 ^ (w - k).toNat ≠ 0 := Nat.mul_ne_zero (by omega) (Nat.pos_iff_ne_zero.1 (Nat.pow_pos (by decide)))
      omega
    have hq : s.natAbs / 2 ^ (w - k).toNat = z.natAbs := by rw [ha]; exact Nat.mul_div_cancel _ (Nat.pow_pos (by decide))
    have hd : s / 2 ^ (w - k).toNat = z := by rw [h2]; exact Int.mul_ediv_cancel _ (by have := p2_pos (w - k).toNat; omega)
    have hl := L32_L64 z.natAbs
    have g1 := g.1
    have g2 := g.2.1
    have g3 := g.2.2.1
    unfold toldS
    rw [if_neg hs0, ht, hq, hd, if_neg (by omega), if_neg (by omega), if_neg (by omega), if_neg (by omega), if_neg (by omega), show k + (((w - k).toNat : Nat) : Int) = w by omega]
theorem DY_inj {n e m f : Int} (h : DY n e = DY m f) : n = m ∧ e = f := by
  unfold DY at h
  simp only [PV.agg.injEq, List.cons.injEq, PV.val.injEq, Value.bool.injEq, PV.ws.injEq, Value.int.injEq, true_and, and_true] at h
  obtain ⟨h1, h2, h3⟩ := h
  have h4 : n.natAbs = m.natAbs := by rw [← vl_d64 n.natAbs, ← vl_d64 m.natAbs, h2]
  refine ⟨?_, h3⟩
  by_cases hn : n < 0
  · rw [decide_eq_true hn] at h1
    have := of_decide_eq_true h1.symm
    omega
  · rw [decide_eq_false hn] at h1
    have := of_decide_eq_false h1.symm
    omega
theorem dyR_inj {n e m f : Int} (h : dyR n e = dyR m f) : n = m ∧ e = f := by
  unfold dyR at h
  simp only [PV.tup.injEq, List.cons.injEq, and_true] at h
  exact DY_inj h
theorem good_eq {n e m f : Int} (h : Good n e) (g : Good m f) (hV : VV n e = VV m f) : n = m ∧ e = f := dyR_inj ((told_good h).symm.trans (told_eq h.2.1 g hV.symm))
theorem bl_lo {n : Nat} (h : n ≠ 0) : 2 ^ (bl n - 1) ≤ n := by
  rcases Nat.lt_or_ge n (2 ^ (bl n - 1)) with h1 | h1
  · have := bl_le h1
    have := bl_pos h
    omega
  · exact h1
theorem VV_abs (n e : Int) : (VV n e).natAbs = n.natAbs * 2 ^ (e + 1048576).toNat := by unfold VV; rw [Int.natAbs_mul, Int.natAbs_pow]; rfl
theorem VV_top {n e m f : Int} (h : Good n e) (g : Good m f) (hm : m ≠ 0) (ht : topN n e < topN m f) : (VV n e).natAbs < (VV m f).natAbs := by
  rw [VV_abs, VV_abs]
  have e1 := h.2.1
  have e2 := g.2.1
  have h1 := lt_bl n.natAbs
  have h2 := bl_lo (n := m.natAbs) (by omega)
  have h3 := bl_pos (n := m.natAbs) (by omega)
  unfold topN at ht
  have h4 : n.natAbs * 2 ^ (e + 1048576).toNat < 2 ^ (bl n.natAbs) * 2 ^ (e + 1048576).toNat := Nat.mul_lt_mul_of_pos_right h1 (Nat.pow_pos (by decide))
  have h5 : 2 ^ (bl m.natAbs - 1) * 2 ^ (f + 1048576).toNat ≤ m.natAbs * 2 ^ (f + 1048576).toNat := Nat.mul_le_mul_right _ h2
  rw [← Nat.pow_add] at h4 h5
  have h6 : 2 ^ (bl n.natAbs + (e + 1048576).toNat) ≤ 2 ^ (bl m.natAbs - 1 + (f + 1048576).toNat) := Nat.pow_le_pow_right (by decide) (by omega)
  omega
theorem VV_pos {n e : Int} (h : 0 < n) : 0 < VV n e := Int.mul_pos h (p2_pos _)
theorem VV_negs {n e : Int} (h : n < 0) : VV n e < 0 := by
  have := VV_pos (n := -n) (e := e) (by omega)
  rw [VV_neg] at this
  omega
theorem cmp_le {n e m f : Int} (h : Good n e) (g : Good m f) (hV : VV n e ≤ VV m f) : cmpS n e m f ≤ 0 := by
  unfold cmpS
  rcases Int.lt_trichotomy n 0 with hn | hn | hn <;> rcases Int.lt_trichotomy m 0 with hm | hm | hm
  · rw [Int.sign_eq_neg_one_of_neg hn, Int.sign_eq_neg_one_of_neg hm, if_neg (by decide)]
    split
    · have : ¬ topN n e < topN m f := fun ht => by
        have := VV_top h g (by omega) ht
        have := VV_negs (e := e) hn
        have := VV_negs (e := f) hm
        omega
      rw [Int.sign_eq_one_of_pos (by omega)]; decide
    · rw [VV_low (n := n) (k := min e f) (by have := h.2.1; have := g.2.1; omega) (by omega), VV_low (n := m) (k := min e f) (by have := h.2.1; have := g.2.1; omega) (by omega), VV_le] at hV
      rcases Int.lt_or_le (n * 2 ^ (e - min e f).toNat - m * 2 ^ (f - min e f).toNat) 0 with hx | hx
      · rw [Int.sign_eq_neg_one_of_neg hx]; decide
      · rw [show n * 2 ^ (e - min e f).toNat - m * 2 ^ (f - min e f).toNat = 0 by omega]; decide
  · rw [hm, Int.sign_eq_neg_one_of_neg hn, if_pos (.inl (by decide))]; decide
  · rw [Int.sign_eq_neg_one_of_neg hn, Int.sign_eq_one_of_pos hm, if_pos (.inl (by decide))]; decide
  · exfalso; rw [hn, VV_zero] at hV; have := VV_negs (e := f) hm; omega
  · rw [hn, hm, if_pos (.inr (by decide))]; decide
  · rw [hn, Int.sign_eq_one_of_pos hm, if_pos (.inr (by decide))]; decide
  · exfalso; have := VV_negs (e := f) hm; have := VV_pos (e := e) hn; omega
  · exfalso; rw [hm, VV_zero] at hV; have := VV_pos (e := e) hn; omega
  · rw [Int.sign_eq_one_of_pos hn, Int.sign_eq_one_of_pos hm, if_neg (by decide)]
    split
    · have : ¬ topN m f < topN n e := fun ht => by
        have := VV_top g h (by omega) ht
        have := VV_pos (e := e) hn
        have := VV_pos (e := f) hm
        omega
      rw [Int.sign_eq_neg_one_of_neg (by omega)]; decide
    · rw [VV_low (n := n) (k := min e f) (by have := h.2.1; have := g.2.1; omega) (by omega), VV_low (n := m) (k := min e f) (by have := h.2.1; have := g.2.1; omega) (by omega), VV_le] at hV
      rcases Int.lt_or_le (n * 2 ^ (e - min e f).toNat - m * 2 ^ (f - min e f).toNat) 0 with hx | hx
      · rw [Int.sign_eq_neg_one_of_neg hx]; decide
      · rw [show n * 2 ^ (e - min e f).toNat - m * 2 ^ (f - min e f).toNat = 0 by omega]; decide
end Go.Proofs.YtbeocnjlepcglaaGreatDoor.Sim
namespace Go.Proofs.YtbeocnjlepcglaaGreatDoor.Sim
open Go.RowKit
set_option linter.unusedVariables false
set_option linter.unusedSimpArgs false
theorem told_ex {s k : Int} (hk : -1048576 ≤ k) (hk2 : k ≤ 1048576) (hL : L32 s.natAbs ≤ 16384) (ht : k + (bl s.natAbs : Int) - 1 ≤ 1048576) :
    ∃ z w, Good z w ∧ VV z w = VV s k ∧ toldS s k = dyR z w ∧ (z = 0 ∨ k ≤ w) ∧ (s = 0 ↔ z = 0) ∧ (z = 0 ∨ topN z w = k + (bl s.natAbs : Int) - 1) ∧ z.natAbs ≤ s.natAbs := by
  by_cases h0 : s = 0
  · subst h0
    have hV : VV 0 0 = VV 0 k := by rw [VV_zero, VV_zero]
    exact ⟨0, 0, Good.zero, hV, told_eq hk Good.zero hV, .inl rfl, Iff.rfl, .inl rfl, Nat.le_refl _⟩
  · obtain ⟨h1, h2⟩ := odd_div (n := s.natAbs) (by omega)
    obtain ⟨t, htt⟩ : ∃ t, t = tz s.natAbs := ⟨_, rfl⟩
    rw [← htt] at h1 h2
    have hlq := L32_mono (Nat.div_le_self s.natAbs (2 ^ t))
    have hqs := Nat.div_le_self s.natAbs (2 ^ t)
    obtain ⟨q, hq⟩ : ∃ q, q = s.natAbs / 2 ^ t := ⟨_, rfl⟩
    rw [← hq] at h1 h2 hlq hqs
    have hb : bl s.natAbs = bl q + t := by rw [h1]; exact bl_mul_pow q t (by omega)
    have hbq := bl_pos (n := q) (by omega)
    have hz : (sg (decide (s < 0)) q).natAbs = q := sg_abs _ _
    have hs : s = sg (decide (s < 0)) q * 2 ^ t := by rw [← sg_pow, ← h1, sg_of]
    obtain ⟨z, hzz⟩ : ∃ z, z = sg (decide (s < 0)) q := ⟨_, rfl⟩
    rw [← hzz] at hz hs
    have hl := L64_L32 q
    have g : Good z (k + t) := ⟨by rw [hz]; omega, by omega, by omega, fun h => by omega, fun _ => by omega⟩
    have hV : VV z (k + t) = VV s k := by
      rw [VV_low hk (by omega), hs, show (k + (t : Int) - k).toNat = t by omega]
    exact ⟨z, k + t, g, hV, told_eq hk g hV, .inr (by omega), ⟨fun h => absurd h h0, fun h => by omega⟩, .inr (by unfold topN; rw [hz]; omega), by rw [hz]; exact hqs⟩
theorem Good.one {k : Int} (h1 : -1048576 ≤ k) (h2 : k ≤ 1048576) : Good 1 k := ⟨Nat.le_trans (L64_le (n := 1) (by decide)) (by decide), h1, h2, fun h => by omega, fun _ => rfl⟩
theorem scale_one {k : Int} (h1 : -1048576 ≤ k) (h2 : k ≤ 1048576) : scaleS 1 0 k = dyR 1 k := by
  unfold scaleS
  rw [if_neg (by decide), if_neg (by omega), if_neg (by omega), Int.zero_add]
  exact told_good (Good.one h1 h2)
theorem odd_bl {x : Int} {m : Nat} (hx : x % 2 = 1) (hm : 1 ≤ m) (h : x.natAbs ≤ 2 ^ m) : bl x.natAbs ≤ m := by
  refine bl_le ?_
  have : 2 ^ m = 2 * 2 ^ (m - 1) := by rw [Nat.mul_comm, ← Nat.pow_succ]; congr 1; omega
  omega
theorem cuts_same {n e p : Int} (up : Bool) (h : Good n e) (hp : 1 ≤ p ∧ p ≤ 70000) (hb : (bl n.natAbs : Int) ≤ p) : cutsS n e p up = dyR n e := by
  unfold cutsS cutS
  rw [if_neg (by omega), if_neg (by omega), if_pos (by omega)]
  exact told_good h
end Go.Proofs.YtbeocnjlepcglaaGreatDoor.Sim
namespace Go.Proofs.YtbeocnjlepcglaaGreatDoor.Sim
open Go.RowKit
set_option linter.unusedVariables false
set_option linter.unusedSimpArgs false
set_option maxRecDepth 10000
set_option maxHeartbeats 8000000
variable {G : List (Nat × List Value)}
theorem mul_parts (x0 x1 y0 y1 : Int) : (4294967296 * x1 + x0) * (4294967296 * y1 + y0) = 18446744073709551616 * (x1 * y1) + 4294967296 * (x1 * y0) + 4294967296 * (x0 * y1) + x0 * y0 := by
  rw [Int.add_mul, Int.mul_add, Int.mul_add, Int.mul_assoc 4294967296 x1 (4294967296 * y1), Int.mul_left_comm x1 4294967296 y1, Int.mul_assoc 4294967296 x1 y0, Int.mul_left_comm x0 4294967296 y1]
  omega
theorem tup2_eq {k j : IntKind} {a b c d : Int} (h1 : a = c) (h2 : b = d) : PV.tup [.val (.int k a), .val (.int j b)] = .tup [.val (.int k c), .val (.int j d)] := by rw [h1, h2]
theorem one_row {i : Nat} (h : i < 1) : [0][i]? = some i := by
  have : i = 0 := by omega
  subst this; rfl
theorem mul_split (x y : Int) : x * y = 18446744073709551616 * (x / 4294967296 * (y / 4294967296)) + 4294967296 * (x / 4294967296 * (y % 4294967296)) + 4294967296 * (x % 4294967296 * (y / 4294967296)) + x % 4294967296 * (y % 4294967296) := by
  rw [← mul_parts, Int.mul_ediv_add_emod, Int.mul_ediv_add_emod]
theorem mul_bd32 {x y : Int} (hx : 0 ≤ x ∧ x < 4294967296) (hy : 0 ≤ y ∧ y < 4294967296) : 0 ≤ x * y ∧ x * y ≤ 18446744065119617025 := by
  refine ⟨Int.mul_nonneg hx.1 hy.1, ?_⟩
  have h1 : x * y ≤ 4294967295 * y := Int.mul_le_mul_of_nonneg_right (by omega) hy.1
  omega
theorem b_mul (x y : Int) (hx : 0 ≤ x ∧ x < 18446744073709551616) (hy : 0 ≤ y ∧ y < 18446744073709551616) : FC Tryz.prog G 160 [.val (.int .u64 x), .val (.int .u64 y)] (· = .tup [.val (.int .u64 (x * y / 18446744073709551616)), .val (.int .u64 (x * y % 18446744073709551616))]) := by
  have hs := mul_split x y
  have b1 := mul_bd32 (x := x / 4294967296) (y := y / 4294967296) (by omega) (by omega)
  have b2 := mul_bd32 (x := x / 4294967296) (y := y % 4294967296) (by omega) (by omega)
  have b3 := mul_bd32 (x := x % 4294967296) (y := y / 4294967296) (by omega) (by omega)
  have b4 := mul_bd32 (x := x % 4294967296) (y := y % 4294967296) (by omega) (by omega)
  refine FC.intro (X := XX) tok Tryz.func160 rfl Tryz.ntmps160 (by rw [Tryz.results160]) (by kernel_rfl) rfl ?_; intro F hG hO
  repeat' ((try (conv => whnf)); first
  | (with_reducible refine wrap_g (by dsimp only [inR]; omega) ?_)
  | ((with_reducible refine wrap_r ?_); rw [wrap64])
  
  | (with_reducible refine Chk.mk' (by first | omega | exact trivial | (simp only [List.length_append, List.length_set, List.length_replicate, List.length_take, List.length_drop, List.length_cons, List.length_nil, List.length_map]; omega)) ?_)
  | (with_reducible refine wrap_g (by dsimp only [inR]; omega) ?_)
  | (with_reducible refine idx_g (by omega) ?_)
  | (with_reducible refine idx_l _ rfl (by decide) ?_)
  | (with_reducible refine BothG.mk ?_ ?_)
  | (with_reducible refine fork_tt ?_) | (with_reducible refine fork_ff ?_)
  | (with_reducible refine fork_e (c := true) (by decide) ?_; with_reducible refine fork_tt ?_) | (with_reducible refine fork_e (c := false) (by decide) ?_; with_reducible refine fork_ff ?_)
  | (with_reducible refine fork_t (by omega) ?_) | (with_reducible refine fork_f (by omega) ?_)
  | (with_reducible refine fork_d ?_ ?_ <;> intro hc)
  | (with_reducible refine fork_n ?_)
  | (with_reducible refine fork_b ?_ ?_ <;> intro hc)
  | (with_reducible refine SlcG.mk (by omega) ?_)
  | (with_reducible refine MakG.mk (by dsimp only; omega) ?_)
  | (with_reducible refine AppG.mk (by first | omega | (simp only [List.length_append, List.length_set, List.length_replicate, List.length_take, List.length_drop, List.length_cons, List.length_nil, List.length_map]; omega)) (by dsimp only [List.length_cons, List.length_nil]; omega) (by omega) ?_)
  | (with_reducible refine div_g (by omega) (by omega) (by dsimp only [inR]; omega) ?_)
  | (with_reducible refine mod_g (by omega) (by omega) ?_)
  | (with_reducible refine mask_g (m := 4294967296) 32 rfl rfl (by decide) (by omega) ?_)
  | (with_reducible refine shr_g (m := 4294967296) 32 rfl (by decide) (by omega) rfl ?_)
  | (with_reducible refine fz_all (by omega) ?_)
  | (with_reducible refine Stuck.h (A := RetE _ _) ?_) | (with_reducible refine Stuck.h (A := RetM _ _ _ _) ?_) | (with_reducible refine Stuck.h (A := Again _ _ _ _ _ _ _ _) ?_) | (with_reducible refine Stuck.h (A := CallF _ _ _ _ _ _ _) ?_) | (with_reducible refine Stuck.h (A := LoopG _ _ _ _ _ _ _ _) ?_) | (with_reducible refine Stuck.h (A := DrawG _ _ _ _ _ _ _ _) ?_)
  | (with_reducible refine Stuck.h (A := WrapG _ _ _) ?_) | (with_reducible refine Stuck.h (A := DivG _ _ _ _) ?_) | (with_reducible refine Stuck.h (A := ModG _ _ _) ?_) | (with_reducible refine Stuck.h (A := ShlG _ _ _ _) ?_) | (with_reducible refine Stuck.h (A := ShrG _ _ _ _) ?_) | (with_reducible refine Stuck.h (A := BitG _ _ _ _ _) ?_)
  | (with_reducible refine Stuck.h (A := IdxG _ _ _) ?_) | (with_reducible refine Stuck.h (A := IdxL _ _ _) ?_) | (with_reducible refine Stuck.h (A := SlcG _ _ _ _ _) ?_) | (with_reducible refine Stuck.h (A := MakG _ _ _ _) ?_) | (with_reducible refine Stuck.h (A := AppG _ _ _ _ _ _ _) ?_) | (with_reducible refine Stuck.h (A := FzG _ _ _ _) ?_)
  | (with_reducible refine Stuck.h (A := RawG _) ?_) | (with_reducible refine Stuck.h (A := TabG _ _ _ _ _) ?_) | (with_reducible refine Stuck.h (A := ExtF _ _ _ _) ?_) | (with_reducible refine Stuck.h (A := Chk _ _) ?_) | (with_reducible refine Stuck.h (A := False) ?_))
  all_goals exact ⟨ret_e (tup2_eq (by omega) (by omega))⟩
theorem m_trimw (a : List Int) (hl : a.length ≤ 1152921504606846976) : FC Tryz.prog G 148 [.ws .u64 a] (· = .ws .u64 (trim a)) := by
  refine FC.intro (X := XX) tok Tryz.func148 rfl Tryz.ntmps148 (by rw [Tryz.results148]) (by kernel_rfl) rfl ?_; intro F hG hO
  repeat' ((try (conv => whnf)); first
  | ((with_reducible refine lg ?_); refine loop_g (A := Nat) (fun m => m ≤ a.length ∧ ∀ j : Nat, m ≤ j → rd a j = 0) id (fun m => [(0, .ws .u64 a), (3, .val (.int .i64 (m : Int)))]) (fun _ => []) (fun _ => []) a.length tok (fun _ => ⟨⟨trivial, trivial, trivial⟩, trivial, by simp only [List.length_nil]; omega⟩) ?_ ⟨rfl, rfl, trivial⟩ ⟨[], rfl⟩ ⟨[], rfl⟩ ?_; rotate_left; rintro m ⟨h1, h2⟩)
  
  | (with_reducible refine Chk.mk' (by first | omega | exact trivial | (simp only [List.length_append, List.length_set, List.length_replicate, List.length_take, List.length_drop, List.length_cons, List.length_nil, List.length_map]; omega)) ?_)
  | (with_reducible refine wrap_g (by dsimp only [inR]; omega) ?_)
  | (with_reducible refine idx_g (by omega) ?_)
  | (with_reducible refine idx_l _ rfl (by decide) ?_)
  | (with_reducible refine BothG.mk ?_ ?_)
  | (with_reducible refine fork_tt ?_) | (with_reducible refine fork_ff ?_)
  | (with_reducible refine fork_e (c := true) (by decide) ?_; with_reducible refine fork_tt ?_) | (with_reducible refine fork_e (c := false) (by decide) ?_; with_reducible refine fork_ff ?_)
  | (with_reducible refine fork_t (by omega) ?_) | (with_reducible refine fork_f (by omega) ?_)
  | (with_reducible refine fork_d ?_ ?_ <;> intro hc)
  | (with_reducible refine fork_n ?_)
  | (with_reducible refine fork_b ?_ ?_ <;> intro hc)
  | (with_reducible refine SlcG.mk (by omega) ?_)
  | (with_reducible refine MakG.mk (by dsimp only; omega) ?_)
  | (with_reducible refine AppG.mk (by first | omega | (simp only [List.length_append, List.length_set, List.length_replicate, List.length_take, List.length_drop, List.length_cons, List.length_nil, List.length_map]; omega)) (by dsimp only [List.length_cons, List.length_nil]; omega) (by omega) ?_)
  | (with_reducible refine div_g (by omega) (by omega) (by dsimp only [inR]; omega) ?_)
  | (with_reducible refine mod_g (by omega) (by omega) ?_)
  | (with_reducible refine mask_g (m := 4294967296) 32 rfl rfl (by decide) (by omega) ?_)
  | (with_reducible refine shr_g (m := 4294967296) 32 rfl (by decide) (by omega) rfl ?_)
  | (with_reducible refine fz_all (by omega) ?_)
  | (with_reducible refine Stuck.h (A := RetE _ _) ?_) | (with_reducible refine Stuck.h (A := RetM _ _ _ _) ?_) | (with_reducible refine Stuck.h (A := Again _ _ _ _ _ _ _ _) ?_) | (with_reducible refine Stuck.h (A := CallF _ _ _ _ _ _ _) ?_) | (with_reducible refine Stuck.h (A := LoopG _ _ _ _ _ _ _ _) ?_) | (with_reducible refine Stuck.h (A := DrawG _ _ _ _ _ _ _ _) ?_)
  | (with_reducible refine Stuck.h (A := WrapG _ _ _) ?_) | (with_reducible refine Stuck.h (A := DivG _ _ _ _) ?_) | (with_reducible refine Stuck.h (A := ModG _ _ _) ?_) | (with_reducible refine Stuck.h (A := ShlG _ _ _ _) ?_) | (with_reducible refine Stuck.h (A := ShrG _ _ _ _) ?_) | (with_reducible refine Stuck.h (A := BitG _ _ _ _ _) ?_)
  | (with_reducible refine Stuck.h (A := IdxG _ _ _) ?_) | (with_reducible refine Stuck.h (A := IdxL _ _ _) ?_) | (with_reducible refine Stuck.h (A := SlcG _ _ _ _ _) ?_) | (with_reducible refine Stuck.h (A := MakG _ _ _ _) ?_) | (with_reducible refine Stuck.h (A := AppG _ _ _ _ _ _ _) ?_) | (with_reducible refine Stuck.h (A := FzG _ _ _ _) ?_)
  | (with_reducible refine Stuck.h (A := RawG _) ?_) | (with_reducible refine Stuck.h (A := TabG _ _ _ _ _) ?_) | (with_reducible refine Stuck.h (A := ExtF _ _ _ _) ?_) | (with_reducible refine Stuck.h (A := Chk _ _) ?_) | (with_reducible refine Stuck.h (A := False) ?_))
  · exact ⟨again (m - 1) ⟨by omega, fun j hj => by
      rcases Nat.lt_or_ge j m with hjm | hjm
      · rw [show (j : Int) = m - 1 by omega]; assumption
      · exact h2 j hjm⟩ (by simp only [id]; omega) ⟨rfl, iv_eq (by omega), trivial⟩ ⟨[], rfl⟩ ⟨[], rfl⟩⟩
  · have e : trim a = a.take m := trim_take a m h1 (fun j hj => by simpa [rd] using h2 j hj) (.inr (by
      have : ((m : Int) - 1).toNat = m - 1 := by omega
      simpa [rd, this] using hc))
    exact ⟨ret_e (by rw [e]; simp)⟩
  · have e : trim a = a.take m := trim_take a m h1 (fun j hj => by simpa [rd] using h2 j hj) (.inl (by omega))
    exact ⟨ret_e (by rw [e]; simp)⟩
  · exact ⟨Nat.le_refl _, fun j hj => by simp [rd, List.getD_eq_getElem?_getD, hj]⟩
theorem m_trim (z : List Int) (n : Nat) (hn : n ≤ z.length) (hl : z.length ≤ 1152921504606846976) : PM Tryz.prog G 148 [.arr 0 0 n] [⟨1, 44, .w .u64 z⟩] (fun r rs => r = .arr 0 0 (trim (z.take n)).length ∧ rs = [some ⟨1, 44, .w .u64 z⟩]) := by
  obtain ⟨a, ha⟩ : ∃ a, a = z.take n := ⟨_, rfl⟩
  have hal : a.length = n := by rw [ha, List.length_take]; omega
  have hrd : ∀ j : Nat, j < n → rd a j = z.getD j 0 := fun j hj => by
    rw [ha]
    simp only [rd, Int.toNat_natCast, List.getD_eq_getElem?_getD, List.getElem?_take, if_pos hj]
  rw [← ha]
  refine PM.intro (X := XX) tok Tryz.func148 rfl Tryz.ntmps148 (by rw [Tryz.results148]) (by kernel_rfl) rfl ?_; intro F hG hO; simp only [List.length_cons, List.length_nil, Nat.zero_add, Nat.reduceAdd] at hO
  repeat' ((try (conv => whnf)); first
  | ((with_reducible refine lg ?_); refine loop_g (A := Nat) (fun m => m ≤ n ∧ ∀ j : Nat, m ≤ j → rd a j = 0) id (fun m => [(0, .arr 0 0 n), (3, .val (.int .i64 (m : Int)))]) (fun _ => []) (fun _ => [some ⟨1, 44, .w .u64 z⟩]) n tok (fun _ => ⟨⟨Nat.one_pos, trivial, trivial⟩, trivial, by simp only [List.length_cons, List.length_nil]; omega⟩) ?_ ⟨rfl, rfl, trivial⟩ ⟨[], rfl⟩ ⟨[], rfl⟩ ?_; rotate_left; rintro m ⟨h1, h2⟩; have hm1 : 0 < m → z.getD (0 + ((m : Int) - 1).toNat) 0 = rd a ((m - 1 : Nat) : Int) := (fun h => by rw [hrd (m - 1) (by omega)]; congr 1; omega))
  
  | (with_reducible refine Chk.mk' (by first | omega | exact trivial | (simp only [List.length_append, List.length_set, List.length_replicate, List.length_take, List.length_drop, List.length_cons, List.length_nil, List.length_map]; omega)) ?_)
  | (with_reducible refine wrap_g (by dsimp only [inR]; omega) ?_)
  | (with_reducible refine idx_g (by omega) ?_)
  | (with_reducible refine idx_l _ rfl (by decide) ?_)
  | (with_reducible refine BothG.mk ?_ ?_)
  | (with_reducible refine fork_tt ?_) | (with_reducible refine fork_ff ?_)
  | (with_reducible refine fork_e (c := true) (by decide) ?_; with_reducible refine fork_tt ?_) | (with_reducible refine fork_e (c := false) (by decide) ?_; with_reducible refine fork_ff ?_)
  | (with_reducible refine fork_t (by omega) ?_) | (with_reducible refine fork_f (by omega) ?_)
  | (with_reducible refine fork_d ?_ ?_ <;> intro hc)
  | (with_reducible refine fork_n ?_)
  | (with_reducible refine fork_b ?_ ?_ <;> intro hc)
  | (with_reducible refine SlcG.mk (by omega) ?_)
  | (with_reducible refine MakG.mk (by dsimp only; omega) ?_)
  | (with_reducible refine AppG.mk (by first | omega | (simp only [List.length_append, List.length_set, List.length_replicate, List.length_take, List.length_drop, List.length_cons, List.length_nil, List.length_map]; omega)) (by dsimp only [List.length_cons, List.length_nil]; omega) (by omega) ?_)
  | (with_reducible refine div_g (by omega) (by omega) (by dsimp only [inR]; omega) ?_)
  | (with_reducible refine mod_g (by omega) (by omega) ?_)
  | (with_reducible refine mask_g (m := 4294967296) 32 rfl rfl (by decide) (by omega) ?_)
  | (with_reducible refine shr_g (m := 4294967296) 32 rfl (by decide) (by omega) rfl ?_)
  | (with_reducible refine fz_all (by omega) ?_)
  | (with_reducible refine Stuck.h (A := RetE _ _) ?_) | (with_reducible refine Stuck.h (A := RetM _ _ _ _) ?_) | (with_reducible refine Stuck.h (A := Again _ _ _ _ _ _ _ _) ?_) | (with_reducible refine Stuck.h (A := CallF _ _ _ _ _ _ _) ?_) | (with_reducible refine Stuck.h (A := LoopG _ _ _ _ _ _ _ _) ?_) | (with_reducible refine Stuck.h (A := DrawG _ _ _ _ _ _ _ _) ?_)
  | (with_reducible refine Stuck.h (A := WrapG _ _ _) ?_) | (with_reducible refine Stuck.h (A := DivG _ _ _ _) ?_) | (with_reducible refine Stuck.h (A := ModG _ _ _) ?_) | (with_reducible refine Stuck.h (A := ShlG _ _ _ _) ?_) | (with_reducible refine Stuck.h (A := ShrG _ _ _ _) ?_) | (with_reducible refine Stuck.h (A := BitG _ _ _ _ _) ?_)
  | (with_reducible refine Stuck.h (A := IdxG _ _ _) ?_) | (with_reducible refine Stuck.h (A := IdxL _ _ _) ?_) | (with_reducible refine Stuck.h (A := SlcG _ _ _ _ _) ?_) | (with_reducible refine Stuck.h (A := MakG _ _ _ _) ?_) | (with_reducible refine Stuck.h (A := AppG _ _ _ _ _ _ _) ?_) | (with_reducible refine Stuck.h (A := FzG _ _ _ _) ?_)
  | (with_reducible refine Stuck.h (A := RawG _) ?_) | (with_reducible refine Stuck.h (A := TabG _ _ _ _ _) ?_) | (with_reducible refine Stuck.h (A := ExtF _ _ _ _) ?_) | (with_reducible refine Stuck.h (A := Chk _ _) ?_) | (with_reducible refine Stuck.h (A := False) ?_))
  · exact ⟨again (m - 1) ⟨by omega, fun j hj => by
      rcases Nat.lt_or_ge j m with hjm | hjm
      · rw [show j = m - 1 by omega, ← hm1 (by omega)]; assumption
      · exact h2 j hjm⟩ (by simp only [id]; omega) ⟨rfl, iv_eq (by omega), trivial⟩ ⟨[], rfl⟩ ⟨[], rfl⟩⟩
  · have e : trim a = a.take m := trim_take a m (by omega) (fun j hj => by simpa [rd] using h2 j hj) (.inr (by
      rw [hm1 (by omega)] at hc
      simpa [rd] using hc))
    refine ⟨ret_m [0] (.arr 0 0 (m : Int).toNat) [some ⟨1, 44, .w .u64 z⟩] rfl rfl (by simp) (fun i h => one_row h) rfl ⟨?_, rfl⟩⟩
    rw [e, List.length_take, Int.toNat_natCast, Nat.min_eq_left (by omega)]
  · have e : trim a = a.take m := trim_take a m (by omega) (fun j hj => by simpa [rd] using h2 j hj) (.inl (by omega))
    refine ⟨ret_m [0] (.arr 0 0 (m : Int).toNat) [some ⟨1, 44, .w .u64 z⟩] rfl rfl (by simp) (fun i h => one_row h) rfl ⟨?_, rfl⟩⟩
    rw [e, List.length_take, Int.toNat_natCast, Nat.min_eq_left (by omega)]
  · exact ⟨Nat.le_refl _, fun j hj => by simp [rd, List.getD_eq_getElem?_getD, hal, hj]⟩
end Go.Proofs.YtbeocnjlepcglaaGreatDoor.Sim
namespace Go.Proofs.YtbeocnjlepcglaaGreatDoor.Sim
open Go.RowKit
set_option linter.unusedVariables false
set_option linter.unusedSimpArgs false
set_option maxRecDepth 10000
set_option maxHeartbeats 8000000
variable {G : List (Nat × List Value)}
theorem AddI.swap {u v s : List Int} {c : Int} (h : AddI u v s c) (hl : s.length ≤ v.length) : AddI v u s c := by
  obtain ⟨h1, h2, h3, h4⟩ := h
  exact ⟨hl, h2, h3, by omega⟩
theorem AddI.carry {u v s : List Int} {c : Int} (h : AddI u v s c) (hv : v.length ≤ s.length) (hno : vl 18446744073709551616 u + vl 18446744073709551616 v < 18446744073709551616 ^ u.length) (hc : 0 < c) : s.length < u.length := by
  obtain ⟨h1, h2, h3, h4⟩ := h
  rcases Nat.lt_or_ge s.length u.length with h5 | h5
  · exact h5
  · exfalso
    have h6 : s.length = u.length := by omega
    rw [List.take_of_length_le (by omega), List.take_of_length_le (by omega), h6] at h4
    have b2 := vl_nonneg (B := 18446744073709551616) (by decide) h2
    rw [show c = 1 by omega, Int.mul_one] at h4
    omega
theorem AddI.final {z b s : List Int} {t : Nat} (h : AddI (z.drop t) b s 0) (hb : b.length ≤ s.length) (ht : t ≤ z.length) : vl 18446744073709551616 (ins z t s) = vl 18446744073709551616 z + 18446744073709551616 ^ t * vl 18446744073709551616 b := by
  obtain ⟨h1, h2, h3, h4⟩ := h
  rw [List.length_drop] at h1
  rw [ins_vl 18446744073709551616 (by omega), vl_split 18446744073709551616 z t ht, vl_split 18446744073709551616 (z.drop t) s.length (by rw [List.length_drop]; omega), List.drop_drop]
  rw [List.take_of_length_le (l := b) hb, Int.mul_zero, Int.add_zero] at h4
  rw [h4, Int.add_assoc, Int.add_assoc, ← Int.mul_add]
  congr 2
  omega
theorem m_addat (z b : List Int) (t n : Nat) (hzn : z.length = n) (okz : okD 18446744073709551616 z) (okb : okD 18446744073709551616 b) (hz : z.length ≤ 1152921504606846976) (ht : t + b.length ≤ z.length) (hno : vl 18446744073709551616 (z.drop t) + vl 18446744073709551616 b < 18446744073709551616 ^ (z.length - t)) :
    PM Tryz.prog G 170 [.arr 0 0 n, .ws .u64 b, .val (.int .i64 (t : Int))] [⟨1, 44, .w .u64 z⟩] (fun r rs => r = .tup [] ∧ ∃ c : List Int, c.length = z.length ∧ okD 18446744073709551616 c ∧ vl 18446744073709551616 c = vl 18446744073709551616 z + 18446744073709551616 ^ t * vl 18446744073709551616 b ∧ rs = [some ⟨1, 44, .w .u64 c⟩]) := by
  subst hzn
  obtain ⟨u, hu⟩ : ∃ u, u = z.drop t := ⟨_, rfl⟩
  have hul : u.length = z.length - t := by rw [hu, List.length_drop]
  have oku : okD 18446744073709551616 u := by rw [hu]; exact okz.drop t
  rw [← hu, ← hul] at hno
  refine PM.intro (X := XX) tok Tryz.func170 rfl Tryz.ntmps170 (by rw [Tryz.results170]) (by kernel_rfl) rfl ?_; intro F hG hO; simp only [List.length_cons, List.length_nil, Nat.zero_add, Nat.reduceAdd] at hO
  repeat' ((try (conv => whnf)); first
  | (with_reducible refine add64_g (by omega) (by omega) (by omega) ?_)
  | ((with_reducible refine lg ?_); refine loop_g (A := List Int × Int) (fun (s, c) => AddI u b s c ∧ b.length ≤ s.length) (fun (s, c) => u.length - s.length) (fun (s, c) => [(0, .arr 0 0 z.length), (6, .val (.int .u64 c)), (8, .val (.int .i64 ((t : Int) + (s.length : Int))))]) (fun _ => []) (fun (s, c) => [some ⟨1, 44, .w .u64 (ins z t s)⟩]) (s0, c0) tok (fun (s, c) => ⟨⟨Nat.one_pos, trivial, trivial, trivial⟩, trivial, by simp only [List.length_cons, List.length_nil]; omega⟩) ?_ ⟨rfl, rfl, iv_eq (by omega), trivial⟩ ⟨[], rfl⟩ ⟨[], rfl⟩ ?_; rotate_left; rintro ⟨s, c⟩ ⟨hJ, hJb⟩; have hJ2 := hJ; obtain ⟨i1, i2, i3, i4⟩ := hJ2; have ru := rd_bd (by decide) oku (s.length : Int); have hil : (ins z t s).length = z.length := ins_len (by omega); have hx : (ins z t s).getD (0 + ((t : Int) + (s.length : Int)).toNat) 0 = rd u (s.length : Int) := (by rw [show 0 + ((t : Int) + (s.length : Int)).toNat = t + s.length by omega, ins_get (by omega), ← rd_drop, hu]); have hcr := fun hc => hJ.carry hJb hno hc)
  | ((with_reducible refine lg ?_); refine loop_g (A := List Int × Int) (fun (s, c) => AddI b u s c) (fun (s, c) => b.length - s.length) (fun (s, c) => [(0, .arr 0 0 z.length), (1, .ws .u64 b), (2, .val (.int .i64 (t : Int))), (6, .val (.int .u64 c)), (10, .val (.int .i64 (b.length : Int))), (11, .val (.int .i64 (s.length : Int)))]) (fun _ => []) (fun (s, c) => [some ⟨1, 44, .w .u64 (ins z t s)⟩]) ([], 0) tok (fun (s, c) => ⟨⟨Nat.one_pos, trivial, trivial, trivial, trivial, trivial, trivial⟩, trivial, by simp only [List.length_cons, List.length_nil]; omega⟩) ?_ ⟨rfl, rfl, rfl, rfl, rfl, rfl, trivial⟩ ⟨[], rfl⟩ ⟨[], (by dsimp only; rw [ins_nil]; rfl)⟩ ?_; rotate_left; rintro ⟨s0, c0⟩ hI; have hI2 := hI; obtain ⟨j1, j2, j3, j4⟩ := hI2; have rb := rd_bd (by decide) okb (s0.length : Int); have ru0 := rd_bd (by decide) oku (s0.length : Int); have hil0 : (ins z t s0).length = z.length := ins_len (by omega); have hx0 : (ins z t s0).getD (0 + ((t : Int) + (s0.length : Int)).toNat) 0 = rd u (s0.length : Int) := (by rw [show 0 + ((t : Int) + (s0.length : Int)).toNat = t + s0.length by omega, ins_get (by omega), ← rd_drop, hu]))
  
  | (with_reducible refine draw_g (id := 4) [[], [0], [1], [2], [3], [4], [5], [6], [7], [10], [11], [14, 8, 9, 12, 13, 15], [16], [17], [18, 19], [20, 21]] tok mixed (by kernel_rfl) ?_)
  | (with_reducible refine Chk.mk' (by first | omega | exact trivial | (simp only [List.length_append, List.length_set, List.length_replicate, List.length_take, List.length_drop, List.length_cons, List.length_nil, List.length_map]; omega)) ?_)
  | (with_reducible refine wrap_g (by dsimp only [inR]; omega) ?_)
  | (with_reducible refine idx_g (by omega) ?_)
  | (with_reducible refine idx_l _ rfl (by decide) ?_)
  | (with_reducible refine BothG.mk ?_ ?_)
  | (with_reducible refine fork_tt ?_) | (with_reducible refine fork_ff ?_)
  | (with_reducible refine fork_e (c := true) (by decide) ?_; with_reducible refine fork_tt ?_) | (with_reducible refine fork_e (c := false) (by decide) ?_; with_reducible refine fork_ff ?_)
  | (with_reducible refine fork_t (by omega) ?_) | (with_reducible refine fork_f (by omega) ?_)
  | (with_reducible refine fork_d ?_ ?_ <;> intro hc)
  | (with_reducible refine fork_n ?_)
  | (with_reducible refine fork_b ?_ ?_ <;> intro hc)
  | (with_reducible refine SlcG.mk (by omega) ?_)
  | (with_reducible refine MakG.mk (by dsimp only; omega) ?_)
  | (with_reducible refine AppG.mk (by first | omega | (simp only [List.length_append, List.length_set, List.length_replicate, List.length_take, List.length_drop, List.length_cons, List.length_nil, List.length_map]; omega)) (by dsimp only [List.length_cons, List.length_nil]; omega) (by omega) ?_)
  | (with_reducible refine div_g (by omega) (by omega) (by dsimp only [inR]; omega) ?_)
  | (with_reducible refine mod_g (by omega) (by omega) ?_)
  | (with_reducible refine mask_g (m := 4294967296) 32 rfl rfl (by decide) (by omega) ?_)
  | (with_reducible refine shr_g (m := 4294967296) 32 rfl (by decide) (by omega) rfl ?_)
  | (with_reducible refine fz_all (by omega) ?_)
  | (with_reducible refine Stuck.h (A := RetE _ _) ?_) | (with_reducible refine Stuck.h (A := RetM _ _ _ _) ?_) | (with_reducible refine Stuck.h (A := Again _ _ _ _ _ _ _ _) ?_) | (with_reducible refine Stuck.h (A := CallF _ _ _ _ _ _ _) ?_) | (with_reducible refine Stuck.h (A := LoopG _ _ _ _ _ _ _ _) ?_) | (with_reducible refine Stuck.h (A := DrawG _ _ _ _ _ _ _ _) ?_)
  | (with_reducible refine Stuck.h (A := WrapG _ _ _) ?_) | (with_reducible refine Stuck.h (A := DivG _ _ _ _) ?_) | (with_reducible refine Stuck.h (A := ModG _ _ _) ?_) | (with_reducible refine Stuck.h (A := ShlG _ _ _ _) ?_) | (with_reducible refine Stuck.h (A := ShrG _ _ _ _) ?_) | (with_reducible refine Stuck.h (A := BitG _ _ _ _ _) ?_)
  | (with_reducible refine Stuck.h (A := IdxG _ _ _) ?_) | (with_reducible refine Stuck.h (A := IdxL _ _ _) ?_) | (with_reducible refine Stuck.h (A := SlcG _ _ _ _ _) ?_) | (with_reducible refine Stuck.h (A := MakG _ _ _ _) ?_) | (with_reducible refine Stuck.h (A := AppG _ _ _ _ _ _ _) ?_) | (with_reducible refine Stuck.h (A := FzG _ _ _ _) ?_)
  | (with_reducible refine Stuck.h (A := RawG _) ?_) | (with_reducible refine Stuck.h (A := TabG _ _ _ _ _) ?_) | (with_reducible refine Stuck.h (A := ExtF _ _ _ _) ?_) | (with_reducible refine Stuck.h (A := Chk _ _) ?_) | (with_reducible refine Stuck.h (A := False) ?_))
  · refine ⟨again (s0 ++ [((ins z t s0).getD (0 + ((t : Int) + (s0.length : Int)).toNat) 0 + rd b (s0.length : Int) + c0) % 18446744073709551616], ((ins z t s0).getD (0 + ((t : Int) + (s0.length : Int)).toNat) 0 + rd b (s0.length : Int) + c0) / 18446744073709551616) (hI.step (by omega) okb oku (by rw [hx0]; omega)) (by dsimp only; rw [len_snoc]; omega) ⟨rfl, rfl, rfl, rfl, rfl, iv_eq (by rw [len_snoc]; omega), trivial⟩ ⟨[], rfl⟩ ⟨[], ?_⟩⟩
    have hset := ins_set (p := z) (s := s0) (lo := t) (((ins z t s0).getD (0 + ((t : Int) + (s0.length : Int)).toNat) 0 + rd b (s0.length : Int) + c0) % 18446744073709551616) (by omega)
    dsimp only
    rw [← hset, show 0 + ((t : Int) + (s0.length : Int)).toNat = t + s0.length by omega]; rfl
  · have hlt := hcr hc
    refine ⟨again (s ++ [((ins z t s).getD (0 + ((t : Int) + (s.length : Int)).toNat) 0 + 0 + c) % 18446744073709551616], ((ins z t s).getD (0 + ((t : Int) + (s.length : Int)).toNat) 0 + 0 + c) / 18446744073709551616) ⟨hJ.step hlt oku okb (by rw [hx, rd_out b s.length hJb]), by rw [len_snoc]; omega⟩ (by dsimp only; rw [len_snoc]; omega) ⟨rfl, rfl, iv_eq (by rw [len_snoc]; omega), trivial⟩ ⟨[], rfl⟩ ⟨[], ?_⟩⟩
    have hset := ins_set (p := z) (s := s) (lo := t) (((ins z t s).getD (0 + ((t : Int) + (s.length : Int)).toNat) 0 + 0 + c) % 18446744073709551616) (by omega)
    dsimp only
    rw [← hset, show 0 + ((t : Int) + (s.length : Int)).toNat = t + s.length by omega]; rfl
  · have hc0 : c = 0 := by omega
    subst hc0
    rw [hu] at hJ
    exact ⟨ret_m [0] (.tup []) [some ⟨1, 44, .w .u64 (ins z t s)⟩] rfl rfl (by simp) (fun i h => one_row h) rfl ⟨rfl, ins z t s, hil, ins_okD okz i2, hJ.final hJb (by omega), rfl⟩⟩
  · exact ⟨hI.swap (by omega), by omega⟩
  · exact ⟨Nat.zero_le _, okD_nil _, by decide, by simp [vl]⟩
theorem SubI.carry {u v s : List Int} {c : Int} (h : SubI u v s c) (hv : v.length ≤ s.length) (hle : vl 18446744073709551616 v ≤ vl 18446744073709551616 u) (hc : 0 < c) : s.length < u.length := by
  obtain ⟨h1, h2, h3, h4⟩ := h
  rcases Nat.lt_or_ge s.length u.length with h5 | h5
  · exact h5
  · exfalso
    rw [List.take_of_length_le (by omega), List.take_of_length_le (by omega), show c = 1 by omega, Int.mul_one] at h4
    have b2 := vl_lt (B := 18446744073709551616) (by decide) h2
    omega
theorem ins_front {z s : List Int} {n : Nat} (h : s.length ≤ n) : (ins z 0 s).take n = ins (z.take n) 0 s := by
  unfold ins
  rw [List.take_zero, List.take_zero, List.nil_append, Nat.zero_add, List.take_append, List.take_of_length_le h, List.drop_take]
theorem SubI.final {z b s : List Int} {n : Nat} (h : SubI (z.take n) b s 0) (hb : b.length ≤ s.length) (hn : n ≤ z.length) : vl 18446744073709551616 ((ins z 0 s).take n) = vl 18446744073709551616 (z.take n) - vl 18446744073709551616 b := by
  obtain ⟨h1, h2, h3, h4⟩ := h
  have hl : s.length ≤ n := by rw [List.length_take] at h1; omega
  rw [ins_front hl, ins_vl 18446744073709551616 (by omega), List.take_zero, Nat.zero_add, vl_split 18446744073709551616 (z.take n) s.length h1]
  rw [List.take_of_length_le (l := b) hb, Int.mul_zero, Int.sub_zero] at h4
  rw [h4, Int.pow_zero, Int.one_mul]
  simp only [vl]
  omega
theorem m_takeaway (z b : List Int) (n : Nat) (okz : okD 18446744073709551616 z) (okb : okD 18446744073709551616 b) (hz : z.length ≤ 1152921504606846976) (hn : n ≤ z.length) (hb : b.length ≤ n) (hle : vl 18446744073709551616 b ≤ vl 18446744073709551616 (z.take n)) :
    PM Tryz.prog G 173 [.arr 0 0 n, .ws .u64 b] [⟨1, 44, .w .u64 z⟩] (fun r rs => r = .tup [] ∧ ∃ c : List Int, c.length = z.length ∧ okD 18446744073709551616 c ∧ vl 18446744073709551616 (c.take n) = vl 18446744073709551616 (z.take n) - vl 18446744073709551616 b ∧ rs = [some ⟨1, 44, .w .u64 c⟩]) := by
  obtain ⟨u, hu⟩ : ∃ u, u = z.take n := ⟨_, rfl⟩
  have hul : u.length = n := by rw [hu, List.length_take]; omega
  have oku : okD 18446744073709551616 u := by rw [hu]; exact okz.take n
  have hru : ∀ j : Nat, j < n → rd u (j : Int) = rd z (j : Int) := fun j hj => by
    rw [hu]
    simp only [rd, Int.toNat_natCast, List.getD_eq_getElem?_getD, List.getElem?_take, if_pos hj]
  rw [← hu] at hle
  refine PM.intro (X := XX) tok Tryz.func173 rfl Tryz.ntmps173 (by rw [Tryz.results173]) (by kernel_rfl) rfl ?_; intro F hG hO; simp only [List.length_cons, List.length_nil, Nat.zero_add, Nat.reduceAdd] at hO
  repeat' ((try (conv => whnf)); first
  | (with_reducible refine sub64_g (by omega) (by omega) (by omega) ?_)
  | ((with_reducible refine lg ?_); refine loop_g (A := List Int × Int) (fun (s, c) => SubI u b s c ∧ b.length ≤ s.length) (fun (s, c) => u.length - s.length) (fun (s, c) => [(0, .arr 0 0 n), (4, .val (.int .u64 c)), (6, .val (.int .i64 (s.length : Int)))]) (fun _ => []) (fun (s, c) => [some ⟨1, 44, .w .u64 (ins z 0 s)⟩]) (s0, c0) tok (fun (s, c) => ⟨⟨Nat.one_pos, trivial, trivial, trivial⟩, trivial, by simp only [List.length_cons, List.length_nil]; omega⟩) ?_ ⟨rfl, rfl, iv_eq (by omega), trivial⟩ ⟨[], rfl⟩ ⟨[], rfl⟩ ?_; rotate_left; rintro ⟨s, c⟩ ⟨hJ, hJb⟩; have hJ2 := hJ; obtain ⟨i1, i2, i3, i4⟩ := hJ2; have ru := rd_bd (by decide) oku (s.length : Int); have hil : (ins z 0 s).length = z.length := ins_len (by omega); have hx : Unit → s.length < n → (ins z 0 s).getD (0 + (s.length : Int).toNat) 0 = rd u (s.length : Int) := (fun _ h => by rw [Int.toNat_natCast, ins_get (by omega), hru _ h, Nat.zero_add]); have rz := gd_bd (by decide) (ins_okD (lo := 0) okz i2) (0 + (s.length : Int).toNat); have hcr := fun hc => hJ.carry hJb hle hc)
  | ((with_reducible refine lg ?_); refine loop_g (A := List Int × Int) (fun (s, c) => SubI u b s c ∧ s.length ≤ b.length) (fun (s, c) => b.length - s.length) (fun (s, c) => [(0, .arr 0 0 n), (1, .ws .u64 b), (4, .val (.int .u64 c)), (8, .val (.int .i64 (b.length : Int))), (9, .val (.int .i64 (s.length : Int)))]) (fun _ => []) (fun (s, c) => [some ⟨1, 44, .w .u64 (ins z 0 s)⟩]) ([], 0) tok (fun (s, c) => ⟨⟨Nat.one_pos, trivial, trivial, trivial, trivial, trivial⟩, trivial, by simp only [List.length_cons, List.length_nil]; omega⟩) ?_ ⟨rfl, rfl, rfl, rfl, rfl, trivial⟩ ⟨[], rfl⟩ ⟨[], (by dsimp only; rw [ins_nil]; rfl)⟩ ?_; rotate_left; rintro ⟨s0, c0⟩ ⟨hI, hIb⟩; have hI2 := hI; obtain ⟨j1, j2, j3, j4⟩ := hI2; have rb := rd_bd (by decide) okb (s0.length : Int); have hil0 : (ins z 0 s0).length = z.length := ins_len (by omega); have hx0 : Unit → s0.length < n → (ins z 0 s0).getD (0 + (s0.length : Int).toNat) 0 = rd u (s0.length : Int) := (fun _ h => by rw [Int.toNat_natCast, ins_get (by omega), hru _ h, Nat.zero_add]); have rz0 := gd_bd (by decide) (ins_okD (lo := 0) okz j2) (0 + (s0.length : Int).toNat))
  
  | (with_reducible refine draw_g (id := 4) [[], [0], [1], [2], [3], [6], [7], [10, 4, 5, 8, 9, 11], [12], [13], [14, 15], [16, 17]] tok mixed (by kernel_rfl) ?_)
  | (with_reducible refine Chk.mk' (by first | omega | exact trivial | (simp only [List.length_append, List.length_set, List.length_replicate, List.length_take, List.length_drop, List.length_cons, List.length_nil, List.length_map]; omega)) ?_)
  | (with_reducible refine wrap_g (by dsimp only [inR]; omega) ?_)
  | (with_reducible refine idx_g (by omega) ?_)
  | (with_reducible refine idx_l _ rfl (by decide) ?_)
  | (with_reducible refine BothG.mk ?_ ?_)
  | (with_reducible refine fork_tt ?_) | (with_reducible refine fork_ff ?_)
  | (with_reducible refine fork_e (c := true) (by decide) ?_; with_reducible refine fork_tt ?_) | (with_reducible refine fork_e (c := false) (by decide) ?_; with_reducible refine fork_ff ?_)
  | (with_reducible refine fork_t (by omega) ?_) | (with_reducible refine fork_f (by omega) ?_)
  | (with_reducible refine fork_d ?_ ?_ <;> intro hc)
  | (with_reducible refine fork_n ?_)
  | (with_reducible refine fork_b ?_ ?_ <;> intro hc)
  | (with_reducible refine SlcG.mk (by omega) ?_)
  | (with_reducible refine MakG.mk (by dsimp only; omega) ?_)
  | (with_reducible refine AppG.mk (by first | omega | (simp only [List.length_append, List.length_set, List.length_replicate, List.length_take, List.length_drop, List.length_cons, List.length_nil, List.length_map]; omega)) (by dsimp only [List.length_cons, List.length_nil]; omega) (by omega) ?_)
  | (with_reducible refine div_g (by omega) (by omega) (by dsimp only [inR]; omega) ?_)
  | (with_reducible refine mod_g (by omega) (by omega) ?_)
  | (with_reducible refine mask_g (m := 4294967296) 32 rfl rfl (by decide) (by omega) ?_)
  | (with_reducible refine shr_g (m := 4294967296) 32 rfl (by decide) (by omega) rfl ?_)
  | (with_reducible refine fz_all (by omega) ?_)
  | (with_reducible refine Stuck.h (A := RetE _ _) ?_) | (with_reducible refine Stuck.h (A := RetM _ _ _ _) ?_) | (with_reducible refine Stuck.h (A := Again _ _ _ _ _ _ _ _) ?_) | (with_reducible refine Stuck.h (A := CallF _ _ _ _ _ _ _) ?_) | (with_reducible refine Stuck.h (A := LoopG _ _ _ _ _ _ _ _) ?_) | (with_reducible refine Stuck.h (A := DrawG _ _ _ _ _ _ _ _) ?_)
  | (with_reducible refine Stuck.h (A := WrapG _ _ _) ?_) | (with_reducible refine Stuck.h (A := DivG _ _ _ _) ?_) | (with_reducible refine Stuck.h (A := ModG _ _ _) ?_) | (with_reducible refine Stuck.h (A := ShlG _ _ _ _) ?_) | (with_reducible refine Stuck.h (A := ShrG _ _ _ _) ?_) | (with_reducible refine Stuck.h (A := BitG _ _ _ _ _) ?_)
  | (with_reducible refine Stuck.h (A := IdxG _ _ _) ?_) | (with_reducible refine Stuck.h (A := IdxL _ _ _) ?_) | (with_reducible refine Stuck.h (A := SlcG _ _ _ _ _) ?_) | (with_reducible refine Stuck.h (A := MakG _ _ _ _) ?_) | (with_reducible refine Stuck.h (A := AppG _ _ _ _ _ _ _) ?_) | (with_reducible refine Stuck.h (A := FzG _ _ _ _) ?_)
  | (with_reducible refine Stuck.h (A := RawG _) ?_) | (with_reducible refine Stuck.h (A := TabG _ _ _ _ _) ?_) | (with_reducible refine Stuck.h (A := ExtF _ _ _ _) ?_) | (with_reducible refine Stuck.h (A := Chk _ _) ?_) | (with_reducible refine Stuck.h (A := False) ?_))
  · refine ⟨again (s0 ++ [((ins z 0 s0).getD (0 + (s0.length : Int).toNat) 0 - rd b (s0.length : Int) - c0) % 18446744073709551616], -(((ins z 0 s0).getD (0 + (s0.length : Int).toNat) 0 - rd b (s0.length : Int) - c0) / 18446744073709551616)) ⟨hI.step (by omega) oku okb (by rw [hx0 () (by omega)]), by rw [len_snoc]; omega⟩ (by dsimp only; rw [len_snoc]; omega) ⟨rfl, rfl, rfl, rfl, iv_eq (by rw [len_snoc]; omega), trivial⟩ ⟨[], rfl⟩ ⟨[], ?_⟩⟩
    have hset := ins_set (p := z) (s := s0) (lo := 0) (((ins z 0 s0).getD (0 + (s0.length : Int).toNat) 0 - rd b (s0.length : Int) - c0) % 18446744073709551616) (by omega)
    dsimp only
    rw [← hset]; rfl
  · have hlt := hcr hc
    refine ⟨again (s ++ [((ins z 0 s).getD (0 + (s.length : Int).toNat) 0 - 0 - c) % 18446744073709551616], -(((ins z 0 s).getD (0 + (s.length : Int).toNat) 0 - 0 - c) / 18446744073709551616)) ⟨hJ.step hlt oku okb (by rw [hx () (by omega), rd_out b s.length hJb]), by rw [len_snoc]; omega⟩ (by dsimp only; rw [len_snoc]; omega) ⟨rfl, rfl, iv_eq (by rw [len_snoc]; omega), trivial⟩ ⟨[], rfl⟩ ⟨[], ?_⟩⟩
    have hset := ins_set (p := z) (s := s) (lo := 0) (((ins z 0 s).getD (0 + (s.length : Int).toNat) 0 - 0 - c) % 18446744073709551616) (by omega)
    dsimp only
    rw [← hset]; rfl
  · have hc0 : c = 0 := by omega
    subst hc0
    rw [hu] at hJ
    exact ⟨ret_m [0] (.tup []) [some ⟨1, 44, .w .u64 (ins z 0 s)⟩] rfl rfl (by simp) (fun i h => one_row h) rfl ⟨rfl, ins z 0 s, hil, ins_okD okz i2, hJ.final hJb hn, rfl⟩⟩
  · exact ⟨hI, by omega⟩
  · exact ⟨⟨Nat.zero_le _, okD_nil _, by decide, by simp [vl]⟩, Nat.zero_le _⟩
end Go.Proofs.YtbeocnjlepcglaaGreatDoor.Sim
namespace Go.Proofs.YtbeocnjlepcglaaGreatDoor.Sim
open Go.RowKit
set_option linter.unusedVariables false
set_option linter.unusedSimpArgs false
set_option maxRecDepth 10000
set_option maxHeartbeats 8000000
variable {G : List (Nat × List Value)}
theorem FC.of_row {f : FuncId} {args : List PV} {T : TypeId} {l : List Int} (h : PM Tryz.prog G f args [] (fun r rs => r = .arr 0 0 l.length ∧ ∃ c : List Int, l.length ≤ c.length ∧ c.take l.length = l ∧ rs = [some ⟨1, T, .w .u64 c⟩])) : FC Tryz.prog G f args (· = .ws .u64 l) :=
  FC.of_pm h (by rintro r rs ⟨rfl, c, h1, h2, rfl⟩; exact (fz_g (by omega) (by rw [List.drop_zero]; exact h2) (ret_e rfl) : FzG c 0 l.length fun B => RetE (· = .ws .u64 l) (.ws .u64 B)))
theorem d64_len (X : Nat) : (d64 X).length = L64 X := rfl
theorem trim_pos {c : List Int} {X : Nat} (ok : okD 18446744073709551616 c) (h : vl 18446744073709551616 c = X) : trim c = d64 X := by
  rw [trim64 ok, h, Int.toNat_natCast]
theorem trim_pre : ∀ (c : List Int), c.take (trim c).length = trim c
  | [] => rfl
  | x :: c => by
    have ih := trim_pre c
    simp only [trim]
    cases h : trim c with
    | nil =>
      simp only
      by_cases h0 : x = 0
      · rw [if_pos h0]; rfl
      · rw [if_neg h0]; rfl
    | cons y l =>
      rw [h] at ih
      simp only
      rw [List.length_cons, List.take_succ_cons, ih]
/-- The part of a natural from the limb k on. -/
theorem d64_hi (X k : Nat) : (d64 X).drop k = d64 (X / 2 ^ (64 * k)) := d64_drop X k
theorem trim_lo (X k : Nat) : trim ((d64 X).take k) = d64 (X % 2 ^ (64 * k)) := by
  rw [trim64 ((d64_ok X).1.take k), d64_take, Int.toNat_natCast]
theorem m_cut (X k : Nat) (hX : L64 X ≤ 1152921504606846976) (hk : k ≤ 1152921504606846976) : FC Tryz.prog G 171 [.ws .u64 (d64 X), .val (.int .i64 (k : Int))] (· = .tup [.ws .u64 (d64 (X % 2 ^ (64 * k))), .ws .u64 (d64 (X / 2 ^ (64 * k)))]) := by
  have hl : (d64 X).length = L64 X := rfl
  have f1 := m_trimw (G := G) ((d64 X).take k) (by rw [List.length_take]; omega)
  rw [trim_lo] at f1
  have f2 := m_trimw (G := G) (d64 X) (by omega)
  rw [d64_trim] at f2
  have hd := d64_hi X k
  obtain ⟨a, ha⟩ : ∃ a, a = d64 X := ⟨_, rfl⟩
  rw [← ha] at hl f1 f2 hd ⊢
  refine FC.intro (X := XX) tok Tryz.func171 rfl Tryz.ntmps171 (by rw [Tryz.results171]) (by kernel_rfl) rfl ?_; intro F hG hO
  rw [← hG] at f1 f2
  repeat' ((try (conv => whnf)); first
  | ((with_reducible refine cg ?_); simp only [List.drop_zero, Int.toNat_natCast, Nat.sub_zero, List.take_length, Int.toNat_zero]; refine call_eq f1 (LpL.refl _) rfl ?_)
  | ((with_reducible refine cg ?_); simp only [List.drop_zero, Int.toNat_natCast, Nat.sub_zero, List.take_length, Int.toNat_zero]; refine call_eq f2 (LpL.refl _) rfl ?_)
  
  | (with_reducible refine draw_g (id := 3) [[0, 1, 2, 3, 5, 6, 7, 8, 9, 10, 11, 4, 12, 13]] tok mixed (by kernel_rfl) ?_)
  | (with_reducible refine Chk.mk' (by first | omega | exact trivial | (simp only [List.length_append, List.length_set, List.length_replicate, List.length_take, List.length_drop, List.length_cons, List.length_nil, List.length_map]; omega)) ?_)
  | (with_reducible refine wrap_g (by dsimp only [inR]; omega) ?_)
  | (with_reducible refine idx_g (by omega) ?_)
  | (with_reducible refine idx_l _ rfl (by decide) ?_)
  | (with_reducible refine BothG.mk ?_ ?_)
  | (with_reducible refine fork_tt ?_) | (with_reducible refine fork_ff ?_)
  | (with_reducible refine fork_e (c := true) (by decide) ?_; with_reducible refine fork_tt ?_) | (with_reducible refine fork_e (c := false) (by decide) ?_; with_reducible refine fork_ff ?_)
  | (with_reducible refine fork_t (by omega) ?_) | (with_reducible refine fork_f (by omega) ?_)
  | (with_reducible refine fork_d ?_ ?_ <;> intro hc)
  | (with_reducible refine fork_n ?_)
  | (with_reducible refine fork_b ?_ ?_ <;> intro hc)
  | (with_reducible refine SlcG.mk (by omega) ?_)
  | (with_reducible refine MakG.mk (by dsimp only; omega) ?_)
  | (with_reducible refine AppG.mk (by first | omega | (simp only [List.length_append, List.length_set, List.length_replicate, List.length_take, List.length_drop, List.length_cons, List.length_nil, List.length_map]; omega)) (by dsimp only [List.length_cons, List.length_nil]; omega) (by omega) ?_)
  | (with_reducible refine div_g (by omega) (by omega) (by dsimp only [inR]; omega) ?_)
  | (with_reducible refine mod_g (by omega) (by omega) ?_)
  | (with_reducible refine mask_g (m := 4294967296) 32 rfl rfl (by decide) (by omega) ?_)
  | (with_reducible refine shr_g (m := 4294967296) 32 rfl (by decide) (by omega) rfl ?_)
  | (with_reducible refine fz_all (by omega) ?_)
  | (with_reducible refine Stuck.h (A := RetE _ _) ?_) | (with_reducible refine Stuck.h (A := RetM _ _ _ _) ?_) | (with_reducible refine Stuck.h (A := Again _ _ _ _ _ _ _ _) ?_) | (with_reducible refine Stuck.h (A := CallF _ _ _ _ _ _ _) ?_) | (with_reducible refine Stuck.h (A := LoopG _ _ _ _ _ _ _ _) ?_) | (with_reducible refine Stuck.h (A := DrawG _ _ _ _ _ _ _ _) ?_)
  | (with_reducible refine Stuck.h (A := WrapG _ _ _) ?_) | (with_reducible refine Stuck.h (A := DivG _ _ _ _) ?_) | (with_reducible refine Stuck.h (A := ModG _ _ _) ?_) | (with_reducible refine Stuck.h (A := ShlG _ _ _ _) ?_) | (with_reducible refine Stuck.h (A := ShrG _ _ _ _) ?_) | (with_reducible refine Stuck.h (A := BitG _ _ _ _ _) ?_)
  | (with_reducible refine Stuck.h (A := IdxG _ _ _) ?_) | (with_reducible refine Stuck.h (A := IdxL _ _ _) ?_) | (with_reducible refine Stuck.h (A := SlcG _ _ _ _ _) ?_) | (with_reducible refine Stuck.h (A := MakG _ _ _ _) ?_) | (with_reducible refine Stuck.h (A := AppG _ _ _ _ _ _ _) ?_) | (with_reducible refine Stuck.h (A := FzG _ _ _ _) ?_)
  | (with_reducible refine Stuck.h (A := RawG _) ?_) | (with_reducible refine Stuck.h (A := TabG _ _ _ _ _) ?_) | (with_reducible refine Stuck.h (A := ExtF _ _ _ _) ?_) | (with_reducible refine Stuck.h (A := Chk _ _) ?_) | (with_reducible refine Stuck.h (A := False) ?_))
  · have hlt : X < 2 ^ (64 * k) := Nat.lt_of_lt_of_le (L64_lt X) (Nat.pow_le_pow_right (by decide) (by omega))
    refine ⟨ret_l (.tup [.ws .u64 a, .ws .u64 []]) (.tup (.cons (.refl _) (.cons (.nil _) .nil))) ?_⟩
    rw [Nat.mod_eq_of_lt hlt, Nat.div_eq_of_lt hlt, d64_0, ha]
  · exact ⟨ret_e (by rw [hd])⟩
theorem row_eq {T : TypeId} {p : List Int} {k k' : Nat} {w w' : Int} (h1 : k = k') (h2 : w = w') : ([some ⟨1, T, .w .u64 (p.set k w)⟩] : List (Option Row)) = [some ⟨1, T, .w .u64 (p.set k' w')⟩] ++ [] := by subst h1; subst h2; rfl
theorem mul_bd64 {x y : Int} (hx : 0 ≤ x ∧ x < 18446744073709551616) (hy : 0 ≤ y ∧ y < 18446744073709551616) : 0 ≤ x * y ∧ x * y ≤ 340282366920938463426481119284349108225 := by
  refine ⟨Int.mul_nonneg hx.1 hy.1, ?_⟩
  have h1 : x * y ≤ 18446744073709551615 * y := Int.mul_le_mul_of_nonneg_right (by omega) hy.1
  omega
theorem m_rows (a b : List Int) (hX : a.length ≤ 1073741824) (hY : b.length ≤ 1073741824) (oka : okD 18446744073709551616 a) (okb : okD 18446744073709551616 b) :
    PM Tryz.prog G 161 [.arr 0 0 (a.length + b.length), .ws .u64 a, .ws .u64 b] [⟨1, 44, .w .u64 (List.replicate (a.length + b.length) 0)⟩] (fun r rs => r = .tup [] ∧ ∃ c : List Int, c.length = a.length + b.length ∧ okD 18446744073709551616 c ∧ vl 18446744073709551616 c = vl 18446744073709551616 a * vl 18446744073709551616 b ∧ rs = [some ⟨1, 44, .w .u64 c⟩]) := by
  refine PM.intro (X := XX) tok Tryz.func161 rfl Tryz.ntmps161 (by rw [Tryz.results161]) (by kernel_rfl) rfl ?_; intro F hG hO; simp only [List.length_cons, List.length_nil, Nat.zero_add, Nat.reduceAdd] at hO
  repeat' ((try (conv => whnf)); first
  | (with_reducible refine add64_g (by omega) (by omega) (by omega) ?_)
  | ((with_reducible refine cg ?_); refine call_eq (b_mul (rd a (i : Int)) (rd b (j : Int)) ra rb) (LpL.refl _) rfl ?_)
  | ((with_reducible refine lg ?_); refine loop_g (A := Nat × List Int × Int) (fun (i, p, c) => i ≤ a.length ∧ (0 ≤ c ∧ c < 18446744073709551616) ∧ p.length = a.length + b.length ∧ okD 18446744073709551616 p ∧ p.drop (j + i) = p0.drop (j + i) ∧ vl 18446744073709551616 p + 18446744073709551616 ^ (j + i) * c = vl 18446744073709551616 p0 + 18446744073709551616 ^ j * (rd b j * vl 18446744073709551616 (a.take i))) (fun (i, p, c) => a.length - i) (fun (i, p, c) => [(0, .arr 0 0 (a.length + b.length)), (1, .ws .u64 a), (2, .ws .u64 b), (6, .val (.int .i64 (j : Int))), (7, .val (.int .u64 c)), (13, .val (.int .i64 (b.length : Int))), (14, .val (.int .i64 (j : Int))), (18, .val (.int .i64 (a.length : Int))), (19, .val (.int .i64 (i : Int)))]) (fun _ => []) (fun (i, p, c) => [some ⟨1, 44, .w .u64 p⟩]) (0, p0, 0) tok (fun (i, p, c) => ⟨⟨Nat.one_pos, trivial, trivial, trivial, trivial, trivial, trivial, trivial, trivial, trivial⟩, trivial, by simp only [List.length_cons, List.length_nil]; omega⟩) ?_ ⟨rfl, rfl, rfl, rfl, rfl, rfl, rfl, rfl, rfl, trivial⟩ ⟨[], rfl⟩ ⟨[], rfl⟩ ?_; rotate_left; rintro ⟨i, p, c⟩ ⟨g1, g2, g5, g6, g7, g8⟩; have ra := rd_bd (by decide) oka (i : Int); have rp := gd_bd (by decide) g6 (0 + ((i : Int) + (j : Int)).toNat); have rm := mul_bd64 ra rb)
  | ((with_reducible refine lg ?_); refine loop_g (A := Nat × List Int) (fun (j, p0) => j ≤ b.length ∧ p0.length = a.length + b.length ∧ okD 18446744073709551616 p0 ∧ (∀ k : Nat, j + a.length ≤ k → rd p0 k = 0) ∧ vl 18446744073709551616 p0 = vl 18446744073709551616 (b.take j) * vl 18446744073709551616 a) (fun (j, p0) => b.length - j) (fun (j, p0) => [(0, .arr 0 0 (a.length + b.length)), (1, .ws .u64 a), (2, .ws .u64 b), (13, .val (.int .i64 (b.length : Int))), (14, .val (.int .i64 (j : Int)))]) (fun _ => []) (fun (j, p0) => [some ⟨1, 44, .w .u64 p0⟩]) (0, List.replicate (a.length + b.length) 0) tok (fun (j, p0) => ⟨⟨Nat.one_pos, trivial, trivial, trivial, trivial, trivial⟩, trivial, by simp only [List.length_cons, List.length_nil]; omega⟩) ?_ ⟨rfl, rfl, rfl, rfl, rfl, trivial⟩ ⟨[], rfl⟩ ⟨[], rfl⟩ ?_; rotate_left; rintro ⟨j, p0⟩ ⟨h1, h5, h6, h7, h8⟩; have rb := rd_bd (by decide) okb (j : Int))
  
  | (with_reducible refine draw_g (id := 7) [[0, 1, 2, 3, 4, 5, 6, 7, 8, 9, 10, 11, 12, 13]] tok mixed (by kernel_rfl) ?_)
  | (with_reducible refine Chk.mk' (by first | omega | exact trivial | (simp only [List.length_append, List.length_set, List.length_replicate, List.length_take, List.length_drop, List.length_cons, List.length_nil, List.length_map]; omega)) ?_)
  | (with_reducible refine wrap_g (by dsimp only [inR]; omega) ?_)
  | (with_reducible refine idx_g (by omega) ?_)
  | (with_reducible refine idx_l _ rfl (by decide) ?_)
  | (with_reducible refine BothG.mk ?_ ?_)
  | (with_reducible refine fork_tt ?_) | (with_reducible refine fork_ff ?_)
  | (with_reducible refine fork_e (c := true) (by decide) ?_; with_reducible refine fork_tt ?_) | (with_reducible refine fork_e (c := false) (by decide) ?_; with_reducible refine fork_ff ?_)
  | (with_reducible refine fork_t (by omega) ?_) | (with_reducible refine fork_f (by omega) ?_)
  | (with_reducible refine fork_d ?_ ?_ <;> intro hc)
  | (with_reducible refine fork_n ?_)
  | (with_reducible refine fork_b ?_ ?_ <;> intro hc)
  | (with_reducible refine SlcG.mk (by omega) ?_)
  | (with_reducible refine MakG.mk (by dsimp only; omega) ?_)
  | (with_reducible refine AppG.mk (by first | omega | (simp only [List.length_append, List.length_set, List.length_replicate, List.length_take, List.length_drop, List.length_cons, List.length_nil, List.length_map]; omega)) (by dsimp only [List.length_cons, List.length_nil]; omega) (by omega) ?_)
  | (with_reducible refine div_g (by omega) (by omega) (by dsimp only [inR]; omega) ?_)
  | (with_reducible refine mod_g (by omega) (by omega) ?_)
  | (with_reducible refine mask_g (m := 4294967296) 32 rfl rfl (by decide) (by omega) ?_)
  | (with_reducible refine shr_g (m := 4294967296) 32 rfl (by decide) (by omega) rfl ?_)
  | (with_reducible refine fz_all (by omega) ?_)
  | (with_reducible refine Stuck.h (A := RetE _ _) ?_) | (with_reducible refine Stuck.h (A := RetM _ _ _ _) ?_) | (with_reducible refine Stuck.h (A := Again _ _ _ _ _ _ _ _) ?_) | (with_reducible refine Stuck.h (A := CallF _ _ _ _ _ _ _) ?_) | (with_reducible refine Stuck.h (A := LoopG _ _ _ _ _ _ _ _) ?_) | (with_reducible refine Stuck.h (A := DrawG _ _ _ _ _ _ _ _) ?_)
  | (with_reducible refine Stuck.h (A := WrapG _ _ _) ?_) | (with_reducible refine Stuck.h (A := DivG _ _ _ _) ?_) | (with_reducible refine Stuck.h (A := ModG _ _ _) ?_) | (with_reducible refine Stuck.h (A := ShlG _ _ _ _) ?_) | (with_reducible refine Stuck.h (A := ShrG _ _ _ _) ?_) | (with_reducible refine Stuck.h (A := BitG _ _ _ _ _) ?_)
  | (with_reducible refine Stuck.h (A := IdxG _ _ _) ?_) | (with_reducible refine Stuck.h (A := IdxL _ _ _) ?_) | (with_reducible refine Stuck.h (A := SlcG _ _ _ _ _) ?_) | (with_reducible refine Stuck.h (A := MakG _ _ _ _) ?_) | (with_reducible refine Stuck.h (A := AppG _ _ _ _ _ _ _) ?_) | (with_reducible refine Stuck.h (A := FzG _ _ _ _) ?_)
  | (with_reducible refine Stuck.h (A := RawG _) ?_) | (with_reducible refine Stuck.h (A := TabG _ _ _ _ _) ?_) | (with_reducible refine Stuck.h (A := ExtF _ _ _ _) ?_) | (with_reducible refine Stuck.h (A := Chk _ _) ?_) | (with_reducible refine Stuck.h (A := False) ?_))
  · obtain ⟨T, hT⟩ : ∃ T : Int, T = c + (p.getD (0 + ((i : Int) + (j : Int)).toNat) 0 + rd a i * rd b j) := ⟨_, rfl⟩
    have hk : 0 + ((i : Int) + (j : Int)).toNat = j + i := by omega
    have hrp : rd p ((j + i : Nat) : Int) = p.getD (0 + ((i : Int) + (j : Int)).toNat) 0 := by rw [hk, gd_rd]
    have hv := vl_set 18446744073709551616 p (j + i) (T % 18446744073709551616) (by omega)
    have hs := sum_step (B := 18446744073709551616) (vs := vl 18446744073709551616 p) (d := T % 18446744073709551616 - rd p ((j + i : Nat) : Int)) (c2 := T / 18446744073709551616) (T := c + rd a i * rd b j) (j + i) (by omega)
    refine ⟨again (i + 1, p.set (j + i) (T % 18446744073709551616), T / 18446744073709551616) ⟨by omega, ⟨by omega, by omega⟩, by simpa using g5, fun x hx => ?_, ?_, ?_⟩ (by dsimp only; omega) ⟨rfl, rfl, rfl, rfl, iv_eq (by omega), rfl, rfl, rfl, rfl, trivial⟩ ⟨[], rfl⟩ ⟨[], by dsimp only; exact row_eq (by omega) (by omega)⟩⟩
    · rcases List.mem_or_eq_of_mem_set hx with h | h
      · exact g6 x h
      · rw [h]; omega
    · rw [← Nat.add_assoc, List.drop_set_of_lt (by omega)]; exact drop_next g7
    · rw [hv, ← Nat.add_assoc, hs, vl_take_step]
      have e1 : (18446744073709551616 : Int) ^ (j + i) * (c + rd a i * rd b j) = 18446744073709551616 ^ (j + i) * c + 18446744073709551616 ^ j * (rd b j * (18446744073709551616 ^ i * rd a i)) := by
        rw [Int.mul_add, Int.pow_add, Int.mul_comm (rd a i) (rd b j), Int.mul_assoc (18446744073709551616 ^ j) (18446744073709551616 ^ i) (rd b j * rd a i), Int.mul_left_comm (18446744073709551616 ^ i) (rd b j) (rd a i)]
      rw [e1, Int.mul_add (rd b j), Int.mul_add (18446744073709551616 ^ j)]
      omega
  · have hk : 0 + ((j : Int) + (a.length : Int)).toNat = j + a.length := by omega
    have hi : i = a.length := by omega
    subst hi
    have hz : rd p ((j + a.length : Nat) : Int) = 0 := by
      have e1 := drop_rd p (j + a.length) (by omega)
      have e2 := drop_rd p0 (j + a.length) (by omega)
      rw [g7, e2] at e1
      have := (List.cons.inj e1).1
      rw [← this]; exact h7 _ (Nat.le_refl _)
    have hv := vl_set 18446744073709551616 p (j + a.length) c (by omega)
    rw [hz, Int.sub_zero] at hv
    refine ⟨again (j + 1, p.set (j + a.length) c) ⟨by omega, by simpa using g5, fun x hx => ?_, fun k hk2 => ?_, ?_⟩ (by dsimp only; omega) ⟨rfl, rfl, rfl, rfl, rfl, trivial⟩ ⟨[], rfl⟩ ⟨[], by dsimp only; exact row_eq (by omega) rfl⟩⟩
    · rcases List.mem_or_eq_of_mem_set hx with h | h
      · exact g6 x h
      · rw [h]; exact g2
    · have e3 : (p.set (j + a.length) c).drop (j + a.length + 1) = p0.drop (j + a.length + 1) := by
        rw [List.drop_set_of_lt (by omega)]; exact drop_next g7
      have e4 : rd (p.set (j + a.length) c) k = rd p0 k := by
        have h0 := congrArg (fun l => l.getD (k - (j + a.length + 1)) 0) e3
        simp only [List.getD_eq_getElem?_getD, List.getElem?_drop] at h0
        rw [show j + a.length + 1 + (k - (j + a.length + 1)) = k by omega] at h0
        simpa [rd, List.getD_eq_getElem?_getD] using h0
      rw [e4]; exact h7 k (by omega)
    · rw [hv, g8, h8, vl_take_step, List.take_length, Int.add_mul, Int.mul_assoc]
  · exact ⟨by omega, ⟨by omega, by omega⟩, h5, h6, rfl, by simp [vl]⟩
  · refine ⟨ret_m [0] (.tup []) [some ⟨1, 44, .w .u64 p0⟩] rfl rfl (by simp) (fun i h => one_row h) rfl ⟨rfl, p0, h5, h6, ?_, rfl⟩⟩
    rw [h8, List.take_of_length_le (by omega), Int.mul_comm]
  · exact ⟨by omega, by simp, fun x hx => by rw [List.eq_of_mem_replicate hx]; decide, fun k _ => by simp [rd, List.getD_eq_getElem?_getD, List.getElem?_replicate]; split <;> rfl, by rw [vl_zero]; simp [vl]⟩
end Go.Proofs.YtbeocnjlepcglaaGreatDoor.Sim
namespace Go.Proofs.YtbeocnjlepcglaaGreatDoor.Sim
open Go.RowKit
set_option linter.unusedVariables false
set_option linter.unusedSimpArgs false
set_option maxRecDepth 10000
set_option maxHeartbeats 8000000
variable {G : List (Nat × List Value)}
theorem pw_le {m n : Nat} (h : m ≤ n) : (18446744073709551616 : Int) ^ m ≤ 18446744073709551616 ^ n := by
  obtain ⟨d, rfl⟩ := Nat.exists_eq_add_of_le h
  rw [Int.pow_add]
  have h1 : (0 : Int) < 18446744073709551616 ^ m := Int.pow_pos (by decide)
  have h2 : (0 : Int) < 18446744073709551616 ^ d := Int.pow_pos (by decide)
  have := Int.mul_le_mul_of_nonneg_left (show (1 : Int) ≤ 18446744073709551616 ^ d by omega) (Int.le_of_lt h1)
  rw [Int.mul_one] at this
  exact this
theorem sum_row (a : List Int) : (List.replicate (a.length + 1) (0 : Int)).take 0 ++ a.take (a.length + 1) ++ (List.replicate (a.length + 1) (0 : Int)).drop (0 + min (a.length + 1) a.length) = a ++ [0] := by
  rw [List.take_zero, List.nil_append, List.take_of_length_le (by omega), show 0 + min (a.length + 1) a.length = a.length by omega, List.drop_replicate, show a.length + 1 - a.length = 1 by omega]
  rfl
theorem m_sum1 (X Y : Nat) (hX : L64 X ≤ 1073741824) (hY : L64 Y ≤ L64 X) : PM Tryz.prog G 172 [.ws .u64 (d64 X), .ws .u64 (d64 Y)] [] (fun r rs => r = .arr 0 0 (d64 (X + Y)).length ∧ ∃ c : List Int, (d64 (X + Y)).length ≤ c.length ∧ c.take (d64 (X + Y)).length = d64 (X + Y) ∧ rs = [some ⟨1, 44, .w .u64 c⟩]) := by
  obtain ⟨a, ea⟩ : ∃ a, a = d64 X := ⟨_, rfl⟩
  obtain ⟨b, eb⟩ : ∃ b, b = d64 Y := ⟨_, rfl⟩
  obtain ⟨oka, va⟩ := d64_ok X
  obtain ⟨okb, vb⟩ := d64_ok Y
  replace hX : (d64 X).length ≤ 1073741824 := hX
  replace hY : (d64 Y).length ≤ (d64 X).length := hY
  rw [← ea] at hX hY oka va
  rw [← eb] at hY okb vb
  rw [← ea, ← eb]
  have hsr := sum_row a
  have hvs : vl 18446744073709551616 (a ++ [0]) = X := by rw [vl_snoc, va]; simp
  have hok : okD 18446744073709551616 (a ++ [0]) := okD_append.2 ⟨oka, okD_cons.2 ⟨by decide, okD_nil _⟩⟩
  have hsl : (a ++ [0]).length = a.length + 1 := by simp
  have hno : vl 18446744073709551616 ((a ++ [0]).drop 0) + vl 18446744073709551616 b < 18446744073709551616 ^ ((a ++ [0]).length - 0) := by
    have h1 := vl_lt (B := 18446744073709551616) (by decide) oka
    have h2 := vl_lt (B := 18446744073709551616) (by decide) okb
    have h3 := vl_nonneg (B := 18446744073709551616) (by decide) okb
    have h4 : (18446744073709551616 : Int) ^ b.length ≤ 18446744073709551616 ^ a.length := by
      exact pw_le hY
    rw [List.drop_zero, hvs, hsl, Nat.sub_zero, Int.pow_succ]
    omega
  refine PM.intro (X := XX) tok Tryz.func172 rfl Tryz.ntmps172 (by rw [Tryz.results172]) (by kernel_rfl) rfl ?_; intro F hG hO; simp only [List.length_cons, List.length_nil, Nat.zero_add, Nat.reduceAdd] at hO
  repeat' ((try (conv => whnf)); first
  | ((with_reducible refine cg ?_); simp only [show ((a.length : Int) + 1).toNat = a.length + 1 by omega, hsr]; refine call_pm [0] (m_addat (a ++ [0]) b 0 (a.length + 1) hsl hok okb (by omega) (by omega) hno) rfl rfl rfl (by simp) ?_; rintro r rs ⟨rfl, c, c1, c2, c3, rfl⟩)
  | ((with_reducible refine cg ?_); refine call_pm [0] (m_trim c (a.length + 1) (by omega) (by omega)) rfl rfl rfl (by simp) ?_; rintro r rs ⟨rfl, rfl⟩)
  
  | (with_reducible refine Chk.mk' (by first | omega | exact trivial | (simp only [List.length_append, List.length_set, List.length_replicate, List.length_take, List.length_drop, List.length_cons, List.length_nil, List.length_map]; omega)) ?_)
  | (with_reducible refine wrap_g (by dsimp only [inR]; omega) ?_)
  | (with_reducible refine idx_g (by omega) ?_)
  | (with_reducible refine idx_l _ rfl (by decide) ?_)
  | (with_reducible refine BothG.mk ?_ ?_)
  | (with_reducible refine fork_tt ?_) | (with_reducible refine fork_ff ?_)
  | (with_reducible refine fork_e (c := true) (by decide) ?_; with_reducible refine fork_tt ?_) | (with_reducible refine fork_e (c := false) (by decide) ?_; with_reducible refine fork_ff ?_)
  | (with_reducible refine fork_t (by omega) ?_) | (with_reducible refine fork_f (by omega) ?_)
  | (with_reducible refine fork_d ?_ ?_ <;> intro hc)
  | (with_reducible refine fork_n ?_)
  | (with_reducible refine fork_b ?_ ?_ <;> intro hc)
  | (with_reducible refine SlcG.mk (by omega) ?_)
  | (with_reducible refine MakG.mk (by dsimp only; omega) ?_)
  | (with_reducible refine AppG.mk (by first | omega | (simp only [List.length_append, List.length_set, List.length_replicate, List.length_take, List.length_drop, List.length_cons, List.length_nil, List.length_map]; omega)) (by dsimp only [List.length_cons, List.length_nil]; omega) (by omega) ?_)
  | (with_reducible refine div_g (by omega) (by omega) (by dsimp only [inR]; omega) ?_)
  | (with_reducible refine mod_g (by omega) (by omega) ?_)
  | (with_reducible refine mask_g (m := 4294967296) 32 rfl rfl (by decide) (by omega) ?_)
  | (with_reducible refine shr_g (m := 4294967296) 32 rfl (by decide) (by omega) rfl ?_)
  | (with_reducible refine fz_all (by omega) ?_)
  | (with_reducible refine Stuck.h (A := RetE _ _) ?_) | (with_reducible refine Stuck.h (A := RetM _ _ _ _) ?_) | (with_reducible refine Stuck.h (A := Again _ _ _ _ _ _ _ _) ?_) | (with_reducible refine Stuck.h (A := CallF _ _ _ _ _ _ _) ?_) | (with_reducible refine Stuck.h (A := LoopG _ _ _ _ _ _ _ _) ?_) | (with_reducible refine Stuck.h (A := DrawG _ _ _ _ _ _ _ _) ?_)
  | (with_reducible refine Stuck.h (A := WrapG _ _ _) ?_) | (with_reducible refine Stuck.h (A := DivG _ _ _ _) ?_) | (with_reducible refine Stuck.h (A := ModG _ _ _) ?_) | (with_reducible refine Stuck.h (A := ShlG _ _ _ _) ?_) | (with_reducible refine Stuck.h (A := ShrG _ _ _ _) ?_) | (with_reducible refine Stuck.h (A := BitG _ _ _ _ _) ?_)
  | (with_reducible refine Stuck.h (A := IdxG _ _ _) ?_) | (with_reducible refine Stuck.h (A := IdxL _ _ _) ?_) | (with_reducible refine Stuck.h (A := SlcG _ _ _ _ _) ?_) | (with_reducible refine Stuck.h (A := MakG _ _ _ _) ?_) | (with_reducible refine Stuck.h (A := AppG _ _ _ _ _ _ _) ?_) | (with_reducible refine Stuck.h (A := FzG _ _ _ _) ?_)
  | (with_reducible refine Stuck.h (A := RawG _) ?_) | (with_reducible refine Stuck.h (A := TabG _ _ _ _ _) ?_) | (with_reducible refine Stuck.h (A := ExtF _ _ _ _) ?_) | (with_reducible refine Stuck.h (A := Chk _ _) ?_) | (with_reducible refine Stuck.h (A := False) ?_))
  have hc : vl 18446744073709551616 c = ((X + Y : Nat) : Int) := by
    rw [c3, hvs, vb, Int.pow_zero, Int.one_mul, Int.natCast_add]
  have ht : trim (c.take (a.length + 1)) = d64 (X + Y) := by rw [List.take_of_length_le (by omega)]; exact trim_pos c2 hc
  have hl : (d64 (X + Y)).length ≤ c.length := by
    have h := congrArg List.length (trim_pre c)
    rw [trim_pos c2 hc, List.length_take] at h
    omega
  refine ⟨ret_m [0] (.arr 0 0 (trim (c.take (a.length + 1))).length) [some ⟨1, 44, .w .u64 c⟩] rfl rfl (by simp) (fun i h => absurd h (Nat.not_lt_zero _)) rfl ⟨by rw [ht], c, hl, ?_, rfl⟩⟩
  rw [← trim_pos c2 hc]
  exact trim_pre c
theorem m_sum2 (X Y : Nat) (hX : L64 X ≤ 1073741824) (hY : L64 Y < L64 X) : PM Tryz.prog G 172 [.ws .u64 (d64 Y), .ws .u64 (d64 X)] [] (fun r rs => r = .arr 0 0 (d64 (X + Y)).length ∧ ∃ c : List Int, (d64 (X + Y)).length ≤ c.length ∧ c.take (d64 (X + Y)).length = d64 (X + Y) ∧ rs = [some ⟨1, 44, .w .u64 c⟩]) := by
  obtain ⟨a, ea⟩ : ∃ a, a = d64 X := ⟨_, rfl⟩
  obtain ⟨b, eb⟩ : ∃ b, b = d64 Y := ⟨_, rfl⟩
  obtain ⟨oka, va⟩ := d64_ok X
  obtain ⟨okb, vb⟩ := d64_ok Y
  replace hX : (d64 X).length ≤ 1073741824 := hX
  replace hY : (d64 Y).length < (d64 X).length := hY
  rw [← ea] at hX hY oka va
  rw [← eb] at hY okb vb
  rw [← ea, ← eb]
  have hsr := sum_row a
  have hvs : vl 18446744073709551616 (a ++ [0]) = X := by rw [vl_snoc, va]; simp
  have hok : okD 18446744073709551616 (a ++ [0]) := okD_append.2 ⟨oka, okD_cons.2 ⟨by decide, okD_nil _⟩⟩
  have hsl : (a ++ [0]).length = a.length + 1 := by simp
  have hno : vl 18446744073709551616 ((a ++ [0]).drop 0) + vl 18446744073709551616 b < 18446744073709551616 ^ ((a ++ [0]).length - 0) := by
    have h1 := vl_lt (B := 18446744073709551616) (by decide) oka
    have h2 := vl_lt (B := 18446744073709551616) (by decide) okb
    have h3 := vl_nonneg (B := 18446744073709551616) (by decide) okb
    have h4 : (18446744073709551616 : Int) ^ b.length ≤ 18446744073709551616 ^ a.length := by
      exact pw_le (Nat.le_of_lt hY)
    rw [List.drop_zero, hvs, hsl, Nat.sub_zero, Int.pow_succ]
    omega
  refine PM.intro (X := XX) tok Tryz.func172 rfl Tryz.ntmps172 (by rw [Tryz.results172]) (by kernel_rfl) rfl ?_; intro F hG hO; simp only [List.length_cons, List.length_nil, Nat.zero_add, Nat.reduceAdd] at hO
  repeat' ((try (conv => whnf)); first
  | ((with_reducible refine cg ?_); simp only [show ((a.length : Int) + 1).toNat = a.length + 1 by omega, hsr]; refine call_pm [0] (m_addat (a ++ [0]) b 0 (a.length + 1) hsl hok okb (by omega) (by omega) hno) rfl rfl rfl (by simp) ?_; rintro r rs ⟨rfl, c, c1, c2, c3, rfl⟩)
  | ((with_reducible refine cg ?_); refine call_pm [0] (m_trim c (a.length + 1) (by omega) (by omega)) rfl rfl rfl (by simp) ?_; rintro r rs ⟨rfl, rfl⟩)
  
  | (with_reducible refine Chk.mk' (by first | omega | exact trivial | (simp only [List.length_append, List.length_set, List.length_replicate, List.length_take, List.length_drop, List.length_cons, List.length_nil, List.length_map]; omega)) ?_)
  | (with_reducible refine wrap_g (by dsimp only [inR]; omega) ?_)
  | (with_reducible refine idx_g (by omega) ?_)
  | (with_reducible refine idx_l _ rfl (by decide) ?_)
  | (with_reducible refine BothG.mk ?_ ?_)
  | (with_reducible refine fork_tt ?_) | (with_reducible refine fork_ff ?_)
  | (with_reducible refine fork_e (c := true) (by decide) ?_; with_reducible refine fork_tt ?_) | (with_reducible refine fork_e (c := false) (by decide) ?_; with_reducible refine fork_ff ?_)
  | (with_reducible refine fork_t (by omega) ?_) | (with_reducible refine fork_f (by omega) ?_)
  | (with_reducible refine fork_d ?_ ?_ <;> intro hc)
  | (with_reducible refine fork_n ?_)
  | (with_reducible refine fork_b ?_ ?_ <;> intro hc)
  | (with_reducible refine SlcG.mk (by omega) ?_)
  | (with_reducible refine MakG.mk (by dsimp only; omega) ?_)
  | (with_reducible refine AppG.mk (by first | omega | (simp only [List.length_append, List.length_set, List.length_replicate, List.length_take, List.length_drop, List.length_cons, List.length_nil, List.length_map]; omega)) (by dsimp only [List.length_cons, List.length_nil]; omega) (by omega) ?_)
  | (with_reducible refine div_g (by omega) (by omega) (by dsimp only [inR]; omega) ?_)
  | (with_reducible refine mod_g (by omega) (by omega) ?_)
  | (with_reducible refine mask_g (m := 4294967296) 32 rfl rfl (by decide) (by omega) ?_)
  | (with_reducible refine shr_g (m := 4294967296) 32 rfl (by decide) (by omega) rfl ?_)
  | (with_reducible refine fz_all (by omega) ?_)
  | (with_reducible refine Stuck.h (A := RetE _ _) ?_) | (with_reducible refine Stuck.h (A := RetM _ _ _ _) ?_) | (with_reducible refine Stuck.h (A := Again _ _ _ _ _ _ _ _) ?_) | (with_reducible refine Stuck.h (A := CallF _ _ _ _ _ _ _) ?_) | (with_reducible refine Stuck.h (A := LoopG _ _ _ _ _ _ _ _) ?_) | (with_reducible refine Stuck.h (A := DrawG _ _ _ _ _ _ _ _) ?_)
  | (with_reducible refine Stuck.h (A := WrapG _ _ _) ?_) | (with_reducible refine Stuck.h (A := DivG _ _ _ _) ?_) | (with_reducible refine Stuck.h (A := ModG _ _ _) ?_) | (with_reducible refine Stuck.h (A := ShlG _ _ _ _) ?_) | (with_reducible refine Stuck.h (A := ShrG _ _ _ _) ?_) | (with_reducible refine Stuck.h (A := BitG _ _ _ _ _) ?_)
  | (with_reducible refine Stuck.h (A := IdxG _ _ _) ?_) | (with_reducible refine Stuck.h (A := IdxL _ _ _) ?_) | (with_reducible refine Stuck.h (A := SlcG _ _ _ _ _) ?_) | (with_reducible refine Stuck.h (A := MakG _ _ _ _) ?_) | (with_reducible refine Stuck.h (A := AppG _ _ _ _ _ _ _) ?_) | (with_reducible refine Stuck.h (A := FzG _ _ _ _) ?_)
  | (with_reducible refine Stuck.h (A := RawG _) ?_) | (with_reducible refine Stuck.h (A := TabG _ _ _ _ _) ?_) | (with_reducible refine Stuck.h (A := ExtF _ _ _ _) ?_) | (with_reducible refine Stuck.h (A := Chk _ _) ?_) | (with_reducible refine Stuck.h (A := False) ?_))
  have hc : vl 18446744073709551616 c = ((X + Y : Nat) : Int) := by
    rw [c3, hvs, vb, Int.pow_zero, Int.one_mul, Int.natCast_add]
  have ht : trim (c.take (a.length + 1)) = d64 (X + Y) := by rw [List.take_of_length_le (by omega)]; exact trim_pos c2 hc
  have hl : (d64 (X + Y)).length ≤ c.length := by
    have h := congrArg List.length (trim_pre c)
    rw [trim_pos c2 hc, List.length_take] at h
    omega
  refine ⟨ret_m [0] (.arr 0 0 (trim (c.take (a.length + 1))).length) [some ⟨1, 44, .w .u64 c⟩] rfl rfl (by simp) (fun i h => absurd h (Nat.not_lt_zero _)) rfl ⟨by rw [ht], c, hl, ?_, rfl⟩⟩
  rw [← trim_pos c2 hc]
  exact trim_pre c
theorem m_sum (X Y : Nat) (hX : L64 X ≤ 1073741824) (hY : L64 Y ≤ 1073741824) : FC Tryz.prog G 172 [.ws .u64 (d64 X), .ws .u64 (d64 Y)] (· = .ws .u64 (d64 (X + Y))) := by
  rcases Nat.lt_or_ge (L64 X) (L64 Y) with h | h
  · have := FC.of_row (m_sum2 (G := G) Y X hY h)
    rw [Nat.add_comm Y X] at this
    exact this
  · exact FC.of_row (m_sum1 X Y hX h)
end Go.Proofs.YtbeocnjlepcglaaGreatDoor.Sim
namespace Go.Proofs.YtbeocnjlepcglaaGreatDoor.Sim
open Go.RowKit
set_option linter.unusedVariables false
set_option linter.unusedSimpArgs false
set_option maxRecDepth 10000
set_option maxHeartbeats 8000000
variable {G : List (Nat × List Value)}
/-- The row that holds V in n limbs. -/
def RowOf (n V : Nat) (rs : List (Option Row)) : Prop := ∃ c : List Int, c.length = n ∧ okD 18446744073709551616 c ∧ vl 18446744073709551616 c = (V : Int) ∧ rs = [some ⟨1, 44, .w .u64 c⟩]
def FillOk (g : List (Nat × List Value)) (X Y : Nat) : Prop := PM Tryz.prog g 147 [.arr 0 0 (L64 X + L64 Y), .ws .u64 (d64 X), .ws .u64 (d64 Y)] [⟨1, 44, .w .u64 (List.replicate (L64 X + L64 Y) 0)⟩] (fun r rs => r = .tup [] ∧ RowOf (L64 X + L64 Y) (X * Y) rs)
def ProdOk (g : List (Nat × List Value)) (X Y : Nat) : Prop := PM Tryz.prog g 123 [.ws .u64 (d64 X), .ws .u64 (d64 Y)] [] (fun r rs => r = .arr 0 0 (L64 (X * Y)) ∧ RowOf (L64 X + L64 Y) (X * Y) rs)
theorem L64_mul (x y : Nat) : L64 (x * y) ≤ L64 x + L64 y := lenB_mul (by decide) x y
theorem L64_mono {x y : Nat} (h : x ≤ y) : L64 x ≤ L64 y := lenB_mono (by decide) h
theorem row_take {c : List Int} {V : Nat} (ok : okD 18446744073709551616 c) (h : vl 18446744073709551616 c = (V : Int)) : c.take (L64 V) = d64 V ∧ L64 V ≤ c.length := by
  have h1 := trim_pos ok h
  have h2 := trim_pre c
  rw [h1] at h2
  refine ⟨h2, ?_⟩
  have h3 := congrArg List.length h2
  rw [List.length_take, d64_len] at h3
  omega
theorem ProdOk.fc {X Y : Nat} (h : ProdOk G X Y) : FC Tryz.prog G 123 [.ws .u64 (d64 X), .ws .u64 (d64 Y)] (· = .ws .u64 (d64 (X * Y))) := by
  refine FC.of_row (l := d64 (X * Y)) (T := 44) (h.mono ?_)
  rintro r rs ⟨rfl, c, h1, h2, h3, rfl⟩
  obtain ⟨h4, h5⟩ := row_take h2 h3
  exact ⟨rfl, c, h5, h4, rfl⟩
theorem vl_d64i (X : Nat) : vl 18446744073709551616 (d64 X) = (X : Int) := (d64_ok X).2
theorem prod_of_fill {X Y : Nat} (h : FillOk G X Y) (hX : L64 X + L64 Y ≤ 1073741824) : ProdOk G X Y := by
  unfold FillOk at h
  have l1 : (d64 X).length = L64 X := rfl
  have l2 : (d64 Y).length = L64 Y := rfl
  obtain ⟨n, hn⟩ : ∃ n, n = L64 X + L64 Y := ⟨_, rfl⟩
  obtain ⟨a, ha⟩ : ∃ a, a = d64 X := ⟨_, rfl⟩
  obtain ⟨b, hb⟩ : ∃ b, b = d64 Y := ⟨_, rfl⟩
  unfold ProdOk
  rw [← hn, ← ha, ← hb] at h
  rw [← ha] at l1
  rw [← hb] at l2
  rw [← ha, ← hb, ← hn]
  refine PM.intro (X := XX) tok Tryz.func123 rfl Tryz.ntmps123 (by rw [Tryz.results123]) (by kernel_rfl) rfl ?_; intro F hG hO; simp only [List.length_cons, List.length_nil, Nat.zero_add, Nat.reduceAdd] at hO
  rw [← hG] at h
  repeat' ((try (conv => whnf)); first
  | ((with_reducible refine cg ?_); simp only [show ((a.length : Int) + (b.length : Int)).toNat = n by omega]; refine call_pm [0] h rfl rfl rfl (by simp) ?_; rintro r rs ⟨rfl, c, c1, c2, c3, rfl⟩)
  | ((with_reducible refine cg ?_); refine call_pm [0] (m_trim c n (by omega) (by omega)) rfl rfl rfl (by simp) ?_; rintro r rs ⟨rfl, rfl⟩)
  
  | (with_reducible refine Chk.mk' (by first | omega | exact trivial | (simp only [List.length_append, List.length_set, List.length_replicate, List.length_take, List.length_drop, List.length_cons, List.length_nil, List.length_map]; omega)) ?_)
  | (with_reducible refine wrap_g (by dsimp only [inR]; omega) ?_)
  | (with_reducible refine idx_g (by omega) ?_)
  | (with_reducible refine idx_l _ rfl (by decide) ?_)
  | (with_reducible refine BothG.mk ?_ ?_)
  | (with_reducible refine fork_tt ?_) | (with_reducible refine fork_ff ?_)
  | (with_reducible refine fork_e (c := true) (by decide) ?_; with_reducible refine fork_tt ?_) | (with_reducible refine fork_e (c := false) (by decide) ?_; with_reducible refine fork_ff ?_)
  | (with_reducible refine fork_t (by omega) ?_) | (with_reducible refine fork_f (by omega) ?_)
  | (with_reducible refine fork_d ?_ ?_ <;> intro hc)
  | (with_reducible refine fork_n ?_)
  | (with_reducible refine fork_b ?_ ?_ <;> intro hc)
  | (with_reducible refine SlcG.mk (by omega) ?_)
  | (with_reducible refine MakG.mk (by dsimp only; omega) ?_)
  | (with_reducible refine AppG.mk (by first | omega | (simp only [List.length_append, List.length_set, List.length_replicate, List.length_take, List.length_drop, List.length_cons, List.length_nil, List.length_map]; omega)) (by dsimp only [List.length_cons, List.length_nil]; omega) (by omega) ?_)
  | (with_reducible refine div_g (by omega) (by omega) (by dsimp only [inR]; omega) ?_)
  | (with_reducible refine mod_g (by omega) (by omega) ?_)
  | (with_reducible refine mask_g (m := 4294967296) 32 rfl rfl (by decide) (by omega) ?_)
  | (with_reducible refine shr_g (m := 4294967296) 32 rfl (by decide) (by omega) rfl ?_)
  | (with_reducible refine fz_all (by omega) ?_)
  | (with_reducible refine Stuck.h (A := RetE _ _) ?_) | (with_reducible refine Stuck.h (A := RetM _ _ _ _) ?_) | (with_reducible refine Stuck.h (A := Again _ _ _ _ _ _ _ _) ?_) | (with_reducible refine Stuck.h (A := CallF _ _ _ _ _ _ _) ?_) | (with_reducible refine Stuck.h (A := LoopG _ _ _ _ _ _ _ _) ?_) | (with_reducible refine Stuck.h (A := DrawG _ _ _ _ _ _ _ _) ?_)
  | (with_reducible refine Stuck.h (A := WrapG _ _ _) ?_) | (with_reducible refine Stuck.h (A := DivG _ _ _ _) ?_) | (with_reducible refine Stuck.h (A := ModG _ _ _) ?_) | (with_reducible refine Stuck.h (A := ShlG _ _ _ _) ?_) | (with_reducible refine Stuck.h (A := ShrG _ _ _ _) ?_) | (with_reducible refine Stuck.h (A := BitG _ _ _ _ _) ?_)
  | (with_reducible refine Stuck.h (A := IdxG _ _ _) ?_) | (with_reducible refine Stuck.h (A := IdxL _ _ _) ?_) | (with_reducible refine Stuck.h (A := SlcG _ _ _ _ _) ?_) | (with_reducible refine Stuck.h (A := MakG _ _ _ _) ?_) | (with_reducible refine Stuck.h (A := AppG _ _ _ _ _ _ _) ?_) | (with_reducible refine Stuck.h (A := FzG _ _ _ _) ?_)
  | (with_reducible refine Stuck.h (A := RawG _) ?_) | (with_reducible refine Stuck.h (A := TabG _ _ _ _ _) ?_) | (with_reducible refine Stuck.h (A := ExtF _ _ _ _) ?_) | (with_reducible refine Stuck.h (A := Chk _ _) ?_) | (with_reducible refine Stuck.h (A := False) ?_))
  have ht : (trim (c.take n)).length = L64 (X * Y) := by rw [List.take_of_length_le (by omega), trim_pos c2 c3]; rfl
  refine ⟨ret_m [0] (.arr 0 0 (trim (c.take n)).length) [some ⟨1, 44, .w .u64 c⟩] rfl rfl (by simp) (fun i h => absurd h (Nat.not_lt_zero _)) rfl ⟨by rw [ht], c, c1, c2, c3, rfl⟩⟩
end Go.Proofs.YtbeocnjlepcglaaGreatDoor.Sim
namespace Go.Proofs.YtbeocnjlepcglaaGreatDoor.Sim
open Go.RowKit
set_option linter.unusedVariables false
set_option linter.unusedSimpArgs false
set_option maxRecDepth 10000
set_option maxHeartbeats 8000000
variable {G : List (Nat × List Value)}
theorem add_room {c : List Int} {n t : Nat} {V : Int} (ok : okD 18446744073709551616 c) (hl : c.length = n) (ht : t ≤ n) (h : vl 18446744073709551616 c + 18446744073709551616 ^ t * V < 18446744073709551616 ^ n) : vl 18446744073709551616 (c.drop t) + V < 18446744073709551616 ^ (c.length - t) := by
  have h1 := vl_split 18446744073709551616 c t (by omega)
  have h2 := vl_nonneg (B := 18446744073709551616) (by decide) (ok.take t)
  have hp : (0 : Int) < 18446744073709551616 ^ t := Int.pow_pos (by decide)
  have e : (18446744073709551616 : Int) ^ n = 18446744073709551616 ^ t * 18446744073709551616 ^ (n - t) := by rw [← Int.pow_add]; congr 1; omega
  rw [hl]
  have h3 : 18446744073709551616 ^ t * (vl 18446744073709551616 (c.drop t) + V) < 18446744073709551616 ^ t * 18446744073709551616 ^ (n - t) := by
    rw [← e, Int.mul_add]
    omega
  exact Int.lt_of_mul_lt_mul_left h3 (Int.le_of_lt hp)
/-- A piece of a natural. -/
theorem piece (X t m : Nat) : trim (((d64 X).drop t).take m) = d64 (X / 2 ^ (64 * t) % 2 ^ (64 * m)) := by
  rw [d64_hi, trim_lo]
theorem pow64i (n : Nat) : (18446744073709551616 : Int) ^ n = ((2 ^ (64 * n) : Nat) : Int) := by
  rw [← pow64]; simp
theorem low_step (X t m : Nat) : X % 2 ^ (64 * (t + m)) = X % 2 ^ (64 * t) + 2 ^ (64 * t) * (X / 2 ^ (64 * t) % 2 ^ (64 * m)) := by
  rw [Nat.mul_add, Nat.pow_add, Nat.mod_mul]
def slabP (X t lb la : Nat) : Nat := X / 2 ^ (64 * t) % 2 ^ (64 * (min (t + lb) la - t))
theorem slab_piece (X t lb la : Nat) : trim (List.drop ((t : Int).toNat) (List.take (min ((t : Int) + (lb : Int)) (la : Int)).toNat (d64 X))) = d64 (slabP X t lb la) := by
  rw [Int.toNat_natCast, show (min ((t : Int) + (lb : Int)) (la : Int)).toNat = min (t + lb) la by omega, List.drop_take, piece]; rfl
theorem slab_len (X t lb la : Nat) : L64 (slabP X t lb la) ≤ min (t + lb) la - t := L64_le (Nat.mod_lt _ (Nat.pow_pos (by decide)))
theorem slab_next {X t lb la : Nat} (hX : X < 2 ^ (64 * la)) (ht : t < la) : X % 2 ^ (64 * (t + lb)) = X % 2 ^ (64 * t) + 2 ^ (64 * t) * slabP X t lb la := by
  unfold slabP
  rw [← low_step]
  rcases Nat.lt_or_ge la (t + lb) with h | h
  · rw [show t + (min (t + lb) la - t) = la by omega, Nat.mod_eq_of_lt hX, Nat.mod_eq_of_lt (Nat.lt_of_lt_of_le hX (Nat.pow_le_pow_right (by decide) (by omega)))]
  · rw [show t + (min (t + lb) la - t) = t + lb by omega]
theorem slab_vl {X Y t lb la : Nat} {v : Int} (hX : X < 2 ^ (64 * la)) (ht : t < la) (hv : v = ((X % 2 ^ (64 * t) * Y : Nat) : Int)) : v + 18446744073709551616 ^ t * ((slabP X t lb la * Y : Nat) : Int) = ((X % 2 ^ (64 * (t + lb)) * Y : Nat) : Int) := by
  rw [hv, slab_next hX ht, pow64i, ← Int.natCast_mul, ← Int.natCast_add, Nat.add_mul, Nat.mul_assoc]
theorem slab_room {X Y t lb la n : Nat} (hX : X < 2 ^ (64 * la)) (hY : Y < 2 ^ (64 * lb)) (ht : t < la) (hn : n = la + lb) : ((X % 2 ^ (64 * (t + lb)) * Y : Nat) : Int) < 18446744073709551616 ^ n := by
  have e : 2 ^ (64 * n) = 2 ^ (64 * la) * 2 ^ (64 * lb) := by rw [hn, Nat.mul_add, Nat.pow_add]
  rw [pow64i, e]
  have h1 : X % 2 ^ (64 * (t + lb)) ≤ X := Nat.mod_le _ _
  have h2 : X % 2 ^ (64 * (t + lb)) * Y < 2 ^ (64 * la) * 2 ^ (64 * lb) := Nat.mul_lt_mul'' (by omega) hY
  exact Int.ofNat_lt.2 h2
theorem m_slabs (X Y : Nat) (ih : ∀ X' Y' : Nat, L64 X' + L64 Y' < L64 X + L64 Y → ProdOk G X' Y') (hb : 0 < L64 Y) (hge : 2 * L64 Y ≤ L64 X) (hX : L64 X ≤ 536870912) :
    PM Tryz.prog G 162 [.arr 0 0 (L64 X + L64 Y), .ws .u64 (d64 X), .ws .u64 (d64 Y)] [⟨1, 44, .w .u64 (List.replicate (L64 X + L64 Y) 0)⟩] (fun r rs => r = .tup [] ∧ RowOf (L64 X + L64 Y) (X * Y) rs) := by
  have l1 : (d64 X).length = L64 X := rfl
  have l2 : (d64 Y).length = L64 Y := rfl
  obtain ⟨n, hn⟩ : ∃ n, n = L64 X + L64 Y := ⟨_, rfl⟩
  have hpc := fun t lb la => slab_piece X t lb la
  obtain ⟨a, ha⟩ : ∃ a, a = d64 X := ⟨_, rfl⟩
  obtain ⟨b, hb2⟩ : ∃ b, b = d64 Y := ⟨_, rfl⟩
  rw [← ha] at l1 hpc
  rw [← hb2] at l2
  rw [← ha, ← hb2, ← hn]
  refine PM.intro (X := XX) tok Tryz.func162 rfl Tryz.ntmps162 (by rw [Tryz.results162]) (by kernel_rfl) rfl ?_; intro F hG hO; simp only [List.length_cons, List.length_nil, Nat.zero_add, Nat.reduceAdd] at hO
  rw [← hG] at ih
  repeat' ((try (conv => whnf)); first
  | ((with_reducible refine lg ?_); refine loop_g (A := Nat × List Int) (fun (t, c) => t ≤ n ∧ c.length = n ∧ okD 18446744073709551616 c ∧ vl 18446744073709551616 c = ((X % 2 ^ (64 * t) * Y : Nat) : Int)) (fun (t, c) => a.length - t) (fun (t, c) => [(0, .arr 0 0 n), (1, .ws .u64 a), (2, .ws .u64 b), (6, .val (.int .i64 (t : Int)))]) (fun _ => []) (fun (t, c) => [some ⟨1, 44, .w .u64 c⟩]) (0, List.replicate n 0) tok (fun (t, c) => ⟨⟨Nat.one_pos, trivial, trivial, trivial, trivial⟩, trivial, by simp only [List.length_cons, List.length_nil]; omega⟩) ?_ ⟨rfl, rfl, rfl, rfl, trivial⟩ ⟨[], rfl⟩ ⟨[], rfl⟩ ?_; rotate_left; rintro ⟨t, c⟩ ⟨i1, i2, i3, i4⟩)
  | ((with_reducible refine cg ?_); have f1 := m_trimw (G := F.G) (List.drop ((t : Int).toNat) (List.take (min ((t : Int) + (b.length : Int)) (a.length : Int)).toNat a)) (by rw [List.length_drop, List.length_take]; omega); rw [hpc] at f1; refine call_eq f1 (LpL.refl _) rfl ?_)
  | ((with_reducible refine cg ?_); have f2 := (ih (slabP X t b.length a.length) Y (by have := slab_len X t b.length a.length; omega)).fc; rw [← hb2] at f2; refine call_eq f2 (LpL.refl _) rfl ?_)
  | ((with_reducible refine cg ?_); dsimp only; have hsv := slab_vl (Y := Y) (lb := b.length) (by rw [l1]; exact L64_lt X) (show t < a.length by omega) i4; refine call_pm [0] (m_addat c (d64 (slabP X t b.length a.length * Y)) t n i2 i3 (d64_ok _).1 (by omega) (by have h1 := slab_len X t b.length a.length; have h2 := L64_mul (slabP X t b.length a.length) Y; rw [d64_len]; omega) (add_room i3 i2 (by omega) (by rw [vl_d64i, hsv]; exact slab_room (by rw [l1]; exact L64_lt X) (by rw [l2]; exact L64_lt Y) (show t < a.length by omega) (by omega)))) rfl rfl rfl (by simp) ?_; rintro r rs ⟨rfl, c', c1, c2, c3, rfl⟩; rw [vl_d64i, hsv] at c3)
  
  | (with_reducible refine Chk.mk' (by first | omega | exact trivial | (simp only [List.length_append, List.length_set, List.length_replicate, List.length_take, List.length_drop, List.length_cons, List.length_nil, List.length_map]; omega)) ?_)
  | (with_reducible refine wrap_g (by dsimp only [inR]; omega) ?_)
  | (with_reducible refine idx_g (by omega) ?_)
  | (with_reducible refine idx_l _ rfl (by decide) ?_)
  | (with_reducible refine BothG.mk ?_ ?_)
  | (with_reducible refine fork_tt ?_) | (with_reducible refine fork_ff ?_)
  | (with_reducible refine fork_e (c := true) (by decide) ?_; with_reducible refine fork_tt ?_) | (with_reducible refine fork_e (c := false) (by decide) ?_; with_reducible refine fork_ff ?_)
  | (with_reducible refine fork_t (by omega) ?_) | (with_reducible refine fork_f (by omega) ?_)
  | (with_reducible refine fork_d ?_ ?_ <;> intro hc)
  | (with_reducible refine fork_n ?_)
  | (with_reducible refine fork_b ?_ ?_ <;> intro hc)
  | (with_reducible refine SlcG.mk (by omega) ?_)
  | (with_reducible refine MakG.mk (by dsimp only; omega) ?_)
  | (with_reducible refine AppG.mk (by first | omega | (simp only [List.length_append, List.length_set, List.length_replicate, List.length_take, List.length_drop, List.length_cons, List.length_nil, List.length_map]; omega)) (by dsimp only [List.length_cons, List.length_nil]; omega) (by omega) ?_)
  | (with_reducible refine div_g (by omega) (by omega) (by dsimp only [inR]; omega) ?_)
  | (with_reducible refine mod_g (by omega) (by omega) ?_)
  | (with_reducible refine mask_g (m := 4294967296) 32 rfl rfl (by decide) (by omega) ?_)
  | (with_reducible refine shr_g (m := 4294967296) 32 rfl (by decide) (by omega) rfl ?_)
  | (with_reducible refine fz_all (by omega) ?_)
  | (with_reducible refine Stuck.h (A := RetE _ _) ?_) | (with_reducible refine Stuck.h (A := RetM _ _ _ _) ?_) | (with_reducible refine Stuck.h (A := Again _ _ _ _ _ _ _ _) ?_) | (with_reducible refine Stuck.h (A := CallF _ _ _ _ _ _ _) ?_) | (with_reducible refine Stuck.h (A := LoopG _ _ _ _ _ _ _ _) ?_) | (with_reducible refine Stuck.h (A := DrawG _ _ _ _ _ _ _ _) ?_)
  | (with_reducible refine Stuck.h (A := WrapG _ _ _) ?_) | (with_reducible refine Stuck.h (A := DivG _ _ _ _) ?_) | (with_reducible refine Stuck.h (A := ModG _ _ _) ?_) | (with_reducible refine Stuck.h (A := ShlG _ _ _ _) ?_) | (with_reducible refine Stuck.h (A := ShrG _ _ _ _) ?_) | (with_reducible refine Stuck.h (A := BitG _ _ _ _ _) ?_)
  | (with_reducible refine Stuck.h (A := IdxG _ _ _) ?_) | (with_reducible refine Stuck.h (A := IdxL _ _ _) ?_) | (with_reducible refine Stuck.h (A := SlcG _ _ _ _ _) ?_) | (with_reducible refine Stuck.h (A := MakG _ _ _ _) ?_) | (with_reducible refine Stuck.h (A := AppG _ _ _ _ _ _ _) ?_) | (with_reducible refine Stuck.h (A := FzG _ _ _ _) ?_)
  | (with_reducible refine Stuck.h (A := RawG _) ?_) | (with_reducible refine Stuck.h (A := TabG _ _ _ _ _) ?_) | (with_reducible refine Stuck.h (A := ExtF _ _ _ _) ?_) | (with_reducible refine Stuck.h (A := Chk _ _) ?_) | (with_reducible refine Stuck.h (A := False) ?_))
  · exact ⟨again (t + b.length, c') ⟨by dsimp only; omega, by dsimp only; omega, c2, c3⟩ (by dsimp only; omega) ⟨rfl, rfl, rfl, iv_eq (by omega), trivial⟩ ⟨[], rfl⟩ ⟨[], rfl⟩⟩
  · refine ⟨ret_m [0] (.tup []) [some ⟨1, 44, .w .u64 c⟩] rfl rfl (by simp) (fun i h => one_row h) rfl ⟨rfl, c, i2, i3, ?_, rfl⟩⟩
    rw [i4, Nat.mod_eq_of_lt (Nat.lt_of_lt_of_le (L64_lt X) (Nat.pow_le_pow_right (by decide) (by omega)))]
  · exact ⟨Nat.zero_le _, by simp, fun x hx => by rw [List.eq_of_mem_replicate hx]; decide, by rw [vl_zero, Nat.mul_zero, Nat.pow_zero, Nat.mod_one, Nat.zero_mul]; rfl⟩
end Go.Proofs.YtbeocnjlepcglaaGreatDoor.Sim
namespace Go.Proofs.YtbeocnjlepcglaaGreatDoor.Sim
open Go.RowKit
set_option linter.unusedVariables false
set_option linter.unusedSimpArgs false
set_option maxRecDepth 10000
set_option maxHeartbeats 8000000
variable {G : List (Nat × List Value)}
theorem kara (x0 x1 y0 y1 P : Nat) : (x0 + P * x1) * (y0 + P * y1) = x0 * y0 + P * (x0 * y1 + x1 * y0) + P * P * (x1 * y1) ∧ (x0 + x1) * (y0 + y1) = x0 * y0 + x1 * y1 + (x0 * y1 + x1 * y0) := by
  constructor
  · rw [Nat.add_mul, Nat.mul_add, Nat.mul_add, Nat.mul_add]
    have e1 : x0 * (P * y1) = P * (x0 * y1) := Nat.mul_left_comm _ _ _
    have e2 : P * x1 * y0 = P * (x1 * y0) := Nat.mul_assoc _ _ _
    have e3 : P * x1 * (P * y1) = P * P * (x1 * y1) := Nat.mul_mul_mul_comm _ _ _ _
    rw [e1, e2, e3]
    omega
  · rw [Nat.add_mul, Nat.mul_add, Nat.mul_add]
    omega
theorem call_row {F : Fr} {N : Nat} {t : Nat → PV} {bx : List (List PV)} {ob : List (Option Row)} {f : FuncId} {args : List PV} {n n2 V m : Nat} {K : St → PV → Prop} (h : PM Tryz.prog F.G f args [] (fun r rs => r = .arr 0 0 n ∧ RowOf n2 V rs)) (hok : okAL 0 args = true) (hre : renL [] ob.length args = args) (hm : ob.length = m)
    (hK : ∀ c : List Int, c.length = n2 → okD 18446744073709551616 c → vl 18446744073709551616 c = (V : Int) → K ⟨N, t, bx, ob ++ [some ⟨1, 44, .w .u64 c⟩]⟩ (.arr m 0 n)) : CallF Tryz.prog F false f args ⟨N, t, bx, ob⟩ K :=
  call_pm [] h hre hok rfl List.nodup_nil (by rintro r rs ⟨rfl, c, c1, c2, c3, rfl⟩; subst hm; simpa [putR, ren, renI] using hK c c1 c2 c3)
theorem vL_bar {F : Fr} {TT : List TI} {X : List FuncId} {all : List Oper} {l : List (Oper × Md)} {s : St} {K : St → Prop} (h : ∀ K' : St → Prop, K' = K → vL Tryz.prog F TT X all l s K') : vL Tryz.prog F TT X all l s K := h K rfl
theorem vC_bar {F : Fr} {TT : List TI} {X : List FuncId} {a b : Code} {kn kr : St → Prop} {kx : Nat → St → Prop} {s : St} (h : ∀ K1 : St → Prop, K1 = vC Tryz.prog F TT X b kn kr kx → vC Tryz.prog F TT X a K1 kr kx s) : vC Tryz.prog F TT X (a.seq b) kn kr kx s := h _ rfl
theorem len_room {V t n : Nat} (h : 2 ^ (64 * t) * V < 2 ^ (64 * n)) (ht : t ≤ n) : t + L64 V ≤ n := by
  have e : 2 ^ (64 * n) = 2 ^ (64 * t) * 2 ^ (64 * (n - t)) := by rw [← Nat.pow_add]; congr 1; omega
  rw [e] at h
  have h2 := Nat.lt_of_mul_lt_mul_left h
  have := L64_le h2
  omega
theorem take_trim {c : List Int} {m : Nat} {V : Nat} (h : trim (c.take m) = d64 V) : c.take (trim (c.take m)).length = d64 V := by
  have h1 := trim_pre (c.take m)
  rw [List.take_take, h] at h1
  have h2 : (d64 V).length ≤ m := by
    have := congrArg List.length (trim_pre (c.take m))
    rw [h, List.length_take, List.length_take] at this
    omega
  rw [Nat.min_eq_left h2] at h1
  rw [h]; exact h1
theorem L64_add (x y : Nat) : L64 (x + y) ≤ max (L64 x) (L64 y) + 1 := lenB_add (by decide) x y
theorem copy_row (l : List Int) (n : Nat) (h : l.length ≤ n) : (List.replicate n (0 : Int)).take 0 ++ l.take n ++ (List.replicate n (0 : Int)).drop (0 + min n l.length) = l ++ List.replicate (n - l.length) 0 := by
  rw [List.take_zero, List.nil_append, List.take_of_length_le (by omega), show 0 + min n l.length = l.length by omega, List.drop_replicate]
theorem pad_ok {V n : Nat} (h : L64 V ≤ n) : (d64 V ++ List.replicate (n - L64 V) (0 : Int)).length = n ∧ okD 18446744073709551616 (d64 V ++ List.replicate (n - L64 V) 0) ∧ vl 18446744073709551616 (d64 V ++ List.replicate (n - L64 V) 0) = (V : Int) := by
  refine ⟨by rw [List.length_append, List.length_replicate, d64_len]; omega, okD_append.2 ⟨(d64_ok V).1, fun x hx => by rw [List.eq_of_mem_replicate hx]; decide⟩, by rw [vl_append, vl_zero, Int.mul_zero, Int.add_zero, vl_d64i]⟩
theorem m_thirds (X Y : Nat) (ih : ∀ X' Y' : Nat, L64 X' + L64 Y' < L64 X + L64 Y → ProdOk G X' Y') (hb : 40 ≤ L64 Y) (hge : L64 Y ≤ L64 X) (hX : L64 X ≤ 536870912) :
    PM Tryz.prog G 163 [.arr 0 0 (L64 X + L64 Y), .ws .u64 (d64 X), .ws .u64 (d64 Y)] [⟨1, 44, .w .u64 (List.replicate (L64 X + L64 Y) 0)⟩] (fun r rs => r = .tup [] ∧ RowOf (L64 X + L64 Y) (X * Y) rs) := by
  have l1 : (d64 X).length = L64 X := rfl
  have l2 : (d64 Y).length = L64 Y := rfl
  obtain ⟨n, hn⟩ : ∃ n, n = L64 X + L64 Y := ⟨_, rfl⟩
  obtain ⟨k, hk⟩ : ∃ k, k = (L64 X + 1) / 2 := ⟨_, rfl⟩
  have g1 := m_cut (G := G) X k (by omega) (by omega)
  have g2 := m_cut (G := G) Y k (by omega) (by omega)
  obtain ⟨P, hP⟩ : ∃ P, P = 2 ^ (64 * k) := ⟨_, rfl⟩
  rw [← hP] at g1 g2
  have hPp : 0 < P := by rw [hP]; exact Nat.pow_pos (by decide)
  have ex := nat_dm X P hPp
  have ey := nat_dm Y P hPp
  have hx0 : L64 (X % P) ≤ k := L64_le (by rw [hP]; exact Nat.mod_lt _ (Nat.pow_pos (by decide)))
  have hy0 : L64 (Y % P) ≤ k := L64_le (by rw [hP]; exact Nat.mod_lt _ (Nat.pow_pos (by decide)))
  have hx1 : L64 (X / P) ≤ L64 X - k := by
    have h := congrArg List.length (d64_hi X k)
    rw [List.length_drop, ← hP] at h
    exact Nat.le_of_eq h.symm
  have hy1 : L64 (Y / P) ≤ L64 Y - k := by
    have h := congrArg List.length (d64_hi Y k)
    rw [List.length_drop, ← hP] at h
    exact Nat.le_of_eq h.symm
  obtain ⟨x0, ex0⟩ : ∃ x0, x0 = X % P := ⟨_, rfl⟩
  obtain ⟨x1, ex1⟩ : ∃ x1, x1 = X / P := ⟨_, rfl⟩
  obtain ⟨y0, ey0⟩ : ∃ y0, y0 = Y % P := ⟨_, rfl⟩
  obtain ⟨y1, ey1⟩ : ∃ y1, y1 = Y / P := ⟨_, rfl⟩
  rw [← ex0] at g1 ex hx0
  rw [← ex1] at g1 ex hx1
  rw [← ey0] at g2 ey hy0
  rw [← ey1] at g2 ey hy1
  have sx : L64 (x0 + x1) ≤ k + 1 := Nat.le_trans (L64_add x0 x1) (by clear ex ey ex0 ex1 ey0 ey1; omega)
  have sy : L64 (y0 + y1) ≤ k + 1 := Nat.le_trans (L64_add y0 y1) (by clear ex ey ex0 ex1 ey0 ey1; omega)
  have g3 := m_sum (G := G) x0 x1 (by omega) (by omega)
  have g4 := m_sum (G := G) y0 y1 (by omega) (by omega)
  have g5 := (ih x0 y0 (by omega)).fc
  have g6 := (ih x1 y1 (by omega)).fc
  have g7 := ih (x0 + x1) (y0 + y1) (by omega)
  obtain ⟨kar1, kar2⟩ := kara x0 x1 y0 y1 P
  obtain ⟨low, elow⟩ : ∃ v, v = x0 * y0 := ⟨_, rfl⟩
  obtain ⟨high, ehigh⟩ : ∃ v, v = x1 * y1 := ⟨_, rfl⟩
  obtain ⟨mid, emid⟩ : ∃ v, v = x0 * y1 + x1 * y0 := ⟨_, rfl⟩
  rw [← elow, ← ehigh, ← emid] at kar1 kar2
  have hXY : X * Y = low + P * mid + P * P * high := by
    rw [← kar1]
    congr 1 <;> omega
  clear kar1
  rw [← elow] at g5
  rw [← ehigh] at g6
  unfold ProdOk at g7
  rw [kar2] at g7
  obtain ⟨M, eM⟩ : ∃ M, M = low + high + mid := ⟨_, rfl⟩
  rw [← eM] at g7
  obtain ⟨m, hm⟩ : ∃ m, m = L64 M := ⟨_, rfl⟩
  obtain ⟨n2, hn2⟩ : ∃ n2, n2 = L64 (x0 + x1) + L64 (y0 + y1) := ⟨_, rfl⟩
  rw [← hm, ← hn2] at g7
  obtain ⟨a, ha⟩ : ∃ a, a = d64 X := ⟨_, rfl⟩
  obtain ⟨b, hb2⟩ : ∃ b, b = d64 Y := ⟨_, rfl⟩
  rw [← ha] at l1 g1
  rw [← hb2] at l2 g2
  rw [← ha, ← hb2, ← hn]
  obtain ⟨dX0, hdX0⟩ : ∃ d, d = d64 x0 := ⟨_, rfl⟩
  rw [← hdX0] at g1 g3 g5
  obtain ⟨dX1, hdX1⟩ : ∃ d, d = d64 x1 := ⟨_, rfl⟩
  rw [← hdX1] at g1 g3 g6
  obtain ⟨dY0, hdY0⟩ : ∃ d, d = d64 y0 := ⟨_, rfl⟩
  rw [← hdY0] at g2 g4 g5
  obtain ⟨dY1, hdY1⟩ : ∃ d, d = d64 y1 := ⟨_, rfl⟩
  rw [← hdY1] at g2 g4 g6
  obtain ⟨dSx, hdSx⟩ : ∃ d, d = d64 (x0 + x1) := ⟨_, rfl⟩
  rw [← hdSx] at g3 g7
  obtain ⟨dSy, hdSy⟩ : ∃ d, d = d64 (y0 + y1) := ⟨_, rfl⟩
  rw [← hdSy] at g4 g7
  obtain ⟨dL, hdL⟩ : ∃ d, d = d64 low := ⟨_, rfl⟩
  rw [← hdL] at g5
  obtain ⟨dH, hdH⟩ : ∃ d, d = d64 high := ⟨_, rfl⟩
  rw [← hdH] at g6
  have okL : okD 18446744073709551616 dL := by rw [hdL]; exact (d64_ok low).1
  have okH : okD 18446744073709551616 dH := by rw [hdH]; exact (d64_ok high).1
  have vL0 : vl 18446744073709551616 dL = (low : Int) := by rw [hdL]; exact (d64_ok low).2
  have vH0 : vl 18446744073709551616 dH = (high : Int) := by rw [hdH]; exact (d64_ok high).2
  have lL : dL.length = L64 low := by rw [hdL]; rfl
  have lH : dH.length = L64 high := by rw [hdH]; rfl
  have mL : L64 low ≤ m := by rw [hm]; exact L64_mono (by omega)
  have mH : L64 high ≤ m := by rw [hm]; exact L64_mono (by omega)
  have mM : L64 mid ≤ m := by rw [hm]; exact L64_mono (by omega)
  have hlt : X * Y < 2 ^ (64 * n) := by
    rw [hn, Nat.mul_add, Nat.pow_add]
    exact Nat.mul_lt_mul'' (L64_lt X) (L64_lt Y)
  have rM : k + L64 mid ≤ n := len_room (by rw [← hP]; exact Nat.lt_of_le_of_lt (by omega) hlt) (by omega)
  have e2k : 2 ^ (64 * (2 * k)) = P * P := by rw [hP, ← Nat.pow_add]; congr 1; omega
  have rH : 2 * k + L64 high ≤ n := len_room (by rw [e2k]; exact Nat.lt_of_le_of_lt (by omega) hlt) (by omega)
  have iN : ((X * Y : Nat) : Int) < 18446744073709551616 ^ n := by rw [pow64i]; exact Int.ofNat_lt.2 hlt
  have iK : (18446744073709551616 : Int) ^ k = (P : Int) := by rw [pow64i, ← hP]
  have i2K : (18446744073709551616 : Int) ^ (2 * k) = ((P * P : Nat) : Int) := by rw [pow64i, e2k]
  have iXY : ((X * Y : Nat) : Int) = (low : Int) + ((P * mid : Nat) : Int) + ((P * P * high : Nat) : Int) := by rw [hXY]; omega
  have hLn : dL.length ≤ n := by
    have := L64_mul X Y
    have h2 : L64 low ≤ L64 (X * Y) := L64_mono (by omega)
    omega
  have hcp := copy_row dL n hLn
  obtain ⟨pL, hpL⟩ : ∃ p, p = dL ++ List.replicate (n - dL.length) (0 : Int) := ⟨_, rfl⟩
  rw [← hpL] at hcp
  have hpk := pad_ok (V := low) (n := n) (by omega)
  rw [← hdL, ← lL, ← hpL] at hpk
  obtain ⟨p1, p2, p3⟩ := hpk
  have n1 : vl 18446744073709551616 pL + 18446744073709551616 ^ k * vl 18446744073709551616 (d64 mid) = (low : Int) + ((P * mid : Nat) : Int) := by rw [p3, (d64_ok mid).2, iK, Int.natCast_mul]
  have room1 := add_room (t := k) (V := vl 18446744073709551616 (d64 mid)) p2 p1 (by omega) (by rw [n1]; omega)
  refine PM.intro (X := XX) tok Tryz.func163 rfl Tryz.ntmps163 (by rw [Tryz.results163]) (by kernel_rfl) rfl ?_; intro F hG hO; simp only [List.length_cons, List.length_nil, Nat.zero_add, Nat.reduceAdd] at hO
  rw [← hG] at g1 g2 g3 g4 g5 g6 g7
  repeat' ((try (conv => whnf)); first
  | ((with_reducible refine cg ?_); rw [show ((a.length : Int) + 1) / 2 = (k : Int) by omega]; refine call_eq g1 (LpL.refl _) rfl ?_)
  | ((with_reducible refine cg ?_); refine call_eq g1 (LpL.refl _) rfl ?_)
  | ((with_reducible refine cg ?_); refine call_eq g2 (LpL.refl _) rfl ?_)
  | ((with_reducible refine cg ?_); refine call_eq g3 (LpL.refl _) rfl ?_)
  | ((with_reducible refine cg ?_); refine call_eq g4 (LpL.refl _) rfl ?_)
  | ((with_reducible refine cg ?_); refine call_eq g5 (LpL.refl _) rfl ?_)
  | ((with_reducible refine cg ?_); refine call_eq g6 (LpL.refl _) rfl ?_)
  | ((with_reducible refine cg ?_); refine call_row (m := 1) g7 rfl rfl rfl ?_; intro c c1 c2 c3; unfold vPut; simp only [show Nat.blt 42 62 = true from rfl]; refine vL_bar ?_; intro K hK; (conv => whnf); subst hK; refine vC_bar ?_; intro K1 hK1)
  | ((with_reducible refine cg ?_); have q1 := row_take c2 c3; rw [← hm] at q1; have q2 : vl 18446744073709551616 (c.take m) = (M : Int) := (by rw [q1.1]; exact (d64_ok M).2); refine call_pm [1] (m_takeaway c dL m c2 okL (by omega) q1.2 (by omega) (by omega)) rfl rfl rfl (by simp) ?_; rintro r rs ⟨rfl, c', d1, d2, d3, rfl⟩)
  | ((with_reducible refine cg ?_); refine call_pm [1] (m_takeaway c' dH m d2 okH (by omega) (by omega) (by omega) (by omega)) rfl rfl rfl (by simp) ?_; rintro r rs ⟨rfl, c'', f1, f2, f3, rfl⟩)
  | ((with_reducible refine cg ?_); refine call_pm [1] (m_trim c'' m (by omega) (by omega)) rfl rfl rfl (by simp) ?_; rintro r rs ⟨rfl, rfl⟩)
  | ((with_reducible refine cg ?_); rw [show 2 * (k : Int) = ((2 * k : Nat) : Int) by omega]; have n3 : vl 18446744073709551616 e + 18446744073709551616 ^ (2 * k) * vl 18446744073709551616 dH = ((X * Y : Nat) : Int) := (by rw [x3, n1, vH0, i2K, iXY, Int.natCast_mul (P * P) high]); have room2 := add_room (t := 2 * k) (V := vl 18446744073709551616 dH) x2 (show e.length = n by omega) (by omega) (by rw [n3]; exact iN); refine call_pm [0] (m_addat e dH (2 * k) n (by omega) x2 okH (by omega) (by omega) room2) rfl rfl rfl (by simp) ?_; rintro r rs ⟨rfl, z, z1, z2, z3, rfl⟩; rw [n3] at z3)
  | ((with_reducible refine cg ?_); have htm : trim (c''.take m) = d64 mid := trim_pos (f2.take m) (by rw [f3, d3, q2, vL0, vH0]; omega); refine call_fz 1 (q := 1) (A := c'') (B := d64 mid) rfl rfl (by rw [htm, d64_len]; omega) (by rw [List.drop_zero]; exact take_trim htm) (by omega) ?_; refine call_pm [0] (m_addat pL (d64 mid) k n p1 p2 (d64_ok mid).1 (by omega) (by rw [d64_len]; omega) room1) rfl rfl (congrArg (fun l => [some (some (⟨1, 44, .w .u64 l⟩ : Row))]) hcp) (by simp) ?_; rintro r rs ⟨rfl, e, x1, x2, x3, rfl⟩)
  | (subst hK1; refine vC_bar ?_; intro K1 hK1) | (subst hK1)
  
  | (with_reducible refine Chk.mk' (by first | omega | exact trivial | (simp only [List.length_append, List.length_set, List.length_replicate, List.length_take, List.length_drop, List.length_cons, List.length_nil, List.length_map]; omega)) ?_)
  | (with_reducible refine wrap_g (by dsimp only [inR]; omega) ?_)
  | (with_reducible refine idx_g (by omega) ?_)
  | (with_reducible refine idx_l _ rfl (by decide) ?_)
  | (with_reducible refine BothG.mk ?_ ?_)
  | (with_reducible refine fork_tt ?_) | (with_reducible refine fork_ff ?_)
  | (with_reducible refine fork_e (c := true) (by decide) ?_; with_reducible refine fork_tt ?_) | (with_reducible refine fork_e (c := false) (by decide) ?_; with_reducible refine fork_ff ?_)
  | (with_reducible refine fork_t (by omega) ?_) | (with_reducible refine fork_f (by omega) ?_)
  | (with_reducible refine fork_d ?_ ?_ <;> intro hc)
  | (with_reducible refine fork_n ?_)
  | (with_reducible refine fork_b ?_ ?_ <;> intro hc)
  | (with_reducible refine SlcG.mk (by omega) ?_)
  | (with_reducible refine MakG.mk (by dsimp only; omega) ?_)
  | (with_reducible refine AppG.mk (by first | omega | (simp only [List.length_append, List.length_set, List.length_replicate, List.length_take, List.length_drop, List.length_cons, List.length_nil, List.length_map]; omega)) (by dsimp only [List.length_cons, List.length_nil]; omega) (by omega) ?_)
  | (with_reducible refine div_g (by omega) (by omega) (by dsimp only [inR]; omega) ?_)
  | (with_reducible refine mod_g (by omega) (by omega) ?_)
  | (with_reducible refine mask_g (m := 4294967296) 32 rfl rfl (by decide) (by omega) ?_)
  | (with_reducible refine shr_g (m := 4294967296) 32 rfl (by decide) (by omega) rfl ?_)
  | (with_reducible refine fz_all (by omega) ?_)
  | (with_reducible refine Stuck.h (A := RetE _ _) ?_) | (with_reducible refine Stuck.h (A := RetM _ _ _ _) ?_) | (with_reducible refine Stuck.h (A := Again _ _ _ _ _ _ _ _) ?_) | (with_reducible refine Stuck.h (A := CallF _ _ _ _ _ _ _) ?_) | (with_reducible refine Stuck.h (A := LoopG _ _ _ _ _ _ _ _) ?_) | (with_reducible refine Stuck.h (A := DrawG _ _ _ _ _ _ _ _) ?_)
  | (with_reducible refine Stuck.h (A := WrapG _ _ _) ?_) | (with_reducible refine Stuck.h (A := DivG _ _ _ _) ?_) | (with_reducible refine Stuck.h (A := ModG _ _ _) ?_) | (with_reducible refine Stuck.h (A := ShlG _ _ _ _) ?_) | (with_reducible refine Stuck.h (A := ShrG _ _ _ _) ?_) | (with_reducible refine Stuck.h (A := BitG _ _ _ _ _) ?_)
  | (with_reducible refine Stuck.h (A := IdxG _ _ _) ?_) | (with_reducible refine Stuck.h (A := IdxL _ _ _) ?_) | (with_reducible refine Stuck.h (A := SlcG _ _ _ _ _) ?_) | (with_reducible refine Stuck.h (A := MakG _ _ _ _) ?_) | (with_reducible refine Stuck.h (A := AppG _ _ _ _ _ _ _) ?_) | (with_reducible refine Stuck.h (A := FzG _ _ _ _) ?_)
  | (with_reducible refine Stuck.h (A := RawG _) ?_) | (with_reducible refine Stuck.h (A := TabG _ _ _ _ _) ?_) | (with_reducible refine Stuck.h (A := ExtF _ _ _ _) ?_) | (with_reducible refine Stuck.h (A := Chk _ _) ?_) | (with_reducible refine Stuck.h (A := False) ?_))
  exact ⟨ret_m [0] (.tup []) [some ⟨1, 44, .w .u64 z⟩] rfl rfl (by simp) (fun i h => one_row h) rfl ⟨rfl, z, by omega, z2, z3, rfl⟩⟩
end Go.Proofs.YtbeocnjlepcglaaGreatDoor.Sim
namespace Go.Proofs.YtbeocnjlepcglaaGreatDoor.Sim
open Go.RowKit
set_option linter.unusedVariables false
set_option linter.unusedSimpArgs false
set_option maxRecDepth 10000
set_option maxHeartbeats 8000000
variable {G : List (Nat × List Value)}
theorem rows_row (X Y n : Nat) (hn : L64 X + L64 Y = n) (hX : L64 X ≤ 536870912) (hY : L64 Y ≤ 536870912) : PM Tryz.prog G 161 [.arr 0 0 n, .ws .u64 (d64 X), .ws .u64 (d64 Y)] [⟨1, 44, .w .u64 (List.replicate n 0)⟩] (fun r rs => r = .tup [] ∧ RowOf n (X * Y) rs) := by
  subst hn
  have h := m_rows (G := G) (d64 X) (d64 Y) (by rw [d64_len]; omega) (by rw [d64_len]; omega) (d64_ok X).1 (d64_ok Y).1
  rw [d64_len, d64_len] at h
  refine h.mono ?_
  rintro r rs ⟨rfl, c, h1, h2, h3, rfl⟩
  exact ⟨rfl, c, h1, h2, by rw [h3, vl_d64i, vl_d64i, Int.natCast_mul], rfl⟩
theorem fill_step (X Y : Nat) (ih : ∀ X' Y' : Nat, L64 X' + L64 Y' < L64 X + L64 Y → ProdOk G X' Y') (hX : L64 X ≤ 536870912) (hY : L64 Y ≤ 536870912) : FillOk G X Y := by
  unfold FillOk
  obtain ⟨n, hn⟩ : ∃ n, n = L64 X + L64 Y := ⟨_, rfl⟩
  have l1 : (d64 X).length = L64 X := rfl
  have l2 : (d64 Y).length = L64 Y := rfl
  by_cases hlt : L64 X < L64 Y
  · have r1 := rows_row (G := G) Y X n (by omega) hY hX
    have r2 := fun h1 h2 => m_slabs (G := G) Y X (fun X' Y' h => ih X' Y' (by omega)) h1 h2 hY
    have r3 := fun h1 => m_thirds (G := G) Y X (fun X' Y' h => ih X' Y' (by omega)) h1 (by omega) hY
    rw [show L64 Y + L64 X = n by omega] at r2 r3
    rw [Nat.mul_comm Y X] at r1 r2 r3
    obtain ⟨V, hV⟩ : ∃ V, V = X * Y := ⟨_, rfl⟩
    rw [← hV] at r1 r2 r3 ⊢
    rw [← hn]
    obtain ⟨a, ha⟩ : ∃ a, a = d64 X := ⟨_, rfl⟩
    obtain ⟨b, hb⟩ : ∃ b, b = d64 Y := ⟨_, rfl⟩
    rw [← ha, ← hb] at r1 r2 r3
    rw [← ha] at l1
    rw [← hb] at l2
    rw [← ha, ← hb]
    clear ih hV
    refine PM.intro (X := XX) tok Tryz.func147 rfl Tryz.ntmps147 (by rw [Tryz.results147]) (by kernel_rfl) rfl ?_; intro F hG hO; simp only [List.length_cons, List.length_nil, Nat.zero_add, Nat.reduceAdd] at hO
    rw [← hG] at r1 r2 r3
    repeat' ((try (conv => whnf)); first
  | ((with_reducible refine cg ?_); refine call_pm [0] r1 rfl rfl rfl (by simp) ?_; rintro r rs ⟨rfl, c, c1, c2, c3, rfl⟩)
  | ((with_reducible refine cg ?_); refine call_pm [0] (r2 (by omega) (by omega)) rfl rfl rfl (by simp) ?_; rintro r rs ⟨rfl, c, c1, c2, c3, rfl⟩)
  | ((with_reducible refine cg ?_); refine call_pm [0] (r3 (by omega)) rfl rfl rfl (by simp) ?_; rintro r rs ⟨rfl, c, c1, c2, c3, rfl⟩)
  
  | (with_reducible refine Chk.mk' (by first | omega | exact trivial | (simp only [List.length_append, List.length_set, List.length_replicate, List.length_take, List.length_drop, List.length_cons, List.length_nil, List.length_map]; omega)) ?_)
  | (with_reducible refine wrap_g (by dsimp only [inR]; omega) ?_)
  | (with_reducible refine idx_g (by omega) ?_)
  | (with_reducible refine idx_l _ rfl (by decide) ?_)
  | (with_reducible refine BothG.mk ?_ ?_)
  | (with_reducible refine fork_tt ?_) | (with_reducible refine fork_ff ?_)
  | (with_reducible refine fork_e (c := true) (by decide) ?_; with_reducible refine fork_tt ?_) | (with_reducible refine fork_e (c := false) (by decide) ?_; with_reducible refine fork_ff ?_)
  | (with_reducible refine fork_t (by omega) ?_) | (with_reducible refine fork_f (by omega) ?_)
  | (with_reducible refine fork_d ?_ ?_ <;> intro hc)
  | (with_reducible refine fork_n ?_)
  | (with_reducible refine fork_b ?_ ?_ <;> intro hc)
  | (with_reducible refine SlcG.mk (by omega) ?_)
  | (with_reducible refine MakG.mk (by dsimp only; omega) ?_)
  | (with_reducible refine AppG.mk (by first | omega | (simp only [List.length_append, List.length_set, List.length_replicate, List.length_take, List.length_drop, List.length_cons, List.length_nil, List.length_map]; omega)) (by dsimp only [List.length_cons, List.length_nil]; omega) (by omega) ?_)
  | (with_reducible refine div_g (by omega) (by omega) (by dsimp only [inR]; omega) ?_)
  | (with_reducible refine mod_g (by omega) (by omega) ?_)
  | (with_reducible refine mask_g (m := 4294967296) 32 rfl rfl (by decide) (by omega) ?_)
  | (with_reducible refine shr_g (m := 4294967296) 32 rfl (by decide) (by omega) rfl ?_)
  | (with_reducible refine fz_all (by omega) ?_)
  | (with_reducible refine Stuck.h (A := RetE _ _) ?_) | (with_reducible refine Stuck.h (A := RetM _ _ _ _) ?_) | (with_reducible refine Stuck.h (A := Again _ _ _ _ _ _ _ _) ?_) | (with_reducible refine Stuck.h (A := CallF _ _ _ _ _ _ _) ?_) | (with_reducible refine Stuck.h (A := LoopG _ _ _ _ _ _ _ _) ?_) | (with_reducible refine Stuck.h (A := DrawG _ _ _ _ _ _ _ _) ?_)
  | (with_reducible refine Stuck.h (A := WrapG _ _ _) ?_) | (with_reducible refine Stuck.h (A := DivG _ _ _ _) ?_) | (with_reducible refine Stuck.h (A := ModG _ _ _) ?_) | (with_reducible refine Stuck.h (A := ShlG _ _ _ _) ?_) | (with_reducible refine Stuck.h (A := ShrG _ _ _ _) ?_) | (with_reducible refine Stuck.h (A := BitG _ _ _ _ _) ?_)
  | (with_reducible refine Stuck.h (A := IdxG _ _ _) ?_) | (with_reducible refine Stuck.h (A := IdxL _ _ _) ?_) | (with_reducible refine Stuck.h (A := SlcG _ _ _ _ _) ?_) | (with_reducible refine Stuck.h (A := MakG _ _ _ _) ?_) | (with_reducible refine Stuck.h (A := AppG _ _ _ _ _ _ _) ?_) | (with_reducible refine Stuck.h (A := FzG _ _ _ _) ?_)
  | (with_reducible refine Stuck.h (A := RawG _) ?_) | (with_reducible refine Stuck.h (A := TabG _ _ _ _ _) ?_) | (with_reducible refine Stuck.h (A := ExtF _ _ _ _) ?_) | (with_reducible refine Stuck.h (A := Chk _ _) ?_) | (with_reducible refine Stuck.h (A := False) ?_))
    all_goals exact ⟨ret_m [0] (.tup []) [some ⟨1, 44, .w .u64 c⟩] rfl rfl (by simp) (fun i h => one_row h) rfl ⟨rfl, c, c1, c2, c3, rfl⟩⟩
  · have r1 := rows_row (G := G) X Y n (by omega) hX hY
    have r2 := fun h1 h2 => m_slabs (G := G) X Y ih h1 h2 hX
    have r3 := fun h1 => m_thirds (G := G) X Y ih h1 (by omega) hX
    rw [← hn] at r2 r3 ⊢
    obtain ⟨V, hV⟩ : ∃ V, V = X * Y := ⟨_, rfl⟩
    rw [← hV] at r1 r2 r3 ⊢
    obtain ⟨a, ha⟩ : ∃ a, a = d64 X := ⟨_, rfl⟩
    obtain ⟨b, hb⟩ : ∃ b, b = d64 Y := ⟨_, rfl⟩
    rw [← ha, ← hb] at r1 r2 r3
    rw [← ha] at l1
    rw [← hb] at l2
    rw [← ha, ← hb]
    clear ih hV
    refine PM.intro (X := XX) tok Tryz.func147 rfl Tryz.ntmps147 (by rw [Tryz.results147]) (by kernel_rfl) rfl ?_; intro F hG hO; simp only [List.length_cons, List.length_nil, Nat.zero_add, Nat.reduceAdd] at hO
    rw [← hG] at r1 r2 r3
    repeat' ((try (conv => whnf)); first
  | ((with_reducible refine cg ?_); refine call_pm [0] r1 rfl rfl rfl (by simp) ?_; rintro r rs ⟨rfl, c, c1, c2, c3, rfl⟩)
  | ((with_reducible refine cg ?_); refine call_pm [0] (r2 (by omega) (by omega)) rfl rfl rfl (by simp) ?_; rintro r rs ⟨rfl, c, c1, c2, c3, rfl⟩)
  | ((with_reducible refine cg ?_); refine call_pm [0] (r3 (by omega)) rfl rfl rfl (by simp) ?_; rintro r rs ⟨rfl, c, c1, c2, c3, rfl⟩)
  
  | (with_reducible refine Chk.mk' (by first | omega | exact trivial | (simp only [List.length_append, List.length_set, List.length_replicate, List.length_take, List.length_drop, List.length_cons, List.length_nil, List.length_map]; omega)) ?_)
  | (with_reducible refine wrap_g (by dsimp only [inR]; omega) ?_)
  | (with_reducible refine idx_g (by omega) ?_)
  | (with_reducible refine idx_l _ rfl (by decide) ?_)
  | (with_reducible refine BothG.mk ?_ ?_)
  | (with_reducible refine fork_tt ?_) | (with_reducible refine fork_ff ?_)
  | (with_reducible refine fork_e (c := true) (by decide) ?_; with_reducible refine fork_tt ?_) | (with_reducible refine fork_e (c := false) (by decide) ?_; with_reducible refine fork_ff ?_)
  | (with_reducible refine fork_t (by omega) ?_) | (with_reducible refine fork_f (by omega) ?_)
  | (with_reducible refine fork_d ?_ ?_ <;> intro hc)
  | (with_reducible refine fork_n ?_)
  | (with_reducible refine fork_b ?_ ?_ <;> intro hc)
  | (with_reducible refine SlcG.mk (by omega) ?_)
  | (with_reducible refine MakG.mk (by dsimp only; omega) ?_)
  | (with_reducible refine AppG.mk (by first | omega | (simp only [List.length_append, List.length_set, List.length_replicate, List.length_take, List.length_drop, List.length_cons, List.length_nil, List.length_map]; omega)) (by dsimp only [List.length_cons, List.length_nil]; omega) (by omega) ?_)
  | (with_reducible refine div_g (by omega) (by omega) (by dsimp only [inR]; omega) ?_)
  | (with_reducible refine mod_g (by omega) (by omega) ?_)
  | (with_reducible refine mask_g (m := 4294967296) 32 rfl rfl (by decide) (by omega) ?_)
  | (with_reducible refine shr_g (m := 4294967296) 32 rfl (by decide) (by omega) rfl ?_)
  | (with_reducible refine fz_all (by omega) ?_)
  | (with_reducible refine Stuck.h (A := RetE _ _) ?_) | (with_reducible refine Stuck.h (A := RetM _ _ _ _) ?_) | (with_reducible refine Stuck.h (A := Again _ _ _ _ _ _ _ _) ?_) | (with_reducible refine Stuck.h (A := CallF _ _ _ _ _ _ _) ?_) | (with_reducible refine Stuck.h (A := LoopG _ _ _ _ _ _ _ _) ?_) | (with_reducible refine Stuck.h (A := DrawG _ _ _ _ _ _ _ _) ?_)
  | (with_reducible refine Stuck.h (A := WrapG _ _ _) ?_) | (with_reducible refine Stuck.h (A := DivG _ _ _ _) ?_) | (with_reducible refine Stuck.h (A := ModG _ _ _) ?_) | (with_reducible refine Stuck.h (A := ShlG _ _ _ _) ?_) | (with_reducible refine Stuck.h (A := ShrG _ _ _ _) ?_) | (with_reducible refine Stuck.h (A := BitG _ _ _ _ _) ?_)
  | (with_reducible refine Stuck.h (A := IdxG _ _ _) ?_) | (with_reducible refine Stuck.h (A := IdxL _ _ _) ?_) | (with_reducible refine Stuck.h (A := SlcG _ _ _ _ _) ?_) | (with_reducible refine Stuck.h (A := MakG _ _ _ _) ?_) | (with_reducible refine Stuck.h (A := AppG _ _ _ _ _ _ _) ?_) | (with_reducible refine Stuck.h (A := FzG _ _ _ _) ?_)
  | (with_reducible refine Stuck.h (A := RawG _) ?_) | (with_reducible refine Stuck.h (A := TabG _ _ _ _ _) ?_) | (with_reducible refine Stuck.h (A := ExtF _ _ _ _) ?_) | (with_reducible refine Stuck.h (A := Chk _ _) ?_) | (with_reducible refine Stuck.h (A := False) ?_))
    all_goals exact ⟨ret_m [0] (.tup []) [some ⟨1, 44, .w .u64 c⟩] rfl rfl (by simp) (fun i h => one_row h) rfl ⟨rfl, c, c1, c2, c3, rfl⟩⟩
theorem prod_all : ∀ (m X Y : Nat), L64 X + L64 Y ≤ m → m ≤ 536870912 → ProdOk G X Y := by
  intro m
  induction m with
  | zero =>
    intro X Y h h2
    exact prod_of_fill (fill_step X Y (fun X' Y' h' => absurd h' (by omega)) (by omega) (by omega)) (by omega)
  | succ m ih =>
    intro X Y h h2
    exact prod_of_fill (fill_step X Y (fun X' Y' h' => ih X' Y' (by omega) (by omega)) (by omega) (by omega)) (by omega)
theorem m_product (X Y : Nat) (h : L64 X + L64 Y ≤ 536870912) : FC Tryz.prog G 123 [.ws .u64 (d64 X), .ws .u64 (d64 Y)] (· = .ws .u64 (d64 (X * Y))) := (prod_all _ X Y (Nat.le_refl _) h).fc
theorem m_told (X : Nat) (h : L64 X ≤ 536870912) : FC Tryz.prog G 122 [.ws .u64 (d64 X)] (· = natT X) := by
  have hl : (d64 X).length = L64 X := rfl
  refine FC.intro (X := XX) tok Tryz.func122 rfl Tryz.ntmps122 (by rw [Tryz.results122]) (by kernel_rfl) rfl ?_; intro F hG hO
  repeat' ((try (conv => whnf)); first
  
  | (with_reducible refine Chk.mk' (by first | omega | exact trivial | (simp only [List.length_append, List.length_set, List.length_replicate, List.length_take, List.length_drop, List.length_cons, List.length_nil, List.length_map]; omega)) ?_)
  | (with_reducible refine wrap_g (by dsimp only [inR]; omega) ?_)
  | (with_reducible refine idx_g (by omega) ?_)
  | (with_reducible refine idx_l _ rfl (by decide) ?_)
  | (with_reducible refine BothG.mk ?_ ?_)
  | (with_reducible refine fork_tt ?_) | (with_reducible refine fork_ff ?_)
  | (with_reducible refine fork_e (c := true) (by decide) ?_; with_reducible refine fork_tt ?_) | (with_reducible refine fork_e (c := false) (by decide) ?_; with_reducible refine fork_ff ?_)
  | (with_reducible refine fork_t (by omega) ?_) | (with_reducible refine fork_f (by omega) ?_)
  | (with_reducible refine fork_d ?_ ?_ <;> intro hc)
  | (with_reducible refine fork_n ?_)
  | (with_reducible refine fork_b ?_ ?_ <;> intro hc)
  | (with_reducible refine SlcG.mk (by omega) ?_)
  | (with_reducible refine MakG.mk (by dsimp only; omega) ?_)
  | (with_reducible refine AppG.mk (by first | omega | (simp only [List.length_append, List.length_set, List.length_replicate, List.length_take, List.length_drop, List.length_cons, List.length_nil, List.length_map]; omega)) (by dsimp only [List.length_cons, List.length_nil]; omega) (by omega) ?_)
  | (with_reducible refine div_g (by omega) (by omega) (by dsimp only [inR]; omega) ?_)
  | (with_reducible refine mod_g (by omega) (by omega) ?_)
  | (with_reducible refine mask_g (m := 4294967296) 32 rfl rfl (by decide) (by omega) ?_)
  | (with_reducible refine shr_g (m := 4294967296) 32 rfl (by decide) (by omega) rfl ?_)
  | (with_reducible refine fz_all (by omega) ?_)
  | (with_reducible refine Stuck.h (A := RetE _ _) ?_) | (with_reducible refine Stuck.h (A := RetM _ _ _ _) ?_) | (with_reducible refine Stuck.h (A := Again _ _ _ _ _ _ _ _) ?_) | (with_reducible refine Stuck.h (A := CallF _ _ _ _ _ _ _) ?_) | (with_reducible refine Stuck.h (A := LoopG _ _ _ _ _ _ _ _) ?_) | (with_reducible refine Stuck.h (A := DrawG _ _ _ _ _ _ _ _) ?_)
  | (with_reducible refine Stuck.h (A := WrapG _ _ _) ?_) | (with_reducible refine Stuck.h (A := DivG _ _ _ _) ?_) | (with_reducible refine Stuck.h (A := ModG _ _ _) ?_) | (with_reducible refine Stuck.h (A := ShlG _ _ _ _) ?_) | (with_reducible refine Stuck.h (A := ShrG _ _ _ _) ?_) | (with_reducible refine Stuck.h (A := BitG _ _ _ _ _) ?_)
  | (with_reducible refine Stuck.h (A := IdxG _ _ _) ?_) | (with_reducible refine Stuck.h (A := IdxL _ _ _) ?_) | (with_reducible refine Stuck.h (A := SlcG _ _ _ _ _) ?_) | (with_reducible refine Stuck.h (A := MakG _ _ _ _) ?_) | (with_reducible refine Stuck.h (A := AppG _ _ _ _ _ _ _) ?_) | (with_reducible refine Stuck.h (A := FzG _ _ _ _) ?_)
  | (with_reducible refine Stuck.h (A := RawG _) ?_) | (with_reducible refine Stuck.h (A := TabG _ _ _ _ _) ?_) | (with_reducible refine Stuck.h (A := ExtF _ _ _ _) ?_) | (with_reducible refine Stuck.h (A := Chk _ _) ?_) | (with_reducible refine Stuck.h (A := False) ?_))
  · exact ⟨ret_l _ (lp_natE 5) (natT_no (by omega)).symm⟩
  · exact ⟨ret_e (natT_ok (by omega)).symm⟩
theorem m_mul (X Y : Nat) (hX : L64 X ≤ 8192) (hY : L64 Y ≤ 8192) : FC Tryz.prog G 79 [.ws .u64 (d64 X), .ws .u64 (d64 Y)] (· = natT (X * Y)) := by
  have f1 := n_formN (G := G) X hX
  have f2 := n_formN (G := G) Y hY
  have f3 := m_product (G := G) X Y (by omega)
  have hm := L64_mul X Y
  have f4 := m_told (G := G) (X * Y) (by omega)
  obtain ⟨V, hV⟩ : ∃ V, V = X * Y := ⟨_, rfl⟩
  rw [← hV] at f3 f4 ⊢
  unfold natT at f4 ⊢
  refine FC.intro (X := XX) tok Tryz.func79 rfl Tryz.ntmps79 (by rw [Tryz.results79]) (by kernel_rfl) rfl ?_; intro F hG hO
  rw [← hG] at f1 f2 f3 f4
  repeat' ((try (conv => whnf)); first
  | ((with_reducible refine cg ?_); refine call_eq (f1) (LpL.refl _) rfl ?_)
  | ((with_reducible refine cg ?_); refine call_eq (f2) (LpL.refl _) rfl ?_)
  | ((with_reducible refine cg ?_); refine call_eq (f3) (LpL.refl _) rfl ?_)
  | ((with_reducible refine cg ?_); refine call_eq (f4) (LpL.refl _) rfl ?_)
  
  | (with_reducible refine Chk.mk' (by first | omega | exact trivial | (simp only [List.length_append, List.length_set, List.length_replicate, List.length_take, List.length_drop, List.length_cons, List.length_nil, List.length_map]; omega)) ?_)
  | (with_reducible refine wrap_g (by dsimp only [inR]; omega) ?_)
  | (with_reducible refine idx_g (by omega) ?_)
  | (with_reducible refine idx_l _ rfl (by decide) ?_)
  | (with_reducible refine BothG.mk ?_ ?_)
  | (with_reducible refine fork_tt ?_) | (with_reducible refine fork_ff ?_)
  | (with_reducible refine fork_e (c := true) (by decide) ?_; with_reducible refine fork_tt ?_) | (with_reducible refine fork_e (c := false) (by decide) ?_; with_reducible refine fork_ff ?_)
  | (with_reducible refine fork_t (by omega) ?_) | (with_reducible refine fork_f (by omega) ?_)
  | (with_reducible refine fork_d ?_ ?_ <;> intro hc)
  | (with_reducible refine fork_n ?_)
  | (with_reducible refine fork_b ?_ ?_ <;> intro hc)
  | (with_reducible refine SlcG.mk (by omega) ?_)
  | (with_reducible refine MakG.mk (by dsimp only; omega) ?_)
  | (with_reducible refine AppG.mk (by first | omega | (simp only [List.length_append, List.length_set, List.length_replicate, List.length_take, List.length_drop, List.length_cons, List.length_nil, List.length_map]; omega)) (by dsimp only [List.length_cons, List.length_nil]; omega) (by omega) ?_)
  | (with_reducible refine div_g (by omega) (by omega) (by dsimp only [inR]; omega) ?_)
  | (with_reducible refine mod_g (by omega) (by omega) ?_)
  | (with_reducible refine mask_g (m := 4294967296) 32 rfl rfl (by decide) (by omega) ?_)
  | (with_reducible refine shr_g (m := 4294967296) 32 rfl (by decide) (by omega) rfl ?_)
  | (with_reducible refine fz_all (by omega) ?_)
  | (with_reducible refine Stuck.h (A := RetE _ _) ?_) | (with_reducible refine Stuck.h (A := RetM _ _ _ _) ?_) | (with_reducible refine Stuck.h (A := Again _ _ _ _ _ _ _ _) ?_) | (with_reducible refine Stuck.h (A := CallF _ _ _ _ _ _ _) ?_) | (with_reducible refine Stuck.h (A := LoopG _ _ _ _ _ _ _ _) ?_) | (with_reducible refine Stuck.h (A := DrawG _ _ _ _ _ _ _ _) ?_)
  | (with_reducible refine Stuck.h (A := WrapG _ _ _) ?_) | (with_reducible refine Stuck.h (A := DivG _ _ _ _) ?_) | (with_reducible refine Stuck.h (A := ModG _ _ _) ?_) | (with_reducible refine Stuck.h (A := ShlG _ _ _ _) ?_) | (with_reducible refine Stuck.h (A := ShrG _ _ _ _) ?_) | (with_reducible refine Stuck.h (A := BitG _ _ _ _ _) ?_)
  | (with_reducible refine Stuck.h (A := IdxG _ _ _) ?_) | (with_reducible refine Stuck.h (A := IdxL _ _ _) ?_) | (with_reducible refine Stuck.h (A := SlcG _ _ _ _ _) ?_) | (with_reducible refine Stuck.h (A := MakG _ _ _ _) ?_) | (with_reducible refine Stuck.h (A := AppG _ _ _ _ _ _ _) ?_) | (with_reducible refine Stuck.h (A := FzG _ _ _ _) ?_)
  | (with_reducible refine Stuck.h (A := RawG _) ?_) | (with_reducible refine Stuck.h (A := TabG _ _ _ _ _) ?_) | (with_reducible refine Stuck.h (A := ExtF _ _ _ _) ?_) | (with_reducible refine Stuck.h (A := Chk _ _) ?_) | (with_reducible refine Stuck.h (A := False) ?_))
  exact ⟨ret_e rfl⟩
end Go.Proofs.YtbeocnjlepcglaaGreatDoor.Sim
