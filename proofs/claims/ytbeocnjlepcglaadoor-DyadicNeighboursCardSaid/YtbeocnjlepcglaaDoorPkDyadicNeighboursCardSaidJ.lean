/-
  What the statement DyadicNeighboursCardSaid leans on, part 10: the logic of walks, digits, contracts of the functions, the plain law. Conditions stand in each theorem.
-/
import Derived.Test.YtbeocnjlepcglaaDoorPkDyadicNeighboursCardSaidI
namespace Go.Proofs.YtbeocnjlepcglaaDoor.Sim
open Go.RowKit
set_option linter.unusedVariables false
set_option linter.unusedSimpArgs false
set_option maxRecDepth 10000
set_option maxHeartbeats 8000000
variable {G : List (Nat × List Value)}
theorem sub_sign (x y : Nat) : ((x : Int) - y).sign = cmpN x y := by
  unfold cmpN
  split
  · exact Int.sign_eq_neg_one_of_neg (by omega)
  · split
    · rw [show (x : Int) - y = 0 by omega]; rfl
    · exact Int.sign_eq_one_of_pos (by omega)
theorem cmp_size {n e m f : Int} (hn : n.sign ≠ 0) (h : n.sign = m.sign) : cmpS n e m f = n.sign * sizeS n e m f := by
  unfold cmpS sizeS
  rw [if_neg (by rintro (h1 | h1); exact h1 h; exact hn h1)]
  by_cases h1 : topN n e < topN m f
  · rw [if_pos (by omega), if_pos h1, show (topN n e - topN m f).sign = -1 from Int.sign_eq_neg_one_of_neg (by omega)]
  · by_cases h2 : topN m f < topN n e
    · rw [if_pos (by omega), if_neg h1, if_pos h2, show (topN n e - topN m f).sign = 1 from Int.sign_eq_one_of_pos (by omega)]
    · rw [if_neg (by omega), if_neg h1, if_neg h2, ← sub_sign]
      have e1 := Int.sign_mul_natAbs n
      have e2 := Int.sign_mul_natAbs m
      have e3 : n * 2 ^ (e - min e f).toNat - m * 2 ^ (f - min e f).toNat = n.sign * (((n.natAbs * 2 ^ (e - min e f).toNat : Nat) : Int) - ((m.natAbs * 2 ^ (f - min e f).toNat : Nat) : Int)) := by
        conv => lhs; rw [← e1, ← e2, ← h]
        rw [Int.mul_sub, Int.natCast_mul, Int.natCast_mul, Int.mul_assoc, Int.mul_assoc]
        simp
      rw [e3, Int.sign_mul, Int.sign_sign]
theorem cmp_ne {n e m f : Int} (h : n.sign ≠ m.sign) : cmpS n e m f = (n.sign - m.sign).sign := by unfold cmpS; rw [if_pos (.inl h)]
theorem cmp_z {n e m f : Int} (h : n.sign = m.sign) (h0 : n.sign = 0) : cmpS n e m f = 0 := by unfold cmpS; rw [if_pos (.inr h0), ← h, h0]; rfl
theorem sign_z {n : Int} (h : n.sign ≠ 0) : n ≠ 0 := fun h0 => h (by rw [h0]; rfl)
theorem y_cmp {n e m f : Int} (h : Good n e) (g : Good m f) : FC Tryd.prog G 29 [DY n e, DY m f] (· = .tup [.val (.int .i64 (cmpS n e m f)), .val (.int .i64 0)]) := by
  have f1 := y_form (G := G) h
  have f2 := y_form (G := G) g
  have f3 := n_sign (G := G) n h.1
  have f4 := n_sign (G := G) m g.1
  have s1 := sign_bd n
  have s2 := sign_bd m
  have f5 : Unit → n.sign = m.sign → n.sign ≠ 0 → FC Tryd.prog G 50 [DY n e, DY m f] (· = .val (.int .i64 (sizeS n e m f))) := fun _ h1 h2 => y_size (G := G) h g (sign_z h2) (sign_z (by rw [← h1]; exact h2))
  have c1 := fun (_ : Unit) => cmp_ne (n := n) (e := e) (m := m) (f := f)
  have c2 := fun (_ : Unit) => cmp_z (n := n) (e := e) (m := m) (f := f)
  have c3 := fun (_ : Unit) => cmp_size (n := n) (e := e) (m := m) (f := f)
  have c4 := sizeS_bd n e m f
  obtain ⟨z, hz⟩ : ∃ z, z = sizeS n e m f := ⟨_, rfl⟩
  rw [← hz] at f5 c3 c4
  have c5 : Unit → -1 ≤ n.sign * z ∧ n.sign * z ≤ 1 := fun _ => by
    rcases (by omega : n.sign = -1 ∨ n.sign = 0 ∨ n.sign = 1) with h1 | h1 | h1 <;> rw [h1] <;> omega
  refine FC.intro (X := XX) tok Tryd.func29 rfl Tryd.ntmps29 (by rw [Tryd.results29]) (by kernel_rfl) rfl ?_; intro F hG hO
  rw [← hG] at f1 f2 f3 f4 f5
  repeat' ((try (conv => whnf)); first
  | ((with_reducible refine cg ?_); refine call_eq (f1) (LpL.refl _) rfl ?_)
  | ((with_reducible refine cg ?_); refine call_eq (f2) (LpL.refl _) rfl ?_)
  | ((with_reducible refine cg ?_); refine call_eq (f3) (LpL.refl _) rfl ?_)
  | ((with_reducible refine cg ?_); refine call_eq (f4) (LpL.refl _) rfl ?_)
  | ((with_reducible refine cg ?_); refine call_eq (f5 () (by omega) (by omega)) (LpL.refl _) rfl ?_)
  | (with_reducible refine wrap_g (by have := c5 (); dsimp only [inR]; omega) ?_)
  
  | (with_reducible refine draw_g (id := 3) [[0, 1, 3, 4, 2, 5, 6, 7]] tok mixed (by kernel_rfl) ?_)
  | (with_reducible refine Chk.mk' (by first | omega | exact trivial | (simp only [List.length_append, List.length_set, List.length_replicate, List.length_take, List.length_drop, List.length_cons, List.length_nil, List.length_map]; omega)) ?_)
  | (with_reducible refine wrap_g (by dsimp only [inR]; omega) ?_)
  | (with_reducible refine idx_g (by omega) ?_)
  | (with_reducible refine idx_l _ rfl (by decide) ?_)
  | (with_reducible refine BothG.mk ?_ ?_)
  | (with_reducible refine fork_tt ?_) | (with_reducible refine fork_ff ?_)
  | (with_reducible refine fork_e (c := true) (by decide) ?_; with_reducible refine fork_tt ?_) | (with_reducible refine fork_e (c := false) (by decide) ?_; with_reducible refine fork_ff ?_)
  | (with_reducible refine fork_t (by omega) ?_) | (with_reducible refine fork_f (by omega) ?_)
  | (with_reducible refine fork_d ?_ ?_ <;> intro hc)
  | (with_reducible refine fork_n ?_)
  | (with_reducible refine fork_b ?_ ?_ <;> intro hc)
  | (with_reducible refine SlcG.mk (by omega) ?_)
  | (with_reducible refine MakG.mk (by dsimp only; omega) ?_)
  | (with_reducible refine AppG.mk (by first | omega | (simp only [List.length_append, List.length_set, List.length_replicate, List.length_take, List.length_drop, List.length_cons, List.length_nil, List.length_map]; omega)) (by dsimp only [List.length_cons, List.length_nil]; omega) (by omega) ?_)
  | (with_reducible refine div_g (by omega) (by omega) (by dsimp only [inR]; omega) ?_)
  | (with_reducible refine mod_g (by omega) (by omega) ?_)
  | (with_reducible refine mask_g (m := 4294967296) 32 rfl rfl (by decide) (by omega) ?_)
  | (with_reducible refine shr_g (m := 4294967296) 32 rfl (by decide) (by omega) rfl ?_)
  | (with_reducible refine fz_all (by omega) ?_)
  | (with_reducible refine Stuck.h (A := RetE _ _) ?_) | (with_reducible refine Stuck.h (A := RetM _ _ _ _) ?_) | (with_reducible refine Stuck.h (A := Again _ _ _ _ _ _ _ _) ?_) | (with_reducible refine Stuck.h (A := CallF _ _ _ _ _ _ _) ?_) | (with_reducible refine Stuck.h (A := LoopG _ _ _ _ _ _ _ _) ?_) | (with_reducible refine Stuck.h (A := DrawG _ _ _ _ _ _ _ _) ?_)
  | (with_reducible refine Stuck.h (A := WrapG _ _ _) ?_) | (with_reducible refine Stuck.h (A := DivG _ _ _ _) ?_) | (with_reducible refine Stuck.h (A := ModG _ _ _) ?_) | (with_reducible refine Stuck.h (A := ShlG _ _ _ _) ?_) | (with_reducible refine Stuck.h (A := ShrG _ _ _ _) ?_) | (with_reducible refine Stuck.h (A := BitG _ _ _ _ _) ?_)
  | (with_reducible refine Stuck.h (A := IdxG _ _ _) ?_) | (with_reducible refine Stuck.h (A := IdxL _ _ _) ?_) | (with_reducible refine Stuck.h (A := SlcG _ _ _ _ _) ?_) | (with_reducible refine Stuck.h (A := MakG _ _ _ _) ?_) | (with_reducible refine Stuck.h (A := AppG _ _ _ _ _ _ _) ?_) | (with_reducible refine Stuck.h (A := FzG _ _ _ _) ?_)
  | (with_reducible refine Stuck.h (A := RawG _) ?_) | (with_reducible refine Stuck.h (A := TabG _ _ _ _ _) ?_) | (with_reducible refine Stuck.h (A := ExtF _ _ _ _) ?_) | (with_reducible refine Stuck.h (A := Chk _ _) ?_) | (with_reducible refine Stuck.h (A := False) ?_))
  · exact ⟨ret_e (by rw [c1 () (by omega), Int.sign_eq_neg_one_of_neg (by omega)])⟩
  · exact ⟨ret_e (by rw [c1 () (by omega), Int.sign_eq_one_of_pos (by omega)])⟩
  · exact ⟨ret_e (by rw [c2 () (by omega) (by omega)])⟩
  · exact ⟨ret_e (by rw [c3 () (by omega) (by omega)])⟩
theorem shlC_pos {X : Nat} {k : Int} (h : ¬ k < 0) (h0 : X ≠ 0) : shlC X k = if 524288 - (bl X : Int) < k then 5 else 0 := by unfold shlC; rw [if_neg h, if_neg h0]
theorem nshl_form (n k : Int) : ∃ r, nshlS n k = .tup [NI r, .val (.int .i64 (shlC n.natAbs k))] := by
  unfold nshlS
  split
  · rename_i h; rw [h]; exact ⟨_, rfl⟩
  · exact ⟨0, rfl⟩
theorem nshl_no {n k : Int} (h : ¬ k < 0) (h0 : n ≠ 0) (h1 : 524288 < k + (bl n.natAbs : Int)) : nshlS n k = numE 5 := by
  unfold nshlS
  have hc : shlC n.natAbs k = 5 := by rw [shlC_pos h (by omega), if_pos (by omega)]
  rw [hc, if_neg (by decide)]
theorem nshl_ok {n k : Int} (h : ¬ k < 0) (h0 : n ≠ 0) (h1 : k + (bl n.natAbs : Int) ≤ 524288) : nshlS n k = numR (n * 2 ^ k.toNat) ∧ L64 (n * 2 ^ k.toNat).natAbs ≤ 8192 := by
  unfold nshlS
  have hc : shlC n.natAbs k = 0 := by rw [shlC_pos h (by omega), if_neg (by omega)]
  rw [hc, if_pos rfl]
  refine ⟨rfl, ?_⟩
  rw [Int.natAbs_mul, Int.natAbs_pow, show Int.natAbs 2 = 2 from rfl, L64_bl, bl_mul_pow n.natAbs k.toNat (by omega)]
  omega
theorem y_add {g : List (Nat × List Value)} (hD : (0, debT.map (Value.int .u8)) ∈ g) {n e m f : Int} (h : Good n e) (k : Good m f) : FC Tryd.prog g 24 [DY n e, DY m f] (· = addS n e m f) := by
  have f1 := y_form (G := g) h
  have f2 := y_form (G := g) k
  have f3 := y_noughtg (G := g) n e
  have f4 := y_noughtg (G := g) m f
  have f5 := y_twing (G := g) h
  have f6 := y_twing (G := g) k
  have e1 := h.2.1
  have e2 := h.2.2.1
  have e3 := k.2.1
  have e4 := k.2.2.1
  have s1 := n_nshl (G := g) n (e - min e f) h.1 (by dsimp only [inR]; omega)
  have s2 := n_nshl (G := g) m (f - min e f) k.1 (by dsimp only [inR]; omega)
  have hd1 : topN n e = e + (bl n.natAbs : Int) - 1 := rfl
  have hd2 : topN m f = f + (bl m.natAbs : Int) - 1 := rfl
  unfold addS
  by_cases hn : n = 0
  · rw [if_pos hn]
    clear s1 s2 hd1 hd2
    refine FC.intro (X := XX) tok Tryd.func24 rfl Tryd.ntmps24 (by rw [Tryd.results24]) (by kernel_rfl) rfl ?_; intro F hG hO
    rw [← hG] at f1 f2 f3 f6
    repeat' ((try (conv => whnf)); first
  | ((with_reducible refine cg ?_); refine call_eq (f1) (LpL.refl _) rfl ?_)
  | ((with_reducible refine cg ?_); refine call_eq (f2) (LpL.refl _) rfl ?_)
  | ((with_reducible refine cg ?_); refine call_eq (f3) (LpL.refl _) rfl ?_)
  | ((with_reducible refine cg ?_); refine call_eq (f6) (LpL.refl _) rfl ?_)
  
  | (with_reducible refine Chk.mk' (by first | omega | exact trivial | (simp only [List.length_append, List.length_set, List.length_replicate, List.length_take, List.length_drop, List.length_cons, List.length_nil, List.length_map]; omega)) ?_)
  | (with_reducible refine wrap_g (by dsimp only [inR]; omega) ?_)
  | (with_reducible refine idx_g (by omega) ?_)
  | (with_reducible refine idx_l _ rfl (by decide) ?_)
  | (with_reducible refine BothG.mk ?_ ?_)
  | (with_reducible refine fork_tt ?_) | (with_reducible refine fork_ff ?_)
  | (with_reducible refine fork_e (c := true) (by decide) ?_; with_reducible refine fork_tt ?_) | (with_reducible refine fork_e (c := false) (by decide) ?_; with_reducible refine fork_ff ?_)
  | (with_reducible refine fork_t (by omega) ?_) | (with_reducible refine fork_f (by omega) ?_)
  | (with_reducible refine fork_d ?_ ?_ <;> intro hc)
  | (with_reducible refine fork_n ?_)
  | (with_reducible refine fork_b ?_ ?_ <;> intro hc)
  | (with_reducible refine SlcG.mk (by omega) ?_)
  | (with_reducible refine MakG.mk (by dsimp only; omega) ?_)
  | (with_reducible refine AppG.mk (by first | omega | (simp only [List.length_append, List.length_set, List.length_replicate, List.length_take, List.length_drop, List.length_cons, List.length_nil, List.length_map]; omega)) (by dsimp only [List.length_cons, List.length_nil]; omega) (by omega) ?_)
  | (with_reducible refine div_g (by omega) (by omega) (by dsimp only [inR]; omega) ?_)
  | (with_reducible refine mod_g (by omega) (by omega) ?_)
  | (with_reducible refine mask_g (m := 4294967296) 32 rfl rfl (by decide) (by omega) ?_)
  | (with_reducible refine shr_g (m := 4294967296) 32 rfl (by decide) (by omega) rfl ?_)
  | (with_reducible refine fz_all (by omega) ?_)
  | (with_reducible refine Stuck.h (A := RetE _ _) ?_) | (with_reducible refine Stuck.h (A := RetM _ _ _ _) ?_) | (with_reducible refine Stuck.h (A := Again _ _ _ _ _ _ _ _) ?_) | (with_reducible refine Stuck.h (A := CallF _ _ _ _ _ _ _) ?_) | (with_reducible refine Stuck.h (A := LoopG _ _ _ _ _ _ _ _) ?_) | (with_reducible refine Stuck.h (A := DrawG _ _ _ _ _ _ _ _) ?_)
  | (with_reducible refine Stuck.h (A := WrapG _ _ _) ?_) | (with_reducible refine Stuck.h (A := DivG _ _ _ _) ?_) | (with_reducible refine Stuck.h (A := ModG _ _ _) ?_) | (with_reducible refine Stuck.h (A := ShlG _ _ _ _) ?_) | (with_reducible refine Stuck.h (A := ShrG _ _ _ _) ?_) | (with_reducible refine Stuck.h (A := BitG _ _ _ _ _) ?_)
  | (with_reducible refine Stuck.h (A := IdxG _ _ _) ?_) | (with_reducible refine Stuck.h (A := IdxL _ _ _) ?_) | (with_reducible refine Stuck.h (A := SlcG _ _ _ _ _) ?_) | (with_reducible refine Stuck.h (A := MakG _ _ _ _) ?_) | (with_reducible refine Stuck.h (A := AppG _ _ _ _ _ _ _) ?_) | (with_reducible refine Stuck.h (A := FzG _ _ _ _) ?_)
  | (with_reducible refine Stuck.h (A := RawG _) ?_) | (with_reducible refine Stuck.h (A := TabG _ _ _ _ _) ?_) | (with_reducible refine Stuck.h (A := ExtF _ _ _ _) ?_) | (with_reducible refine Stuck.h (A := Chk _ _) ?_) | (with_reducible refine Stuck.h (A := False) ?_))
    exact ⟨ret_e rfl⟩
  rw [if_neg hn]
  by_cases hm : m = 0
  · rw [if_pos hm]
    clear s1 s2 hd1 hd2
    refine FC.intro (X := XX) tok Tryd.func24 rfl Tryd.ntmps24 (by rw [Tryd.results24]) (by kernel_rfl) rfl ?_; intro F hG hO
    rw [← hG] at f1 f2 f3 f4 f5
    repeat' ((try (conv => whnf)); first
  | ((with_reducible refine cg ?_); refine call_eq (f1) (LpL.refl _) rfl ?_)
  | ((with_reducible refine cg ?_); refine call_eq (f2) (LpL.refl _) rfl ?_)
  | ((with_reducible refine cg ?_); refine call_eq (f3) (LpL.refl _) rfl ?_)
  | ((with_reducible refine cg ?_); refine call_eq (f4) (LpL.refl _) rfl ?_)
  | ((with_reducible refine cg ?_); refine call_eq (f5) (LpL.refl _) rfl ?_)
  
  | (with_reducible refine Chk.mk' (by first | omega | exact trivial | (simp only [List.length_append, List.length_set, List.length_replicate, List.length_take, List.length_drop, List.length_cons, List.length_nil, List.length_map]; omega)) ?_)
  | (with_reducible refine wrap_g (by dsimp only [inR]; omega) ?_)
  | (with_reducible refine idx_g (by omega) ?_)
  | (with_reducible refine idx_l _ rfl (by decide) ?_)
  | (with_reducible refine BothG.mk ?_ ?_)
  | (with_reducible refine fork_tt ?_) | (with_reducible refine fork_ff ?_)
  | (with_reducible refine fork_e (c := true) (by decide) ?_; with_reducible refine fork_tt ?_) | (with_reducible refine fork_e (c := false) (by decide) ?_; with_reducible refine fork_ff ?_)
  | (with_reducible refine fork_t (by omega) ?_) | (with_reducible refine fork_f (by omega) ?_)
  | (with_reducible refine fork_d ?_ ?_ <;> intro hc)
  | (with_reducible refine fork_n ?_)
  | (with_reducible refine fork_b ?_ ?_ <;> intro hc)
  | (with_reducible refine SlcG.mk (by omega) ?_)
  | (with_reducible refine MakG.mk (by dsimp only; omega) ?_)
  | (with_reducible refine AppG.mk (by first | omega | (simp only [List.length_append, List.length_set, List.length_replicate, List.length_take, List.length_drop, List.length_cons, List.length_nil, List.length_map]; omega)) (by dsimp only [List.length_cons, List.length_nil]; omega) (by omega) ?_)
  | (with_reducible refine div_g (by omega) (by omega) (by dsimp only [inR]; omega) ?_)
  | (with_reducible refine mod_g (by omega) (by omega) ?_)
  | (with_reducible refine mask_g (m := 4294967296) 32 rfl rfl (by decide) (by omega) ?_)
  | (with_reducible refine shr_g (m := 4294967296) 32 rfl (by decide) (by omega) rfl ?_)
  | (with_reducible refine fz_all (by omega) ?_)
  | (with_reducible refine Stuck.h (A := RetE _ _) ?_) | (with_reducible refine Stuck.h (A := RetM _ _ _ _) ?_) | (with_reducible refine Stuck.h (A := Again _ _ _ _ _ _ _ _) ?_) | (with_reducible refine Stuck.h (A := CallF _ _ _ _ _ _ _) ?_) | (with_reducible refine Stuck.h (A := LoopG _ _ _ _ _ _ _ _) ?_) | (with_reducible refine Stuck.h (A := DrawG _ _ _ _ _ _ _ _) ?_)
  | (with_reducible refine Stuck.h (A := WrapG _ _ _) ?_) | (with_reducible refine Stuck.h (A := DivG _ _ _ _) ?_) | (with_reducible refine Stuck.h (A := ModG _ _ _) ?_) | (with_reducible refine Stuck.h (A := ShlG _ _ _ _) ?_) | (with_reducible refine Stuck.h (A := ShrG _ _ _ _) ?_) | (with_reducible refine Stuck.h (A := BitG _ _ _ _ _) ?_)
  | (with_reducible refine Stuck.h (A := IdxG _ _ _) ?_) | (with_reducible refine Stuck.h (A := IdxL _ _ _) ?_) | (with_reducible refine Stuck.h (A := SlcG _ _ _ _ _) ?_) | (with_reducible refine Stuck.h (A := MakG _ _ _ _) ?_) | (with_reducible refine Stuck.h (A := AppG _ _ _ _ _ _ _) ?_) | (with_reducible refine Stuck.h (A := FzG _ _ _ _) ?_)
  | (with_reducible refine Stuck.h (A := RawG _) ?_) | (with_reducible refine Stuck.h (A := TabG _ _ _ _ _) ?_) | (with_reducible refine Stuck.h (A := ExtF _ _ _ _) ?_) | (with_reducible refine Stuck.h (A := Chk _ _) ?_) | (with_reducible refine Stuck.h (A := False) ?_))
    exact ⟨ret_e rfl⟩
  rw [if_neg hm]
  by_cases hA : 524288 < (e - min e f) + (bl n.natAbs : Int)
  · rw [if_pos (.inl (by omega))]
    rw [nshl_no (by omega) hn hA] at s1
    obtain ⟨r2, hr2⟩ := nshl_form m (f - min e f)
    rw [hr2] at s2
    obtain ⟨c2, hc2⟩ : ∃ c, c = shlC m.natAbs (f - min e f) := ⟨_, rfl⟩
    rw [← hc2] at s2
    clear hd1 hd2 hr2 hc2
    refine FC.intro (X := XX) tok Tryd.func24 rfl Tryd.ntmps24 (by rw [Tryd.results24]) (by kernel_rfl) rfl ?_; intro F hG hO
    rw [← hG] at f1 f2 f3 f4 s1 s2
    repeat' ((try (conv => whnf)); first
  | ((with_reducible refine cg ?_); refine call_eq (f1) (LpL.refl _) rfl ?_)
  | ((with_reducible refine cg ?_); refine call_eq (f2) (LpL.refl _) rfl ?_)
  | ((with_reducible refine cg ?_); refine call_eq (f3) (LpL.refl _) rfl ?_)
  | ((with_reducible refine cg ?_); refine call_eq (f4) (LpL.refl _) rfl ?_)
  | ((with_reducible refine cg ?_); refine call_eq (s1) (LpL.refl _) rfl ?_)
  | ((with_reducible refine cg ?_); refine call_eq (s2) (LpL.refl _) rfl ?_)
  
  | (with_reducible refine Chk.mk' (by first | omega | exact trivial | (simp only [List.length_append, List.length_set, List.length_replicate, List.length_take, List.length_drop, List.length_cons, List.length_nil, List.length_map]; omega)) ?_)
  | (with_reducible refine wrap_g (by dsimp only [inR]; omega) ?_)
  | (with_reducible refine idx_g (by omega) ?_)
  | (with_reducible refine idx_l _ rfl (by decide) ?_)
  | (with_reducible refine BothG.mk ?_ ?_)
  | (with_reducible refine fork_tt ?_) | (with_reducible refine fork_ff ?_)
  | (with_reducible refine fork_e (c := true) (by decide) ?_; with_reducible refine fork_tt ?_) | (with_reducible refine fork_e (c := false) (by decide) ?_; with_reducible refine fork_ff ?_)
  | (with_reducible refine fork_t (by omega) ?_) | (with_reducible refine fork_f (by omega) ?_)
  | (with_reducible refine fork_d ?_ ?_ <;> intro hc)
  | (with_reducible refine fork_n ?_)
  | (with_reducible refine fork_b ?_ ?_ <;> intro hc)
  | (with_reducible refine SlcG.mk (by omega) ?_)
  | (with_reducible refine MakG.mk (by dsimp only; omega) ?_)
  | (with_reducible refine AppG.mk (by first | omega | (simp only [List.length_append, List.length_set, List.length_replicate, List.length_take, List.length_drop, List.length_cons, List.length_nil, List.length_map]; omega)) (by dsimp only [List.length_cons, List.length_nil]; omega) (by omega) ?_)
  | (with_reducible refine div_g (by omega) (by omega) (by dsimp only [inR]; omega) ?_)
  | (with_reducible refine mod_g (by omega) (by omega) ?_)
  | (with_reducible refine mask_g (m := 4294967296) 32 rfl rfl (by decide) (by omega) ?_)
  | (with_reducible refine shr_g (m := 4294967296) 32 rfl (by decide) (by omega) rfl ?_)
  | (with_reducible refine fz_all (by omega) ?_)
  | (with_reducible refine Stuck.h (A := RetE _ _) ?_) | (with_reducible refine Stuck.h (A := RetM _ _ _ _) ?_) | (with_reducible refine Stuck.h (A := Again _ _ _ _ _ _ _ _) ?_) | (with_reducible refine Stuck.h (A := CallF _ _ _ _ _ _ _) ?_) | (with_reducible refine Stuck.h (A := LoopG _ _ _ _ _ _ _ _) ?_) | (with_reducible refine Stuck.h (A := DrawG _ _ _ _ _ _ _ _) ?_)
  | (with_reducible refine Stuck.h (A := WrapG _ _ _) ?_) | (with_reducible refine Stuck.h (A := DivG _ _ _ _) ?_) | (with_reducible refine Stuck.h (A := ModG _ _ _) ?_) | (with_reducible refine Stuck.h (A := ShlG _ _ _ _) ?_) | (with_reducible refine Stuck.h (A := ShrG _ _ _ _) ?_) | (with_reducible refine Stuck.h (A := BitG _ _ _ _ _) ?_)
  | (with_reducible refine Stuck.h (A := IdxG _ _ _) ?_) | (with_reducible refine Stuck.h (A := IdxL _ _ _) ?_) | (with_reducible refine Stuck.h (A := SlcG _ _ _ _ _) ?_) | (with_reducible refine Stuck.h (A := MakG _ _ _ _) ?_) | (with_reducible refine Stuck.h (A := AppG _ _ _ _ _ _ _) ?_) | (with_reducible refine Stuck.h (A := FzG _ _ _ _) ?_)
  | (with_reducible refine Stuck.h (A := RawG _) ?_) | (with_reducible refine Stuck.h (A := TabG _ _ _ _ _) ?_) | (with_reducible refine Stuck.h (A := ExtF _ _ _ _) ?_) | (with_reducible refine Stuck.h (A := Chk _ _) ?_) | (with_reducible refine Stuck.h (A := False) ?_))
    exact ⟨ret_l _ (lp_dyE 5) rfl⟩
  obtain ⟨q1, l1⟩ := nshl_ok (n := n) (k := e - min e f) (by omega) hn (by omega)
  rw [q1] at s1
  by_cases hB : 524288 < (f - min e f) + (bl m.natAbs : Int)
  · rw [if_pos (.inr (by omega))]
    rw [nshl_no (by omega) hm hB] at s2
    obtain ⟨x, hx⟩ : ∃ x, x = n * 2 ^ (e - min e f).toNat := ⟨_, rfl⟩
    rw [← hx] at s1
    clear hd1 hd2
    refine FC.intro (X := XX) tok Tryd.func24 rfl Tryd.ntmps24 (by rw [Tryd.results24]) (by kernel_rfl) rfl ?_; intro F hG hO
    rw [← hG] at f1 f2 f3 f4 s1 s2
    repeat' ((try (conv => whnf)); first
  | ((with_reducible refine cg ?_); refine call_eq (f1) (LpL.refl _) rfl ?_)
  | ((with_reducible refine cg ?_); refine call_eq (f2) (LpL.refl _) rfl ?_)
  | ((with_reducible refine cg ?_); refine call_eq (f3) (LpL.refl _) rfl ?_)
  | ((with_reducible refine cg ?_); refine call_eq (f4) (LpL.refl _) rfl ?_)
  | ((with_reducible refine cg ?_); refine call_eq (s1) (LpL.refl _) rfl ?_)
  | ((with_reducible refine cg ?_); refine call_eq (s2) (LpL.refl _) rfl ?_)
  
  | (with_reducible refine Chk.mk' (by first | omega | exact trivial | (simp only [List.length_append, List.length_set, List.length_replicate, List.length_take, List.length_drop, List.length_cons, List.length_nil, List.length_map]; omega)) ?_)
  | (with_reducible refine wrap_g (by dsimp only [inR]; omega) ?_)
  | (with_reducible refine idx_g (by omega) ?_)
  | (with_reducible refine idx_l _ rfl (by decide) ?_)
  | (with_reducible refine BothG.mk ?_ ?_)
  | (with_reducible refine fork_tt ?_) | (with_reducible refine fork_ff ?_)
  | (with_reducible refine fork_e (c := true) (by decide) ?_; with_reducible refine fork_tt ?_) | (with_reducible refine fork_e (c := false) (by decide) ?_; with_reducible refine fork_ff ?_)
  | (with_reducible refine fork_t (by omega) ?_) | (with_reducible refine fork_f (by omega) ?_)
  | (with_reducible refine fork_d ?_ ?_ <;> intro hc)
  | (with_reducible refine fork_n ?_)
  | (with_reducible refine fork_b ?_ ?_ <;> intro hc)
  | (with_reducible refine SlcG.mk (by omega) ?_)
  | (with_reducible refine MakG.mk (by dsimp only; omega) ?_)
  | (with_reducible refine AppG.mk (by first | omega | (simp only [List.length_append, List.length_set, List.length_replicate, List.length_take, List.length_drop, List.length_cons, List.length_nil, List.length_map]; omega)) (by dsimp only [List.length_cons, List.length_nil]; omega) (by omega) ?_)
  | (with_reducible refine div_g (by omega) (by omega) (by dsimp only [inR]; omega) ?_)
  | (with_reducible refine mod_g (by omega) (by omega) ?_)
  | (with_reducible refine mask_g (m := 4294967296) 32 rfl rfl (by decide) (by omega) ?_)
  | (with_reducible refine shr_g (m := 4294967296) 32 rfl (by decide) (by omega) rfl ?_)
  | (with_reducible refine fz_all (by omega) ?_)
  | (with_reducible refine Stuck.h (A := RetE _ _) ?_) | (with_reducible refine Stuck.h (A := RetM _ _ _ _) ?_) | (with_reducible refine Stuck.h (A := Again _ _ _ _ _ _ _ _) ?_) | (with_reducible refine Stuck.h (A := CallF _ _ _ _ _ _ _) ?_) | (with_reducible refine Stuck.h (A := LoopG _ _ _ _ _ _ _ _) ?_) | (with_reducible refine Stuck.h (A := DrawG _ _ _ _ _ _ _ _) ?_)
  | (with_reducible refine Stuck.h (A := WrapG _ _ _) ?_) | (with_reducible refine Stuck.h (A := DivG _ _ _ _) ?_) | (with_reducible refine Stuck.h (A := ModG _ _ _) ?_) | (with_reducible refine Stuck.h (A := ShlG _ _ _ _) ?_) | (with_reducible refine Stuck.h (A := ShrG _ _ _ _) ?_) | (with_reducible refine Stuck.h (A := BitG _ _ _ _ _) ?_)
  | (with_reducible refine Stuck.h (A := IdxG _ _ _) ?_) | (with_reducible refine Stuck.h (A := IdxL _ _ _) ?_) | (with_reducible refine Stuck.h (A := SlcG _ _ _ _ _) ?_) | (with_reducible refine Stuck.h (A := MakG _ _ _ _) ?_) | (with_reducible refine Stuck.h (A := AppG _ _ _ _ _ _ _) ?_) | (with_reducible refine Stuck.h (A := FzG _ _ _ _) ?_)
  | (with_reducible refine Stuck.h (A := RawG _) ?_) | (with_reducible refine Stuck.h (A := TabG _ _ _ _ _) ?_) | (with_reducible refine Stuck.h (A := ExtF _ _ _ _) ?_) | (with_reducible refine Stuck.h (A := Chk _ _) ?_) | (with_reducible refine Stuck.h (A := False) ?_))
    exact ⟨ret_l _ (lp_dyE 5) rfl⟩
  obtain ⟨q2, l2⟩ := nshl_ok (n := m) (k := f - min e f) (by omega) hm (by omega)
  rw [q2] at s2
  rw [if_neg (by omega)]
  have s3 := n_nadd (G := g) _ _ l1 l2
  obtain ⟨x, hx⟩ : ∃ x, x = n * 2 ^ (e - min e f).toNat := ⟨_, rfl⟩
  obtain ⟨y, hy⟩ : ∃ y, y = m * 2 ^ (f - min e f).toNat := ⟨_, rfl⟩
  rw [← hx] at s1 s3 ⊢
  rw [← hy] at s2 s3 ⊢
  clear hx hy q1 q2 l1 l2 hd1 hd2
  obtain ⟨s, hs⟩ : ∃ s, s = x + y := ⟨_, rfl⟩
  unfold naddS at s3
  rw [← hs] at s3 ⊢
  have hL := L64_bl s.natAbs
  by_cases hC : 8192 < L64 s.natAbs
  · rw [if_pos (by omega)]
    rw [if_pos hC] at s3
    refine FC.intro (X := XX) tok Tryd.func24 rfl Tryd.ntmps24 (by rw [Tryd.results24]) (by kernel_rfl) rfl ?_; intro F hG hO
    rw [← hG] at f1 f2 f3 f4 s1 s2 s3
    repeat' ((try (conv => whnf)); first
  | ((with_reducible refine cg ?_); refine call_eq (f1) (LpL.refl _) rfl ?_)
  | ((with_reducible refine cg ?_); refine call_eq (f2) (LpL.refl _) rfl ?_)
  | ((with_reducible refine cg ?_); refine call_eq (f3) (LpL.refl _) rfl ?_)
  | ((with_reducible refine cg ?_); refine call_eq (f4) (LpL.refl _) rfl ?_)
  | ((with_reducible refine cg ?_); refine call_eq (s1) (LpL.refl _) rfl ?_)
  | ((with_reducible refine cg ?_); refine call_eq (s2) (LpL.refl _) rfl ?_)
  | ((with_reducible refine cg ?_); refine call_eq (s3) (LpL.refl _) rfl ?_)
  
  | (with_reducible refine Chk.mk' (by first | omega | exact trivial | (simp only [List.length_append, List.length_set, List.length_replicate, List.length_take, List.length_drop, List.length_cons, List.length_nil, List.length_map]; omega)) ?_)
  | (with_reducible refine wrap_g (by dsimp only [inR]; omega) ?_)
  | (with_reducible refine idx_g (by omega) ?_)
  | (with_reducible refine idx_l _ rfl (by decide) ?_)
  | (with_reducible refine BothG.mk ?_ ?_)
  | (with_reducible refine fork_tt ?_) | (with_reducible refine fork_ff ?_)
  | (with_reducible refine fork_e (c := true) (by decide) ?_; with_reducible refine fork_tt ?_) | (with_reducible refine fork_e (c := false) (by decide) ?_; with_reducible refine fork_ff ?_)
  | (with_reducible refine fork_t (by omega) ?_) | (with_reducible refine fork_f (by omega) ?_)
  | (with_reducible refine fork_d ?_ ?_ <;> intro hc)
  | (with_reducible refine fork_n ?_)
  | (with_reducible refine fork_b ?_ ?_ <;> intro hc)
  | (with_reducible refine SlcG.mk (by omega) ?_)
  | (with_reducible refine MakG.mk (by dsimp only; omega) ?_)
  | (with_reducible refine AppG.mk (by first | omega | (simp only [List.length_append, List.length_set, List.length_replicate, List.length_take, List.length_drop, List.length_cons, List.length_nil, List.length_map]; omega)) (by dsimp only [List.length_cons, List.length_nil]; omega) (by omega) ?_)
  | (with_reducible refine div_g (by omega) (by omega) (by dsimp only [inR]; omega) ?_)
  | (with_reducible refine mod_g (by omega) (by omega) ?_)
  | (with_reducible refine mask_g (m := 4294967296) 32 rfl rfl (by decide) (by omega) ?_)
  | (with_reducible refine shr_g (m := 4294967296) 32 rfl (by decide) (by omega) rfl ?_)
  | (with_reducible refine fz_all (by omega) ?_)
  | (with_reducible refine Stuck.h (A := RetE _ _) ?_) | (with_reducible refine Stuck.h (A := RetM _ _ _ _) ?_) | (with_reducible refine Stuck.h (A := Again _ _ _ _ _ _ _ _) ?_) | (with_reducible refine Stuck.h (A := CallF _ _ _ _ _ _ _) ?_) | (with_reducible refine Stuck.h (A := LoopG _ _ _ _ _ _ _ _) ?_) | (with_reducible refine Stuck.h (A := DrawG _ _ _ _ _ _ _ _) ?_)
  | (with_reducible refine Stuck.h (A := WrapG _ _ _) ?_) | (with_reducible refine Stuck.h (A := DivG _ _ _ _) ?_) | (with_reducible refine Stuck.h (A := ModG _ _ _) ?_) | (with_reducible refine Stuck.h (A := ShlG _ _ _ _) ?_) | (with_reducible refine Stuck.h (A := ShrG _ _ _ _) ?_) | (with_reducible refine Stuck.h (A := BitG _ _ _ _ _) ?_)
  | (with_reducible refine Stuck.h (A := IdxG _ _ _) ?_) | (with_reducible refine Stuck.h (A := IdxL _ _ _) ?_) | (with_reducible refine Stuck.h (A := SlcG _ _ _ _ _) ?_) | (with_reducible refine Stuck.h (A := MakG _ _ _ _) ?_) | (with_reducible refine Stuck.h (A := AppG _ _ _ _ _ _ _) ?_) | (with_reducible refine Stuck.h (A := FzG _ _ _ _) ?_)
  | (with_reducible refine Stuck.h (A := RawG _) ?_) | (with_reducible refine Stuck.h (A := TabG _ _ _ _ _) ?_) | (with_reducible refine Stuck.h (A := ExtF _ _ _ _) ?_) | (with_reducible refine Stuck.h (A := Chk _ _) ?_) | (with_reducible refine Stuck.h (A := False) ?_))
    exact ⟨ret_l _ (lp_dyE 5) rfl⟩
  · rw [if_neg (by omega)]
    rw [if_neg hC] at s3
    have s4 := y_make hD s (min e f) (by omega) (by dsimp only [inR]; omega)
    obtain ⟨u, v, c, hr, hgd, hcc⟩ := told_form s (min e f)
    rw [hr] at s4 ⊢
    refine FC.intro (X := XX) tok Tryd.func24 rfl Tryd.ntmps24 (by rw [Tryd.results24]) (by kernel_rfl) rfl ?_; intro F hG hO
    rw [← hG] at f1 f2 f3 f4 s1 s2 s3 s4
    repeat' ((try (conv => whnf)); first
  | ((with_reducible refine cg ?_); refine call_eq (f1) (LpL.refl _) rfl ?_)
  | ((with_reducible refine cg ?_); refine call_eq (f2) (LpL.refl _) rfl ?_)
  | ((with_reducible refine cg ?_); refine call_eq (f3) (LpL.refl _) rfl ?_)
  | ((with_reducible refine cg ?_); refine call_eq (f4) (LpL.refl _) rfl ?_)
  | ((with_reducible refine cg ?_); refine call_eq (s1) (LpL.refl _) rfl ?_)
  | ((with_reducible refine cg ?_); refine call_eq (s2) (LpL.refl _) rfl ?_)
  | ((with_reducible refine cg ?_); refine call_eq (s3) (LpL.refl _) rfl ?_)
  | ((with_reducible refine cg ?_); refine call_eq (s4) (LpL.refl _) rfl ?_)
  
  | (with_reducible refine Chk.mk' (by first | omega | exact trivial | (simp only [List.length_append, List.length_set, List.length_replicate, List.length_take, List.length_drop, List.length_cons, List.length_nil, List.length_map]; omega)) ?_)
  | (with_reducible refine wrap_g (by dsimp only [inR]; omega) ?_)
  | (with_reducible refine idx_g (by omega) ?_)
  | (with_reducible refine idx_l _ rfl (by decide) ?_)
  | (with_reducible refine BothG.mk ?_ ?_)
  | (with_reducible refine fork_tt ?_) | (with_reducible refine fork_ff ?_)
  | (with_reducible refine fork_e (c := true) (by decide) ?_; with_reducible refine fork_tt ?_) | (with_reducible refine fork_e (c := false) (by decide) ?_; with_reducible refine fork_ff ?_)
  | (with_reducible refine fork_t (by omega) ?_) | (with_reducible refine fork_f (by omega) ?_)
  | (with_reducible refine fork_d ?_ ?_ <;> intro hc)
  | (with_reducible refine fork_n ?_)
  | (with_reducible refine fork_b ?_ ?_ <;> intro hc)
  | (with_reducible refine SlcG.mk (by omega) ?_)
  | (with_reducible refine MakG.mk (by dsimp only; omega) ?_)
  | (with_reducible refine AppG.mk (by first | omega | (simp only [List.length_append, List.length_set, List.length_replicate, List.length_take, List.length_drop, List.length_cons, List.length_nil, List.length_map]; omega)) (by dsimp only [List.length_cons, List.length_nil]; omega) (by omega) ?_)
  | (with_reducible refine div_g (by omega) (by omega) (by dsimp only [inR]; omega) ?_)
  | (with_reducible refine mod_g (by omega) (by omega) ?_)
  | (with_reducible refine mask_g (m := 4294967296) 32 rfl rfl (by decide) (by omega) ?_)
  | (with_reducible refine shr_g (m := 4294967296) 32 rfl (by decide) (by omega) rfl ?_)
  | (with_reducible refine fz_all (by omega) ?_)
  | (with_reducible refine Stuck.h (A := RetE _ _) ?_) | (with_reducible refine Stuck.h (A := RetM _ _ _ _) ?_) | (with_reducible refine Stuck.h (A := Again _ _ _ _ _ _ _ _) ?_) | (with_reducible refine Stuck.h (A := CallF _ _ _ _ _ _ _) ?_) | (with_reducible refine Stuck.h (A := LoopG _ _ _ _ _ _ _ _) ?_) | (with_reducible refine Stuck.h (A := DrawG _ _ _ _ _ _ _ _) ?_)
  | (with_reducible refine Stuck.h (A := WrapG _ _ _) ?_) | (with_reducible refine Stuck.h (A := DivG _ _ _ _) ?_) | (with_reducible refine Stuck.h (A := ModG _ _ _) ?_) | (with_reducible refine Stuck.h (A := ShlG _ _ _ _) ?_) | (with_reducible refine Stuck.h (A := ShrG _ _ _ _) ?_) | (with_reducible refine Stuck.h (A := BitG _ _ _ _ _) ?_)
  | (with_reducible refine Stuck.h (A := IdxG _ _ _) ?_) | (with_reducible refine Stuck.h (A := IdxL _ _ _) ?_) | (with_reducible refine Stuck.h (A := SlcG _ _ _ _ _) ?_) | (with_reducible refine Stuck.h (A := MakG _ _ _ _) ?_) | (with_reducible refine Stuck.h (A := AppG _ _ _ _ _ _ _) ?_) | (with_reducible refine Stuck.h (A := FzG _ _ _ _) ?_)
  | (with_reducible refine Stuck.h (A := RawG _) ?_) | (with_reducible refine Stuck.h (A := TabG _ _ _ _ _) ?_) | (with_reducible refine Stuck.h (A := ExtF _ _ _ _) ?_) | (with_reducible refine Stuck.h (A := Chk _ _) ?_) | (with_reducible refine Stuck.h (A := False) ?_))
    exact ⟨ret_e rfl⟩
theorem y_sub {g : List (Nat × List Value)} (hD : (0, debT.map (Value.int .u8)) ∈ g) {n e m f : Int} (h : Good n e) (k : Good m f) : FC Tryd.prog g 21 [DY n e, DY m f] (· = addS n e (-m) f) := by
  have f1 := y_add hD h k.neg
  obtain ⟨x, y, c, hr, hgd, hcc⟩ := add_form h k.neg
  rw [hr] at f1 ⊢
  have f2 := y_neg (G := g) k
  refine FC.intro (X := XX) tok Tryd.func21 rfl Tryd.ntmps21 (by rw [Tryd.results21]) (by kernel_rfl) rfl ?_; intro F hG hO
  rw [← hG] at f1 f2
  repeat' ((try (conv => whnf)); first
  | ((with_reducible refine cg ?_); refine call_eq (f1) (LpL.refl _) rfl ?_)
  | ((with_reducible refine cg ?_); refine call_eq (f2) (LpL.refl _) rfl ?_)
  
  | (with_reducible refine Chk.mk' (by first | omega | exact trivial | (simp only [List.length_append, List.length_set, List.length_replicate, List.length_take, List.length_drop, List.length_cons, List.length_nil, List.length_map]; omega)) ?_)
  | (with_reducible refine wrap_g (by dsimp only [inR]; omega) ?_)
  | (with_reducible refine idx_g (by omega) ?_)
  | (with_reducible refine idx_l _ rfl (by decide) ?_)
  | (with_reducible refine BothG.mk ?_ ?_)
  | (with_reducible refine fork_tt ?_) | (with_reducible refine fork_ff ?_)
  | (with_reducible refine fork_e (c := true) (by decide) ?_; with_reducible refine fork_tt ?_) | (with_reducible refine fork_e (c := false) (by decide) ?_; with_reducible refine fork_ff ?_)
  | (with_reducible refine fork_t (by omega) ?_) | (with_reducible refine fork_f (by omega) ?_)
  | (with_reducible refine fork_d ?_ ?_ <;> intro hc)
  | (with_reducible refine fork_n ?_)
  | (with_reducible refine fork_b ?_ ?_ <;> intro hc)
  | (with_reducible refine SlcG.mk (by omega) ?_)
  | (with_reducible refine MakG.mk (by dsimp only; omega) ?_)
  | (with_reducible refine AppG.mk (by first | omega | (simp only [List.length_append, List.length_set, List.length_replicate, List.length_take, List.length_drop, List.length_cons, List.length_nil, List.length_map]; omega)) (by dsimp only [List.length_cons, List.length_nil]; omega) (by omega) ?_)
  | (with_reducible refine div_g (by omega) (by omega) (by dsimp only [inR]; omega) ?_)
  | (with_reducible refine mod_g (by omega) (by omega) ?_)
  | (with_reducible refine mask_g (m := 4294967296) 32 rfl rfl (by decide) (by omega) ?_)
  | (with_reducible refine shr_g (m := 4294967296) 32 rfl (by decide) (by omega) rfl ?_)
  | (with_reducible refine fz_all (by omega) ?_)
  | (with_reducible refine Stuck.h (A := RetE _ _) ?_) | (with_reducible refine Stuck.h (A := RetM _ _ _ _) ?_) | (with_reducible refine Stuck.h (A := Again _ _ _ _ _ _ _ _) ?_) | (with_reducible refine Stuck.h (A := CallF _ _ _ _ _ _ _) ?_) | (with_reducible refine Stuck.h (A := LoopG _ _ _ _ _ _ _ _) ?_) | (with_reducible refine Stuck.h (A := DrawG _ _ _ _ _ _ _ _) ?_)
  | (with_reducible refine Stuck.h (A := WrapG _ _ _) ?_) | (with_reducible refine Stuck.h (A := DivG _ _ _ _) ?_) | (with_reducible refine Stuck.h (A := ModG _ _ _) ?_) | (with_reducible refine Stuck.h (A := ShlG _ _ _ _) ?_) | (with_reducible refine Stuck.h (A := ShrG _ _ _ _) ?_) | (with_reducible refine Stuck.h (A := BitG _ _ _ _ _) ?_)
  | (with_reducible refine Stuck.h (A := IdxG _ _ _) ?_) | (with_reducible refine Stuck.h (A := IdxL _ _ _) ?_) | (with_reducible refine Stuck.h (A := SlcG _ _ _ _ _) ?_) | (with_reducible refine Stuck.h (A := MakG _ _ _ _) ?_) | (with_reducible refine Stuck.h (A := AppG _ _ _ _ _ _ _) ?_) | (with_reducible refine Stuck.h (A := FzG _ _ _ _) ?_)
  | (with_reducible refine Stuck.h (A := RawG _) ?_) | (with_reducible refine Stuck.h (A := TabG _ _ _ _ _) ?_) | (with_reducible refine Stuck.h (A := ExtF _ _ _ _) ?_) | (with_reducible refine Stuck.h (A := Chk _ _) ?_) | (with_reducible refine Stuck.h (A := False) ?_))
  exact ⟨ret_e rfl⟩
end Go.Proofs.YtbeocnjlepcglaaDoor.Sim
namespace Go.Proofs.YtbeocnjlepcglaaDoor.Sim
open Go.RowKit
set_option linter.unusedVariables false
set_option linter.unusedSimpArgs false
set_option maxRecDepth 10000
set_option maxHeartbeats 8000000
variable {G : List (Nat × List Value)}
theorem ediv_abs (n P : Int) (hP : 0 < P) : (n / P).natAbs ≤ n.natAbs := by
  obtain ⟨q, hq⟩ : ∃ q, q = n / P := ⟨_, rfl⟩
  have h1 := Int.mul_ediv_add_emod n P
  have h2 := Int.emod_nonneg n (show P ≠ 0 by omega)
  have h3 := Int.emod_lt_of_pos n hP
  rw [← hq] at h1 ⊢
  rcases Int.lt_or_le q 0 with h | h
  · have h4 : 0 ≤ (P - 1) * (-1 - q) := Int.mul_nonneg (by omega) (by omega)
    have h5 : (P - 1) * (-1 - q) = -P - P * q + 1 + q := by
      rw [Int.sub_mul, Int.mul_sub, Int.one_mul]; omega
    omega
  · have h4 : 0 ≤ (P - 1) * q := Int.mul_nonneg (by omega) h
    have h5 : (P - 1) * q = P * q - q := by rw [Int.sub_mul, Int.one_mul]
    omega
theorem wholeS_abs (n k : Int) (up : Bool) : (wholeS n k up).natAbs ≤ n.natAbs := by
  have hP : (0 : Int) < 2 ^ k.toNat := Int.pow_pos (by decide)
  cases up
  · exact ediv_abs n _ hP
  · show (-((-n) / 2 ^ k.toNat)).natAbs ≤ _
    have := ediv_abs (-n) _ hP
    rw [Int.natAbs_neg] at this ⊢
    exact this
theorem wholeS_L64 (n k : Int) (up : Bool) (h : L64 n.natAbs ≤ 8192) : L64 (wholeS n k up).natAbs ≤ 8192 := Nat.le_trans (lenB_mono (by decide) (wholeS_abs n k up)) h
theorem y_cut {g : List (Nat × List Value)} (hD : (0, debT.map (Value.int .u8)) ∈ g) (n k : Int) (up : Bool) (h : L64 n.natAbs ≤ 8192) (hk : inR .i64 k) (hk0 : 0 ≤ k) : FC Tryd.prog g 45 [NI n, .val (.int .i64 k), .val (.bool up)] (· = NI (wholeS n k up)) := by
  cases up
  · have f1 := n_floorshr hD n k h hk hk0
    refine FC.intro (X := XX) tok Tryd.func45 rfl Tryd.ntmps45 (by rw [Tryd.results45]) (by kernel_rfl) rfl ?_; intro F hG hO
    rw [← hG] at f1
    repeat' ((try (conv => whnf)); first
  | ((with_reducible refine cg ?_); refine call_eq (f1) (LpL.refl _) rfl ?_)
  
  | (with_reducible refine Chk.mk' (by first | omega | exact trivial | (simp only [List.length_append, List.length_set, List.length_replicate, List.length_take, List.length_drop, List.length_cons, List.length_nil, List.length_map]; omega)) ?_)
  | (with_reducible refine wrap_g (by dsimp only [inR]; omega) ?_)
  | (with_reducible refine idx_g (by omega) ?_)
  | (with_reducible refine idx_l _ rfl (by decide) ?_)
  | (with_reducible refine BothG.mk ?_ ?_)
  | (with_reducible refine fork_tt ?_) | (with_reducible refine fork_ff ?_)
  | (with_reducible refine fork_e (c := true) (by decide) ?_; with_reducible refine fork_tt ?_) | (with_reducible refine fork_e (c := false) (by decide) ?_; with_reducible refine fork_ff ?_)
  | (with_reducible refine fork_t (by omega) ?_) | (with_reducible refine fork_f (by omega) ?_)
  | (with_reducible refine fork_d ?_ ?_ <;> intro hc)
  | (with_reducible refine fork_n ?_)
  | (with_reducible refine fork_b ?_ ?_ <;> intro hc)
  | (with_reducible refine SlcG.mk (by omega) ?_)
  | (with_reducible refine MakG.mk (by dsimp only; omega) ?_)
  | (with_reducible refine AppG.mk (by first | omega | (simp only [List.length_append, List.length_set, List.length_replicate, List.length_take, List.length_drop, List.length_cons, List.length_nil, List.length_map]; omega)) (by dsimp only [List.length_cons, List.length_nil]; omega) (by omega) ?_)
  | (with_reducible refine div_g (by omega) (by omega) (by dsimp only [inR]; omega) ?_)
  | (with_reducible refine mod_g (by omega) (by omega) ?_)
  | (with_reducible refine mask_g (m := 4294967296) 32 rfl rfl (by decide) (by omega) ?_)
  | (with_reducible refine shr_g (m := 4294967296) 32 rfl (by decide) (by omega) rfl ?_)
  | (with_reducible refine fz_all (by omega) ?_)
  | (with_reducible refine Stuck.h (A := RetE _ _) ?_) | (with_reducible refine Stuck.h (A := RetM _ _ _ _) ?_) | (with_reducible refine Stuck.h (A := Again _ _ _ _ _ _ _ _) ?_) | (with_reducible refine Stuck.h (A := CallF _ _ _ _ _ _ _) ?_) | (with_reducible refine Stuck.h (A := LoopG _ _ _ _ _ _ _ _) ?_) | (with_reducible refine Stuck.h (A := DrawG _ _ _ _ _ _ _ _) ?_)
  | (with_reducible refine Stuck.h (A := WrapG _ _ _) ?_) | (with_reducible refine Stuck.h (A := DivG _ _ _ _) ?_) | (with_reducible refine Stuck.h (A := ModG _ _ _) ?_) | (with_reducible refine Stuck.h (A := ShlG _ _ _ _) ?_) | (with_reducible refine Stuck.h (A := ShrG _ _ _ _) ?_) | (with_reducible refine Stuck.h (A := BitG _ _ _ _ _) ?_)
  | (with_reducible refine Stuck.h (A := IdxG _ _ _) ?_) | (with_reducible refine Stuck.h (A := IdxL _ _ _) ?_) | (with_reducible refine Stuck.h (A := SlcG _ _ _ _ _) ?_) | (with_reducible refine Stuck.h (A := MakG _ _ _ _) ?_) | (with_reducible refine Stuck.h (A := AppG _ _ _ _ _ _ _) ?_) | (with_reducible refine Stuck.h (A := FzG _ _ _ _) ?_)
  | (with_reducible refine Stuck.h (A := RawG _) ?_) | (with_reducible refine Stuck.h (A := TabG _ _ _ _ _) ?_) | (with_reducible refine Stuck.h (A := ExtF _ _ _ _) ?_) | (with_reducible refine Stuck.h (A := Chk _ _) ?_) | (with_reducible refine Stuck.h (A := False) ?_))
    exact ⟨ret_e rfl⟩
  · have f1 := n_ceilshr hD n k h hk hk0
    refine FC.intro (X := XX) tok Tryd.func45 rfl Tryd.ntmps45 (by rw [Tryd.results45]) (by kernel_rfl) rfl ?_; intro F hG hO
    rw [← hG] at f1
    repeat' ((try (conv => whnf)); first
  | ((with_reducible refine cg ?_); refine call_eq (f1) (LpL.refl _) rfl ?_)
  
  | (with_reducible refine Chk.mk' (by first | omega | exact trivial | (simp only [List.length_append, List.length_set, List.length_replicate, List.length_take, List.length_drop, List.length_cons, List.length_nil, List.length_map]; omega)) ?_)
  | (with_reducible refine wrap_g (by dsimp only [inR]; omega) ?_)
  | (with_reducible refine idx_g (by omega) ?_)
  | (with_reducible refine idx_l _ rfl (by decide) ?_)
  | (with_reducible refine BothG.mk ?_ ?_)
  | (with_reducible refine fork_tt ?_) | (with_reducible refine fork_ff ?_)
  | (with_reducible refine fork_e (c := true) (by decide) ?_; with_reducible refine fork_tt ?_) | (with_reducible refine fork_e (c := false) (by decide) ?_; with_reducible refine fork_ff ?_)
  | (with_reducible refine fork_t (by omega) ?_) | (with_reducible refine fork_f (by omega) ?_)
  | (with_reducible refine fork_d ?_ ?_ <;> intro hc)
  | (with_reducible refine fork_n ?_)
  | (with_reducible refine fork_b ?_ ?_ <;> intro hc)
  | (with_reducible refine SlcG.mk (by omega) ?_)
  | (with_reducible refine MakG.mk (by dsimp only; omega) ?_)
  | (with_reducible refine AppG.mk (by first | omega | (simp only [List.length_append, List.length_set, List.length_replicate, List.length_take, List.length_drop, List.length_cons, List.length_nil, List.length_map]; omega)) (by dsimp only [List.length_cons, List.length_nil]; omega) (by omega) ?_)
  | (with_reducible refine div_g (by omega) (by omega) (by dsimp only [inR]; omega) ?_)
  | (with_reducible refine mod_g (by omega) (by omega) ?_)
  | (with_reducible refine mask_g (m := 4294967296) 32 rfl rfl (by decide) (by omega) ?_)
  | (with_reducible refine shr_g (m := 4294967296) 32 rfl (by decide) (by omega) rfl ?_)
  | (with_reducible refine fz_all (by omega) ?_)
  | (with_reducible refine Stuck.h (A := RetE _ _) ?_) | (with_reducible refine Stuck.h (A := RetM _ _ _ _) ?_) | (with_reducible refine Stuck.h (A := Again _ _ _ _ _ _ _ _) ?_) | (with_reducible refine Stuck.h (A := CallF _ _ _ _ _ _ _) ?_) | (with_reducible refine Stuck.h (A := LoopG _ _ _ _ _ _ _ _) ?_) | (with_reducible refine Stuck.h (A := DrawG _ _ _ _ _ _ _ _) ?_)
  | (with_reducible refine Stuck.h (A := WrapG _ _ _) ?_) | (with_reducible refine Stuck.h (A := DivG _ _ _ _) ?_) | (with_reducible refine Stuck.h (A := ModG _ _ _) ?_) | (with_reducible refine Stuck.h (A := ShlG _ _ _ _) ?_) | (with_reducible refine Stuck.h (A := ShrG _ _ _ _) ?_) | (with_reducible refine Stuck.h (A := BitG _ _ _ _ _) ?_)
  | (with_reducible refine Stuck.h (A := IdxG _ _ _) ?_) | (with_reducible refine Stuck.h (A := IdxL _ _ _) ?_) | (with_reducible refine Stuck.h (A := SlcG _ _ _ _ _) ?_) | (with_reducible refine Stuck.h (A := MakG _ _ _ _) ?_) | (with_reducible refine Stuck.h (A := AppG _ _ _ _ _ _ _) ?_) | (with_reducible refine Stuck.h (A := FzG _ _ _ _) ?_)
  | (with_reducible refine Stuck.h (A := RawG _) ?_) | (with_reducible refine Stuck.h (A := TabG _ _ _ _ _) ?_) | (with_reducible refine Stuck.h (A := ExtF _ _ _ _) ?_) | (with_reducible refine Stuck.h (A := Chk _ _) ?_) | (with_reducible refine Stuck.h (A := False) ?_))
    exact ⟨ret_e rfl⟩
theorem y_short {g : List (Nat × List Value)} (hD : (0, debT.map (Value.int .u8)) ∈ g) (n e p : Int) (up : Bool) (h : L64 n.natAbs ≤ 8192) (he : -1099511627776 ≤ e ∧ e ≤ 1099511627776) (hp : 0 ≤ p ∧ p ≤ 1099511627776) : FC Tryd.prog g 55 [NI n, .val (.int .i64 e), .val (.int .i64 p), .val (.bool up)] (· = cutS n e p up) := by
  have hb := bl_L64 n.natAbs
  have f0 := n_bits (G := g) n.natAbs (by omega)
  unfold cutS
  have hw := wholeS_L64 n ((bl n.natAbs : Int) - p) up h
  have f3 := fun hk => y_cut hD n ((bl n.natAbs : Int) - p) up h (by dsimp only [inR]; omega) hk
  obtain ⟨b, hbb⟩ : ∃ b, b = bl n.natAbs := ⟨_, rfl⟩
  rw [← hbb] at hb f0 hw f3 ⊢
  have f1 := y_make hD n e h (by dsimp only [inR]; omega)
  have f2 := y_make hD (wholeS n ((b : Int) - p) up) (e + ((b : Int) - p)) hw (by dsimp only [inR]; omega)
  obtain ⟨x, y, c, hr, hgd, hcc⟩ := told_form n e
  obtain ⟨x2, y2, c2, hr2, hgd2, hcc2⟩ := told_form (wholeS n ((b : Int) - p) up) (e + ((b : Int) - p))
  rw [hr] at f1 ⊢
  rw [hr2] at f2 ⊢
  obtain ⟨v, hv⟩ : ∃ v, v = wholeS n ((b : Int) - p) up := ⟨_, rfl⟩
  rw [← hv] at f2 f3
  refine FC.intro (X := XX) tok Tryd.func55 rfl Tryd.ntmps55 (by rw [Tryd.results55]) (by kernel_rfl) rfl ?_; intro F hG hO
  rw [← hG] at f0 f1 f2 f3
  repeat' ((try (conv => whnf)); first
  | ((with_reducible refine cg ?_); refine call_eq (f0) (LpL.refl _) rfl ?_)
  | ((with_reducible refine cg ?_); refine call_eq (f1) (LpL.refl _) rfl ?_)
  | ((with_reducible refine cg ?_); refine call_eq (f3 (by omega)) (LpL.refl _) rfl ?_)
  | ((with_reducible refine cg ?_); refine call_eq (f2) (LpL.refl _) rfl ?_)
  
  | (with_reducible refine Chk.mk' (by first | omega | exact trivial | (simp only [List.length_append, List.length_set, List.length_replicate, List.length_take, List.length_drop, List.length_cons, List.length_nil, List.length_map]; omega)) ?_)
  | (with_reducible refine wrap_g (by dsimp only [inR]; omega) ?_)
  | (with_reducible refine idx_g (by omega) ?_)
  | (with_reducible refine idx_l _ rfl (by decide) ?_)
  | (with_reducible refine BothG.mk ?_ ?_)
  | (with_reducible refine fork_tt ?_) | (with_reducible refine fork_ff ?_)
  | (with_reducible refine fork_e (c := true) (by decide) ?_; with_reducible refine fork_tt ?_) | (with_reducible refine fork_e (c := false) (by decide) ?_; with_reducible refine fork_ff ?_)
  | (with_reducible refine fork_t (by omega) ?_) | (with_reducible refine fork_f (by omega) ?_)
  | (with_reducible refine fork_d ?_ ?_ <;> intro hc)
  | (with_reducible refine fork_n ?_)
  | (with_reducible refine fork_b ?_ ?_ <;> intro hc)
  | (with_reducible refine SlcG.mk (by omega) ?_)
  | (with_reducible refine MakG.mk (by dsimp only; omega) ?_)
  | (with_reducible refine AppG.mk (by first | omega | (simp only [List.length_append, List.length_set, List.length_replicate, List.length_take, List.length_drop, List.length_cons, List.length_nil, List.length_map]; omega)) (by dsimp only [List.length_cons, List.length_nil]; omega) (by omega) ?_)
  | (with_reducible refine div_g (by omega) (by omega) (by dsimp only [inR]; omega) ?_)
  | (with_reducible refine mod_g (by omega) (by omega) ?_)
  | (with_reducible refine mask_g (m := 4294967296) 32 rfl rfl (by decide) (by omega) ?_)
  | (with_reducible refine shr_g (m := 4294967296) 32 rfl (by decide) (by omega) rfl ?_)
  | (with_reducible refine fz_all (by omega) ?_)
  | (with_reducible refine Stuck.h (A := RetE _ _) ?_) | (with_reducible refine Stuck.h (A := RetM _ _ _ _) ?_) | (with_reducible refine Stuck.h (A := Again _ _ _ _ _ _ _ _) ?_) | (with_reducible refine Stuck.h (A := CallF _ _ _ _ _ _ _) ?_) | (with_reducible refine Stuck.h (A := LoopG _ _ _ _ _ _ _ _) ?_) | (with_reducible refine Stuck.h (A := DrawG _ _ _ _ _ _ _ _) ?_)
  | (with_reducible refine Stuck.h (A := WrapG _ _ _) ?_) | (with_reducible refine Stuck.h (A := DivG _ _ _ _) ?_) | (with_reducible refine Stuck.h (A := ModG _ _ _) ?_) | (with_reducible refine Stuck.h (A := ShlG _ _ _ _) ?_) | (with_reducible refine Stuck.h (A := ShrG _ _ _ _) ?_) | (with_reducible refine Stuck.h (A := BitG _ _ _ _ _) ?_)
  | (with_reducible refine Stuck.h (A := IdxG _ _ _) ?_) | (with_reducible refine Stuck.h (A := IdxL _ _ _) ?_) | (with_reducible refine Stuck.h (A := SlcG _ _ _ _ _) ?_) | (with_reducible refine Stuck.h (A := MakG _ _ _ _) ?_) | (with_reducible refine Stuck.h (A := AppG _ _ _ _ _ _ _) ?_) | (with_reducible refine Stuck.h (A := FzG _ _ _ _) ?_)
  | (with_reducible refine Stuck.h (A := RawG _) ?_) | (with_reducible refine Stuck.h (A := TabG _ _ _ _ _) ?_) | (with_reducible refine Stuck.h (A := ExtF _ _ _ _) ?_) | (with_reducible refine Stuck.h (A := Chk _ _) ?_) | (with_reducible refine Stuck.h (A := False) ?_))
  · exact ⟨ret_e (by rw [if_pos (by omega)]; rfl)⟩
  · exact ⟨ret_e (by rw [if_neg (by omega)]; rfl)⟩
theorem y_precise (p : Int) : FC Tryd.prog G 54 [.val (.int .i64 p)] (· = .val (.bool (decide (1 ≤ p) && decide (p ≤ 70000)))) := by
  refine FC.intro (X := XX) tok Tryd.func54 rfl Tryd.ntmps54 (by rw [Tryd.results54]) (by kernel_rfl) rfl ?_; intro F hG hO
  repeat' ((try (conv => whnf)); first
  
  | (with_reducible refine Chk.mk' (by first | omega | exact trivial | (simp only [List.length_append, List.length_set, List.length_replicate, List.length_take, List.length_drop, List.length_cons, List.length_nil, List.length_map]; omega)) ?_)
  | (with_reducible refine wrap_g (by dsimp only [inR]; omega) ?_)
  | (with_reducible refine idx_g (by omega) ?_)
  | (with_reducible refine idx_l _ rfl (by decide) ?_)
  | (with_reducible refine BothG.mk ?_ ?_)
  | (with_reducible refine fork_tt ?_) | (with_reducible refine fork_ff ?_)
  | (with_reducible refine fork_e (c := true) (by decide) ?_; with_reducible refine fork_tt ?_) | (with_reducible refine fork_e (c := false) (by decide) ?_; with_reducible refine fork_ff ?_)
  | (with_reducible refine fork_t (by omega) ?_) | (with_reducible refine fork_f (by omega) ?_)
  | (with_reducible refine fork_d ?_ ?_ <;> intro hc)
  | (with_reducible refine fork_n ?_)
  | (with_reducible refine fork_b ?_ ?_ <;> intro hc)
  | (with_reducible refine SlcG.mk (by omega) ?_)
  | (with_reducible refine MakG.mk (by dsimp only; omega) ?_)
  | (with_reducible refine AppG.mk (by first | omega | (simp only [List.length_append, List.length_set, List.length_replicate, List.length_take, List.length_drop, List.length_cons, List.length_nil, List.length_map]; omega)) (by dsimp only [List.length_cons, List.length_nil]; omega) (by omega) ?_)
  | (with_reducible refine div_g (by omega) (by omega) (by dsimp only [inR]; omega) ?_)
  | (with_reducible refine mod_g (by omega) (by omega) ?_)
  | (with_reducible refine mask_g (m := 4294967296) 32 rfl rfl (by decide) (by omega) ?_)
  | (with_reducible refine shr_g (m := 4294967296) 32 rfl (by decide) (by omega) rfl ?_)
  | (with_reducible refine fz_all (by omega) ?_)
  | (with_reducible refine Stuck.h (A := RetE _ _) ?_) | (with_reducible refine Stuck.h (A := RetM _ _ _ _) ?_) | (with_reducible refine Stuck.h (A := Again _ _ _ _ _ _ _ _) ?_) | (with_reducible refine Stuck.h (A := CallF _ _ _ _ _ _ _) ?_) | (with_reducible refine Stuck.h (A := LoopG _ _ _ _ _ _ _ _) ?_) | (with_reducible refine Stuck.h (A := DrawG _ _ _ _ _ _ _ _) ?_)
  | (with_reducible refine Stuck.h (A := WrapG _ _ _) ?_) | (with_reducible refine Stuck.h (A := DivG _ _ _ _) ?_) | (with_reducible refine Stuck.h (A := ModG _ _ _) ?_) | (with_reducible refine Stuck.h (A := ShlG _ _ _ _) ?_) | (with_reducible refine Stuck.h (A := ShrG _ _ _ _) ?_) | (with_reducible refine Stuck.h (A := BitG _ _ _ _ _) ?_)
  | (with_reducible refine Stuck.h (A := IdxG _ _ _) ?_) | (with_reducible refine Stuck.h (A := IdxL _ _ _) ?_) | (with_reducible refine Stuck.h (A := SlcG _ _ _ _ _) ?_) | (with_reducible refine Stuck.h (A := MakG _ _ _ _) ?_) | (with_reducible refine Stuck.h (A := AppG _ _ _ _ _ _ _) ?_) | (with_reducible refine Stuck.h (A := FzG _ _ _ _) ?_)
  | (with_reducible refine Stuck.h (A := RawG _) ?_) | (with_reducible refine Stuck.h (A := TabG _ _ _ _ _) ?_) | (with_reducible refine Stuck.h (A := ExtF _ _ _ _) ?_) | (with_reducible refine Stuck.h (A := Chk _ _) ?_) | (with_reducible refine Stuck.h (A := False) ?_))
  · exact ⟨ret_e (bv_eq (by rw [decide_eq_true hc]; rfl))⟩
  · exact ⟨ret_e (bv_eq (by rw [decide_eq_false hc]; rfl))⟩
theorem y_next {g : List (Nat × List Value)} (hD : (0, debT.map (Value.int .u8)) ∈ g) {n e : Int} (p : Int) (up : Bool) (h : Good n e) : FC Tryd.prog g 38 [DY n e, .val (.int .i64 p), .val (.bool up)] (· = cutsS n e p up) := by
  have e1 := h.2.1
  have e2 := h.2.2.1
  have f0 := y_precise (G := g) p
  have f1 := y_form (G := g) h
  unfold cutsS
  by_cases hp : 1 ≤ p ∧ p ≤ 70000
  · rw [if_neg (by omega), if_neg (by omega)]
    rw [decide_eq_true hp.1, decide_eq_true hp.2] at f0
    have f2 := y_short hD n e p up h.1 (by omega) (by omega)
    obtain ⟨x, y, c, hr, hgd⟩ := cut_form n e p up
    rw [hr] at f2 ⊢
    refine FC.intro (X := XX) tok Tryd.func38 rfl Tryd.ntmps38 (by rw [Tryd.results38]) (by kernel_rfl) rfl ?_; intro F hG hO
    rw [← hG] at f0 f1 f2
    repeat' ((try (conv => whnf)); first
  | ((with_reducible refine cg ?_); refine call_eq (f0) (LpL.refl _) rfl ?_)
  | ((with_reducible refine cg ?_); refine call_eq (f1) (LpL.refl _) rfl ?_)
  | ((with_reducible refine cg ?_); refine call_eq (f2) (LpL.refl _) rfl ?_)
  
  | (with_reducible refine Chk.mk' (by first | omega | exact trivial | (simp only [List.length_append, List.length_set, List.length_replicate, List.length_take, List.length_drop, List.length_cons, List.length_nil, List.length_map]; omega)) ?_)
  | (with_reducible refine wrap_g (by dsimp only [inR]; omega) ?_)
  | (with_reducible refine idx_g (by omega) ?_)
  | (with_reducible refine idx_l _ rfl (by decide) ?_)
  | (with_reducible refine BothG.mk ?_ ?_)
  | (with_reducible refine fork_tt ?_) | (with_reducible refine fork_ff ?_)
  | (with_reducible refine fork_e (c := true) (by decide) ?_; with_reducible refine fork_tt ?_) | (with_reducible refine fork_e (c := false) (by decide) ?_; with_reducible refine fork_ff ?_)
  | (with_reducible refine fork_t (by omega) ?_) | (with_reducible refine fork_f (by omega) ?_)
  | (with_reducible refine fork_d ?_ ?_ <;> intro hc)
  | (with_reducible refine fork_n ?_)
  | (with_reducible refine fork_b ?_ ?_ <;> intro hc)
  | (with_reducible refine SlcG.mk (by omega) ?_)
  | (with_reducible refine MakG.mk (by dsimp only; omega) ?_)
  | (with_reducible refine AppG.mk (by first | omega | (simp only [List.length_append, List.length_set, List.length_replicate, List.length_take, List.length_drop, List.length_cons, List.length_nil, List.length_map]; omega)) (by dsimp only [List.length_cons, List.length_nil]; omega) (by omega) ?_)
  | (with_reducible refine div_g (by omega) (by omega) (by dsimp only [inR]; omega) ?_)
  | (with_reducible refine mod_g (by omega) (by omega) ?_)
  | (with_reducible refine mask_g (m := 4294967296) 32 rfl rfl (by decide) (by omega) ?_)
  | (with_reducible refine shr_g (m := 4294967296) 32 rfl (by decide) (by omega) rfl ?_)
  | (with_reducible refine fz_all (by omega) ?_)
  | (with_reducible refine Stuck.h (A := RetE _ _) ?_) | (with_reducible refine Stuck.h (A := RetM _ _ _ _) ?_) | (with_reducible refine Stuck.h (A := Again _ _ _ _ _ _ _ _) ?_) | (with_reducible refine Stuck.h (A := CallF _ _ _ _ _ _ _) ?_) | (with_reducible refine Stuck.h (A := LoopG _ _ _ _ _ _ _ _) ?_) | (with_reducible refine Stuck.h (A := DrawG _ _ _ _ _ _ _ _) ?_)
  | (with_reducible refine Stuck.h (A := WrapG _ _ _) ?_) | (with_reducible refine Stuck.h (A := DivG _ _ _ _) ?_) | (with_reducible refine Stuck.h (A := ModG _ _ _) ?_) | (with_reducible refine Stuck.h (A := ShlG _ _ _ _) ?_) | (with_reducible refine Stuck.h (A := ShrG _ _ _ _) ?_) | (with_reducible refine Stuck.h (A := BitG _ _ _ _ _) ?_)
  | (with_reducible refine Stuck.h (A := IdxG _ _ _) ?_) | (with_reducible refine Stuck.h (A := IdxL _ _ _) ?_) | (with_reducible refine Stuck.h (A := SlcG _ _ _ _ _) ?_) | (with_reducible refine Stuck.h (A := MakG _ _ _ _) ?_) | (with_reducible refine Stuck.h (A := AppG _ _ _ _ _ _ _) ?_) | (with_reducible refine Stuck.h (A := FzG _ _ _ _) ?_)
  | (with_reducible refine Stuck.h (A := RawG _) ?_) | (with_reducible refine Stuck.h (A := TabG _ _ _ _ _) ?_) | (with_reducible refine Stuck.h (A := ExtF _ _ _ _) ?_) | (with_reducible refine Stuck.h (A := Chk _ _) ?_) | (with_reducible refine Stuck.h (A := False) ?_))
    exact ⟨ret_e rfl⟩
  · have hb : (decide (1 ≤ p) && decide (p ≤ 70000)) = false := by
      by_cases h1 : 1 ≤ p
      · rw [decide_eq_false (show ¬ p ≤ 70000 by omega)]; simp
      · rw [decide_eq_false h1]; rfl
    rw [hb] at f0
    refine FC.intro (X := XX) tok Tryd.func38 rfl Tryd.ntmps38 (by rw [Tryd.results38]) (by kernel_rfl) rfl ?_; intro F hG hO
    rw [← hG] at f0
    repeat' ((try (conv => whnf)); first
  | ((with_reducible refine cg ?_); refine call_eq (f0) (LpL.refl _) rfl ?_)
  
  | (with_reducible refine Chk.mk' (by first | omega | exact trivial | (simp only [List.length_append, List.length_set, List.length_replicate, List.length_take, List.length_drop, List.length_cons, List.length_nil, List.length_map]; omega)) ?_)
  | (with_reducible refine wrap_g (by dsimp only [inR]; omega) ?_)
  | (with_reducible refine idx_g (by omega) ?_)
  | (with_reducible refine idx_l _ rfl (by decide) ?_)
  | (with_reducible refine BothG.mk ?_ ?_)
  | (with_reducible refine fork_tt ?_) | (with_reducible refine fork_ff ?_)
  | (with_reducible refine fork_e (c := true) (by decide) ?_; with_reducible refine fork_tt ?_) | (with_reducible refine fork_e (c := false) (by decide) ?_; with_reducible refine fork_ff ?_)
  | (with_reducible refine fork_t (by omega) ?_) | (with_reducible refine fork_f (by omega) ?_)
  | (with_reducible refine fork_d ?_ ?_ <;> intro hc)
  | (with_reducible refine fork_n ?_)
  | (with_reducible refine fork_b ?_ ?_ <;> intro hc)
  | (with_reducible refine SlcG.mk (by omega) ?_)
  | (with_reducible refine MakG.mk (by dsimp only; omega) ?_)
  | (with_reducible refine AppG.mk (by first | omega | (simp only [List.length_append, List.length_set, List.length_replicate, List.length_take, List.length_drop, List.length_cons, List.length_nil, List.length_map]; omega)) (by dsimp only [List.length_cons, List.length_nil]; omega) (by omega) ?_)
  | (with_reducible refine div_g (by omega) (by omega) (by dsimp only [inR]; omega) ?_)
  | (with_reducible refine mod_g (by omega) (by omega) ?_)
  | (with_reducible refine mask_g (m := 4294967296) 32 rfl rfl (by decide) (by omega) ?_)
  | (with_reducible refine shr_g (m := 4294967296) 32 rfl (by decide) (by omega) rfl ?_)
  | (with_reducible refine fz_all (by omega) ?_)
  | (with_reducible refine Stuck.h (A := RetE _ _) ?_) | (with_reducible refine Stuck.h (A := RetM _ _ _ _) ?_) | (with_reducible refine Stuck.h (A := Again _ _ _ _ _ _ _ _) ?_) | (with_reducible refine Stuck.h (A := CallF _ _ _ _ _ _ _) ?_) | (with_reducible refine Stuck.h (A := LoopG _ _ _ _ _ _ _ _) ?_) | (with_reducible refine Stuck.h (A := DrawG _ _ _ _ _ _ _ _) ?_)
  | (with_reducible refine Stuck.h (A := WrapG _ _ _) ?_) | (with_reducible refine Stuck.h (A := DivG _ _ _ _) ?_) | (with_reducible refine Stuck.h (A := ModG _ _ _) ?_) | (with_reducible refine Stuck.h (A := ShlG _ _ _ _) ?_) | (with_reducible refine Stuck.h (A := ShrG _ _ _ _) ?_) | (with_reducible refine Stuck.h (A := BitG _ _ _ _ _) ?_)
  | (with_reducible refine Stuck.h (A := IdxG _ _ _) ?_) | (with_reducible refine Stuck.h (A := IdxL _ _ _) ?_) | (with_reducible refine Stuck.h (A := SlcG _ _ _ _ _) ?_) | (with_reducible refine Stuck.h (A := MakG _ _ _ _) ?_) | (with_reducible refine Stuck.h (A := AppG _ _ _ _ _ _ _) ?_) | (with_reducible refine Stuck.h (A := FzG _ _ _ _) ?_)
  | (with_reducible refine Stuck.h (A := RawG _) ?_) | (with_reducible refine Stuck.h (A := TabG _ _ _ _ _) ?_) | (with_reducible refine Stuck.h (A := ExtF _ _ _ _) ?_) | (with_reducible refine Stuck.h (A := Chk _ _) ?_) | (with_reducible refine Stuck.h (A := False) ?_))
    refine ⟨ret_l _ (lp_dyE 1) ?_⟩
    by_cases h1 : p < 1
    · rw [if_pos h1]
    · rw [if_neg h1, if_pos (by omega)]
theorem y_down {g : List (Nat × List Value)} (hD : (0, debT.map (Value.int .u8)) ∈ g) {n e : Int} (p : Int) (h : Good n e) : FC Tryd.prog g 18 [DY n e, .val (.int .i64 p)] (· = cutsS n e p false) := by
  obtain ⟨x, y, c, hr, hgd⟩ := cuts_form n e p false
  have f1 := y_next hD p false h
  rw [hr] at f1 ⊢
  refine FC.intro (X := XX) tok Tryd.func18 rfl Tryd.ntmps18 (by rw [Tryd.results18]) (by kernel_rfl) rfl ?_; intro F hG hO
  rw [← hG] at f1
  repeat' ((try (conv => whnf)); first
  | ((with_reducible refine cg ?_); refine call_eq (f1) (LpL.refl _) rfl ?_)
  
  | (with_reducible refine Chk.mk' (by first | omega | exact trivial | (simp only [List.length_append, List.length_set, List.length_replicate, List.length_take, List.length_drop, List.length_cons, List.length_nil, List.length_map]; omega)) ?_)
  | (with_reducible refine wrap_g (by dsimp only [inR]; omega) ?_)
  | (with_reducible refine idx_g (by omega) ?_)
  | (with_reducible refine idx_l _ rfl (by decide) ?_)
  | (with_reducible refine BothG.mk ?_ ?_)
  | (with_reducible refine fork_tt ?_) | (with_reducible refine fork_ff ?_)
  | (with_reducible refine fork_e (c := true) (by decide) ?_; with_reducible refine fork_tt ?_) | (with_reducible refine fork_e (c := false) (by decide) ?_; with_reducible refine fork_ff ?_)
  | (with_reducible refine fork_t (by omega) ?_) | (with_reducible refine fork_f (by omega) ?_)
  | (with_reducible refine fork_d ?_ ?_ <;> intro hc)
  | (with_reducible refine fork_n ?_)
  | (with_reducible refine fork_b ?_ ?_ <;> intro hc)
  | (with_reducible refine SlcG.mk (by omega) ?_)
  | (with_reducible refine MakG.mk (by dsimp only; omega) ?_)
  | (with_reducible refine AppG.mk (by first | omega | (simp only [List.length_append, List.length_set, List.length_replicate, List.length_take, List.length_drop, List.length_cons, List.length_nil, List.length_map]; omega)) (by dsimp only [List.length_cons, List.length_nil]; omega) (by omega) ?_)
  | (with_reducible refine div_g (by omega) (by omega) (by dsimp only [inR]; omega) ?_)
  | (with_reducible refine mod_g (by omega) (by omega) ?_)
  | (with_reducible refine mask_g (m := 4294967296) 32 rfl rfl (by decide) (by omega) ?_)
  | (with_reducible refine shr_g (m := 4294967296) 32 rfl (by decide) (by omega) rfl ?_)
  | (with_reducible refine fz_all (by omega) ?_)
  | (with_reducible refine Stuck.h (A := RetE _ _) ?_) | (with_reducible refine Stuck.h (A := RetM _ _ _ _) ?_) | (with_reducible refine Stuck.h (A := Again _ _ _ _ _ _ _ _) ?_) | (with_reducible refine Stuck.h (A := CallF _ _ _ _ _ _ _) ?_) | (with_reducible refine Stuck.h (A := LoopG _ _ _ _ _ _ _ _) ?_) | (with_reducible refine Stuck.h (A := DrawG _ _ _ _ _ _ _ _) ?_)
  | (with_reducible refine Stuck.h (A := WrapG _ _ _) ?_) | (with_reducible refine Stuck.h (A := DivG _ _ _ _) ?_) | (with_reducible refine Stuck.h (A := ModG _ _ _) ?_) | (with_reducible refine Stuck.h (A := ShlG _ _ _ _) ?_) | (with_reducible refine Stuck.h (A := ShrG _ _ _ _) ?_) | (with_reducible refine Stuck.h (A := BitG _ _ _ _ _) ?_)
  | (with_reducible refine Stuck.h (A := IdxG _ _ _) ?_) | (with_reducible refine Stuck.h (A := IdxL _ _ _) ?_) | (with_reducible refine Stuck.h (A := SlcG _ _ _ _ _) ?_) | (with_reducible refine Stuck.h (A := MakG _ _ _ _) ?_) | (with_reducible refine Stuck.h (A := AppG _ _ _ _ _ _ _) ?_) | (with_reducible refine Stuck.h (A := FzG _ _ _ _) ?_)
  | (with_reducible refine Stuck.h (A := RawG _) ?_) | (with_reducible refine Stuck.h (A := TabG _ _ _ _ _) ?_) | (with_reducible refine Stuck.h (A := ExtF _ _ _ _) ?_) | (with_reducible refine Stuck.h (A := Chk _ _) ?_) | (with_reducible refine Stuck.h (A := False) ?_))
  exact ⟨ret_e rfl⟩
theorem y_up {g : List (Nat × List Value)} (hD : (0, debT.map (Value.int .u8)) ∈ g) {n e : Int} (p : Int) (h : Good n e) : FC Tryd.prog g 19 [DY n e, .val (.int .i64 p)] (· = cutsS n e p true) := by
  obtain ⟨x, y, c, hr, hgd⟩ := cuts_form n e p true
  have f1 := y_next hD p true h
  rw [hr] at f1 ⊢
  refine FC.intro (X := XX) tok Tryd.func19 rfl Tryd.ntmps19 (by rw [Tryd.results19]) (by kernel_rfl) rfl ?_; intro F hG hO
  rw [← hG] at f1
  repeat' ((try (conv => whnf)); first
  | ((with_reducible refine cg ?_); refine call_eq (f1) (LpL.refl _) rfl ?_)
  
  | (with_reducible refine Chk.mk' (by first | omega | exact trivial | (simp only [List.length_append, List.length_set, List.length_replicate, List.length_take, List.length_drop, List.length_cons, List.length_nil, List.length_map]; omega)) ?_)
  | (with_reducible refine wrap_g (by dsimp only [inR]; omega) ?_)
  | (with_reducible refine idx_g (by omega) ?_)
  | (with_reducible refine idx_l _ rfl (by decide) ?_)
  | (with_reducible refine BothG.mk ?_ ?_)
  | (with_reducible refine fork_tt ?_) | (with_reducible refine fork_ff ?_)
  | (with_reducible refine fork_e (c := true) (by decide) ?_; with_reducible refine fork_tt ?_) | (with_reducible refine fork_e (c := false) (by decide) ?_; with_reducible refine fork_ff ?_)
  | (with_reducible refine fork_t (by omega) ?_) | (with_reducible refine fork_f (by omega) ?_)
  | (with_reducible refine fork_d ?_ ?_ <;> intro hc)
  | (with_reducible refine fork_n ?_)
  | (with_reducible refine fork_b ?_ ?_ <;> intro hc)
  | (with_reducible refine SlcG.mk (by omega) ?_)
  | (with_reducible refine MakG.mk (by dsimp only; omega) ?_)
  | (with_reducible refine AppG.mk (by first | omega | (simp only [List.length_append, List.length_set, List.length_replicate, List.length_take, List.length_drop, List.length_cons, List.length_nil, List.length_map]; omega)) (by dsimp only [List.length_cons, List.length_nil]; omega) (by omega) ?_)
  | (with_reducible refine div_g (by omega) (by omega) (by dsimp only [inR]; omega) ?_)
  | (with_reducible refine mod_g (by omega) (by omega) ?_)
  | (with_reducible refine mask_g (m := 4294967296) 32 rfl rfl (by decide) (by omega) ?_)
  | (with_reducible refine shr_g (m := 4294967296) 32 rfl (by decide) (by omega) rfl ?_)
  | (with_reducible refine fz_all (by omega) ?_)
  | (with_reducible refine Stuck.h (A := RetE _ _) ?_) | (with_reducible refine Stuck.h (A := RetM _ _ _ _) ?_) | (with_reducible refine Stuck.h (A := Again _ _ _ _ _ _ _ _) ?_) | (with_reducible refine Stuck.h (A := CallF _ _ _ _ _ _ _) ?_) | (with_reducible refine Stuck.h (A := LoopG _ _ _ _ _ _ _ _) ?_) | (with_reducible refine Stuck.h (A := DrawG _ _ _ _ _ _ _ _) ?_)
  | (with_reducible refine Stuck.h (A := WrapG _ _ _) ?_) | (with_reducible refine Stuck.h (A := DivG _ _ _ _) ?_) | (with_reducible refine Stuck.h (A := ModG _ _ _) ?_) | (with_reducible refine Stuck.h (A := ShlG _ _ _ _) ?_) | (with_reducible refine Stuck.h (A := ShrG _ _ _ _) ?_) | (with_reducible refine Stuck.h (A := BitG _ _ _ _ _) ?_)
  | (with_reducible refine Stuck.h (A := IdxG _ _ _) ?_) | (with_reducible refine Stuck.h (A := IdxL _ _ _) ?_) | (with_reducible refine Stuck.h (A := SlcG _ _ _ _ _) ?_) | (with_reducible refine Stuck.h (A := MakG _ _ _ _) ?_) | (with_reducible refine Stuck.h (A := AppG _ _ _ _ _ _ _) ?_) | (with_reducible refine Stuck.h (A := FzG _ _ _ _) ?_)
  | (with_reducible refine Stuck.h (A := RawG _) ?_) | (with_reducible refine Stuck.h (A := TabG _ _ _ _ _) ?_) | (with_reducible refine Stuck.h (A := ExtF _ _ _ _) ?_) | (with_reducible refine Stuck.h (A := Chk _ _) ?_) | (with_reducible refine Stuck.h (A := False) ?_))
  exact ⟨ret_e rfl⟩
theorem y_of {g : List (Nat × List Value)} (hD : (0, debT.map (Value.int .u8)) ∈ g) (n : Int) (h : inR .i64 n) : FC Tryd.prog g 31 [.val (.int .i64 n)] (· = ofS n) := by
  have f1 := n_of (G := g) n h
  dsimp only [inR] at h
  have hL : LZ n ≤ 2 := L32_le (show n.natAbs < 2 ^ (32 * 2) by omega)
  have hL6 : L64 n.natAbs ≤ 8192 := Nat.le_trans (L64_le (n := 1) (show n.natAbs < 2 ^ (64 * 1) by omega)) (by decide)
  have f2 := y_make hD n 0 hL6 (by dsimp only [inR]; omega)
  rw [told_of n hL] at f2
  unfold ofS at f2 ⊢
  refine FC.intro (X := XX) tok Tryd.func31 rfl Tryd.ntmps31 (by rw [Tryd.results31]) (by kernel_rfl) rfl ?_; intro F hG hO
  rw [← hG] at f1 f2
  repeat' ((try (conv => whnf)); first
  | ((with_reducible refine cg ?_); refine call_eq (f1) (LpL.refl _) rfl ?_)
  | ((with_reducible refine cg ?_); refine call_eq (f2) (LpL.refl _) rfl ?_)
  
  | (with_reducible refine Chk.mk' (by first | omega | exact trivial | (simp only [List.length_append, List.length_set, List.length_replicate, List.length_take, List.length_drop, List.length_cons, List.length_nil, List.length_map]; omega)) ?_)
  | (with_reducible refine wrap_g (by dsimp only [inR]; omega) ?_)
  | (with_reducible refine idx_g (by omega) ?_)
  | (with_reducible refine idx_l _ rfl (by decide) ?_)
  | (with_reducible refine BothG.mk ?_ ?_)
  | (with_reducible refine fork_tt ?_) | (with_reducible refine fork_ff ?_)
  | (with_reducible refine fork_e (c := true) (by decide) ?_; with_reducible refine fork_tt ?_) | (with_reducible refine fork_e (c := false) (by decide) ?_; with_reducible refine fork_ff ?_)
  | (with_reducible refine fork_t (by omega) ?_) | (with_reducible refine fork_f (by omega) ?_)
  | (with_reducible refine fork_d ?_ ?_ <;> intro hc)
  | (with_reducible refine fork_n ?_)
  | (with_reducible refine fork_b ?_ ?_ <;> intro hc)
  | (with_reducible refine SlcG.mk (by omega) ?_)
  | (with_reducible refine MakG.mk (by dsimp only; omega) ?_)
  | (with_reducible refine AppG.mk (by first | omega | (simp only [List.length_append, List.length_set, List.length_replicate, List.length_take, List.length_drop, List.length_cons, List.length_nil, List.length_map]; omega)) (by dsimp only [List.length_cons, List.length_nil]; omega) (by omega) ?_)
  | (with_reducible refine div_g (by omega) (by omega) (by dsimp only [inR]; omega) ?_)
  | (with_reducible refine mod_g (by omega) (by omega) ?_)
  | (with_reducible refine mask_g (m := 4294967296) 32 rfl rfl (by decide) (by omega) ?_)
  | (with_reducible refine shr_g (m := 4294967296) 32 rfl (by decide) (by omega) rfl ?_)
  | (with_reducible refine fz_all (by omega) ?_)
  | (with_reducible refine Stuck.h (A := RetE _ _) ?_) | (with_reducible refine Stuck.h (A := RetM _ _ _ _) ?_) | (with_reducible refine Stuck.h (A := Again _ _ _ _ _ _ _ _) ?_) | (with_reducible refine Stuck.h (A := CallF _ _ _ _ _ _ _) ?_) | (with_reducible refine Stuck.h (A := LoopG _ _ _ _ _ _ _ _) ?_) | (with_reducible refine Stuck.h (A := DrawG _ _ _ _ _ _ _ _) ?_)
  | (with_reducible refine Stuck.h (A := WrapG _ _ _) ?_) | (with_reducible refine Stuck.h (A := DivG _ _ _ _) ?_) | (with_reducible refine Stuck.h (A := ModG _ _ _) ?_) | (with_reducible refine Stuck.h (A := ShlG _ _ _ _) ?_) | (with_reducible refine Stuck.h (A := ShrG _ _ _ _) ?_) | (with_reducible refine Stuck.h (A := BitG _ _ _ _ _) ?_)
  | (with_reducible refine Stuck.h (A := IdxG _ _ _) ?_) | (with_reducible refine Stuck.h (A := IdxL _ _ _) ?_) | (with_reducible refine Stuck.h (A := SlcG _ _ _ _ _) ?_) | (with_reducible refine Stuck.h (A := MakG _ _ _ _) ?_) | (with_reducible refine Stuck.h (A := AppG _ _ _ _ _ _ _) ?_) | (with_reducible refine Stuck.h (A := FzG _ _ _ _) ?_)
  | (with_reducible refine Stuck.h (A := RawG _) ?_) | (with_reducible refine Stuck.h (A := TabG _ _ _ _ _) ?_) | (with_reducible refine Stuck.h (A := ExtF _ _ _ _) ?_) | (with_reducible refine Stuck.h (A := Chk _ _) ?_) | (with_reducible refine Stuck.h (A := False) ?_))
  exact ⟨ret_e rfl⟩
end Go.Proofs.YtbeocnjlepcglaaDoor.Sim
namespace Go.Proofs.YtbeocnjlepcglaaDoor.Sim
open Go.RowKit
set_option linter.unusedVariables false
set_option linter.unusedSimpArgs false
set_option maxRecDepth 10000
set_option maxHeartbeats 8000000
variable {G : List (Nat × List Value)}
def niF (b : Bool) (l : List Int) : Bool := formL l && !(b && decide (l.length = 0))
theorem n_nformX (b : Bool) (l : List Int) : FC Tryd.prog G 52 [.agg [.val (.bool b), .ws .u64 l]] (· = .val (.bool (niF b l))) := by
  have f1 := n_form (G := G) l
  unfold niF
  obtain ⟨x, hx⟩ : ∃ x, x = formL l := ⟨_, rfl⟩
  rw [← hx] at f1 ⊢
  clear hx
  cases x
  · refine FC.intro (X := XX) tok Tryd.func52 rfl Tryd.ntmps52 (by rw [Tryd.results52]) (by kernel_rfl) rfl ?_; intro F hG hO
    rw [← hG] at f1
    repeat' ((try (conv => whnf)); first
  | ((with_reducible refine cg ?_); refine call_eq (f1) (LpL.refl _) rfl ?_)
  
  | (with_reducible refine Chk.mk' (by first | omega | exact trivial | (simp only [List.length_append, List.length_set, List.length_replicate, List.length_take, List.length_drop, List.length_cons, List.length_nil, List.length_map]; omega)) ?_)
  | (with_reducible refine wrap_g (by dsimp only [inR]; omega) ?_)
  | (with_reducible refine idx_g (by omega) ?_)
  | (with_reducible refine idx_l _ rfl (by decide) ?_)
  | (with_reducible refine BothG.mk ?_ ?_)
  | (with_reducible refine fork_tt ?_) | (with_reducible refine fork_ff ?_)
  | (with_reducible refine fork_e (c := true) (by decide) ?_; with_reducible refine fork_tt ?_) | (with_reducible refine fork_e (c := false) (by decide) ?_; with_reducible refine fork_ff ?_)
  | (with_reducible refine fork_t (by omega) ?_) | (with_reducible refine fork_f (by omega) ?_)
  | (with_reducible refine fork_d ?_ ?_ <;> intro hc)
  | (with_reducible refine fork_n ?_)
  | (with_reducible refine fork_b ?_ ?_ <;> intro hc)
  | (with_reducible refine SlcG.mk (by omega) ?_)
  | (with_reducible refine MakG.mk (by dsimp only; omega) ?_)
  | (with_reducible refine AppG.mk (by first | omega | (simp only [List.length_append, List.length_set, List.length_replicate, List.length_take, List.length_drop, List.length_cons, List.length_nil, List.length_map]; omega)) (by dsimp only [List.length_cons, List.length_nil]; omega) (by omega) ?_)
  | (with_reducible refine div_g (by omega) (by omega) (by dsimp only [inR]; omega) ?_)
  | (with_reducible refine mod_g (by omega) (by omega) ?_)
  | (with_reducible refine mask_g (m := 4294967296) 32 rfl rfl (by decide) (by omega) ?_)
  | (with_reducible refine shr_g (m := 4294967296) 32 rfl (by decide) (by omega) rfl ?_)
  | (with_reducible refine fz_all (by omega) ?_)
  | (with_reducible refine Stuck.h (A := RetE _ _) ?_) | (with_reducible refine Stuck.h (A := RetM _ _ _ _) ?_) | (with_reducible refine Stuck.h (A := Again _ _ _ _ _ _ _ _) ?_) | (with_reducible refine Stuck.h (A := CallF _ _ _ _ _ _ _) ?_) | (with_reducible refine Stuck.h (A := LoopG _ _ _ _ _ _ _ _) ?_) | (with_reducible refine Stuck.h (A := DrawG _ _ _ _ _ _ _ _) ?_)
  | (with_reducible refine Stuck.h (A := WrapG _ _ _) ?_) | (with_reducible refine Stuck.h (A := DivG _ _ _ _) ?_) | (with_reducible refine Stuck.h (A := ModG _ _ _) ?_) | (with_reducible refine Stuck.h (A := ShlG _ _ _ _) ?_) | (with_reducible refine Stuck.h (A := ShrG _ _ _ _) ?_) | (with_reducible refine Stuck.h (A := BitG _ _ _ _ _) ?_)
  | (with_reducible refine Stuck.h (A := IdxG _ _ _) ?_) | (with_reducible refine Stuck.h (A := IdxL _ _ _) ?_) | (with_reducible refine Stuck.h (A := SlcG _ _ _ _ _) ?_) | (with_reducible refine Stuck.h (A := MakG _ _ _ _) ?_) | (with_reducible refine Stuck.h (A := AppG _ _ _ _ _ _ _) ?_) | (with_reducible refine Stuck.h (A := FzG _ _ _ _) ?_)
  | (with_reducible refine Stuck.h (A := RawG _) ?_) | (with_reducible refine Stuck.h (A := TabG _ _ _ _ _) ?_) | (with_reducible refine Stuck.h (A := ExtF _ _ _ _) ?_) | (with_reducible refine Stuck.h (A := Chk _ _) ?_) | (with_reducible refine Stuck.h (A := False) ?_))
    exact ⟨ret_e rfl⟩
  · cases b
    · refine FC.intro (X := XX) tok Tryd.func52 rfl Tryd.ntmps52 (by rw [Tryd.results52]) (by kernel_rfl) rfl ?_; intro F hG hO
      rw [← hG] at f1
      repeat' ((try (conv => whnf)); first
  | ((with_reducible refine cg ?_); refine call_eq (f1) (LpL.refl _) rfl ?_)
  
  | (with_reducible refine Chk.mk' (by first | omega | exact trivial | (simp only [List.length_append, List.length_set, List.length_replicate, List.length_take, List.length_drop, List.length_cons, List.length_nil, List.length_map]; omega)) ?_)
  | (with_reducible refine wrap_g (by dsimp only [inR]; omega) ?_)
  | (with_reducible refine idx_g (by omega) ?_)
  | (with_reducible refine idx_l _ rfl (by decide) ?_)
  | (with_reducible refine BothG.mk ?_ ?_)
  | (with_reducible refine fork_tt ?_) | (with_reducible refine fork_ff ?_)
  | (with_reducible refine fork_e (c := true) (by decide) ?_; with_reducible refine fork_tt ?_) | (with_reducible refine fork_e (c := false) (by decide) ?_; with_reducible refine fork_ff ?_)
  | (with_reducible refine fork_t (by omega) ?_) | (with_reducible refine fork_f (by omega) ?_)
  | (with_reducible refine fork_d ?_ ?_ <;> intro hc)
  | (with_reducible refine fork_n ?_)
  | (with_reducible refine fork_b ?_ ?_ <;> intro hc)
  | (with_reducible refine SlcG.mk (by omega) ?_)
  | (with_reducible refine MakG.mk (by dsimp only; omega) ?_)
  | (with_reducible refine AppG.mk (by first | omega | (simp only [List.length_append, List.length_set, List.length_replicate, List.length_take, List.length_drop, List.length_cons, List.length_nil, List.length_map]; omega)) (by dsimp only [List.length_cons, List.length_nil]; omega) (by omega) ?_)
  | (with_reducible refine div_g (by omega) (by omega) (by dsimp only [inR]; omega) ?_)
  | (with_reducible refine mod_g (by omega) (by omega) ?_)
  | (with_reducible refine mask_g (m := 4294967296) 32 rfl rfl (by decide) (by omega) ?_)
  | (with_reducible refine shr_g (m := 4294967296) 32 rfl (by decide) (by omega) rfl ?_)
  | (with_reducible refine fz_all (by omega) ?_)
  | (with_reducible refine Stuck.h (A := RetE _ _) ?_) | (with_reducible refine Stuck.h (A := RetM _ _ _ _) ?_) | (with_reducible refine Stuck.h (A := Again _ _ _ _ _ _ _ _) ?_) | (with_reducible refine Stuck.h (A := CallF _ _ _ _ _ _ _) ?_) | (with_reducible refine Stuck.h (A := LoopG _ _ _ _ _ _ _ _) ?_) | (with_reducible refine Stuck.h (A := DrawG _ _ _ _ _ _ _ _) ?_)
  | (with_reducible refine Stuck.h (A := WrapG _ _ _) ?_) | (with_reducible refine Stuck.h (A := DivG _ _ _ _) ?_) | (with_reducible refine Stuck.h (A := ModG _ _ _) ?_) | (with_reducible refine Stuck.h (A := ShlG _ _ _ _) ?_) | (with_reducible refine Stuck.h (A := ShrG _ _ _ _) ?_) | (with_reducible refine Stuck.h (A := BitG _ _ _ _ _) ?_)
  | (with_reducible refine Stuck.h (A := IdxG _ _ _) ?_) | (with_reducible refine Stuck.h (A := IdxL _ _ _) ?_) | (with_reducible refine Stuck.h (A := SlcG _ _ _ _ _) ?_) | (with_reducible refine Stuck.h (A := MakG _ _ _ _) ?_) | (with_reducible refine Stuck.h (A := AppG _ _ _ _ _ _ _) ?_) | (with_reducible refine Stuck.h (A := FzG _ _ _ _) ?_)
  | (with_reducible refine Stuck.h (A := RawG _) ?_) | (with_reducible refine Stuck.h (A := TabG _ _ _ _ _) ?_) | (with_reducible refine Stuck.h (A := ExtF _ _ _ _) ?_) | (with_reducible refine Stuck.h (A := Chk _ _) ?_) | (with_reducible refine Stuck.h (A := False) ?_))
      all_goals exact ⟨ret_e rfl⟩
    · refine FC.intro (X := XX) tok Tryd.func52 rfl Tryd.ntmps52 (by rw [Tryd.results52]) (by kernel_rfl) rfl ?_; intro F hG hO
      rw [← hG] at f1
      repeat' ((try (conv => whnf)); first
  | ((with_reducible refine cg ?_); refine call_eq (f1) (LpL.refl _) rfl ?_)
  
  | (with_reducible refine Chk.mk' (by first | omega | exact trivial | (simp only [List.length_append, List.length_set, List.length_replicate, List.length_take, List.length_drop, List.length_cons, List.length_nil, List.length_map]; omega)) ?_)
  | (with_reducible refine wrap_g (by dsimp only [inR]; omega) ?_)
  | (with_reducible refine idx_g (by omega) ?_)
  | (with_reducible refine idx_l _ rfl (by decide) ?_)
  | (with_reducible refine BothG.mk ?_ ?_)
  | (with_reducible refine fork_tt ?_) | (with_reducible refine fork_ff ?_)
  | (with_reducible refine fork_e (c := true) (by decide) ?_; with_reducible refine fork_tt ?_) | (with_reducible refine fork_e (c := false) (by decide) ?_; with_reducible refine fork_ff ?_)
  | (with_reducible refine fork_t (by omega) ?_) | (with_reducible refine fork_f (by omega) ?_)
  | (with_reducible refine fork_d ?_ ?_ <;> intro hc)
  | (with_reducible refine fork_n ?_)
  | (with_reducible refine fork_b ?_ ?_ <;> intro hc)
  | (with_reducible refine SlcG.mk (by omega) ?_)
  | (with_reducible refine MakG.mk (by dsimp only; omega) ?_)
  | (with_reducible refine AppG.mk (by first | omega | (simp only [List.length_append, List.length_set, List.length_replicate, List.length_take, List.length_drop, List.length_cons, List.length_nil, List.length_map]; omega)) (by dsimp only [List.length_cons, List.length_nil]; omega) (by omega) ?_)
  | (with_reducible refine div_g (by omega) (by omega) (by dsimp only [inR]; omega) ?_)
  | (with_reducible refine mod_g (by omega) (by omega) ?_)
  | (with_reducible refine mask_g (m := 4294967296) 32 rfl rfl (by decide) (by omega) ?_)
  | (with_reducible refine shr_g (m := 4294967296) 32 rfl (by decide) (by omega) rfl ?_)
  | (with_reducible refine fz_all (by omega) ?_)
  | (with_reducible refine Stuck.h (A := RetE _ _) ?_) | (with_reducible refine Stuck.h (A := RetM _ _ _ _) ?_) | (with_reducible refine Stuck.h (A := Again _ _ _ _ _ _ _ _) ?_) | (with_reducible refine Stuck.h (A := CallF _ _ _ _ _ _ _) ?_) | (with_reducible refine Stuck.h (A := LoopG _ _ _ _ _ _ _ _) ?_) | (with_reducible refine Stuck.h (A := DrawG _ _ _ _ _ _ _ _) ?_)
  | (with_reducible refine Stuck.h (A := WrapG _ _ _) ?_) | (with_reducible refine Stuck.h (A := DivG _ _ _ _) ?_) | (with_reducible refine Stuck.h (A := ModG _ _ _) ?_) | (with_reducible refine Stuck.h (A := ShlG _ _ _ _) ?_) | (with_reducible refine Stuck.h (A := ShrG _ _ _ _) ?_) | (with_reducible refine Stuck.h (A := BitG _ _ _ _ _) ?_)
  | (with_reducible refine Stuck.h (A := IdxG _ _ _) ?_) | (with_reducible refine Stuck.h (A := IdxL _ _ _) ?_) | (with_reducible refine Stuck.h (A := SlcG _ _ _ _ _) ?_) | (with_reducible refine Stuck.h (A := MakG _ _ _ _) ?_) | (with_reducible refine Stuck.h (A := AppG _ _ _ _ _ _ _) ?_) | (with_reducible refine Stuck.h (A := FzG _ _ _ _) ?_)
  | (with_reducible refine Stuck.h (A := RawG _) ?_) | (with_reducible refine Stuck.h (A := TabG _ _ _ _ _) ?_) | (with_reducible refine Stuck.h (A := ExtF _ _ _ _) ?_) | (with_reducible refine Stuck.h (A := Chk _ _) ?_) | (with_reducible refine Stuck.h (A := False) ?_))
      all_goals first
        | exact ⟨ret_e (bv_eq (by rw [decide_eq_true (show l.length = 0 by omega)]; rfl))⟩
        | exact ⟨ret_e (bv_eq (by rw [decide_eq_false (show ¬ l.length = 0 by omega)]; rfl))⟩
        | exact ⟨ret_e (bv_eq (by by_cases h : l.length = 0 <;> simp [h]))⟩
        | exact ⟨ret_e (bv_eq (by by_cases h : l.length = 0; (simp [h]); (rw [decide_eq_false h, decide_eq_true (show (0 : Int) < (l.length : Int) by omega)]; rfl)))⟩
theorem y_formX (b : Bool) (l : List Int) (e : Int) (ok : okD 18446744073709551616 l) : FC Tryd.prog G 33 [Dy b l e] (· = .val (.bool (dyF b l e))) := by
  have f0 := n_nformX (G := G) b l
  have f1 := y_nought (G := G) b l e
  have hb := rd_bd (by decide) ok 0
  have hd : dyF b l e = (niF b l && decide (-1048576 ≤ e) && decide (e ≤ 1048576) && (if l.length = 0 then decide (e = 0) else decide (rd l 0 % 2 = 1))) := by
    unfold dyF niF
    by_cases h0 : l.length = 0
    · rw [if_pos h0, if_pos h0, decide_eq_true h0, Bool.and_true]
      cases formL l <;> cases b <;> cases decide (-1048576 ≤ e) <;> cases decide (e ≤ 1048576) <;> rfl
    · rw [if_neg h0, if_neg h0, decide_eq_false h0, Bool.and_false, Bool.not_false, Bool.and_true]
  rw [hd]
  obtain ⟨x, hx⟩ : ∃ x, x = niF b l := ⟨_, rfl⟩
  rw [← hx] at f0 ⊢
  clear hx hd
  cases x
  · refine FC.intro (X := XX) tok Tryd.func33 rfl Tryd.ntmps33 (by rw [Tryd.results33]) (by kernel_rfl) rfl ?_; intro F hG hO
    rw [← hG] at f0
    repeat' ((try (conv => whnf)); first
  | ((with_reducible refine cg ?_); refine call_eq (f0) (LpL.refl _) rfl ?_)
  
  | (with_reducible refine Chk.mk' (by first | omega | exact trivial | (simp only [List.length_append, List.length_set, List.length_replicate, List.length_take, List.length_drop, List.length_cons, List.length_nil, List.length_map]; omega)) ?_)
  | (with_reducible refine wrap_g (by dsimp only [inR]; omega) ?_)
  | (with_reducible refine idx_g (by omega) ?_)
  | (with_reducible refine idx_l _ rfl (by decide) ?_)
  | (with_reducible refine BothG.mk ?_ ?_)
  | (with_reducible refine fork_tt ?_) | (with_reducible refine fork_ff ?_)
  | (with_reducible refine fork_e (c := true) (by decide) ?_; with_reducible refine fork_tt ?_) | (with_reducible refine fork_e (c := false) (by decide) ?_; with_reducible refine fork_ff ?_)
  | (with_reducible refine fork_t (by omega) ?_) | (with_reducible refine fork_f (by omega) ?_)
  | (with_reducible refine fork_d ?_ ?_ <;> intro hc)
  | (with_reducible refine fork_n ?_)
  | (with_reducible refine fork_b ?_ ?_ <;> intro hc)
  | (with_reducible refine SlcG.mk (by omega) ?_)
  | (with_reducible refine MakG.mk (by dsimp only; omega) ?_)
  | (with_reducible refine AppG.mk (by first | omega | (simp only [List.length_append, List.length_set, List.length_replicate, List.length_take, List.length_drop, List.length_cons, List.length_nil, List.length_map]; omega)) (by dsimp only [List.length_cons, List.length_nil]; omega) (by omega) ?_)
  | (with_reducible refine div_g (by omega) (by omega) (by dsimp only [inR]; omega) ?_)
  | (with_reducible refine mod_g (by omega) (by omega) ?_)
  | (with_reducible refine mask_g (m := 4294967296) 32 rfl rfl (by decide) (by omega) ?_)
  | (with_reducible refine shr_g (m := 4294967296) 32 rfl (by decide) (by omega) rfl ?_)
  | (with_reducible refine fz_all (by omega) ?_)
  | (with_reducible refine Stuck.h (A := RetE _ _) ?_) | (with_reducible refine Stuck.h (A := RetM _ _ _ _) ?_) | (with_reducible refine Stuck.h (A := Again _ _ _ _ _ _ _ _) ?_) | (with_reducible refine Stuck.h (A := CallF _ _ _ _ _ _ _) ?_) | (with_reducible refine Stuck.h (A := LoopG _ _ _ _ _ _ _ _) ?_) | (with_reducible refine Stuck.h (A := DrawG _ _ _ _ _ _ _ _) ?_)
  | (with_reducible refine Stuck.h (A := WrapG _ _ _) ?_) | (with_reducible refine Stuck.h (A := DivG _ _ _ _) ?_) | (with_reducible refine Stuck.h (A := ModG _ _ _) ?_) | (with_reducible refine Stuck.h (A := ShlG _ _ _ _) ?_) | (with_reducible refine Stuck.h (A := ShrG _ _ _ _) ?_) | (with_reducible refine Stuck.h (A := BitG _ _ _ _ _) ?_)
  | (with_reducible refine Stuck.h (A := IdxG _ _ _) ?_) | (with_reducible refine Stuck.h (A := IdxL _ _ _) ?_) | (with_reducible refine Stuck.h (A := SlcG _ _ _ _ _) ?_) | (with_reducible refine Stuck.h (A := MakG _ _ _ _) ?_) | (with_reducible refine Stuck.h (A := AppG _ _ _ _ _ _ _) ?_) | (with_reducible refine Stuck.h (A := FzG _ _ _ _) ?_)
  | (with_reducible refine Stuck.h (A := RawG _) ?_) | (with_reducible refine Stuck.h (A := TabG _ _ _ _ _) ?_) | (with_reducible refine Stuck.h (A := ExtF _ _ _ _) ?_) | (with_reducible refine Stuck.h (A := Chk _ _) ?_) | (with_reducible refine Stuck.h (A := False) ?_))
    exact ⟨ret_e rfl⟩
  refine FC.intro (X := XX) tok Tryd.func33 rfl Tryd.ntmps33 (by rw [Tryd.results33]) (by kernel_rfl) rfl ?_; intro F hG hO
  rw [← hG] at f0 f1
  repeat' ((try (conv => whnf)); first
  | ((with_reducible refine cg ?_); refine call_eq (f0) (LpL.refl _) rfl ?_)
  | ((with_reducible refine cg ?_); refine call_eq (f1) (LpL.refl _) rfl ?_)
  | (with_reducible refine mask_g (m := 2) 1 rfl rfl (by decide) hb ?_)
  
  | (with_reducible refine Chk.mk' (by first | omega | exact trivial | (simp only [List.length_append, List.length_set, List.length_replicate, List.length_take, List.length_drop, List.length_cons, List.length_nil, List.length_map]; omega)) ?_)
  | (with_reducible refine wrap_g (by dsimp only [inR]; omega) ?_)
  | (with_reducible refine idx_g (by omega) ?_)
  | (with_reducible refine idx_l _ rfl (by decide) ?_)
  | (with_reducible refine BothG.mk ?_ ?_)
  | (with_reducible refine fork_tt ?_) | (with_reducible refine fork_ff ?_)
  | (with_reducible refine fork_e (c := true) (by decide) ?_; with_reducible refine fork_tt ?_) | (with_reducible refine fork_e (c := false) (by decide) ?_; with_reducible refine fork_ff ?_)
  | (with_reducible refine fork_t (by omega) ?_) | (with_reducible refine fork_f (by omega) ?_)
  | (with_reducible refine fork_d ?_ ?_ <;> intro hc)
  | (with_reducible refine fork_n ?_)
  | (with_reducible refine fork_b ?_ ?_ <;> intro hc)
  | (with_reducible refine SlcG.mk (by omega) ?_)
  | (with_reducible refine MakG.mk (by dsimp only; omega) ?_)
  | (with_reducible refine AppG.mk (by first | omega | (simp only [List.length_append, List.length_set, List.length_replicate, List.length_take, List.length_drop, List.length_cons, List.length_nil, List.length_map]; omega)) (by dsimp only [List.length_cons, List.length_nil]; omega) (by omega) ?_)
  | (with_reducible refine div_g (by omega) (by omega) (by dsimp only [inR]; omega) ?_)
  | (with_reducible refine mod_g (by omega) (by omega) ?_)
  | (with_reducible refine mask_g (m := 4294967296) 32 rfl rfl (by decide) (by omega) ?_)
  | (with_reducible refine shr_g (m := 4294967296) 32 rfl (by decide) (by omega) rfl ?_)
  | (with_reducible refine fz_all (by omega) ?_)
  | (with_reducible refine Stuck.h (A := RetE _ _) ?_) | (with_reducible refine Stuck.h (A := RetM _ _ _ _) ?_) | (with_reducible refine Stuck.h (A := Again _ _ _ _ _ _ _ _) ?_) | (with_reducible refine Stuck.h (A := CallF _ _ _ _ _ _ _) ?_) | (with_reducible refine Stuck.h (A := LoopG _ _ _ _ _ _ _ _) ?_) | (with_reducible refine Stuck.h (A := DrawG _ _ _ _ _ _ _ _) ?_)
  | (with_reducible refine Stuck.h (A := WrapG _ _ _) ?_) | (with_reducible refine Stuck.h (A := DivG _ _ _ _) ?_) | (with_reducible refine Stuck.h (A := ModG _ _ _) ?_) | (with_reducible refine Stuck.h (A := ShlG _ _ _ _) ?_) | (with_reducible refine Stuck.h (A := ShrG _ _ _ _) ?_) | (with_reducible refine Stuck.h (A := BitG _ _ _ _ _) ?_)
  | (with_reducible refine Stuck.h (A := IdxG _ _ _) ?_) | (with_reducible refine Stuck.h (A := IdxL _ _ _) ?_) | (with_reducible refine Stuck.h (A := SlcG _ _ _ _ _) ?_) | (with_reducible refine Stuck.h (A := MakG _ _ _ _) ?_) | (with_reducible refine Stuck.h (A := AppG _ _ _ _ _ _ _) ?_) | (with_reducible refine Stuck.h (A := FzG _ _ _ _) ?_)
  | (with_reducible refine Stuck.h (A := RawG _) ?_) | (with_reducible refine Stuck.h (A := TabG _ _ _ _ _) ?_) | (with_reducible refine Stuck.h (A := ExtF _ _ _ _) ?_) | (with_reducible refine Stuck.h (A := Chk _ _) ?_) | (with_reducible refine Stuck.h (A := False) ?_))
  all_goals (refine ⟨ret_e (bv_eq ?_)⟩)
  all_goals first
    | (rw [decide_eq_false (show ¬ -1048576 ≤ e by omega)]; rfl)
    | (rw [decide_eq_true (show -1048576 ≤ e by omega), decide_eq_false (show ¬ e ≤ 1048576 by omega)]; rfl)
    | (rw [decide_eq_true (show -1048576 ≤ e by omega), decide_eq_true (show e ≤ 1048576 by omega), if_pos (show l.length = 0 by omega)]; rfl)
    | (rw [decide_eq_true (show -1048576 ≤ e by omega), decide_eq_true (show e ≤ 1048576 by omega), if_neg (show ¬ l.length = 0 by omega)]; rfl)
end Go.Proofs.YtbeocnjlepcglaaDoor.Sim
namespace Go.Proofs.YtbeocnjlepcglaaDoor.Sim
open Go.RowKit
set_option linter.unusedVariables false
set_option linter.unusedSimpArgs false
set_option maxRecDepth 10000
set_option maxHeartbeats 8000000
variable {G : List (Nat × List Value)}
theorem y_formN (b : Bool) (l : List Int) (e : Int) (ok : okD 18446744073709551616 l) (h : dyF b l e = false) : FC Tryd.prog G 33 [Dy b l e] (· = .val (.bool false)) := by
  have := y_formX (G := G) b l e ok
  rw [h] at this
  exact this
theorem r_formN (b : Bool) (l : List Int) (e : Int) (ok : okD 18446744073709551616 l) (h : dyF b l e = false) : FC Tryd.prog G 10 [Dy b l e] (· = .val (.bool false)) := by
  have := r_docform (G := G) b l e (rd_bd (by decide) ok 0)
  rw [h] at this
  exact this
def cutsE (p : Int) : PV := if p < 1 then dyE 1 else if 70000 < p then dyE 1 else dyE 2
theorem cutsE_form (p : Int) : ∃ c, cutsE p = dyE c := by
  unfold cutsE
  by_cases h1 : p < 1
  · rw [if_pos h1]; exact ⟨1, rfl⟩
  · rw [if_neg h1]
    by_cases h2 : 70000 < p
    · rw [if_pos h2]; exact ⟨1, rfl⟩
    · rw [if_neg h2]; exact ⟨2, rfl⟩
theorem y_nextX (b : Bool) (l : List Int) (e : Int) (ok : okD 18446744073709551616 l) (h : dyF b l e = false) (p : Int) (up : Bool) : FC Tryd.prog G 38 [Dy b l e, .val (.int .i64 p), .val (.bool up)] (· = cutsE p) := by
  have f0 := y_precise (G := G) p
  have f1 := y_formN (G := G) b l e ok h
  unfold cutsE
  by_cases hp : 1 ≤ p ∧ p ≤ 70000
  · rw [if_neg (by omega), if_neg (by omega)]
    rw [decide_eq_true hp.1, decide_eq_true hp.2] at f0
    refine FC.intro (X := XX) tok Tryd.func38 rfl Tryd.ntmps38 (by rw [Tryd.results38]) (by kernel_rfl) rfl ?_; intro F hG hO
    rw [← hG] at f0 f1
    repeat' ((try (conv => whnf)); first
  | ((with_reducible refine cg ?_); refine call_eq (f0) (LpL.refl _) rfl ?_)
  | ((with_reducible refine cg ?_); refine call_eq (f1) (LpL.refl _) rfl ?_)
  
  | (with_reducible refine Chk.mk' (by first | omega | exact trivial | (simp only [List.length_append, List.length_set, List.length_replicate, List.length_take, List.length_drop, List.length_cons, List.length_nil, List.length_map]; omega)) ?_)
  | (with_reducible refine wrap_g (by dsimp only [inR]; omega) ?_)
  | (with_reducible refine idx_g (by omega) ?_)
  | (with_reducible refine idx_l _ rfl (by decide) ?_)
  | (with_reducible refine BothG.mk ?_ ?_)
  | (with_reducible refine fork_tt ?_) | (with_reducible refine fork_ff ?_)
  | (with_reducible refine fork_e (c := true) (by decide) ?_; with_reducible refine fork_tt ?_) | (with_reducible refine fork_e (c := false) (by decide) ?_; with_reducible refine fork_ff ?_)
  | (with_reducible refine fork_t (by omega) ?_) | (with_reducible refine fork_f (by omega) ?_)
  | (with_reducible refine fork_d ?_ ?_ <;> intro hc)
  | (with_reducible refine fork_n ?_)
  | (with_reducible refine fork_b ?_ ?_ <;> intro hc)
  | (with_reducible refine SlcG.mk (by omega) ?_)
  | (with_reducible refine MakG.mk (by dsimp only; omega) ?_)
  | (with_reducible refine AppG.mk (by first | omega | (simp only [List.length_append, List.length_set, List.length_replicate, List.length_take, List.length_drop, List.length_cons, List.length_nil, List.length_map]; omega)) (by dsimp only [List.length_cons, List.length_nil]; omega) (by omega) ?_)
  | (with_reducible refine div_g (by omega) (by omega) (by dsimp only [inR]; omega) ?_)
  | (with_reducible refine mod_g (by omega) (by omega) ?_)
  | (with_reducible refine mask_g (m := 4294967296) 32 rfl rfl (by decide) (by omega) ?_)
  | (with_reducible refine shr_g (m := 4294967296) 32 rfl (by decide) (by omega) rfl ?_)
  | (with_reducible refine fz_all (by omega) ?_)
  | (with_reducible refine Stuck.h (A := RetE _ _) ?_) | (with_reducible refine Stuck.h (A := RetM _ _ _ _) ?_) | (with_reducible refine Stuck.h (A := Again _ _ _ _ _ _ _ _) ?_) | (with_reducible refine Stuck.h (A := CallF _ _ _ _ _ _ _) ?_) | (with_reducible refine Stuck.h (A := LoopG _ _ _ _ _ _ _ _) ?_) | (with_reducible refine Stuck.h (A := DrawG _ _ _ _ _ _ _ _) ?_)
  | (with_reducible refine Stuck.h (A := WrapG _ _ _) ?_) | (with_reducible refine Stuck.h (A := DivG _ _ _ _) ?_) | (with_reducible refine Stuck.h (A := ModG _ _ _) ?_) | (with_reducible refine Stuck.h (A := ShlG _ _ _ _) ?_) | (with_reducible refine Stuck.h (A := ShrG _ _ _ _) ?_) | (with_reducible refine Stuck.h (A := BitG _ _ _ _ _) ?_)
  | (with_reducible refine Stuck.h (A := IdxG _ _ _) ?_) | (with_reducible refine Stuck.h (A := IdxL _ _ _) ?_) | (with_reducible refine Stuck.h (A := SlcG _ _ _ _ _) ?_) | (with_reducible refine Stuck.h (A := MakG _ _ _ _) ?_) | (with_reducible refine Stuck.h (A := AppG _ _ _ _ _ _ _) ?_) | (with_reducible refine Stuck.h (A := FzG _ _ _ _) ?_)
  | (with_reducible refine Stuck.h (A := RawG _) ?_) | (with_reducible refine Stuck.h (A := TabG _ _ _ _ _) ?_) | (with_reducible refine Stuck.h (A := ExtF _ _ _ _) ?_) | (with_reducible refine Stuck.h (A := Chk _ _) ?_) | (with_reducible refine Stuck.h (A := False) ?_))
    exact ⟨ret_l _ (lp_dyE 2) rfl⟩
  · have hb : (decide (1 ≤ p) && decide (p ≤ 70000)) = false := by
      by_cases h1 : 1 ≤ p
      · rw [decide_eq_false (show ¬ p ≤ 70000 by omega)]; simp
      · rw [decide_eq_false h1]; rfl
    rw [hb] at f0
    refine FC.intro (X := XX) tok Tryd.func38 rfl Tryd.ntmps38 (by rw [Tryd.results38]) (by kernel_rfl) rfl ?_; intro F hG hO
    rw [← hG] at f0
    repeat' ((try (conv => whnf)); first
  | ((with_reducible refine cg ?_); refine call_eq (f0) (LpL.refl _) rfl ?_)
  
  | (with_reducible refine Chk.mk' (by first | omega | exact trivial | (simp only [List.length_append, List.length_set, List.length_replicate, List.length_take, List.length_drop, List.length_cons, List.length_nil, List.length_map]; omega)) ?_)
  | (with_reducible refine wrap_g (by dsimp only [inR]; omega) ?_)
  | (with_reducible refine idx_g (by omega) ?_)
  | (with_reducible refine idx_l _ rfl (by decide) ?_)
  | (with_reducible refine BothG.mk ?_ ?_)
  | (with_reducible refine fork_tt ?_) | (with_reducible refine fork_ff ?_)
  | (with_reducible refine fork_e (c := true) (by decide) ?_; with_reducible refine fork_tt ?_) | (with_reducible refine fork_e (c := false) (by decide) ?_; with_reducible refine fork_ff ?_)
  | (with_reducible refine fork_t (by omega) ?_) | (with_reducible refine fork_f (by omega) ?_)
  | (with_reducible refine fork_d ?_ ?_ <;> intro hc)
  | (with_reducible refine fork_n ?_)
  | (with_reducible refine fork_b ?_ ?_ <;> intro hc)
  | (with_reducible refine SlcG.mk (by omega) ?_)
  | (with_reducible refine MakG.mk (by dsimp only; omega) ?_)
  | (with_reducible refine AppG.mk (by first | omega | (simp only [List.length_append, List.length_set, List.length_replicate, List.length_take, List.length_drop, List.length_cons, List.length_nil, List.length_map]; omega)) (by dsimp only [List.length_cons, List.length_nil]; omega) (by omega) ?_)
  | (with_reducible refine div_g (by omega) (by omega) (by dsimp only [inR]; omega) ?_)
  | (with_reducible refine mod_g (by omega) (by omega) ?_)
  | (with_reducible refine mask_g (m := 4294967296) 32 rfl rfl (by decide) (by omega) ?_)
  | (with_reducible refine shr_g (m := 4294967296) 32 rfl (by decide) (by omega) rfl ?_)
  | (with_reducible refine fz_all (by omega) ?_)
  | (with_reducible refine Stuck.h (A := RetE _ _) ?_) | (with_reducible refine Stuck.h (A := RetM _ _ _ _) ?_) | (with_reducible refine Stuck.h (A := Again _ _ _ _ _ _ _ _) ?_) | (with_reducible refine Stuck.h (A := CallF _ _ _ _ _ _ _) ?_) | (with_reducible refine Stuck.h (A := LoopG _ _ _ _ _ _ _ _) ?_) | (with_reducible refine Stuck.h (A := DrawG _ _ _ _ _ _ _ _) ?_)
  | (with_reducible refine Stuck.h (A := WrapG _ _ _) ?_) | (with_reducible refine Stuck.h (A := DivG _ _ _ _) ?_) | (with_reducible refine Stuck.h (A := ModG _ _ _) ?_) | (with_reducible refine Stuck.h (A := ShlG _ _ _ _) ?_) | (with_reducible refine Stuck.h (A := ShrG _ _ _ _) ?_) | (with_reducible refine Stuck.h (A := BitG _ _ _ _ _) ?_)
  | (with_reducible refine Stuck.h (A := IdxG _ _ _) ?_) | (with_reducible refine Stuck.h (A := IdxL _ _ _) ?_) | (with_reducible refine Stuck.h (A := SlcG _ _ _ _ _) ?_) | (with_reducible refine Stuck.h (A := MakG _ _ _ _) ?_) | (with_reducible refine Stuck.h (A := AppG _ _ _ _ _ _ _) ?_) | (with_reducible refine Stuck.h (A := FzG _ _ _ _) ?_)
  | (with_reducible refine Stuck.h (A := RawG _) ?_) | (with_reducible refine Stuck.h (A := TabG _ _ _ _ _) ?_) | (with_reducible refine Stuck.h (A := ExtF _ _ _ _) ?_) | (with_reducible refine Stuck.h (A := Chk _ _) ?_) | (with_reducible refine Stuck.h (A := False) ?_))
    refine ⟨ret_l _ (lp_dyE 1) ?_⟩
    by_cases h1 : p < 1
    · rw [if_pos h1]
    · rw [if_neg h1, if_pos (by omega)]
theorem y_downX (b : Bool) (l : List Int) (e : Int) (ok : okD 18446744073709551616 l) (h : dyF b l e = false) (p : Int) : FC Tryd.prog G 18 [Dy b l e, .val (.int .i64 p)] (· = cutsE p) := by
  have f0 := y_nextX (G := G) b l e ok h p false
  obtain ⟨c, hc⟩ := cutsE_form p
  rw [hc] at f0 ⊢
  refine FC.intro (X := XX) tok Tryd.func18 rfl Tryd.ntmps18 (by rw [Tryd.results18]) (by kernel_rfl) rfl ?_; intro F hG hO
  rw [← hG] at f0
  repeat' ((try (conv => whnf)); first
  | ((with_reducible refine cg ?_); refine call_eq (f0) (LpL.refl _) rfl ?_)
  
  | (with_reducible refine Chk.mk' (by first | omega | exact trivial | (simp only [List.length_append, List.length_set, List.length_replicate, List.length_take, List.length_drop, List.length_cons, List.length_nil, List.length_map]; omega)) ?_)
  | (with_reducible refine wrap_g (by dsimp only [inR]; omega) ?_)
  | (with_reducible refine idx_g (by omega) ?_)
  | (with_reducible refine idx_l _ rfl (by decide) ?_)
  | (with_reducible refine BothG.mk ?_ ?_)
  | (with_reducible refine fork_tt ?_) | (with_reducible refine fork_ff ?_)
  | (with_reducible refine fork_e (c := true) (by decide) ?_; with_reducible refine fork_tt ?_) | (with_reducible refine fork_e (c := false) (by decide) ?_; with_reducible refine fork_ff ?_)
  | (with_reducible refine fork_t (by omega) ?_) | (with_reducible refine fork_f (by omega) ?_)
  | (with_reducible refine fork_d ?_ ?_ <;> intro hc)
  | (with_reducible refine fork_n ?_)
  | (with_reducible refine fork_b ?_ ?_ <;> intro hc)
  | (with_reducible refine SlcG.mk (by omega) ?_)
  | (with_reducible refine MakG.mk (by dsimp only; omega) ?_)
  | (with_reducible refine AppG.mk (by first | omega | (simp only [List.length_append, List.length_set, List.length_replicate, List.length_take, List.length_drop, List.length_cons, List.length_nil, List.length_map]; omega)) (by dsimp only [List.length_cons, List.length_nil]; omega) (by omega) ?_)
  | (with_reducible refine div_g (by omega) (by omega) (by dsimp only [inR]; omega) ?_)
  | (with_reducible refine mod_g (by omega) (by omega) ?_)
  | (with_reducible refine mask_g (m := 4294967296) 32 rfl rfl (by decide) (by omega) ?_)
  | (with_reducible refine shr_g (m := 4294967296) 32 rfl (by decide) (by omega) rfl ?_)
  | (with_reducible refine fz_all (by omega) ?_)
  | (with_reducible refine Stuck.h (A := RetE _ _) ?_) | (with_reducible refine Stuck.h (A := RetM _ _ _ _) ?_) | (with_reducible refine Stuck.h (A := Again _ _ _ _ _ _ _ _) ?_) | (with_reducible refine Stuck.h (A := CallF _ _ _ _ _ _ _) ?_) | (with_reducible refine Stuck.h (A := LoopG _ _ _ _ _ _ _ _) ?_) | (with_reducible refine Stuck.h (A := DrawG _ _ _ _ _ _ _ _) ?_)
  | (with_reducible refine Stuck.h (A := WrapG _ _ _) ?_) | (with_reducible refine Stuck.h (A := DivG _ _ _ _) ?_) | (with_reducible refine Stuck.h (A := ModG _ _ _) ?_) | (with_reducible refine Stuck.h (A := ShlG _ _ _ _) ?_) | (with_reducible refine Stuck.h (A := ShrG _ _ _ _) ?_) | (with_reducible refine Stuck.h (A := BitG _ _ _ _ _) ?_)
  | (with_reducible refine Stuck.h (A := IdxG _ _ _) ?_) | (with_reducible refine Stuck.h (A := IdxL _ _ _) ?_) | (with_reducible refine Stuck.h (A := SlcG _ _ _ _ _) ?_) | (with_reducible refine Stuck.h (A := MakG _ _ _ _) ?_) | (with_reducible refine Stuck.h (A := AppG _ _ _ _ _ _ _) ?_) | (with_reducible refine Stuck.h (A := FzG _ _ _ _) ?_)
  | (with_reducible refine Stuck.h (A := RawG _) ?_) | (with_reducible refine Stuck.h (A := TabG _ _ _ _ _) ?_) | (with_reducible refine Stuck.h (A := ExtF _ _ _ _) ?_) | (with_reducible refine Stuck.h (A := Chk _ _) ?_) | (with_reducible refine Stuck.h (A := False) ?_))
  exact ⟨ret_e rfl⟩
theorem y_upX (b : Bool) (l : List Int) (e : Int) (ok : okD 18446744073709551616 l) (h : dyF b l e = false) (p : Int) : FC Tryd.prog G 19 [Dy b l e, .val (.int .i64 p)] (· = cutsE p) := by
  have f0 := y_nextX (G := G) b l e ok h p true
  obtain ⟨c, hc⟩ := cutsE_form p
  rw [hc] at f0 ⊢
  refine FC.intro (X := XX) tok Tryd.func19 rfl Tryd.ntmps19 (by rw [Tryd.results19]) (by kernel_rfl) rfl ?_; intro F hG hO
  rw [← hG] at f0
  repeat' ((try (conv => whnf)); first
  | ((with_reducible refine cg ?_); refine call_eq (f0) (LpL.refl _) rfl ?_)
  
  | (with_reducible refine Chk.mk' (by first | omega | exact trivial | (simp only [List.length_append, List.length_set, List.length_replicate, List.length_take, List.length_drop, List.length_cons, List.length_nil, List.length_map]; omega)) ?_)
  | (with_reducible refine wrap_g (by dsimp only [inR]; omega) ?_)
  | (with_reducible refine idx_g (by omega) ?_)
  | (with_reducible refine idx_l _ rfl (by decide) ?_)
  | (with_reducible refine BothG.mk ?_ ?_)
  | (with_reducible refine fork_tt ?_) | (with_reducible refine fork_ff ?_)
  | (with_reducible refine fork_e (c := true) (by decide) ?_; with_reducible refine fork_tt ?_) | (with_reducible refine fork_e (c := false) (by decide) ?_; with_reducible refine fork_ff ?_)
  | (with_reducible refine fork_t (by omega) ?_) | (with_reducible refine fork_f (by omega) ?_)
  | (with_reducible refine fork_d ?_ ?_ <;> intro hc)
  | (with_reducible refine fork_n ?_)
  | (with_reducible refine fork_b ?_ ?_ <;> intro hc)
  | (with_reducible refine SlcG.mk (by omega) ?_)
  | (with_reducible refine MakG.mk (by dsimp only; omega) ?_)
  | (with_reducible refine AppG.mk (by first | omega | (simp only [List.length_append, List.length_set, List.length_replicate, List.length_take, List.length_drop, List.length_cons, List.length_nil, List.length_map]; omega)) (by dsimp only [List.length_cons, List.length_nil]; omega) (by omega) ?_)
  | (with_reducible refine div_g (by omega) (by omega) (by dsimp only [inR]; omega) ?_)
  | (with_reducible refine mod_g (by omega) (by omega) ?_)
  | (with_reducible refine mask_g (m := 4294967296) 32 rfl rfl (by decide) (by omega) ?_)
  | (with_reducible refine shr_g (m := 4294967296) 32 rfl (by decide) (by omega) rfl ?_)
  | (with_reducible refine fz_all (by omega) ?_)
  | (with_reducible refine Stuck.h (A := RetE _ _) ?_) | (with_reducible refine Stuck.h (A := RetM _ _ _ _) ?_) | (with_reducible refine Stuck.h (A := Again _ _ _ _ _ _ _ _) ?_) | (with_reducible refine Stuck.h (A := CallF _ _ _ _ _ _ _) ?_) | (with_reducible refine Stuck.h (A := LoopG _ _ _ _ _ _ _ _) ?_) | (with_reducible refine Stuck.h (A := DrawG _ _ _ _ _ _ _ _) ?_)
  | (with_reducible refine Stuck.h (A := WrapG _ _ _) ?_) | (with_reducible refine Stuck.h (A := DivG _ _ _ _) ?_) | (with_reducible refine Stuck.h (A := ModG _ _ _) ?_) | (with_reducible refine Stuck.h (A := ShlG _ _ _ _) ?_) | (with_reducible refine Stuck.h (A := ShrG _ _ _ _) ?_) | (with_reducible refine Stuck.h (A := BitG _ _ _ _ _) ?_)
  | (with_reducible refine Stuck.h (A := IdxG _ _ _) ?_) | (with_reducible refine Stuck.h (A := IdxL _ _ _) ?_) | (with_reducible refine Stuck.h (A := SlcG _ _ _ _ _) ?_) | (with_reducible refine Stuck.h (A := MakG _ _ _ _) ?_) | (with_reducible refine Stuck.h (A := AppG _ _ _ _ _ _ _) ?_) | (with_reducible refine Stuck.h (A := FzG _ _ _ _) ?_)
  | (with_reducible refine Stuck.h (A := RawG _) ?_) | (with_reducible refine Stuck.h (A := TabG _ _ _ _ _) ?_) | (with_reducible refine Stuck.h (A := ExtF _ _ _ _) ?_) | (with_reducible refine Stuck.h (A := Chk _ _) ?_) | (with_reducible refine Stuck.h (A := False) ?_))
  exact ⟨ret_e rfl⟩
end Go.Proofs.YtbeocnjlepcglaaDoor.Sim
namespace Go.Proofs.YtbeocnjlepcglaaDoor.Sim
open Go.RowKit
set_option linter.unusedVariables false
set_option linter.unusedSimpArgs false
/-- n * 2^e, in parts of 2^-1048576. -/
def VV (n e : Int) : Int := n * 2 ^ (e + 1048576).toNat
theorem p2_pos (k : Nat) : (0 : Int) < 2 ^ k := Int.pow_pos (by decide)
theorem VV_low {n e k : Int} (h : -1048576 ≤ k) (hk : k ≤ e) : VV n e = VV (n * 2 ^ (e - k).toNat) k := by
  unfold VV
  rw [Int.mul_assoc, ← Int.pow_add, show (e - k).toNat + (k + 1048576).toNat = (e + 1048576).toNat by omega]
theorem VV_inj {a b k : Int} (h : VV a k = VV b k) : a = b := by
  unfold VV at h
  exact Int.eq_of_mul_eq_mul_right (by have := p2_pos (k + 1048576).toNat; omega) h
theorem VV_add (a b k : Int) : VV (a + b) k = VV a k + VV b k := by unfold VV; exact Int.add_mul _ _ _
theorem VV_neg (a k : Int) : VV (-a) k = -VV a k := by unfold VV; exact Int.neg_mul _ _
theorem VV_zero (k : Int) : VV 0 k = 0 := by unfold VV; exact Int.zero_mul _
theorem VV_le {a b k : Int} : VV a k ≤ VV b k ↔ a ≤ b := by
  unfold VV
  have h := p2_pos (k + 1048576).toNat
  exact ⟨fun hh => Int.le_of_mul_le_mul_right hh h, fun hh => Int.mul_le_mul_of_nonneg_right hh (by omega)⟩
theorem low_exp {s k z w : Int} (hk : -1048576 ≤ k) (g : Good z w) (h0 : z ≠ 0) (h : VV z w = VV s k) : k ≤ w ∧ s = z * 2 ^ (w - k).toNat := by
  have h1 : k ≤ w := by
    rcases Int.lt_or_le w k with h2 | h2
    · exfalso
      rw [VV_low (n := s) g.2.1 (by omega)] at h
      have h3 := VV_inj h
      rw [show (k - w).toNat = (k - w).toNat - 1 + 1 by omega, Int.pow_succ, ← Int.mul_assoc] at h3
      have := g.2.2.2.2 h0
      omega
    · exact h2
  rw [VV_low hk h1] at h
  exact ⟨h1, (VV_inj h).symm⟩
theorem told_eq {s k z w : Int} (hk : -1048576 ≤ k) (g : Good z w) (h : VV z w = VV s k) : toldS s k = dyR z w := by
  by_cases h0 : z = 0
  · subst h0
    rw [VV_zero, ← VV_zero k] at h
    rw [← VV_inj h, g.2.2.2.1 rfl]
    rfl
  · obtain ⟨h1, h2⟩ := low_exp hk g h0 h
    have ho := g.2.2.2.2 h0
    have ha : s.natAbs = z.natAbs * 2 ^ (w - k).toNat := by rw [h2, Int.natAbs_mul, Int.natAbs_pow]; rfl
    have ht : tz s.natAbs = (w - k).toNat := tz_eq ha (by omega)
    have hs0 : s ≠ 0 := by
      intro h3
      rw [h3] at ha
      have : z.natAbs * 2 ^ (w - k).toNat ≠ 0 := Nat.mul_ne_zero (by omega) (Nat.pos_iff_ne_zero.1 (Nat.pow_pos (by decide)))
      omega
    have hq : s.natAbs / 2 ^ (w - k).toNat = z.natAbs := by rw [ha]; exact Nat.mul_div_cancel _ (Nat.pow_pos (by decide))
    have hd : s / 2 ^ (w - k).toNat = z := by rw [h2]; exact Int.mul_ediv_cancel _ (by have := p2_pos (w - k).toNat; omega)
    have hl := L32_L64 z.natAbs
    have g1 := g.1
    have g2 := g.2.1
    have g3 := g.2.2.1
    unfold toldS
    rw [if_neg hs0, ht, hq, hd, if_neg (by omega), if_neg (by omega), if_neg (by omega), if_neg (by omega), if_neg (by omega), show k + (((w - k).toNat : Nat) : Int) = w by omega]
theorem DY_inj {n e m f : Int} (h : DY n e = DY m f) : n = m ∧ e = f := by
  unfold DY at h
  simp only [PV.agg.injEq, List.cons.injEq, PV.val.injEq, Value.bool.injEq, PV.ws.injEq, Value.int.injEq, true_and, and_true] at h
  obtain ⟨h1, h2, h3⟩ := h
  have h4 : n.natAbs = m.natAbs := by rw [← vl_d64 n.natAbs, ← vl_d64 m.natAbs, h2]
  refine ⟨?_, h3⟩
  by_cases hn : n < 0
  · rw [decide_eq_true hn] at h1
    have := of_decide_eq_true h1.symm
    omega
  · rw [decide_eq_false hn] at h1
    have := of_decide_eq_false h1.symm
    omega
theorem add_eq {n e m f z w : Int} (h : Good n e) (g : Good m f) (t : Good z w) (hV : VV z w = VV n e + VV m f)
    (hl : n = 0 ∨ m = 0 ∨ (topN n e - min e f < 524288 ∧ topN m f - min e f < 524288 ∧ (z = 0 ∨ topN z w - min e f < 524288))) : addS n e m f = dyR z w := by
  unfold addS
  have e1 := h.2.1
  have e2 := g.2.1
  by_cases hn : n = 0
  · rw [if_pos hn]
    rw [hn, VV_zero, Int.zero_add] at hV
    exact (told_good g).symm.trans (told_eq e2 t hV)
  · rw [if_neg hn]
    by_cases hm : m = 0
    · rw [if_pos hm]
      rw [hm, VV_zero, Int.add_zero] at hV
      exact (told_good h).symm.trans (told_eq e1 t hV)
    · obtain ⟨l1, l2, l3⟩ := (hl.resolve_left hn).resolve_left hm
      rw [if_neg hm, if_neg (by omega)]
      rw [VV_low (n := n) (k := min e f) (by omega) (by omega), VV_low (n := m) (k := min e f) (by omega) (by omega), ← VV_add] at hV
      have hb : bl (n * 2 ^ (e - min e f).toNat + m * 2 ^ (f - min e f).toNat).natAbs ≤ 524288 := by
        obtain ⟨s, hs⟩ : ∃ s, s = n * 2 ^ (e - min e f).toNat + m * 2 ^ (f - min e f).toNat := ⟨_, rfl⟩
        rw [← hs] at hV ⊢
        by_cases hz : z = 0
        · subst hz
          rw [VV_zero, ← VV_zero (min e f)] at hV
          rw [← VV_inj hV]
          exact Nat.zero_le _
        · obtain ⟨h1, h2⟩ := low_exp (by omega) t hz hV
          have ha : s.natAbs = z.natAbs * 2 ^ (w - min e f).toNat := by rw [h2, Int.natAbs_mul, Int.natAbs_pow]; rfl
          rw [ha, bl_mul_pow _ _ (by omega)]
          have := l3.resolve_left hz
          unfold topN at this
          omega
      rw [if_neg (by omega)]
      exact told_eq (by omega) t hV
theorem bl_lo {n : Nat} (h : n ≠ 0) : 2 ^ (bl n - 1) ≤ n := by
  rcases Nat.lt_or_ge n (2 ^ (bl n - 1)) with h1 | h1
  · have := bl_le h1
    have := bl_pos h
    omega
  · exact h1
theorem VV_abs (n e : Int) : (VV n e).natAbs = n.natAbs * 2 ^ (e + 1048576).toNat := by unfold VV; rw [Int.natAbs_mul, Int.natAbs_pow]; rfl
theorem VV_top {n e m f : Int} (h : Good n e) (g : Good m f) (hm : m ≠ 0) (ht : topN n e < topN m f) : (VV n e).natAbs < (VV m f).natAbs := by
  rw [VV_abs, VV_abs]
  have e1 := h.2.1
  have e2 := g.2.1
  have h1 := lt_bl n.natAbs
  have h2 := bl_lo (n := m.natAbs) (by omega)
  have h3 := bl_pos (n := m.natAbs) (by omega)
  unfold topN at ht
  have h4 : n.natAbs * 2 ^ (e + 1048576).toNat < 2 ^ (bl n.natAbs) * 2 ^ (e + 1048576).toNat := Nat.mul_lt_mul_of_pos_right h1 (Nat.pow_pos (by decide))
  have h5 : 2 ^ (bl m.natAbs - 1) * 2 ^ (f + 1048576).toNat ≤ m.natAbs * 2 ^ (f + 1048576).toNat := Nat.mul_le_mul_right _ h2
  rw [← Nat.pow_add] at h4 h5
  have h6 : 2 ^ (bl n.natAbs + (e + 1048576).toNat) ≤ 2 ^ (bl m.natAbs - 1 + (f + 1048576).toNat) := Nat.pow_le_pow_right (by decide) (by omega)
  omega
theorem VV_pos {n e : Int} (h : 0 < n) : 0 < VV n e := Int.mul_pos h (p2_pos _)
theorem VV_negs {n e : Int} (h : n < 0) : VV n e < 0 := by
  have := VV_pos (n := -n) (e := e) (by omega)
  rw [VV_neg] at this
  omega
theorem cmp_le {n e m f : Int} (h : Good n e) (g : Good m f) (hV : VV n e ≤ VV m f) : cmpS n e m f ≤ 0 := by
  unfold cmpS
  rcases Int.lt_trichotomy n 0 with hn | hn | hn <;> rcases Int.lt_trichotomy m 0 with hm | hm | hm
  · rw [Int.sign_eq_neg_one_of_neg hn, Int.sign_eq_neg_one_of_neg hm, if_neg (by decide)]
    split
    · have : ¬ topN n e < topN m f := fun ht => by
        have := VV_top h g (by omega) ht
        have := VV_negs (e := e) hn
        have := VV_negs (e := f) hm
        omega
      rw [Int.sign_eq_one_of_pos (by omega)]; decide
    · rw [VV_low (n := n) (k := min e f) (by have := h.2.1; have := g.2.1; omega) (by omega), VV_low (n := m) (k := min e f) (by have := h.2.1; have := g.2.1; omega) (by omega), VV_le] at hV
      rcases Int.lt_or_le (n * 2 ^ (e - min e f).toNat - m * 2 ^ (f - min e f).toNat) 0 with hx | hx
      · rw [Int.sign_eq_neg_one_of_neg hx]; decide
      · rw [show n * 2 ^ (e - min e f).toNat - m * 2 ^ (f - min e f).toNat = 0 by omega]; decide
  · rw [hm, Int.sign_eq_neg_one_of_neg hn, if_pos (.inl (by decide))]; decide
  · rw [Int.sign_eq_neg_one_of_neg hn, Int.sign_eq_one_of_pos hm, if_pos (.inl (by decide))]; decide
  · exfalso; rw [hn, VV_zero] at hV; have := VV_negs (e := f) hm; omega
  · rw [hn, hm, if_pos (.inr (by decide))]; decide
  · rw [hn, Int.sign_eq_one_of_pos hm, if_pos (.inr (by decide))]; decide
  · exfalso; have := VV_negs (e := f) hm; have := VV_pos (e := e) hn; omega
  · exfalso; rw [hm, VV_zero] at hV; have := VV_pos (e := e) hn; omega
  · rw [Int.sign_eq_one_of_pos hn, Int.sign_eq_one_of_pos hm, if_neg (by decide)]
    split
    · have : ¬ topN m f < topN n e := fun ht => by
        have := VV_top g h (by omega) ht
        have := VV_pos (e := e) hn
        have := VV_pos (e := f) hm
        omega
      rw [Int.sign_eq_neg_one_of_neg (by omega)]; decide
    · rw [VV_low (n := n) (k := min e f) (by have := h.2.1; have := g.2.1; omega) (by omega), VV_low (n := m) (k := min e f) (by have := h.2.1; have := g.2.1; omega) (by omega), VV_le] at hV
      rcases Int.lt_or_le (n * 2 ^ (e - min e f).toNat - m * 2 ^ (f - min e f).toNat) 0 with hx | hx
      · rw [Int.sign_eq_neg_one_of_neg hx]; decide
      · rw [show n * 2 ^ (e - min e f).toNat - m * 2 ^ (f - min e f).toNat = 0 by omega]; decide
end Go.Proofs.YtbeocnjlepcglaaDoor.Sim
namespace Go.Proofs.YtbeocnjlepcglaaDoor.Sim
open Go.RowKit
set_option linter.unusedVariables false
set_option linter.unusedSimpArgs false
theorem told_ex {s k : Int} (hk : -1048576 ≤ k) (hk2 : k ≤ 1048576) (hL : L32 s.natAbs ≤ 16384) (ht : k + (bl s.natAbs : Int) - 1 ≤ 1048576) :
    ∃ z w, Good z w ∧ VV z w = VV s k ∧ toldS s k = dyR z w ∧ (z = 0 ∨ k ≤ w) ∧ (s = 0 ↔ z = 0) ∧ (z = 0 ∨ topN z w = k + (bl s.natAbs : Int) - 1) ∧ z.natAbs ≤ s.natAbs := by
  by_cases h0 : s = 0
  · subst h0
    have hV : VV 0 0 = VV 0 k := by rw [VV_zero, VV_zero]
    exact ⟨0, 0, Good.zero, hV, told_eq hk Good.zero hV, .inl rfl, Iff.rfl, .inl rfl, Nat.le_refl _⟩
  · obtain ⟨h1, h2⟩ := odd_div (n := s.natAbs) (by omega)
    obtain ⟨t, htt⟩ : ∃ t, t = tz s.natAbs := ⟨_, rfl⟩
    rw [← htt] at h1 h2
    have hlq := L32_mono (Nat.div_le_self s.natAbs (2 ^ t))
    have hqs := Nat.div_le_self s.natAbs (2 ^ t)
    obtain ⟨q, hq⟩ : ∃ q, q = s.natAbs / 2 ^ t := ⟨_, rfl⟩
    rw [← hq] at h1 h2 hlq hqs
    have hb : bl s.natAbs = bl q + t := by rw [h1]; exact bl_mul_pow q t (by omega)
    have hbq := bl_pos (n := q) (by omega)
    have hz : (sg (decide (s < 0)) q).natAbs = q := sg_abs _ _
    have hs : s = sg (decide (s < 0)) q * 2 ^ t := by rw [← sg_pow, ← h1, sg_of]
    obtain ⟨z, hzz⟩ : ∃ z, z = sg (decide (s < 0)) q := ⟨_, rfl⟩
    rw [← hzz] at hz hs
    have hl := L64_L32 q
    have g : Good z (k + t) := ⟨by rw [hz]; omega, by omega, by omega, fun h => by omega, fun _ => by omega⟩
    have hV : VV z (k + t) = VV s k := by
      rw [VV_low hk (by omega), hs, show (k + (t : Int) - k).toNat = t by omega]
    exact ⟨z, k + t, g, hV, told_eq hk g hV, .inr (by omega), ⟨fun h => absurd h h0, fun h => by omega⟩, .inr (by unfold topN; rw [hz]; omega), by rw [hz]; exact hqs⟩
theorem shr_facts {n : Int} {j b : Nat} (hn : n % 2 = 1) (hj : 0 < j) (hb : n.natAbs < 2 ^ b) :
    ∃ q : Int, n / 2 ^ j = q ∧ (-n) / 2 ^ j = -(q + 1) ∧ q * 2 ^ j < n ∧ n < (q + 1) * 2 ^ j ∧ q.natAbs ≤ 2 ^ (b - j) ∧ (q + 1).natAbs ≤ 2 ^ (b - j) ∧ bl q.natAbs ≤ b - j + 1 ∧ bl (q + 1).natAbs ≤ b - j + 1 := by
  have hP : (2 : Int) ^ j = ((2 ^ j : Nat) : Int) := by simp
  have hP2 : 2 ^ j = 2 * 2 ^ (j - 1) := by rw [Nat.mul_comm, ← Nat.pow_succ]; congr 1; omega
  have hM : 2 ^ b ≤ 2 ^ (b - j) * 2 ^ j := by rw [← Nat.pow_add]; exact Nat.pow_le_pow_right (by decide) (by omega)
  have hM1 : 2 ^ (b - j) < 2 ^ (b - j + 1) := Nat.pow_lt_pow_right (by decide) (by omega)
  obtain ⟨M, hMM⟩ : ∃ M, M = 2 ^ (b - j) := ⟨_, rfl⟩
  obtain ⟨P, hPP⟩ : ∃ P, P = 2 ^ j := ⟨_, rfl⟩
  obtain ⟨B, hBB⟩ : ∃ B, B = 2 ^ b := ⟨_, rfl⟩
  have hpos : 0 < P := by rw [hPP]; exact Nat.pow_pos (by decide)
  rw [hP, ← hPP]
  rw [← hMM, ← hPP, ← hBB] at hM
  rw [← hPP] at hP2
  rw [← hBB] at hb
  rw [← hMM] at hM1
  obtain ⟨H, hHH⟩ : ∃ H, H = 2 ^ (j - 1) := ⟨_, rfl⟩
  rw [← hHH] at hP2
  obtain ⟨q, hq⟩ : ∃ q, q = n / (P : Int) := ⟨_, rfl⟩
  have h1 := Int.mul_ediv_add_emod n P
  have h2 := Int.emod_nonneg n (show (P : Int) ≠ 0 by omega)
  have h3 := Int.emod_lt_of_pos n (show (0 : Int) < P by omega)
  rw [← hq] at h1
  obtain ⟨r, hr⟩ : ∃ r, r = n % (P : Int) := ⟨_, rfl⟩
  rw [← hr] at h1 h2 h3
  have hr0 : r ≠ 0 := by
    intro h0
    rw [h0, hP2] at h1
    have h4 : ((2 * H : Nat) : Int) * q = 2 * ((H : Int) * q) := by rw [Int.natCast_mul, Int.mul_assoc]; rfl
    rw [h4] at h1
    omega
  have hc : (P : Int) * (q + 1) = P * q + P := by rw [Int.mul_add, Int.mul_one]
  have hMi : (B : Int) ≤ P * (M : Int) := by rw [← Int.natCast_mul, Nat.mul_comm]; omega
  have hlo : -(M : Int) ≤ q := by
    rcases Int.lt_or_le q (-(M : Int)) with h | h
    · exfalso
      have h5 : (P : Int) * (q + 1) ≤ P * (-(M : Int)) := Int.mul_le_mul_of_nonneg_left (by omega) (by omega)
      rw [Int.mul_neg] at h5
      omega
    · exact h
  have hhi : q < M := by
    rcases Int.lt_or_le q M with h | h
    · exact h
    · exfalso
      have h5 : (P : Int) * M ≤ P * q := Int.mul_le_mul_of_nonneg_left h (by omega)
      omega
  refine ⟨q, hq.symm, ?_, by rw [Int.mul_comm]; omega, by rw [Int.mul_comm]; omega, by omega, by omega, bl_le (by omega), bl_le (by omega)⟩
  exact (div_of (a := -n) (b := (P : Int)) (q := -(q + 1)) (r := P - r) (by omega) (by rw [Int.mul_neg]; omega) (by omega) (by omega)).1
theorem Good.one {k : Int} (h1 : -1048576 ≤ k) (h2 : k ≤ 1048576) : Good 1 k := ⟨Nat.le_trans (L64_le (n := 1) (by decide)) (by decide), h1, h2, fun h => by omega, fun _ => rfl⟩
theorem scale_one {k : Int} (h1 : -1048576 ≤ k) (h2 : k ≤ 1048576) : scaleS 1 0 k = dyR 1 k := by
  unfold scaleS
  rw [if_neg (by decide), if_neg (by omega), if_neg (by omega), Int.zero_add]
  exact told_good (Good.one h1 h2)
/-- One step of 2^k: what lies next to n * 2^e at exponent k, below and above. -/
theorem step_facts {n e k : Int} {b : Nat} (h : Good n e) (hn : n ≠ 0) (hk : e < k) (hk2 : k ≤ 1048576) (hb : n.natAbs < 2 ^ b) (hb2 : b ≤ 524288) (ht : e + (b : Int) ≤ 1048576) :
    ∃ x y z w, toldS (n / 2 ^ (k - e).toNat) k = dyR x y ∧ toldS (-((-n) / 2 ^ (k - e).toNat)) k = dyR z w ∧ toldS ((-n) / 2 ^ (k - e).toNat) k = dyR (-z) w ∧ Good x y ∧ Good z w ∧ VV x y < VV n e ∧ VV n e < VV z w ∧ (x = 0 ∨ k ≤ y) ∧ (z = 0 ∨ k ≤ w)
      ∧ addS z w (-1) k = dyR x y ∧ addS z w (-x) y = dyR 1 k ∧ x.natAbs ≤ 2 ^ (b - (k - e).toNat) ∧ z.natAbs ≤ 2 ^ (b - (k - e).toNat) := by
  have e1 := h.2.1
  have hlz := h.lz
  obtain ⟨q, h1, h2, h3, h4, m1, m2, h5, h6⟩ := shr_facts (n := n) (j := (k - e).toNat) (b := b) (h.2.2.2.2 hn) (by omega) hb
  have a1 : q.natAbs ≤ n.natAbs := by rw [← h1]; exact ediv_abs n _ (p2_pos _)
  have a2 : (q + 1).natAbs ≤ n.natAbs := by
    have := ediv_abs (-n) _ (p2_pos (k - e).toNat)
    rw [h2] at this
    omega
  unfold LZ at hlz
  obtain ⟨x, y, g1, v1, t1, p1, i1, u1, c1⟩ := told_ex (s := q) (k := k) (by omega) hk2 (Nat.le_trans (L32_mono a1) hlz) (by omega)
  obtain ⟨z, w, g2, v2, t2, p2, i2, u2, c2⟩ := told_ex (s := q + 1) (k := k) (by omega) hk2 (Nat.le_trans (L32_mono a2) hlz) (by omega)
  have hVn : VV n e * 2 ^ (k - e).toNat = VV n k := by
    unfold VV
    rw [Int.mul_assoc, ← Int.pow_add, show (e + 1048576).toNat + (k - e).toNat = (k + 1048576).toNat by omega]
  have hVq : VV q k = q * 2 ^ (k - e).toNat * 2 ^ (e + 1048576).toNat := by
    unfold VV
    rw [Int.mul_assoc, ← Int.pow_add, show (k - e).toNat + (e + 1048576).toNat = (k + 1048576).toNat by omega]
  have hVq1 : VV (q + 1) k = (q + 1) * 2 ^ (k - e).toNat * 2 ^ (e + 1048576).toNat := by
    unfold VV
    rw [Int.mul_assoc, ← Int.pow_add, show (k - e).toNat + (e + 1048576).toNat = (k + 1048576).toNat by omega]
  have hlt1 : VV x y < VV n e := by
    rw [v1, hVq]
    exact Int.mul_lt_mul_of_pos_right h3 (p2_pos _)
  have hlt2 : VV n e < VV z w := by
    rw [v2, hVq1]
    exact Int.mul_lt_mul_of_pos_right h4 (p2_pos _)
  have g3 : Good (-1) k := (Good.one (by omega) hk2).neg
  have hb1 : bl (Int.natAbs (-1)) = 1 := rfl
  have ad1 : addS z w (-1) k = dyR x y := by
    refine add_eq g2 g3 g1 (by rw [v1, v2, ← VV_add]; congr 1; omega) ?_
    rcases p2 with p2 | p2
    · exact .inl p2
    · by_cases hz : z = 0
      · exact .inl hz
      · refine .inr (.inr ⟨?_, ?_, ?_⟩)
        · have := u2.resolve_left hz; omega
        · unfold topN; rw [hb1]; omega
        · rcases u1 with u1 | u1
          · exact .inl u1
          · exact .inr (by omega)
  have ad2 : addS z w (-x) y = dyR 1 k := by
    refine add_eq g2 g1.neg (Good.one (by omega) hk2) (by rw [VV_neg, v1, v2, VV_add]; omega) ?_
    by_cases hz : z = 0
    · exact .inl hz
    · by_cases hx : x = 0
      · exact .inr (.inl (by omega))
      · have w1 := p1.resolve_left hx
        have w2 := p2.resolve_left hz
        have s1 := u1.resolve_left hx
        have s2 := u2.resolve_left hz
        have hne : topN (-x) y = topN x y := by unfold topN; rw [Int.natAbs_neg]
        have ht1 : topN 1 k = k := by unfold topN; rw [show bl (Int.natAbs 1) = 1 from rfl]; omega
        rw [hne, ht1]
        exact .inr (.inr ⟨by omega, by omega, .inr (by omega)⟩)
  refine ⟨x, y, z, w, by rw [h1]; exact t1, ?_, ?_, g1, g2, hlt1, hlt2, p1, p2, ad1, ad2, Nat.le_trans c1 m1, Nat.le_trans c2 m2⟩
  · rw [h2, Int.neg_neg]; exact t2
  · rw [h2]
    exact told_eq (by omega) g2.neg (by rw [VV_neg, VV_neg, v2])
theorem odd_bl {x : Int} {m : Nat} (hx : x % 2 = 1) (hm : 1 ≤ m) (h : x.natAbs ≤ 2 ^ m) : bl x.natAbs ≤ m := by
  refine bl_le ?_
  have : 2 ^ m = 2 * 2 ^ (m - 1) := by rw [Nat.mul_comm, ← Nat.pow_succ]; congr 1; omega
  omega
theorem cuts_same {n e p : Int} (up : Bool) (h : Good n e) (hp : 1 ≤ p ∧ p ≤ 70000) (hb : (bl n.natAbs : Int) ≤ p) : cutsS n e p up = dyR n e := by
  unfold cutsS cutS
  rw [if_neg (by omega), if_neg (by omega), if_pos (by omega)]
  exact told_good h
theorem cuts_down {n e p : Int} (hp : 1 ≤ p ∧ p ≤ 70000) (hb : p < (bl n.natAbs : Int)) : cutsS n e p false = toldS (n / 2 ^ ((bl n.natAbs : Int) - p).toNat) (e + ((bl n.natAbs : Int) - p)) := by
  unfold cutsS cutS wholeS
  rw [if_neg (by omega), if_neg (by omega), if_neg (by omega)]
theorem cuts_up {n e p : Int} (hp : 1 ≤ p ∧ p ≤ 70000) (hb : p < (bl n.natAbs : Int)) : cutsS n e p true = toldS (-((-n) / 2 ^ ((bl n.natAbs : Int) - p).toNat)) (e + ((bl n.natAbs : Int) - p)) := by
  unfold cutsS cutS wholeS
  rw [if_neg (by omega), if_neg (by omega), if_neg (by omega)]
end Go.Proofs.YtbeocnjlepcglaaDoor.Sim
namespace Go.Proofs.YtbeocnjlepcglaaDoor.Sim
open Go.RowKit
set_option linter.unusedVariables false
set_option linter.unusedSimpArgs false
set_option maxRecDepth 10000
set_option maxHeartbeats 8000000
variable {G : List (Nat × List Value)}
theorem ofS_odd {m : Int} (h : m % 2 = 1) : ofS m = DY m 0 := by
  unfold ofS
  rw [tz_odd (n := m.natAbs) (by omega), Int.pow_zero, show ((0 : Nat) : Int) = 0 from rfl, Int.ediv_one]
theorem Good.small {m e : Int} (hm : m % 2 = 1) (hb : -1000 ≤ m ∧ m ≤ 1000) (he : -1048576 ≤ e ∧ e ≤ 1048576) : Good m e :=
  ⟨Nat.le_trans (L64_le (n := 1) (show m.natAbs < 2 ^ (64 * 1) by omega)) (by decide), he.1, he.2, fun h => by omega, fun _ => hm⟩
theorem scale_odd {m e : Int} (h : Good m e) (h0 : m ≠ 0) : scaleS m 0 e = dyR m e := by
  have := h.2.1
  have := h.2.2.1
  unfold scaleS
  rw [if_neg h0, if_neg (by omega), if_neg (by omega), Int.zero_add]
  exact told_good h
theorem l_num (m e : Int) (hm : m % 2 = 1) (hb : -1000 ≤ m ∧ m ≤ 1000) (he : -1048576 ≤ e ∧ e ≤ 1048576) : FC Tryd.prog G 7 [.val (.int .i64 m), .val (.int .i64 e)] (· = DY m e) := by
  have f1 := r_docof (G := G) m (by dsimp only [inR]; omega)
  rw [ofS_odd hm] at f1
  have f2 := r_docscale (G := G) e (Good.small (e := 0) hm hb (by decide)) (by dsimp only [inR]; omega)
  rw [scale_odd (Good.small hm hb he) (by omega)] at f2
  refine FC.intro (X := XX) tok Tryd.func7 rfl Tryd.ntmps7 (by rw [Tryd.results7]) (by kernel_rfl) rfl ?_; intro F hG hO
  rw [← hG] at f1 f2
  repeat' ((try (conv => whnf)); first
  | ((with_reducible refine cg ?_); refine call_eq (f1) (LpL.refl _) rfl ?_)
  | ((with_reducible refine cg ?_); refine call_eq (f2) (LpL.refl _) rfl ?_)
  
  | (with_reducible refine Chk.mk' (by first | omega | exact trivial | (simp only [List.length_append, List.length_set, List.length_replicate, List.length_take, List.length_drop, List.length_cons, List.length_nil, List.length_map]; omega)) ?_)
  | (with_reducible refine wrap_g (by dsimp only [inR]; omega) ?_)
  | (with_reducible refine idx_g (by omega) ?_)
  | (with_reducible refine idx_l _ rfl (by decide) ?_)
  | (with_reducible refine BothG.mk ?_ ?_)
  | (with_reducible refine fork_tt ?_) | (with_reducible refine fork_ff ?_)
  | (with_reducible refine fork_e (c := true) (by decide) ?_; with_reducible refine fork_tt ?_) | (with_reducible refine fork_e (c := false) (by decide) ?_; with_reducible refine fork_ff ?_)
  | (with_reducible refine fork_t (by omega) ?_) | (with_reducible refine fork_f (by omega) ?_)
  | (with_reducible refine fork_d ?_ ?_ <;> intro hc)
  | (with_reducible refine fork_n ?_)
  | (with_reducible refine fork_b ?_ ?_ <;> intro hc)
  | (with_reducible refine SlcG.mk (by omega) ?_)
  | (with_reducible refine MakG.mk (by dsimp only; omega) ?_)
  | (with_reducible refine AppG.mk (by first | omega | (simp only [List.length_append, List.length_set, List.length_replicate, List.length_take, List.length_drop, List.length_cons, List.length_nil, List.length_map]; omega)) (by dsimp only [List.length_cons, List.length_nil]; omega) (by omega) ?_)
  | (with_reducible refine div_g (by omega) (by omega) (by dsimp only [inR]; omega) ?_)
  | (with_reducible refine mod_g (by omega) (by omega) ?_)
  | (with_reducible refine mask_g (m := 4294967296) 32 rfl rfl (by decide) (by omega) ?_)
  | (with_reducible refine shr_g (m := 4294967296) 32 rfl (by decide) (by omega) rfl ?_)
  | (with_reducible refine fz_all (by omega) ?_)
  | (with_reducible refine Stuck.h (A := RetE _ _) ?_) | (with_reducible refine Stuck.h (A := RetM _ _ _ _) ?_) | (with_reducible refine Stuck.h (A := Again _ _ _ _ _ _ _ _) ?_) | (with_reducible refine Stuck.h (A := CallF _ _ _ _ _ _ _) ?_) | (with_reducible refine Stuck.h (A := LoopG _ _ _ _ _ _ _ _) ?_) | (with_reducible refine Stuck.h (A := DrawG _ _ _ _ _ _ _ _) ?_)
  | (with_reducible refine Stuck.h (A := WrapG _ _ _) ?_) | (with_reducible refine Stuck.h (A := DivG _ _ _ _) ?_) | (with_reducible refine Stuck.h (A := ModG _ _ _) ?_) | (with_reducible refine Stuck.h (A := ShlG _ _ _ _) ?_) | (with_reducible refine Stuck.h (A := ShrG _ _ _ _) ?_) | (with_reducible refine Stuck.h (A := BitG _ _ _ _ _) ?_)
  | (with_reducible refine Stuck.h (A := IdxG _ _ _) ?_) | (with_reducible refine Stuck.h (A := IdxL _ _ _) ?_) | (with_reducible refine Stuck.h (A := SlcG _ _ _ _ _) ?_) | (with_reducible refine Stuck.h (A := MakG _ _ _ _) ?_) | (with_reducible refine Stuck.h (A := AppG _ _ _ _ _ _ _) ?_) | (with_reducible refine Stuck.h (A := FzG _ _ _ _) ?_)
  | (with_reducible refine Stuck.h (A := RawG _) ?_) | (with_reducible refine Stuck.h (A := TabG _ _ _ _ _) ?_) | (with_reducible refine Stuck.h (A := ExtF _ _ _ _) ?_) | (with_reducible refine Stuck.h (A := Chk _ _) ?_) | (with_reducible refine Stuck.h (A := False) ?_))
  exact ⟨ret_e rfl⟩
theorem sameB_t (b : Bool) (l : List Int) (e : Int) : sameB b l e b l e = true := by unfold sameB; simp
theorem r_same_t {n e : Int} (h : Good n e) : FC Tryd.prog G 15 [DY n e, DY n e] (· = .val (.bool true)) := by
  have := r_dsame (G := G) (decide (n < 0)) (d64 n.natAbs) e (decide (n < 0)) (d64 n.natAbs) e (Nat.le_trans h.1 (by decide))
  rw [sameB_t] at this
  exact this
theorem sameB_dec (n e m f : Int) : sameB (decide (n < 0)) (d64 n.natAbs) e (decide (m < 0)) (d64 m.natAbs) f = decide (n = m ∧ e = f) := by
  by_cases h : n = m ∧ e = f
  · rw [h.1, h.2, sameB_t, decide_eq_true ⟨rfl, rfl⟩]
  · rw [decide_eq_false h]
    have h2 : ¬ (decide (n < 0) = decide (m < 0) ∧ e = f ∧ d64 n.natAbs = d64 m.natAbs) := by
      rintro ⟨h1, h3, h4⟩
      apply h
      apply DY_inj
      unfold DY
      rw [h1, h3, h4]
    unfold sameB
    cases hx : ((decide (n < 0) == decide (m < 0)) && decide (e = f) && decide (d64 n.natAbs = d64 m.natAbs)) with
    | false => rfl
    | true =>
      simp only [Bool.and_eq_true, beq_iff_eq, decide_eq_true_eq] at hx
      exact absurd ⟨hx.1.1, hx.1.2, hx.2⟩ h2
theorem r_same_d {n e m f : Int} (h : Good n e) : FC Tryd.prog G 15 [DY n e, DY m f] (· = .val (.bool (decide (n = m ∧ e = f)))) := by
  have := r_dsame (G := G) (decide (n < 0)) (d64 n.natAbs) e (decide (m < 0)) (d64 m.natAbs) f (Nat.le_trans h.1 (by decide))
  rw [sameB_dec] at this
  exact this
theorem l_told {n e : Int} (c : Int) (h : Good n e) : FC Tryd.prog G 30 [DY n e, .val (.int .i64 c), DY n e, .val (.int .i64 c)] (· = .val (.bool true)) := by
  have f1 := r_same_t (G := G) h
  refine FC.intro (X := XX) tok Tryd.func30 rfl Tryd.ntmps30 (by rw [Tryd.results30]) (by kernel_rfl) rfl ?_; intro F hG hO
  rw [← hG] at f1
  repeat' ((try (conv => whnf)); first
  | ((with_reducible refine cg ?_); refine call_eq (f1) (LpL.refl _) rfl ?_)
  
  | (with_reducible refine Chk.mk' (by first | omega | exact trivial | (simp only [List.length_append, List.length_set, List.length_replicate, List.length_take, List.length_drop, List.length_cons, List.length_nil, List.length_map]; omega)) ?_)
  | (with_reducible refine wrap_g (by dsimp only [inR]; omega) ?_)
  | (with_reducible refine idx_g (by omega) ?_)
  | (with_reducible refine idx_l _ rfl (by decide) ?_)
  | (with_reducible refine BothG.mk ?_ ?_)
  | (with_reducible refine fork_tt ?_) | (with_reducible refine fork_ff ?_)
  | (with_reducible refine fork_e (c := true) (by decide) ?_; with_reducible refine fork_tt ?_) | (with_reducible refine fork_e (c := false) (by decide) ?_; with_reducible refine fork_ff ?_)
  | (with_reducible refine fork_t (by omega) ?_) | (with_reducible refine fork_f (by omega) ?_)
  | (with_reducible refine fork_d ?_ ?_ <;> intro hc)
  | (with_reducible refine fork_n ?_)
  | (with_reducible refine fork_b ?_ ?_ <;> intro hc)
  | (with_reducible refine SlcG.mk (by omega) ?_)
  | (with_reducible refine MakG.mk (by dsimp only; omega) ?_)
  | (with_reducible refine AppG.mk (by first | omega | (simp only [List.length_append, List.length_set, List.length_replicate, List.length_take, List.length_drop, List.length_cons, List.length_nil, List.length_map]; omega)) (by dsimp only [List.length_cons, List.length_nil]; omega) (by omega) ?_)
  | (with_reducible refine div_g (by omega) (by omega) (by dsimp only [inR]; omega) ?_)
  | (with_reducible refine mod_g (by omega) (by omega) ?_)
  | (with_reducible refine mask_g (m := 4294967296) 32 rfl rfl (by decide) (by omega) ?_)
  | (with_reducible refine shr_g (m := 4294967296) 32 rfl (by decide) (by omega) rfl ?_)
  | (with_reducible refine fz_all (by omega) ?_)
  | (with_reducible refine Stuck.h (A := RetE _ _) ?_) | (with_reducible refine Stuck.h (A := RetM _ _ _ _) ?_) | (with_reducible refine Stuck.h (A := Again _ _ _ _ _ _ _ _) ?_) | (with_reducible refine Stuck.h (A := CallF _ _ _ _ _ _ _) ?_) | (with_reducible refine Stuck.h (A := LoopG _ _ _ _ _ _ _ _) ?_) | (with_reducible refine Stuck.h (A := DrawG _ _ _ _ _ _ _ _) ?_)
  | (with_reducible refine Stuck.h (A := WrapG _ _ _) ?_) | (with_reducible refine Stuck.h (A := DivG _ _ _ _) ?_) | (with_reducible refine Stuck.h (A := ModG _ _ _) ?_) | (with_reducible refine Stuck.h (A := ShlG _ _ _ _) ?_) | (with_reducible refine Stuck.h (A := ShrG _ _ _ _) ?_) | (with_reducible refine Stuck.h (A := BitG _ _ _ _ _) ?_)
  | (with_reducible refine Stuck.h (A := IdxG _ _ _) ?_) | (with_reducible refine Stuck.h (A := IdxL _ _ _) ?_) | (with_reducible refine Stuck.h (A := SlcG _ _ _ _ _) ?_) | (with_reducible refine Stuck.h (A := MakG _ _ _ _) ?_) | (with_reducible refine Stuck.h (A := AppG _ _ _ _ _ _ _) ?_) | (with_reducible refine Stuck.h (A := FzG _ _ _ _) ?_)
  | (with_reducible refine Stuck.h (A := RawG _) ?_) | (with_reducible refine Stuck.h (A := TabG _ _ _ _ _) ?_) | (with_reducible refine Stuck.h (A := ExtF _ _ _ _) ?_) | (with_reducible refine Stuck.h (A := Chk _ _) ?_) | (with_reducible refine Stuck.h (A := False) ?_))
  exact ⟨ret_e (bv_eq (decide_eq_true rfl))⟩
theorem add_awake : addS 3 0 1 (-2) = dyR 13 (-2) := by
  unfold addS
  rw [if_neg (by decide), if_neg (by decide), if_neg (by decide +kernel), if_neg (by decide +kernel)]
  exact told_good (Good.small (by decide) (by decide) (by decide))
theorem cmp_awake : cmpS (-1) 4 1 (-9) = -1 := by unfold cmpS; rw [if_pos (.inl (by decide))]; decide
theorem ofS_12 : ofS 12 = DY 3 2 := by
  unfold ofS
  rw [show tz (Int.natAbs 12) = 2 from tz_eq (m := 3) rfl rfl]
  rfl
theorem l_awake {g : List (Nat × List Value)} (hD : (0, debT.map (Value.int .u8)) ∈ g) : FC Tryd.prog g 9 [] (· = .val (.bool true)) := by
  have n1 := l_num (G := g) 3 0 (by decide) (by decide) (by decide)
  have n2 := l_num (G := g) 1 (-2) (by decide) (by decide) (by decide)
  have n3 := l_num (G := g) (-1) 4 (by decide) (by decide) (by decide)
  have n4 := l_num (G := g) 1 (-9) (by decide) (by decide) (by decide)
  have n5 := l_num (G := g) 13 (-2) (by decide) (by decide) (by decide)
  have n6 := l_num (G := g) 3 2 (by decide) (by decide) (by decide)
  have f1 := y_add hD (Good.small (m := 3) (e := 0) (by decide) (by decide) (by decide)) (Good.small (m := 1) (e := -2) (by decide) (by decide) (by decide))
  rw [add_awake] at f1
  have f2 := y_cmp (G := g) (Good.small (m := -1) (e := 4) (by decide) (by decide) (by decide)) (Good.small (m := 1) (e := -9) (by decide) (by decide) (by decide))
  rw [cmp_awake] at f2
  have f3 := y_of hD 12 (by dsimp only [inR]; omega)
  rw [ofS_12] at f3
  have f4 := r_same_t (G := g) (Good.small (m := 3) (e := 2) (by decide) (by decide) (by decide))
  have f5 := l_told (G := g) 0 (Good.small (m := 13) (e := -2) (by decide) (by decide) (by decide))
  refine FC.intro (X := XX) tok Tryd.func9 rfl Tryd.ntmps9 (by rw [Tryd.results9]) (by kernel_rfl) rfl ?_; intro F hG hO
  rw [← hG] at n1 n2 n3 n4 n5 n6 f1 f2 f3 f4 f5
  repeat' ((try (conv => whnf)); first
  | ((with_reducible refine cg ?_); refine call_eq (n1) (LpL.refl _) rfl ?_)
  | ((with_reducible refine cg ?_); refine call_eq (n2) (LpL.refl _) rfl ?_)
  | ((with_reducible refine cg ?_); refine call_eq (n3) (LpL.refl _) rfl ?_)
  | ((with_reducible refine cg ?_); refine call_eq (n4) (LpL.refl _) rfl ?_)
  | ((with_reducible refine cg ?_); refine call_eq (n5) (LpL.refl _) rfl ?_)
  | ((with_reducible refine cg ?_); refine call_eq (n6) (LpL.refl _) rfl ?_)
  | ((with_reducible refine cg ?_); refine call_eq (f1) (LpL.refl _) rfl ?_)
  | ((with_reducible refine cg ?_); refine call_eq (f2) (LpL.refl _) rfl ?_)
  | ((with_reducible refine cg ?_); refine call_eq (f3) (LpL.refl _) rfl ?_)
  | ((with_reducible refine cg ?_); refine call_eq (f4) (LpL.refl _) rfl ?_)
  | ((with_reducible refine cg ?_); refine call_eq (f5) (LpL.refl _) rfl ?_)
  
  | (with_reducible refine draw_g (id := 3) [[0, 1, 2, 3, 4, 5, 6, 7, 8, 9, 10, 11, 12, 13, 14, 15, 16, 17]] tok mixed (by kernel_rfl) ?_)
  | (with_reducible refine Chk.mk' (by first | omega | exact trivial | (simp only [List.length_append, List.length_set, List.length_replicate, List.length_take, List.length_drop, List.length_cons, List.length_nil, List.length_map]; omega)) ?_)
  | (with_reducible refine wrap_g (by dsimp only [inR]; omega) ?_)
  | (with_reducible refine idx_g (by omega) ?_)
  | (with_reducible refine idx_l _ rfl (by decide) ?_)
  | (with_reducible refine BothG.mk ?_ ?_)
  | (with_reducible refine fork_tt ?_) | (with_reducible refine fork_ff ?_)
  | (with_reducible refine fork_e (c := true) (by decide) ?_; with_reducible refine fork_tt ?_) | (with_reducible refine fork_e (c := false) (by decide) ?_; with_reducible refine fork_ff ?_)
  | (with_reducible refine fork_t (by omega) ?_) | (with_reducible refine fork_f (by omega) ?_)
  | (with_reducible refine fork_d ?_ ?_ <;> intro hc)
  | (with_reducible refine fork_n ?_)
  | (with_reducible refine fork_b ?_ ?_ <;> intro hc)
  | (with_reducible refine SlcG.mk (by omega) ?_)
  | (with_reducible refine MakG.mk (by dsimp only; omega) ?_)
  | (with_reducible refine AppG.mk (by first | omega | (simp only [List.length_append, List.length_set, List.length_replicate, List.length_take, List.length_drop, List.length_cons, List.length_nil, List.length_map]; omega)) (by dsimp only [List.length_cons, List.length_nil]; omega) (by omega) ?_)
  | (with_reducible refine div_g (by omega) (by omega) (by dsimp only [inR]; omega) ?_)
  | (with_reducible refine mod_g (by omega) (by omega) ?_)
  | (with_reducible refine mask_g (m := 4294967296) 32 rfl rfl (by decide) (by omega) ?_)
  | (with_reducible refine shr_g (m := 4294967296) 32 rfl (by decide) (by omega) rfl ?_)
  | (with_reducible refine fz_all (by omega) ?_)
  | (with_reducible refine Stuck.h (A := RetE _ _) ?_) | (with_reducible refine Stuck.h (A := RetM _ _ _ _) ?_) | (with_reducible refine Stuck.h (A := Again _ _ _ _ _ _ _ _) ?_) | (with_reducible refine Stuck.h (A := CallF _ _ _ _ _ _ _) ?_) | (with_reducible refine Stuck.h (A := LoopG _ _ _ _ _ _ _ _) ?_) | (with_reducible refine Stuck.h (A := DrawG _ _ _ _ _ _ _ _) ?_)
  | (with_reducible refine Stuck.h (A := WrapG _ _ _) ?_) | (with_reducible refine Stuck.h (A := DivG _ _ _ _) ?_) | (with_reducible refine Stuck.h (A := ModG _ _ _) ?_) | (with_reducible refine Stuck.h (A := ShlG _ _ _ _) ?_) | (with_reducible refine Stuck.h (A := ShrG _ _ _ _) ?_) | (with_reducible refine Stuck.h (A := BitG _ _ _ _ _) ?_)
  | (with_reducible refine Stuck.h (A := IdxG _ _ _) ?_) | (with_reducible refine Stuck.h (A := IdxL _ _ _) ?_) | (with_reducible refine Stuck.h (A := SlcG _ _ _ _ _) ?_) | (with_reducible refine Stuck.h (A := MakG _ _ _ _) ?_) | (with_reducible refine Stuck.h (A := AppG _ _ _ _ _ _ _) ?_) | (with_reducible refine Stuck.h (A := FzG _ _ _ _) ?_)
  | (with_reducible refine Stuck.h (A := RawG _) ?_) | (with_reducible refine Stuck.h (A := TabG _ _ _ _ _) ?_) | (with_reducible refine Stuck.h (A := ExtF _ _ _ _) ?_) | (with_reducible refine Stuck.h (A := Chk _ _) ?_) | (with_reducible refine Stuck.h (A := False) ?_))
  all_goals exact ⟨ret_e rfl⟩
theorem l_same {n e : Int} (h : Good n e) : FC Tryd.prog G 8 [DY n e, .val (.int .i64 0), DY n e, .val (.int .i64 0)] (· = .val (.bool true)) := by
  have f1 := r_same_t (G := G) h
  have f2 := r_formg (G := G) h
  refine FC.intro (X := XX) tok Tryd.func8 rfl Tryd.ntmps8 (by rw [Tryd.results8]) (by kernel_rfl) rfl ?_; intro F hG hO
  rw [← hG] at f1 f2
  repeat' ((try (conv => whnf)); first
  | ((with_reducible refine cg ?_); refine call_eq (f1) (LpL.refl _) rfl ?_)
  | ((with_reducible refine cg ?_); refine call_eq (f2) (LpL.refl _) rfl ?_)
  
  | (with_reducible refine Chk.mk' (by first | omega | exact trivial | (simp only [List.length_append, List.length_set, List.length_replicate, List.length_take, List.length_drop, List.length_cons, List.length_nil, List.length_map]; omega)) ?_)
  | (with_reducible refine wrap_g (by dsimp only [inR]; omega) ?_)
  | (with_reducible refine idx_g (by omega) ?_)
  | (with_reducible refine idx_l _ rfl (by decide) ?_)
  | (with_reducible refine BothG.mk ?_ ?_)
  | (with_reducible refine fork_tt ?_) | (with_reducible refine fork_ff ?_)
  | (with_reducible refine fork_e (c := true) (by decide) ?_; with_reducible refine fork_tt ?_) | (with_reducible refine fork_e (c := false) (by decide) ?_; with_reducible refine fork_ff ?_)
  | (with_reducible refine fork_t (by omega) ?_) | (with_reducible refine fork_f (by omega) ?_)
  | (with_reducible refine fork_d ?_ ?_ <;> intro hc)
  | (with_reducible refine fork_n ?_)
  | (with_reducible refine fork_b ?_ ?_ <;> intro hc)
  | (with_reducible refine SlcG.mk (by omega) ?_)
  | (with_reducible refine MakG.mk (by dsimp only; omega) ?_)
  | (with_reducible refine AppG.mk (by first | omega | (simp only [List.length_append, List.length_set, List.length_replicate, List.length_take, List.length_drop, List.length_cons, List.length_nil, List.length_map]; omega)) (by dsimp only [List.length_cons, List.length_nil]; omega) (by omega) ?_)
  | (with_reducible refine div_g (by omega) (by omega) (by dsimp only [inR]; omega) ?_)
  | (with_reducible refine mod_g (by omega) (by omega) ?_)
  | (with_reducible refine mask_g (m := 4294967296) 32 rfl rfl (by decide) (by omega) ?_)
  | (with_reducible refine shr_g (m := 4294967296) 32 rfl (by decide) (by omega) rfl ?_)
  | (with_reducible refine fz_all (by omega) ?_)
  | (with_reducible refine Stuck.h (A := RetE _ _) ?_) | (with_reducible refine Stuck.h (A := RetM _ _ _ _) ?_) | (with_reducible refine Stuck.h (A := Again _ _ _ _ _ _ _ _) ?_) | (with_reducible refine Stuck.h (A := CallF _ _ _ _ _ _ _) ?_) | (with_reducible refine Stuck.h (A := LoopG _ _ _ _ _ _ _ _) ?_) | (with_reducible refine Stuck.h (A := DrawG _ _ _ _ _ _ _ _) ?_)
  | (with_reducible refine Stuck.h (A := WrapG _ _ _) ?_) | (with_reducible refine Stuck.h (A := DivG _ _ _ _) ?_) | (with_reducible refine Stuck.h (A := ModG _ _ _) ?_) | (with_reducible refine Stuck.h (A := ShlG _ _ _ _) ?_) | (with_reducible refine Stuck.h (A := ShrG _ _ _ _) ?_) | (with_reducible refine Stuck.h (A := BitG _ _ _ _ _) ?_)
  | (with_reducible refine Stuck.h (A := IdxG _ _ _) ?_) | (with_reducible refine Stuck.h (A := IdxL _ _ _) ?_) | (with_reducible refine Stuck.h (A := SlcG _ _ _ _ _) ?_) | (with_reducible refine Stuck.h (A := MakG _ _ _ _) ?_) | (with_reducible refine Stuck.h (A := AppG _ _ _ _ _ _ _) ?_) | (with_reducible refine Stuck.h (A := FzG _ _ _ _) ?_)
  | (with_reducible refine Stuck.h (A := RawG _) ?_) | (with_reducible refine Stuck.h (A := TabG _ _ _ _ _) ?_) | (with_reducible refine Stuck.h (A := ExtF _ _ _ _) ?_) | (with_reducible refine Stuck.h (A := Chk _ _) ?_) | (with_reducible refine Stuck.h (A := False) ?_))
  exact ⟨ret_e rfl⟩
theorem l_between {n e m f p k : Int} (h : Good n e) (g : Good m f) (t : Good p k) (h1 : VV n e ≤ VV m f) (h2 : VV m f ≤ VV p k) : FC Tryd.prog G 14 [DY n e, DY m f, DY p k] (· = .val (.bool true)) := by
  have f1 := y_cmp (G := G) h g
  have f2 := y_cmp (G := G) g t
  have c1 := cmp_le h g h1
  have c2 := cmp_le g t h2
  refine FC.intro (X := XX) tok Tryd.func14 rfl Tryd.ntmps14 (by rw [Tryd.results14]) (by kernel_rfl) rfl ?_; intro F hG hO
  rw [← hG] at f1 f2
  repeat' ((try (conv => whnf)); first
  | ((with_reducible refine cg ?_); refine call_eq (f1) (LpL.refl _) rfl ?_)
  | ((with_reducible refine cg ?_); refine call_eq (f2) (LpL.refl _) rfl ?_)
  
  | (with_reducible refine Chk.mk' (by first | omega | exact trivial | (simp only [List.length_append, List.length_set, List.length_replicate, List.length_take, List.length_drop, List.length_cons, List.length_nil, List.length_map]; omega)) ?_)
  | (with_reducible refine wrap_g (by dsimp only [inR]; omega) ?_)
  | (with_reducible refine idx_g (by omega) ?_)
  | (with_reducible refine idx_l _ rfl (by decide) ?_)
  | (with_reducible refine BothG.mk ?_ ?_)
  | (with_reducible refine fork_tt ?_) | (with_reducible refine fork_ff ?_)
  | (with_reducible refine fork_e (c := true) (by decide) ?_; with_reducible refine fork_tt ?_) | (with_reducible refine fork_e (c := false) (by decide) ?_; with_reducible refine fork_ff ?_)
  | (with_reducible refine fork_t (by omega) ?_) | (with_reducible refine fork_f (by omega) ?_)
  | (with_reducible refine fork_d ?_ ?_ <;> intro hc)
  | (with_reducible refine fork_n ?_)
  | (with_reducible refine fork_b ?_ ?_ <;> intro hc)
  | (with_reducible refine SlcG.mk (by omega) ?_)
  | (with_reducible refine MakG.mk (by dsimp only; omega) ?_)
  | (with_reducible refine AppG.mk (by first | omega | (simp only [List.length_append, List.length_set, List.length_replicate, List.length_take, List.length_drop, List.length_cons, List.length_nil, List.length_map]; omega)) (by dsimp only [List.length_cons, List.length_nil]; omega) (by omega) ?_)
  | (with_reducible refine div_g (by omega) (by omega) (by dsimp only [inR]; omega) ?_)
  | (with_reducible refine mod_g (by omega) (by omega) ?_)
  | (with_reducible refine mask_g (m := 4294967296) 32 rfl rfl (by decide) (by omega) ?_)
  | (with_reducible refine shr_g (m := 4294967296) 32 rfl (by decide) (by omega) rfl ?_)
  | (with_reducible refine fz_all (by omega) ?_)
  | (with_reducible refine Stuck.h (A := RetE _ _) ?_) | (with_reducible refine Stuck.h (A := RetM _ _ _ _) ?_) | (with_reducible refine Stuck.h (A := Again _ _ _ _ _ _ _ _) ?_) | (with_reducible refine Stuck.h (A := CallF _ _ _ _ _ _ _) ?_) | (with_reducible refine Stuck.h (A := LoopG _ _ _ _ _ _ _ _) ?_) | (with_reducible refine Stuck.h (A := DrawG _ _ _ _ _ _ _ _) ?_)
  | (with_reducible refine Stuck.h (A := WrapG _ _ _) ?_) | (with_reducible refine Stuck.h (A := DivG _ _ _ _) ?_) | (with_reducible refine Stuck.h (A := ModG _ _ _) ?_) | (with_reducible refine Stuck.h (A := ShlG _ _ _ _) ?_) | (with_reducible refine Stuck.h (A := ShrG _ _ _ _) ?_) | (with_reducible refine Stuck.h (A := BitG _ _ _ _ _) ?_)
  | (with_reducible refine Stuck.h (A := IdxG _ _ _) ?_) | (with_reducible refine Stuck.h (A := IdxL _ _ _) ?_) | (with_reducible refine Stuck.h (A := SlcG _ _ _ _ _) ?_) | (with_reducible refine Stuck.h (A := MakG _ _ _ _) ?_) | (with_reducible refine Stuck.h (A := AppG _ _ _ _ _ _ _) ?_) | (with_reducible refine Stuck.h (A := FzG _ _ _ _) ?_)
  | (with_reducible refine Stuck.h (A := RawG _) ?_) | (with_reducible refine Stuck.h (A := TabG _ _ _ _ _) ?_) | (with_reducible refine Stuck.h (A := ExtF _ _ _ _) ?_) | (with_reducible refine Stuck.h (A := Chk _ _) ?_) | (with_reducible refine Stuck.h (A := False) ?_))
  exact ⟨ret_e (bv_eq (decide_eq_true (by omega)))⟩
theorem ofS_1 : ofS 1 = DY 1 0 := ofS_odd rfl
theorem l_step {g : List (Nat × List Value)} (hD : (0, debT.map (Value.int .u8)) ∈ g) {k : Int} (h1 : -1048576 ≤ k) (h2 : k ≤ 1048576) : FC Tryd.prog g 22 [.val (.int .i64 k)] (· = dyR 1 k) := by
  have f1 := y_of hD 1 (by dsimp only [inR]; omega)
  rw [ofS_1] at f1
  have f2 := y_scale (G := g) k (Good.one (k := 0) (by decide) (by decide)) (by dsimp only [inR]; omega)
  rw [scale_one h1 h2] at f2
  refine FC.intro (X := XX) tok Tryd.func22 rfl Tryd.ntmps22 (by rw [Tryd.results22]) (by kernel_rfl) rfl ?_; intro F hG hO
  rw [← hG] at f1 f2
  repeat' ((try (conv => whnf)); first
  | ((with_reducible refine cg ?_); refine call_eq (f1) (LpL.refl _) rfl ?_)
  | ((with_reducible refine cg ?_); refine call_eq (f2) (LpL.refl _) rfl ?_)
  
  | (with_reducible refine Chk.mk' (by first | omega | exact trivial | (simp only [List.length_append, List.length_set, List.length_replicate, List.length_take, List.length_drop, List.length_cons, List.length_nil, List.length_map]; omega)) ?_)
  | (with_reducible refine wrap_g (by dsimp only [inR]; omega) ?_)
  | (with_reducible refine idx_g (by omega) ?_)
  | (with_reducible refine idx_l _ rfl (by decide) ?_)
  | (with_reducible refine BothG.mk ?_ ?_)
  | (with_reducible refine fork_tt ?_) | (with_reducible refine fork_ff ?_)
  | (with_reducible refine fork_e (c := true) (by decide) ?_; with_reducible refine fork_tt ?_) | (with_reducible refine fork_e (c := false) (by decide) ?_; with_reducible refine fork_ff ?_)
  | (with_reducible refine fork_t (by omega) ?_) | (with_reducible refine fork_f (by omega) ?_)
  | (with_reducible refine fork_d ?_ ?_ <;> intro hc)
  | (with_reducible refine fork_n ?_)
  | (with_reducible refine fork_b ?_ ?_ <;> intro hc)
  | (with_reducible refine SlcG.mk (by omega) ?_)
  | (with_reducible refine MakG.mk (by dsimp only; omega) ?_)
  | (with_reducible refine AppG.mk (by first | omega | (simp only [List.length_append, List.length_set, List.length_replicate, List.length_take, List.length_drop, List.length_cons, List.length_nil, List.length_map]; omega)) (by dsimp only [List.length_cons, List.length_nil]; omega) (by omega) ?_)
  | (with_reducible refine div_g (by omega) (by omega) (by dsimp only [inR]; omega) ?_)
  | (with_reducible refine mod_g (by omega) (by omega) ?_)
  | (with_reducible refine mask_g (m := 4294967296) 32 rfl rfl (by decide) (by omega) ?_)
  | (with_reducible refine shr_g (m := 4294967296) 32 rfl (by decide) (by omega) rfl ?_)
  | (with_reducible refine fz_all (by omega) ?_)
  | (with_reducible refine Stuck.h (A := RetE _ _) ?_) | (with_reducible refine Stuck.h (A := RetM _ _ _ _) ?_) | (with_reducible refine Stuck.h (A := Again _ _ _ _ _ _ _ _) ?_) | (with_reducible refine Stuck.h (A := CallF _ _ _ _ _ _ _) ?_) | (with_reducible refine Stuck.h (A := LoopG _ _ _ _ _ _ _ _) ?_) | (with_reducible refine Stuck.h (A := DrawG _ _ _ _ _ _ _ _) ?_)
  | (with_reducible refine Stuck.h (A := WrapG _ _ _) ?_) | (with_reducible refine Stuck.h (A := DivG _ _ _ _) ?_) | (with_reducible refine Stuck.h (A := ModG _ _ _) ?_) | (with_reducible refine Stuck.h (A := ShlG _ _ _ _) ?_) | (with_reducible refine Stuck.h (A := ShrG _ _ _ _) ?_) | (with_reducible refine Stuck.h (A := BitG _ _ _ _ _) ?_)
  | (with_reducible refine Stuck.h (A := IdxG _ _ _) ?_) | (with_reducible refine Stuck.h (A := IdxL _ _ _) ?_) | (with_reducible refine Stuck.h (A := SlcG _ _ _ _ _) ?_) | (with_reducible refine Stuck.h (A := MakG _ _ _ _) ?_) | (with_reducible refine Stuck.h (A := AppG _ _ _ _ _ _ _) ?_) | (with_reducible refine Stuck.h (A := FzG _ _ _ _) ?_)
  | (with_reducible refine Stuck.h (A := RawG _) ?_) | (with_reducible refine Stuck.h (A := TabG _ _ _ _ _) ?_) | (with_reducible refine Stuck.h (A := ExtF _ _ _ _) ?_) | (with_reducible refine Stuck.h (A := Chk _ _) ?_) | (with_reducible refine Stuck.h (A := False) ?_))
  exact ⟨ret_e rfl⟩
theorem l_short {g : List (Nat × List Value)} (hD : (0, debT.map (Value.int .u8)) ∈ g) {n e p : Int} (h : Good n e) (hp : 1 ≤ p ∧ p ≤ 70000) (hb : (bl n.natAbs : Int) ≤ p) : FC Tryd.prog g 20 [DY n e, .val (.int .i64 p)] (· = .val (.bool true)) := by
  have f1 := y_down hD p h
  have f2 := y_up hD p h
  rw [cuts_same _ h hp hb] at f1 f2
  have f3 := l_same (G := g) h
  refine FC.intro (X := XX) tok Tryd.func20 rfl Tryd.ntmps20 (by rw [Tryd.results20]) (by kernel_rfl) rfl ?_; intro F hG hO
  rw [← hG] at f1 f2 f3
  repeat' ((try (conv => whnf)); first
  | ((with_reducible refine cg ?_); refine call_eq (f1) (LpL.refl _) rfl ?_)
  | ((with_reducible refine cg ?_); refine call_eq (f2) (LpL.refl _) rfl ?_)
  | ((with_reducible refine cg ?_); refine call_eq (f3) (LpL.refl _) rfl ?_)
  
  | (with_reducible refine Chk.mk' (by first | omega | exact trivial | (simp only [List.length_append, List.length_set, List.length_replicate, List.length_take, List.length_drop, List.length_cons, List.length_nil, List.length_map]; omega)) ?_)
  | (with_reducible refine wrap_g (by dsimp only [inR]; omega) ?_)
  | (with_reducible refine idx_g (by omega) ?_)
  | (with_reducible refine idx_l _ rfl (by decide) ?_)
  | (with_reducible refine BothG.mk ?_ ?_)
  | (with_reducible refine fork_tt ?_) | (with_reducible refine fork_ff ?_)
  | (with_reducible refine fork_e (c := true) (by decide) ?_; with_reducible refine fork_tt ?_) | (with_reducible refine fork_e (c := false) (by decide) ?_; with_reducible refine fork_ff ?_)
  | (with_reducible refine fork_t (by omega) ?_) | (with_reducible refine fork_f (by omega) ?_)
  | (with_reducible refine fork_d ?_ ?_ <;> intro hc)
  | (with_reducible refine fork_n ?_)
  | (with_reducible refine fork_b ?_ ?_ <;> intro hc)
  | (with_reducible refine SlcG.mk (by omega) ?_)
  | (with_reducible refine MakG.mk (by dsimp only; omega) ?_)
  | (with_reducible refine AppG.mk (by first | omega | (simp only [List.length_append, List.length_set, List.length_replicate, List.length_take, List.length_drop, List.length_cons, List.length_nil, List.length_map]; omega)) (by dsimp only [List.length_cons, List.length_nil]; omega) (by omega) ?_)
  | (with_reducible refine div_g (by omega) (by omega) (by dsimp only [inR]; omega) ?_)
  | (with_reducible refine mod_g (by omega) (by omega) ?_)
  | (with_reducible refine mask_g (m := 4294967296) 32 rfl rfl (by decide) (by omega) ?_)
  | (with_reducible refine shr_g (m := 4294967296) 32 rfl (by decide) (by omega) rfl ?_)
  | (with_reducible refine fz_all (by omega) ?_)
  | (with_reducible refine Stuck.h (A := RetE _ _) ?_) | (with_reducible refine Stuck.h (A := RetM _ _ _ _) ?_) | (with_reducible refine Stuck.h (A := Again _ _ _ _ _ _ _ _) ?_) | (with_reducible refine Stuck.h (A := CallF _ _ _ _ _ _ _) ?_) | (with_reducible refine Stuck.h (A := LoopG _ _ _ _ _ _ _ _) ?_) | (with_reducible refine Stuck.h (A := DrawG _ _ _ _ _ _ _ _) ?_)
  | (with_reducible refine Stuck.h (A := WrapG _ _ _) ?_) | (with_reducible refine Stuck.h (A := DivG _ _ _ _) ?_) | (with_reducible refine Stuck.h (A := ModG _ _ _) ?_) | (with_reducible refine Stuck.h (A := ShlG _ _ _ _) ?_) | (with_reducible refine Stuck.h (A := ShrG _ _ _ _) ?_) | (with_reducible refine Stuck.h (A := BitG _ _ _ _ _) ?_)
  | (with_reducible refine Stuck.h (A := IdxG _ _ _) ?_) | (with_reducible refine Stuck.h (A := IdxL _ _ _) ?_) | (with_reducible refine Stuck.h (A := SlcG _ _ _ _ _) ?_) | (with_reducible refine Stuck.h (A := MakG _ _ _ _) ?_) | (with_reducible refine Stuck.h (A := AppG _ _ _ _ _ _ _) ?_) | (with_reducible refine Stuck.h (A := FzG _ _ _ _) ?_)
  | (with_reducible refine Stuck.h (A := RawG _) ?_) | (with_reducible refine Stuck.h (A := TabG _ _ _ _ _) ?_) | (with_reducible refine Stuck.h (A := ExtF _ _ _ _) ?_) | (with_reducible refine Stuck.h (A := Chk _ _) ?_) | (with_reducible refine Stuck.h (A := False) ?_))
  exact ⟨ret_e rfl⟩
end Go.Proofs.YtbeocnjlepcglaaDoor.Sim
namespace Go.Proofs.YtbeocnjlepcglaaDoor.Sim
open Go.RowKit
set_option linter.unusedVariables false
set_option linter.unusedSimpArgs false
set_option maxRecDepth 10000
set_option maxHeartbeats 8000000
variable {G : List (Nat × List Value)}
theorem cuts_awake1 : cutsS 7 0 2 false = dyR 3 1 := by
  unfold cutsS cutS
  rw [if_neg (by decide), if_neg (by decide), if_neg (by decide +kernel), show wholeS 7 ((bl (Int.natAbs 7) : Int) - 2) false = 3 by decide +kernel, show (0 : Int) + ((bl (Int.natAbs 7) : Int) - 2) = 1 by decide +kernel]
  exact told_good (Good.small (by decide) (by decide) (by decide))
theorem cuts_awake2 : cutsS 7 0 2 true = dyR 1 3 := by
  unfold cutsS cutS
  rw [if_neg (by decide), if_neg (by decide), if_neg (by decide +kernel), show wholeS 7 ((bl (Int.natAbs 7) : Int) - 2) true = 4 by decide +kernel, show (0 : Int) + ((bl (Int.natAbs 7) : Int) - 2) = 1 by decide +kernel]
  exact told_eq (by decide) (Good.one (by decide) (by decide)) (by rw [VV_low (n := 1) (e := 3) (k := 1) (by decide) (by decide)]; rfl)
theorem cuts_bad {n e p : Int} (up : Bool) (h : p < 1 ∨ 70000 < p) : cutsS n e p up = dyE 1 := by
  unfold cutsS
  by_cases h1 : p < 1
  · rw [if_pos h1]
  · rw [if_neg h1, if_pos (h.resolve_left h1)]
theorem cutsE_bad {p : Int} (h : p < 1 ∨ 70000 < p) : cutsE p = dyE 1 := by
  unfold cutsE
  by_cases h1 : p < 1
  · rw [if_pos h1]
  · rw [if_neg h1, if_pos (h.resolve_left h1)]
theorem cutsE_good {p : Int} (h : ¬ (p < 1 ∨ 70000 < p)) : cutsE p = dyE 2 := by
  unfold cutsE
  rw [if_neg (by omega), if_neg (by omega)]
theorem l_dyadicNeighbours {g : List (Nat × List Value)} (hD : (0, debT.map (Value.int .u8)) ∈ g) (b : Bool) (l : List Int) (e p : Int) (ok : okD 18446744073709551616 l) (hp : inR .i64 p) : FC Tryd.prog g 4 [Dy b l e, .val (.int .i64 p)] (· = .val (.bool true)) := by
  have n1 := l_num (G := g) 7 0 (by decide) (by decide) (by decide)
  have n2 := l_num (G := g) 3 1 (by decide) (by decide) (by decide)
  have n3 := l_num (G := g) 1 3 (by decide) (by decide) (by decide)
  have a1 := y_down hD 2 (Good.small (m := 7) (e := 0) (by decide) (by decide) (by decide))
  rw [cuts_awake1] at a1
  have a2 := y_up hD 2 (Good.small (m := 7) (e := 0) (by decide) (by decide) (by decide))
  rw [cuts_awake2] at a2
  have a3 := l_same (G := g) (Good.small (m := 3) (e := 1) (by decide) (by decide) (by decide))
  have a4 := l_same (G := g) (Good.small (m := 1) (e := 3) (by decide) (by decide) (by decide))
  have a5 := l_awake hD
  have f0 := r_noughtg (G := g) 0 0
  cases hf : dyF b l e with
  | false =>
    have f1 := r_formN (G := g) b l e ok hf
    have f4 := y_downX (G := g) b l e ok hf p
    have f5 := y_upX (G := g) b l e ok hf p
    by_cases hp2 : p < 1 ∨ 70000 < p
    · rw [cutsE_bad hp2] at f4 f5
      refine FC.intro (X := XX) tok Tryd.func4 rfl Tryd.ntmps4 (by rw [Tryd.results4]) (by kernel_rfl) rfl ?_; intro F hG hO
      rw [← hG] at n1 n2 n3 a1 a2 a3 a4 a5 f4 f5
      repeat' ((try (conv => whnf)); first
  | ((with_reducible refine cg ?_); refine call_eq (n1) (LpL.refl _) rfl ?_)
  | ((with_reducible refine cg ?_); refine call_eq (n2) (LpL.refl _) rfl ?_)
  | ((with_reducible refine cg ?_); refine call_eq (n3) (LpL.refl _) rfl ?_)
  | ((with_reducible refine cg ?_); refine call_eq (a1) (LpL.refl _) rfl ?_)
  | ((with_reducible refine cg ?_); refine call_eq (a2) (LpL.refl _) rfl ?_)
  | ((with_reducible refine cg ?_); refine call_eq (a3) (LpL.refl _) rfl ?_)
  | ((with_reducible refine cg ?_); refine call_eq (a4) (LpL.refl _) rfl ?_)
  | ((with_reducible refine cg ?_); refine call_eq (a5) (LpL.refl _) rfl ?_)
  | ((with_reducible refine cg ?_); refine call_eq (f4) (LpL.refl _) rfl ?_)
  | ((with_reducible refine cg ?_); refine call_eq (f5) (LpL.refl _) rfl ?_)
  
  | (with_reducible refine draw_g (id := 3) [[0, 1, 2, 3, 4, 5, 6, 7, 8, 9, 10, 11, 12, 13, 14, 15]] tok mixed (by kernel_rfl) ?_)
  | (with_reducible refine Chk.mk' (by first | omega | exact trivial | (simp only [List.length_append, List.length_set, List.length_replicate, List.length_take, List.length_drop, List.length_cons, List.length_nil, List.length_map]; omega)) ?_)
  | (with_reducible refine wrap_g (by dsimp only [inR]; omega) ?_)
  | (with_reducible refine idx_g (by omega) ?_)
  | (with_reducible refine idx_l _ rfl (by decide) ?_)
  | (with_reducible refine BothG.mk ?_ ?_)
  | (with_reducible refine fork_tt ?_) | (with_reducible refine fork_ff ?_)
  | (with_reducible refine fork_e (c := true) (by decide) ?_; with_reducible refine fork_tt ?_) | (with_reducible refine fork_e (c := false) (by decide) ?_; with_reducible refine fork_ff ?_)
  | (with_reducible refine fork_t (by omega) ?_) | (with_reducible refine fork_f (by omega) ?_)
  | (with_reducible refine fork_d ?_ ?_ <;> intro hc)
  | (with_reducible refine fork_n ?_)
  | (with_reducible refine fork_b ?_ ?_ <;> intro hc)
  | (with_reducible refine SlcG.mk (by omega) ?_)
  | (with_reducible refine MakG.mk (by dsimp only; omega) ?_)
  | (with_reducible refine AppG.mk (by first | omega | (simp only [List.length_append, List.length_set, List.length_replicate, List.length_take, List.length_drop, List.length_cons, List.length_nil, List.length_map]; omega)) (by dsimp only [List.length_cons, List.length_nil]; omega) (by omega) ?_)
  | (with_reducible refine div_g (by omega) (by omega) (by dsimp only [inR]; omega) ?_)
  | (with_reducible refine mod_g (by omega) (by omega) ?_)
  | (with_reducible refine mask_g (m := 4294967296) 32 rfl rfl (by decide) (by omega) ?_)
  | (with_reducible refine shr_g (m := 4294967296) 32 rfl (by decide) (by omega) rfl ?_)
  | (with_reducible refine fz_all (by omega) ?_)
  | (with_reducible refine Stuck.h (A := RetE _ _) ?_) | (with_reducible refine Stuck.h (A := RetM _ _ _ _) ?_) | (with_reducible refine Stuck.h (A := Again _ _ _ _ _ _ _ _) ?_) | (with_reducible refine Stuck.h (A := CallF _ _ _ _ _ _ _) ?_) | (with_reducible refine Stuck.h (A := LoopG _ _ _ _ _ _ _ _) ?_) | (with_reducible refine Stuck.h (A := DrawG _ _ _ _ _ _ _ _) ?_)
  | (with_reducible refine Stuck.h (A := WrapG _ _ _) ?_) | (with_reducible refine Stuck.h (A := DivG _ _ _ _) ?_) | (with_reducible refine Stuck.h (A := ModG _ _ _) ?_) | (with_reducible refine Stuck.h (A := ShlG _ _ _ _) ?_) | (with_reducible refine Stuck.h (A := ShrG _ _ _ _) ?_) | (with_reducible refine Stuck.h (A := BitG _ _ _ _ _) ?_)
  | (with_reducible refine Stuck.h (A := IdxG _ _ _) ?_) | (with_reducible refine Stuck.h (A := IdxL _ _ _) ?_) | (with_reducible refine Stuck.h (A := SlcG _ _ _ _ _) ?_) | (with_reducible refine Stuck.h (A := MakG _ _ _ _) ?_) | (with_reducible refine Stuck.h (A := AppG _ _ _ _ _ _ _) ?_) | (with_reducible refine Stuck.h (A := FzG _ _ _ _) ?_)
  | (with_reducible refine Stuck.h (A := RawG _) ?_) | (with_reducible refine Stuck.h (A := TabG _ _ _ _ _) ?_) | (with_reducible refine Stuck.h (A := ExtF _ _ _ _) ?_) | (with_reducible refine Stuck.h (A := Chk _ _) ?_) | (with_reducible refine Stuck.h (A := False) ?_))
      all_goals exact ⟨ret_e rfl⟩
    · rw [cutsE_good hp2] at f4 f5
      refine FC.intro (X := XX) tok Tryd.func4 rfl Tryd.ntmps4 (by rw [Tryd.results4]) (by kernel_rfl) rfl ?_; intro F hG hO
      rw [← hG] at n1 n2 n3 a1 a2 a3 a4 a5 f1 f4 f5 f0
      repeat' ((try (conv => whnf)); first
  | ((with_reducible refine cg ?_); refine call_eq (n1) (LpL.refl _) rfl ?_)
  | ((with_reducible refine cg ?_); refine call_eq (n2) (LpL.refl _) rfl ?_)
  | ((with_reducible refine cg ?_); refine call_eq (n3) (LpL.refl _) rfl ?_)
  | ((with_reducible refine cg ?_); refine call_eq (a1) (LpL.refl _) rfl ?_)
  | ((with_reducible refine cg ?_); refine call_eq (a2) (LpL.refl _) rfl ?_)
  | ((with_reducible refine cg ?_); refine call_eq (a3) (LpL.refl _) rfl ?_)
  | ((with_reducible refine cg ?_); refine call_eq (a4) (LpL.refl _) rfl ?_)
  | ((with_reducible refine cg ?_); refine call_eq (a5) (LpL.refl _) rfl ?_)
  | ((with_reducible refine cg ?_); refine call_eq (f1) (LpL.refl _) rfl ?_)
  | ((with_reducible refine cg ?_); refine call_eq (f4) (LpL.refl _) rfl ?_)
  | ((with_reducible refine cg ?_); refine call_eq (f5) (LpL.refl _) rfl ?_)
  | ((with_reducible refine cg ?_); refine call_eq (f0) (LpL.refl _) rfl ?_)
  
  | (with_reducible refine draw_g (id := 3) [[0, 1, 2, 3, 4, 5, 6, 7, 8, 9, 10, 11, 12, 13, 14, 15]] tok mixed (by kernel_rfl) ?_)
  | (with_reducible refine Chk.mk' (by first | omega | exact trivial | (simp only [List.length_append, List.length_set, List.length_replicate, List.length_take, List.length_drop, List.length_cons, List.length_nil, List.length_map]; omega)) ?_)
  | (with_reducible refine wrap_g (by dsimp only [inR]; omega) ?_)
  | (with_reducible refine idx_g (by omega) ?_)
  | (with_reducible refine idx_l _ rfl (by decide) ?_)
  | (with_reducible refine BothG.mk ?_ ?_)
  | (with_reducible refine fork_tt ?_) | (with_reducible refine fork_ff ?_)
  | (with_reducible refine fork_e (c := true) (by decide) ?_; with_reducible refine fork_tt ?_) | (with_reducible refine fork_e (c := false) (by decide) ?_; with_reducible refine fork_ff ?_)
  | (with_reducible refine fork_t (by omega) ?_) | (with_reducible refine fork_f (by omega) ?_)
  | (with_reducible refine fork_d ?_ ?_ <;> intro hc)
  | (with_reducible refine fork_n ?_)
  | (with_reducible refine fork_b ?_ ?_ <;> intro hc)
  | (with_reducible refine SlcG.mk (by omega) ?_)
  | (with_reducible refine MakG.mk (by dsimp only; omega) ?_)
  | (with_reducible refine AppG.mk (by first | omega | (simp only [List.length_append, List.length_set, List.length_replicate, List.length_take, List.length_drop, List.length_cons, List.length_nil, List.length_map]; omega)) (by dsimp only [List.length_cons, List.length_nil]; omega) (by omega) ?_)
  | (with_reducible refine div_g (by omega) (by omega) (by dsimp only [inR]; omega) ?_)
  | (with_reducible refine mod_g (by omega) (by omega) ?_)
  | (with_reducible refine mask_g (m := 4294967296) 32 rfl rfl (by decide) (by omega) ?_)
  | (with_reducible refine shr_g (m := 4294967296) 32 rfl (by decide) (by omega) rfl ?_)
  | (with_reducible refine fz_all (by omega) ?_)
  | (with_reducible refine Stuck.h (A := RetE _ _) ?_) | (with_reducible refine Stuck.h (A := RetM _ _ _ _) ?_) | (with_reducible refine Stuck.h (A := Again _ _ _ _ _ _ _ _) ?_) | (with_reducible refine Stuck.h (A := CallF _ _ _ _ _ _ _) ?_) | (with_reducible refine Stuck.h (A := LoopG _ _ _ _ _ _ _ _) ?_) | (with_reducible refine Stuck.h (A := DrawG _ _ _ _ _ _ _ _) ?_)
  | (with_reducible refine Stuck.h (A := WrapG _ _ _) ?_) | (with_reducible refine Stuck.h (A := DivG _ _ _ _) ?_) | (with_reducible refine Stuck.h (A := ModG _ _ _) ?_) | (with_reducible refine Stuck.h (A := ShlG _ _ _ _) ?_) | (with_reducible refine Stuck.h (A := ShrG _ _ _ _) ?_) | (with_reducible refine Stuck.h (A := BitG _ _ _ _ _) ?_)
  | (with_reducible refine Stuck.h (A := IdxG _ _ _) ?_) | (with_reducible refine Stuck.h (A := IdxL _ _ _) ?_) | (with_reducible refine Stuck.h (A := SlcG _ _ _ _ _) ?_) | (with_reducible refine Stuck.h (A := MakG _ _ _ _) ?_) | (with_reducible refine Stuck.h (A := AppG _ _ _ _ _ _ _) ?_) | (with_reducible refine Stuck.h (A := FzG _ _ _ _) ?_)
  | (with_reducible refine Stuck.h (A := RawG _) ?_) | (with_reducible refine Stuck.h (A := TabG _ _ _ _ _) ?_) | (with_reducible refine Stuck.h (A := ExtF _ _ _ _) ?_) | (with_reducible refine Stuck.h (A := Chk _ _) ?_) | (with_reducible refine Stuck.h (A := False) ?_))
      all_goals exact ⟨ret_e rfl⟩
  | true =>
    obtain ⟨n, h, hd⟩ := dyF_ex ok hf
    rw [hd]
    clear hd hf
    have f1 := r_formg (G := g) h
    have f2 := r_noughtg (G := g) n e
    have f3 := y_Top (G := g) h
    have f4 := y_down hD p h
    have f5 := y_up hD p h
    by_cases hp2 : p < 1 ∨ 70000 < p
    · rw [cuts_bad _ hp2] at f4 f5
      clear f3
      refine FC.intro (X := XX) tok Tryd.func4 rfl Tryd.ntmps4 (by rw [Tryd.results4]) (by kernel_rfl) rfl ?_; intro F hG hO
      rw [← hG] at n1 n2 n3 a1 a2 a3 a4 a5 f4 f5
      repeat' ((try (conv => whnf)); first
  | ((with_reducible refine cg ?_); refine call_eq (n1) (LpL.refl _) rfl ?_)
  | ((with_reducible refine cg ?_); refine call_eq (n2) (LpL.refl _) rfl ?_)
  | ((with_reducible refine cg ?_); refine call_eq (n3) (LpL.refl _) rfl ?_)
  | ((with_reducible refine cg ?_); refine call_eq (a1) (LpL.refl _) rfl ?_)
  | ((with_reducible refine cg ?_); refine call_eq (a2) (LpL.refl _) rfl ?_)
  | ((with_reducible refine cg ?_); refine call_eq (a3) (LpL.refl _) rfl ?_)
  | ((with_reducible refine cg ?_); refine call_eq (a4) (LpL.refl _) rfl ?_)
  | ((with_reducible refine cg ?_); refine call_eq (a5) (LpL.refl _) rfl ?_)
  | ((with_reducible refine cg ?_); refine call_eq (f4) (LpL.refl _) rfl ?_)
  | ((with_reducible refine cg ?_); refine call_eq (f5) (LpL.refl _) rfl ?_)
  
  | (with_reducible refine draw_g (id := 3) [[0, 1, 2, 3, 4, 5, 6, 7, 8, 9, 10, 11, 12, 13, 14, 15]] tok mixed (by kernel_rfl) ?_)
  | (with_reducible refine Chk.mk' (by first | omega | exact trivial | (simp only [List.length_append, List.length_set, List.length_replicate, List.length_take, List.length_drop, List.length_cons, List.length_nil, List.length_map]; omega)) ?_)
  | (with_reducible refine wrap_g (by dsimp only [inR]; omega) ?_)
  | (with_reducible refine idx_g (by omega) ?_)
  | (with_reducible refine idx_l _ rfl (by decide) ?_)
  | (with_reducible refine BothG.mk ?_ ?_)
  | (with_reducible refine fork_tt ?_) | (with_reducible refine fork_ff ?_)
  | (with_reducible refine fork_e (c := true) (by decide) ?_; with_reducible refine fork_tt ?_) | (with_reducible refine fork_e (c := false) (by decide) ?_; with_reducible refine fork_ff ?_)
  | (with_reducible refine fork_t (by omega) ?_) | (with_reducible refine fork_f (by omega) ?_)
  | (with_reducible refine fork_d ?_ ?_ <;> intro hc)
  | (with_reducible refine fork_n ?_)
  | (with_reducible refine fork_b ?_ ?_ <;> intro hc)
  | (with_reducible refine SlcG.mk (by omega) ?_)
  | (with_reducible refine MakG.mk (by dsimp only; omega) ?_)
  | (with_reducible refine AppG.mk (by first | omega | (simp only [List.length_append, List.length_set, List.length_replicate, List.length_take, List.length_drop, List.length_cons, List.length_nil, List.length_map]; omega)) (by dsimp only [List.length_cons, List.length_nil]; omega) (by omega) ?_)
  | (with_reducible refine div_g (by omega) (by omega) (by dsimp only [inR]; omega) ?_)
  | (with_reducible refine mod_g (by omega) (by omega) ?_)
  | (with_reducible refine mask_g (m := 4294967296) 32 rfl rfl (by decide) (by omega) ?_)
  | (with_reducible refine shr_g (m := 4294967296) 32 rfl (by decide) (by omega) rfl ?_)
  | (with_reducible refine fz_all (by omega) ?_)
  | (with_reducible refine Stuck.h (A := RetE _ _) ?_) | (with_reducible refine Stuck.h (A := RetM _ _ _ _) ?_) | (with_reducible refine Stuck.h (A := Again _ _ _ _ _ _ _ _) ?_) | (with_reducible refine Stuck.h (A := CallF _ _ _ _ _ _ _) ?_) | (with_reducible refine Stuck.h (A := LoopG _ _ _ _ _ _ _ _) ?_) | (with_reducible refine Stuck.h (A := DrawG _ _ _ _ _ _ _ _) ?_)
  | (with_reducible refine Stuck.h (A := WrapG _ _ _) ?_) | (with_reducible refine Stuck.h (A := DivG _ _ _ _) ?_) | (with_reducible refine Stuck.h (A := ModG _ _ _) ?_) | (with_reducible refine Stuck.h (A := ShlG _ _ _ _) ?_) | (with_reducible refine Stuck.h (A := ShrG _ _ _ _) ?_) | (with_reducible refine Stuck.h (A := BitG _ _ _ _ _) ?_)
  | (with_reducible refine Stuck.h (A := IdxG _ _ _) ?_) | (with_reducible refine Stuck.h (A := IdxL _ _ _) ?_) | (with_reducible refine Stuck.h (A := SlcG _ _ _ _ _) ?_) | (with_reducible refine Stuck.h (A := MakG _ _ _ _) ?_) | (with_reducible refine Stuck.h (A := AppG _ _ _ _ _ _ _) ?_) | (with_reducible refine Stuck.h (A := FzG _ _ _ _) ?_)
  | (with_reducible refine Stuck.h (A := RawG _) ?_) | (with_reducible refine Stuck.h (A := TabG _ _ _ _ _) ?_) | (with_reducible refine Stuck.h (A := ExtF _ _ _ _) ?_) | (with_reducible refine Stuck.h (A := Chk _ _) ?_) | (with_reducible refine Stuck.h (A := False) ?_))
      all_goals exact ⟨ret_e rfl⟩
    have hp3 : 1 ≤ p ∧ p ≤ 70000 := by omega
    by_cases h0 : n = 0
    · rw [cuts_same _ h hp3 (by rw [h0]; exact Int.le_trans (by decide) hp3.1)] at f4 f5
      clear f3
      refine FC.intro (X := XX) tok Tryd.func4 rfl Tryd.ntmps4 (by rw [Tryd.results4]) (by kernel_rfl) rfl ?_; intro F hG hO
      rw [← hG] at n1 n2 n3 a1 a2 a3 a4 a5 f1 f4 f5 f2
      repeat' ((try (conv => whnf)); first
  | ((with_reducible refine cg ?_); refine call_eq (n1) (LpL.refl _) rfl ?_)
  | ((with_reducible refine cg ?_); refine call_eq (n2) (LpL.refl _) rfl ?_)
  | ((with_reducible refine cg ?_); refine call_eq (n3) (LpL.refl _) rfl ?_)
  | ((with_reducible refine cg ?_); refine call_eq (a1) (LpL.refl _) rfl ?_)
  | ((with_reducible refine cg ?_); refine call_eq (a2) (LpL.refl _) rfl ?_)
  | ((with_reducible refine cg ?_); refine call_eq (a3) (LpL.refl _) rfl ?_)
  | ((with_reducible refine cg ?_); refine call_eq (a4) (LpL.refl _) rfl ?_)
  | ((with_reducible refine cg ?_); refine call_eq (a5) (LpL.refl _) rfl ?_)
  | ((with_reducible refine cg ?_); refine call_eq (f1) (LpL.refl _) rfl ?_)
  | ((with_reducible refine cg ?_); refine call_eq (f4) (LpL.refl _) rfl ?_)
  | ((with_reducible refine cg ?_); refine call_eq (f5) (LpL.refl _) rfl ?_)
  | ((with_reducible refine cg ?_); refine call_eq (f2) (LpL.refl _) rfl ?_)
  
  | (with_reducible refine draw_g (id := 3) [[0, 1, 2, 3, 4, 5, 6, 7, 8, 9, 10, 11, 12, 13, 14, 15]] tok mixed (by kernel_rfl) ?_)
  | (with_reducible refine Chk.mk' (by first | omega | exact trivial | (simp only [List.length_append, List.length_set, List.length_replicate, List.length_take, List.length_drop, List.length_cons, List.length_nil, List.length_map]; omega)) ?_)
  | (with_reducible refine wrap_g (by dsimp only [inR]; omega) ?_)
  | (with_reducible refine idx_g (by omega) ?_)
  | (with_reducible refine idx_l _ rfl (by decide) ?_)
  | (with_reducible refine BothG.mk ?_ ?_)
  | (with_reducible refine fork_tt ?_) | (with_reducible refine fork_ff ?_)
  | (with_reducible refine fork_e (c := true) (by decide) ?_; with_reducible refine fork_tt ?_) | (with_reducible refine fork_e (c := false) (by decide) ?_; with_reducible refine fork_ff ?_)
  | (with_reducible refine fork_t (by omega) ?_) | (with_reducible refine fork_f (by omega) ?_)
  | (with_reducible refine fork_d ?_ ?_ <;> intro hc)
  | (with_reducible refine fork_n ?_)
  | (with_reducible refine fork_b ?_ ?_ <;> intro hc)
  | (with_reducible refine SlcG.mk (by omega) ?_)
  | (with_reducible refine MakG.mk (by dsimp only; omega) ?_)
  | (with_reducible refine AppG.mk (by first | omega | (simp only [List.length_append, List.length_set, List.length_replicate, List.length_take, List.length_drop, List.length_cons, List.length_nil, List.length_map]; omega)) (by dsimp only [List.length_cons, List.length_nil]; omega) (by omega) ?_)
  | (with_reducible refine div_g (by omega) (by omega) (by dsimp only [inR]; omega) ?_)
  | (with_reducible refine mod_g (by omega) (by omega) ?_)
  | (with_reducible refine mask_g (m := 4294967296) 32 rfl rfl (by decide) (by omega) ?_)
  | (with_reducible refine shr_g (m := 4294967296) 32 rfl (by decide) (by omega) rfl ?_)
  | (with_reducible refine fz_all (by omega) ?_)
  | (with_reducible refine Stuck.h (A := RetE _ _) ?_) | (with_reducible refine Stuck.h (A := RetM _ _ _ _) ?_) | (with_reducible refine Stuck.h (A := Again _ _ _ _ _ _ _ _) ?_) | (with_reducible refine Stuck.h (A := CallF _ _ _ _ _ _ _) ?_) | (with_reducible refine Stuck.h (A := LoopG _ _ _ _ _ _ _ _) ?_) | (with_reducible refine Stuck.h (A := DrawG _ _ _ _ _ _ _ _) ?_)
  | (with_reducible refine Stuck.h (A := WrapG _ _ _) ?_) | (with_reducible refine Stuck.h (A := DivG _ _ _ _) ?_) | (with_reducible refine Stuck.h (A := ModG _ _ _) ?_) | (with_reducible refine Stuck.h (A := ShlG _ _ _ _) ?_) | (with_reducible refine Stuck.h (A := ShrG _ _ _ _) ?_) | (with_reducible refine Stuck.h (A := BitG _ _ _ _ _) ?_)
  | (with_reducible refine Stuck.h (A := IdxG _ _ _) ?_) | (with_reducible refine Stuck.h (A := IdxL _ _ _) ?_) | (with_reducible refine Stuck.h (A := SlcG _ _ _ _ _) ?_) | (with_reducible refine Stuck.h (A := MakG _ _ _ _) ?_) | (with_reducible refine Stuck.h (A := AppG _ _ _ _ _ _ _) ?_) | (with_reducible refine Stuck.h (A := FzG _ _ _ _) ?_)
  | (with_reducible refine Stuck.h (A := RawG _) ?_) | (with_reducible refine Stuck.h (A := TabG _ _ _ _ _) ?_) | (with_reducible refine Stuck.h (A := ExtF _ _ _ _) ?_) | (with_reducible refine Stuck.h (A := Chk _ _) ?_) | (with_reducible refine Stuck.h (A := False) ?_))
      all_goals exact ⟨ret_e (bv_eq (decide_eq_true h0))⟩
    rw [if_neg h0] at f3
    have tb := topN_bd h
    by_cases ht : 1048576 ≤ topN n e
    · obtain ⟨x1, y1, c1, hr1, hg1⟩ := cuts_form n e p false
      obtain ⟨x2, y2, c2, hr2, hg2⟩ := cuts_form n e p true
      rw [hr1] at f4
      rw [hr2] at f5
      obtain ⟨t, htt⟩ : ∃ t, t = topN n e := ⟨_, rfl⟩
      rw [← htt] at f3 ht
      refine FC.intro (X := XX) tok Tryd.func4 rfl Tryd.ntmps4 (by rw [Tryd.results4]) (by kernel_rfl) rfl ?_; intro F hG hO
      rw [← hG] at n1 n2 n3 a1 a2 a3 a4 a5 f1 f2 f3 f4 f5
      repeat' ((try (conv => whnf)); first
  | ((with_reducible refine cg ?_); refine call_eq (n1) (LpL.refl _) rfl ?_)
  | ((with_reducible refine cg ?_); refine call_eq (n2) (LpL.refl _) rfl ?_)
  | ((with_reducible refine cg ?_); refine call_eq (n3) (LpL.refl _) rfl ?_)
  | ((with_reducible refine cg ?_); refine call_eq (a1) (LpL.refl _) rfl ?_)
  | ((with_reducible refine cg ?_); refine call_eq (a2) (LpL.refl _) rfl ?_)
  | ((with_reducible refine cg ?_); refine call_eq (a3) (LpL.refl _) rfl ?_)
  | ((with_reducible refine cg ?_); refine call_eq (a4) (LpL.refl _) rfl ?_)
  | ((with_reducible refine cg ?_); refine call_eq (a5) (LpL.refl _) rfl ?_)
  | ((with_reducible refine cg ?_); refine call_eq (f1) (LpL.refl _) rfl ?_)
  | ((with_reducible refine cg ?_); refine call_eq (f2) (LpL.refl _) rfl ?_)
  | ((with_reducible refine cg ?_); refine call_eq (f3) (LpL.refl _) rfl ?_)
  | ((with_reducible refine cg ?_); refine call_eq (f4) (LpL.refl _) rfl ?_)
  | ((with_reducible refine cg ?_); refine call_eq (f5) (LpL.refl _) rfl ?_)
  
  | (with_reducible refine draw_g (id := 3) [[0, 1, 2, 3, 4, 5, 6, 7, 8, 9, 10, 11, 12, 13, 14, 15]] tok mixed (by kernel_rfl) ?_)
  | (with_reducible refine Chk.mk' (by first | omega | exact trivial | (simp only [List.length_append, List.length_set, List.length_replicate, List.length_take, List.length_drop, List.length_cons, List.length_nil, List.length_map]; omega)) ?_)
  | (with_reducible refine wrap_g (by dsimp only [inR]; omega) ?_)
  | (with_reducible refine idx_g (by omega) ?_)
  | (with_reducible refine idx_l _ rfl (by decide) ?_)
  | (with_reducible refine BothG.mk ?_ ?_)
  | (with_reducible refine fork_tt ?_) | (with_reducible refine fork_ff ?_)
  | (with_reducible refine fork_e (c := true) (by decide) ?_; with_reducible refine fork_tt ?_) | (with_reducible refine fork_e (c := false) (by decide) ?_; with_reducible refine fork_ff ?_)
  | (with_reducible refine fork_t (by omega) ?_) | (with_reducible refine fork_f (by omega) ?_)
  | (with_reducible refine fork_d ?_ ?_ <;> intro hc)
  | (with_reducible refine fork_n ?_)
  | (with_reducible refine fork_b ?_ ?_ <;> intro hc)
  | (with_reducible refine SlcG.mk (by omega) ?_)
  | (with_reducible refine MakG.mk (by dsimp only; omega) ?_)
  | (with_reducible refine AppG.mk (by first | omega | (simp only [List.length_append, List.length_set, List.length_replicate, List.length_take, List.length_drop, List.length_cons, List.length_nil, List.length_map]; omega)) (by dsimp only [List.length_cons, List.length_nil]; omega) (by omega) ?_)
  | (with_reducible refine div_g (by omega) (by omega) (by dsimp only [inR]; omega) ?_)
  | (with_reducible refine mod_g (by omega) (by omega) ?_)
  | (with_reducible refine mask_g (m := 4294967296) 32 rfl rfl (by decide) (by omega) ?_)
  | (with_reducible refine shr_g (m := 4294967296) 32 rfl (by decide) (by omega) rfl ?_)
  | (with_reducible refine fz_all (by omega) ?_)
  | (with_reducible refine Stuck.h (A := RetE _ _) ?_) | (with_reducible refine Stuck.h (A := RetM _ _ _ _) ?_) | (with_reducible refine Stuck.h (A := Again _ _ _ _ _ _ _ _) ?_) | (with_reducible refine Stuck.h (A := CallF _ _ _ _ _ _ _) ?_) | (with_reducible refine Stuck.h (A := LoopG _ _ _ _ _ _ _ _) ?_) | (with_reducible refine Stuck.h (A := DrawG _ _ _ _ _ _ _ _) ?_)
  | (with_reducible refine Stuck.h (A := WrapG _ _ _) ?_) | (with_reducible refine Stuck.h (A := DivG _ _ _ _) ?_) | (with_reducible refine Stuck.h (A := ModG _ _ _) ?_) | (with_reducible refine Stuck.h (A := ShlG _ _ _ _) ?_) | (with_reducible refine Stuck.h (A := ShrG _ _ _ _) ?_) | (with_reducible refine Stuck.h (A := BitG _ _ _ _ _) ?_)
  | (with_reducible refine Stuck.h (A := IdxG _ _ _) ?_) | (with_reducible refine Stuck.h (A := IdxL _ _ _) ?_) | (with_reducible refine Stuck.h (A := SlcG _ _ _ _ _) ?_) | (with_reducible refine Stuck.h (A := MakG _ _ _ _) ?_) | (with_reducible refine Stuck.h (A := AppG _ _ _ _ _ _ _) ?_) | (with_reducible refine Stuck.h (A := FzG _ _ _ _) ?_)
  | (with_reducible refine Stuck.h (A := RawG _) ?_) | (with_reducible refine Stuck.h (A := TabG _ _ _ _ _) ?_) | (with_reducible refine Stuck.h (A := ExtF _ _ _ _) ?_) | (with_reducible refine Stuck.h (A := Chk _ _) ?_) | (with_reducible refine Stuck.h (A := False) ?_))
      all_goals exact ⟨ret_e rfl⟩
    have e1 := h.2.1
    have hbl := h.bl
    have hlt := lt_bl n.natAbs
    have htd : topN n e = e + (bl n.natAbs : Int) - 1 := rfl
    by_cases hb : (bl n.natAbs : Int) ≤ p
    · rw [cuts_same _ h hp3 hb] at f4 f5
      have f6 := l_between (G := g) h h h (Int.le_refl _) (Int.le_refl _)
      have f7 := l_short hD h hp3 hb
      have f8 := r_same_t (G := g) h
      obtain ⟨t, htt⟩ : ∃ t, t = topN n e := ⟨_, rfl⟩
      rw [← htt] at f3 ht tb htd
      refine FC.intro (X := XX) tok Tryd.func4 rfl Tryd.ntmps4 (by rw [Tryd.results4]) (by kernel_rfl) rfl ?_; intro F hG hO
      rw [← hG] at n1 n2 n3 a1 a2 a3 a4 a5 f1 f2 f3 f4 f5 f6 f7 f8
      repeat' ((try (conv => whnf)); first
  | ((with_reducible refine cg ?_); refine call_eq (n1) (LpL.refl _) rfl ?_)
  | ((with_reducible refine cg ?_); refine call_eq (n2) (LpL.refl _) rfl ?_)
  | ((with_reducible refine cg ?_); refine call_eq (n3) (LpL.refl _) rfl ?_)
  | ((with_reducible refine cg ?_); refine call_eq (a1) (LpL.refl _) rfl ?_)
  | ((with_reducible refine cg ?_); refine call_eq (a2) (LpL.refl _) rfl ?_)
  | ((with_reducible refine cg ?_); refine call_eq (a3) (LpL.refl _) rfl ?_)
  | ((with_reducible refine cg ?_); refine call_eq (a4) (LpL.refl _) rfl ?_)
  | ((with_reducible refine cg ?_); refine call_eq (a5) (LpL.refl _) rfl ?_)
  | ((with_reducible refine cg ?_); refine call_eq (f1) (LpL.refl _) rfl ?_)
  | ((with_reducible refine cg ?_); refine call_eq (f2) (LpL.refl _) rfl ?_)
  | ((with_reducible refine cg ?_); refine call_eq (f3) (LpL.refl _) rfl ?_)
  | ((with_reducible refine cg ?_); refine call_eq (f4) (LpL.refl _) rfl ?_)
  | ((with_reducible refine cg ?_); refine call_eq (f5) (LpL.refl _) rfl ?_)
  | ((with_reducible refine cg ?_); refine call_eq (f6) (LpL.refl _) rfl ?_)
  | ((with_reducible refine cg ?_); refine call_eq (f7) (LpL.refl _) rfl ?_)
  | ((with_reducible refine cg ?_); refine call_eq (f8) (LpL.refl _) rfl ?_)
  
  | (with_reducible refine draw_g (id := 3) [[0, 1, 2, 3, 4, 5, 6, 7, 8, 9, 10, 11, 12, 13, 14, 15]] tok mixed (by kernel_rfl) ?_)
  | (with_reducible refine Chk.mk' (by first | omega | exact trivial | (simp only [List.length_append, List.length_set, List.length_replicate, List.length_take, List.length_drop, List.length_cons, List.length_nil, List.length_map]; omega)) ?_)
  | (with_reducible refine wrap_g (by dsimp only [inR]; omega) ?_)
  | (with_reducible refine idx_g (by omega) ?_)
  | (with_reducible refine idx_l _ rfl (by decide) ?_)
  | (with_reducible refine BothG.mk ?_ ?_)
  | (with_reducible refine fork_tt ?_) | (with_reducible refine fork_ff ?_)
  | (with_reducible refine fork_e (c := true) (by decide) ?_; with_reducible refine fork_tt ?_) | (with_reducible refine fork_e (c := false) (by decide) ?_; with_reducible refine fork_ff ?_)
  | (with_reducible refine fork_t (by omega) ?_) | (with_reducible refine fork_f (by omega) ?_)
  | (with_reducible refine fork_d ?_ ?_ <;> intro hc)
  | (with_reducible refine fork_n ?_)
  | (with_reducible refine fork_b ?_ ?_ <;> intro hc)
  | (with_reducible refine SlcG.mk (by omega) ?_)
  | (with_reducible refine MakG.mk (by dsimp only; omega) ?_)
  | (with_reducible refine AppG.mk (by first | omega | (simp only [List.length_append, List.length_set, List.length_replicate, List.length_take, List.length_drop, List.length_cons, List.length_nil, List.length_map]; omega)) (by dsimp only [List.length_cons, List.length_nil]; omega) (by omega) ?_)
  | (with_reducible refine div_g (by omega) (by omega) (by dsimp only [inR]; omega) ?_)
  | (with_reducible refine mod_g (by omega) (by omega) ?_)
  | (with_reducible refine mask_g (m := 4294967296) 32 rfl rfl (by decide) (by omega) ?_)
  | (with_reducible refine shr_g (m := 4294967296) 32 rfl (by decide) (by omega) rfl ?_)
  | (with_reducible refine fz_all (by omega) ?_)
  | (with_reducible refine Stuck.h (A := RetE _ _) ?_) | (with_reducible refine Stuck.h (A := RetM _ _ _ _) ?_) | (with_reducible refine Stuck.h (A := Again _ _ _ _ _ _ _ _) ?_) | (with_reducible refine Stuck.h (A := CallF _ _ _ _ _ _ _) ?_) | (with_reducible refine Stuck.h (A := LoopG _ _ _ _ _ _ _ _) ?_) | (with_reducible refine Stuck.h (A := DrawG _ _ _ _ _ _ _ _) ?_)
  | (with_reducible refine Stuck.h (A := WrapG _ _ _) ?_) | (with_reducible refine Stuck.h (A := DivG _ _ _ _) ?_) | (with_reducible refine Stuck.h (A := ModG _ _ _) ?_) | (with_reducible refine Stuck.h (A := ShlG _ _ _ _) ?_) | (with_reducible refine Stuck.h (A := ShrG _ _ _ _) ?_) | (with_reducible refine Stuck.h (A := BitG _ _ _ _ _) ?_)
  | (with_reducible refine Stuck.h (A := IdxG _ _ _) ?_) | (with_reducible refine Stuck.h (A := IdxL _ _ _) ?_) | (with_reducible refine Stuck.h (A := SlcG _ _ _ _ _) ?_) | (with_reducible refine Stuck.h (A := MakG _ _ _ _) ?_) | (with_reducible refine Stuck.h (A := AppG _ _ _ _ _ _ _) ?_) | (with_reducible refine Stuck.h (A := FzG _ _ _ _) ?_)
  | (with_reducible refine Stuck.h (A := RawG _) ?_) | (with_reducible refine Stuck.h (A := TabG _ _ _ _ _) ?_) | (with_reducible refine Stuck.h (A := ExtF _ _ _ _) ?_) | (with_reducible refine Stuck.h (A := Chk _ _) ?_) | (with_reducible refine Stuck.h (A := False) ?_))
      all_goals exact ⟨ret_e rfl⟩
    · obtain ⟨j, hj⟩ : ∃ j, j = (bl n.natAbs : Int) - p := ⟨_, rfl⟩
      obtain ⟨x, y, z, w, t1, t2, t3, g1, g2, l1, l2, p1, p2, ad1, ad2, b1, b2⟩ := step_facts (k := e + j) h h0 (by omega) (by omega) hlt hbl (by omega)
      rw [show e + j - e = j by omega] at t1 t2 b1 b2
      have hne : ¬ (x = z ∧ y = w) := fun hh => by rw [hh.1, hh.2] at l1; omega
      rw [cuts_down hp3 (by omega), ← hj, t1] at f4
      rw [cuts_up hp3 (by omega), ← hj, t2] at f5
      rw [show bl n.natAbs - j.toNat = p.toNat by omega] at b1 b2
      have q1 : (bl x.natAbs : Int) ≤ p := by
        by_cases hx : x = 0
        · rw [hx]; exact Int.le_trans (by decide) hp3.1
        · have := odd_bl (g1.2.2.2.2 hx) (by omega) b1
          omega
      have q2 : (bl z.natAbs : Int) ≤ p := by
        by_cases hx : z = 0
        · rw [hx]; exact Int.le_trans (by decide) hp3.1
        · have := odd_bl (g2.2.2.2.2 hx) (by omega) b2
          omega
      have f6 := l_between (G := g) g1 h g2 (by omega) (by omega)
      have f7 := l_short hD g1 hp3 q1
      have f8 := l_short hD g2 hp3 q2
      have f9 := r_same_d (G := g) (m := z) (f := w) g1
      rw [decide_eq_false hne] at f9
      have f10 := y_sub hD g2 g1
      rw [ad2] at f10
      have f11 := l_step hD (k := e + j) (by omega) (by omega)
      have f12 := l_same (G := g) (Good.one (k := e + j) (by omega) (by omega))
      obtain ⟨t, htt⟩ : ∃ t, t = topN n e := ⟨_, rfl⟩
      rw [← htt] at f3 ht tb htd
      rw [show e + j = t - p + 1 by omega] at f11 f12 f10
      clear t1 t2 t3 l1 l2 ad1 ad2
      refine FC.intro (X := XX) tok Tryd.func4 rfl Tryd.ntmps4 (by rw [Tryd.results4]) (by kernel_rfl) rfl ?_; intro F hG hO
      rw [← hG] at n1 n2 n3 a1 a2 a3 a4 a5 f1 f2 f3 f4 f5 f6 f7 f8 f9 f10 f11 f12
      repeat' ((try (conv => whnf)); first
  | ((with_reducible refine cg ?_); refine call_eq (n1) (LpL.refl _) rfl ?_)
  | ((with_reducible refine cg ?_); refine call_eq (n2) (LpL.refl _) rfl ?_)
  | ((with_reducible refine cg ?_); refine call_eq (n3) (LpL.refl _) rfl ?_)
  | ((with_reducible refine cg ?_); refine call_eq (a1) (LpL.refl _) rfl ?_)
  | ((with_reducible refine cg ?_); refine call_eq (a2) (LpL.refl _) rfl ?_)
  | ((with_reducible refine cg ?_); refine call_eq (a3) (LpL.refl _) rfl ?_)
  | ((with_reducible refine cg ?_); refine call_eq (a4) (LpL.refl _) rfl ?_)
  | ((with_reducible refine cg ?_); refine call_eq (a5) (LpL.refl _) rfl ?_)
  | ((with_reducible refine cg ?_); refine call_eq (f1) (LpL.refl _) rfl ?_)
  | ((with_reducible refine cg ?_); refine call_eq (f2) (LpL.refl _) rfl ?_)
  | ((with_reducible refine cg ?_); refine call_eq (f3) (LpL.refl _) rfl ?_)
  | ((with_reducible refine cg ?_); refine call_eq (f4) (LpL.refl _) rfl ?_)
  | ((with_reducible refine cg ?_); refine call_eq (f5) (LpL.refl _) rfl ?_)
  | ((with_reducible refine cg ?_); refine call_eq (f6) (LpL.refl _) rfl ?_)
  | ((with_reducible refine cg ?_); refine call_eq (f7) (LpL.refl _) rfl ?_)
  | ((with_reducible refine cg ?_); refine call_eq (f8) (LpL.refl _) rfl ?_)
  | ((with_reducible refine cg ?_); refine call_eq (f9) (LpL.refl _) rfl ?_)
  | ((with_reducible refine cg ?_); refine call_eq (f10) (LpL.refl _) rfl ?_)
  | ((with_reducible refine cg ?_); refine call_eq (f11) (LpL.refl _) rfl ?_)
  | ((with_reducible refine cg ?_); refine call_eq (f12) (LpL.refl _) rfl ?_)
  
  | (with_reducible refine draw_g (id := 3) [[0, 1, 2, 3, 4, 5, 6, 7, 8, 9, 10, 11, 12, 13, 14, 15]] tok mixed (by kernel_rfl) ?_)
  | (with_reducible refine Chk.mk' (by first | omega | exact trivial | (simp only [List.length_append, List.length_set, List.length_replicate, List.length_take, List.length_drop, List.length_cons, List.length_nil, List.length_map]; omega)) ?_)
  | (with_reducible refine wrap_g (by dsimp only [inR]; omega) ?_)
  | (with_reducible refine idx_g (by omega) ?_)
  | (with_reducible refine idx_l _ rfl (by decide) ?_)
  | (with_reducible refine BothG.mk ?_ ?_)
  | (with_reducible refine fork_tt ?_) | (with_reducible refine fork_ff ?_)
  | (with_reducible refine fork_e (c := true) (by decide) ?_; with_reducible refine fork_tt ?_) | (with_reducible refine fork_e (c := false) (by decide) ?_; with_reducible refine fork_ff ?_)
  | (with_reducible refine fork_t (by omega) ?_) | (with_reducible refine fork_f (by omega) ?_)
  | (with_reducible refine fork_d ?_ ?_ <;> intro hc)
  | (with_reducible refine fork_n ?_)
  | (with_reducible refine fork_b ?_ ?_ <;> intro hc)
  | (with_reducible refine SlcG.mk (by omega) ?_)
  | (with_reducible refine MakG.mk (by dsimp only; omega) ?_)
  | (with_reducible refine AppG.mk (by first | omega | (simp only [List.length_append, List.length_set, List.length_replicate, List.length_take, List.length_drop, List.length_cons, List.length_nil, List.length_map]; omega)) (by dsimp only [List.length_cons, List.length_nil]; omega) (by omega) ?_)
  | (with_reducible refine div_g (by omega) (by omega) (by dsimp only [inR]; omega) ?_)
  | (with_reducible refine mod_g (by omega) (by omega) ?_)
  | (with_reducible refine mask_g (m := 4294967296) 32 rfl rfl (by decide) (by omega) ?_)
  | (with_reducible refine shr_g (m := 4294967296) 32 rfl (by decide) (by omega) rfl ?_)
  | (with_reducible refine fz_all (by omega) ?_)
  | (with_reducible refine Stuck.h (A := RetE _ _) ?_) | (with_reducible refine Stuck.h (A := RetM _ _ _ _) ?_) | (with_reducible refine Stuck.h (A := Again _ _ _ _ _ _ _ _) ?_) | (with_reducible refine Stuck.h (A := CallF _ _ _ _ _ _ _) ?_) | (with_reducible refine Stuck.h (A := LoopG _ _ _ _ _ _ _ _) ?_) | (with_reducible refine Stuck.h (A := DrawG _ _ _ _ _ _ _ _) ?_)
  | (with_reducible refine Stuck.h (A := WrapG _ _ _) ?_) | (with_reducible refine Stuck.h (A := DivG _ _ _ _) ?_) | (with_reducible refine Stuck.h (A := ModG _ _ _) ?_) | (with_reducible refine Stuck.h (A := ShlG _ _ _ _) ?_) | (with_reducible refine Stuck.h (A := ShrG _ _ _ _) ?_) | (with_reducible refine Stuck.h (A := BitG _ _ _ _ _) ?_)
  | (with_reducible refine Stuck.h (A := IdxG _ _ _) ?_) | (with_reducible refine Stuck.h (A := IdxL _ _ _) ?_) | (with_reducible refine Stuck.h (A := SlcG _ _ _ _ _) ?_) | (with_reducible refine Stuck.h (A := MakG _ _ _ _) ?_) | (with_reducible refine Stuck.h (A := AppG _ _ _ _ _ _ _) ?_) | (with_reducible refine Stuck.h (A := FzG _ _ _ _) ?_)
  | (with_reducible refine Stuck.h (A := RawG _) ?_) | (with_reducible refine Stuck.h (A := TabG _ _ _ _ _) ?_) | (with_reducible refine Stuck.h (A := ExtF _ _ _ _) ?_) | (with_reducible refine Stuck.h (A := Chk _ _) ?_) | (with_reducible refine Stuck.h (A := False) ?_))
      all_goals exact ⟨ret_e rfl⟩
end Go.Proofs.YtbeocnjlepcglaaDoor.Sim
