/-
  What the statement DyadicQuotedCardSaid leans on, part 11: the logic of walks, digits, contracts of the functions, the plain law. Conditions stand in each theorem.
-/
import Derived.Test.YtbeocnjlepcglaaGreatDoorPkDyadicQuotedCardSaidJ
namespace Go.Proofs.YtbeocnjlepcglaaGreatDoor.Sim
open Go.RowKit
set_option linter.unusedVariables false
set_option linter.unusedSimpArgs false
set_option maxRecDepth 10000
set_option maxHeartbeats 8000000
variable {G : List (Nat × List Value)}
def nmulS (n m : Int) : PV := if 8192 < L64 (n * m).natAbs then numE 5 else numR (n * m)
theorem sg_mul2 (x y : Nat) (s t : Bool) : sg (s != t) (x * y) = sg s x * sg t y := by
  cases s <;> cases t <;> simp [sg, Int.mul_neg, Int.neg_mul]
theorem n_nmul (n m : Int) (hn : L64 n.natAbs ≤ 8192) (hm : L64 m.natAbs ≤ 8192) : FC Tryz.prog G 40 [NI n, NI m] (· = nmulS n m) := by
  have f0 := n_nform (G := G) n hn
  have g0 := n_nform (G := G) m hm
  have f1 := m_mul (G := G) n.natAbs m.natAbs hn hm
  have hs : ∀ b : Bool, b = (decide (n < 0) != decide (m < 0)) → sg b (n.natAbs * m.natAbs) = n * m := fun b h => by rw [h, sg_mul2, sg_of, sg_of]
  have ha : (n * m).natAbs = n.natAbs * m.natAbs := Int.natAbs_mul n m
  unfold nmulS
  rw [ha]
  obtain ⟨V, hV⟩ : ∃ V, V = n.natAbs * m.natAbs := ⟨_, rfl⟩
  rw [← hV] at f1 hs ⊢
  by_cases hL : 8192 < L64 V
  · rw [if_pos hL]
    rw [natT_no hL] at f1
    have f5 := fun b => n_ntoldE (G := G) b [] 5 (by decide)
    clear hs
    refine by_signN (a := n) (p := fun p => FC _ _ _ [p, _] _) (fun h1 => ?_) (fun h1 => ?_)
    all_goals refine by_signN (a := m) (p := fun p => FC _ _ _ [_, p] _) (fun h2 => ?_) (fun h2 => ?_)
    all_goals
      first | rw [ni_neg h1] at f0 | rw [ni_pos h1] at f0
      first | rw [ni_neg h2] at g0 | rw [ni_pos h2] at g0
      refine FC.intro (X := XX) tok Tryz.func40 rfl Tryz.ntmps40 (by rw [Tryz.results40]) (by kernel_rfl) rfl ?_; intro F hG hO
      rw [← hG] at f0 g0 f1 f5
      repeat' ((try (conv => whnf)); first
  | ((with_reducible refine cg ?_); refine call_eq (f0) (LpL.refl _) rfl ?_)
  | ((with_reducible refine cg ?_); refine call_eq (g0) (LpL.refl _) rfl ?_)
  | ((with_reducible refine cg ?_); refine call_eq (f1) (LpL.refl _) rfl ?_)
  | ((with_reducible refine cg ?_); refine call_eq (f5 _) (LpL.refl _) rfl ?_)
  
  | (with_reducible refine Chk.mk' (by first | omega | exact trivial | (simp only [List.length_append, List.length_set, List.length_replicate, List.length_take, List.length_drop, List.length_cons, List.length_nil, List.length_map]; omega)) ?_)
  | (with_reducible refine wrap_g (by dsimp only [inR]; omega) ?_)
  | (with_reducible refine idx_g (by omega) ?_)
  | (with_reducible refine idx_l _ rfl (by decide) ?_)
  | (with_reducible refine BothG.mk ?_ ?_)
  | (with_reducible refine fork_tt ?_) | (with_reducible refine fork_ff ?_)
  | (with_reducible refine fork_e (c := true) (by decide) ?_; with_reducible refine fork_tt ?_) | (with_reducible refine fork_e (c := false) (by decide) ?_; with_reducible refine fork_ff ?_)
  | (with_reducible refine fork_t (by omega) ?_) | (with_reducible refine fork_f (by omega) ?_)
  | (with_reducible refine fork_d ?_ ?_ <;> intro hc)
  | (with_reducible refine fork_n ?_)
  | (with_reducible refine fork_b ?_ ?_ <;> intro hc)
  | (with_reducible refine SlcG.mk (by omega) ?_)
  | (with_reducible refine MakG.mk (by dsimp only; omega) ?_)
  | (with_reducible refine AppG.mk (by first | omega | (simp only [List.length_append, List.length_set, List.length_replicate, List.length_take, List.length_drop, List.length_cons, List.length_nil, List.length_map]; omega)) (by dsimp only [List.length_cons, List.length_nil]; omega) (by omega) ?_)
  | (with_reducible refine div_g (by omega) (by omega) (by dsimp only [inR]; omega) ?_)
  | (with_reducible refine mod_g (by omega) (by omega) ?_)
  | (with_reducible refine mask_g (m := 4294967296) 32 rfl rfl (by decide) (by omega) ?_)
  | (with_reducible refine shr_g (m := 4294967296) 32 rfl (by decide) (by omega) rfl ?_)
  | (with_reducible refine fz_all (by omega) ?_)
  | (with_reducible refine Stuck.h (A := RetE _ _) ?_) | (with_reducible refine Stuck.h (A := RetM _ _ _ _) ?_) | (with_reducible refine Stuck.h (A := Again _ _ _ _ _ _ _ _) ?_) | (with_reducible refine Stuck.h (A := CallF _ _ _ _ _ _ _) ?_) | (with_reducible refine Stuck.h (A := LoopG _ _ _ _ _ _ _ _) ?_) | (with_reducible refine Stuck.h (A := DrawG _ _ _ _ _ _ _ _) ?_)
  | (with_reducible refine Stuck.h (A := WrapG _ _ _) ?_) | (with_reducible refine Stuck.h (A := DivG _ _ _ _) ?_) | (with_reducible refine Stuck.h (A := ModG _ _ _) ?_) | (with_reducible refine Stuck.h (A := ShlG _ _ _ _) ?_) | (with_reducible refine Stuck.h (A := ShrG _ _ _ _) ?_) | (with_reducible refine Stuck.h (A := BitG _ _ _ _ _) ?_)
  | (with_reducible refine Stuck.h (A := IdxG _ _ _) ?_) | (with_reducible refine Stuck.h (A := IdxL _ _ _) ?_) | (with_reducible refine Stuck.h (A := SlcG _ _ _ _ _) ?_) | (with_reducible refine Stuck.h (A := MakG _ _ _ _) ?_) | (with_reducible refine Stuck.h (A := AppG _ _ _ _ _ _ _) ?_) | (with_reducible refine Stuck.h (A := FzG _ _ _ _) ?_)
  | (with_reducible refine Stuck.h (A := RawG _) ?_) | (with_reducible refine Stuck.h (A := TabG _ _ _ _ _) ?_) | (with_reducible refine Stuck.h (A := ExtF _ _ _ _) ?_) | (with_reducible refine Stuck.h (A := Chk _ _) ?_) | (with_reducible refine Stuck.h (A := False) ?_))
      exact ⟨ret_e rfl⟩
  · rw [if_neg hL]
    rw [natT_ok (by omega)] at f1
    have f5 := fun b => n_ntold (G := G) b V
    refine by_signN (a := n) (p := fun p => FC _ _ _ [p, _] _) (fun h1 => ?_) (fun h1 => ?_)
    all_goals refine by_signN (a := m) (p := fun p => FC _ _ _ [_, p] _) (fun h2 => ?_) (fun h2 => ?_)
    all_goals
      have hb : ∀ b c : Bool, b = decide (n < 0) → c = decide (m < 0) → sg (b != c) V = n * m := fun b c e1 e2 => hs _ (by rw [e1, e2])
      clear hs
      first | rw [ni_neg h1] at f0 | rw [ni_pos h1] at f0
      first | rw [ni_neg h2] at g0 | rw [ni_pos h2] at g0
      refine FC.intro (X := XX) tok Tryz.func40 rfl Tryz.ntmps40 (by rw [Tryz.results40]) (by kernel_rfl) rfl ?_; intro F hG hO
      rw [← hG] at f0 g0 f1 f5
      repeat' ((try (conv => whnf)); first
  | ((with_reducible refine cg ?_); refine call_eq (f0) (LpL.refl _) rfl ?_)
  | ((with_reducible refine cg ?_); refine call_eq (g0) (LpL.refl _) rfl ?_)
  | ((with_reducible refine cg ?_); refine call_eq (f1) (LpL.refl _) rfl ?_)
  | ((with_reducible refine cg ?_); refine call_eq (f5 _) (LpL.refl _) rfl ?_)
  
  | (with_reducible refine Chk.mk' (by first | omega | exact trivial | (simp only [List.length_append, List.length_set, List.length_replicate, List.length_take, List.length_drop, List.length_cons, List.length_nil, List.length_map]; omega)) ?_)
  | (with_reducible refine wrap_g (by dsimp only [inR]; omega) ?_)
  | (with_reducible refine idx_g (by omega) ?_)
  | (with_reducible refine idx_l _ rfl (by decide) ?_)
  | (with_reducible refine BothG.mk ?_ ?_)
  | (with_reducible refine fork_tt ?_) | (with_reducible refine fork_ff ?_)
  | (with_reducible refine fork_e (c := true) (by decide) ?_; with_reducible refine fork_tt ?_) | (with_reducible refine fork_e (c := false) (by decide) ?_; with_reducible refine fork_ff ?_)
  | (with_reducible refine fork_t (by omega) ?_) | (with_reducible refine fork_f (by omega) ?_)
  | (with_reducible refine fork_d ?_ ?_ <;> intro hc)
  | (with_reducible refine fork_n ?_)
  | (with_reducible refine fork_b ?_ ?_ <;> intro hc)
  | (with_reducible refine SlcG.mk (by omega) ?_)
  | (with_reducible refine MakG.mk (by dsimp only; omega) ?_)
  | (with_reducible refine AppG.mk (by first | omega | (simp only [List.length_append, List.length_set, List.length_replicate, List.length_take, List.length_drop, List.length_cons, List.length_nil, List.length_map]; omega)) (by dsimp only [List.length_cons, List.length_nil]; omega) (by omega) ?_)
  | (with_reducible refine div_g (by omega) (by omega) (by dsimp only [inR]; omega) ?_)
  | (with_reducible refine mod_g (by omega) (by omega) ?_)
  | (with_reducible refine mask_g (m := 4294967296) 32 rfl rfl (by decide) (by omega) ?_)
  | (with_reducible refine shr_g (m := 4294967296) 32 rfl (by decide) (by omega) rfl ?_)
  | (with_reducible refine fz_all (by omega) ?_)
  | (with_reducible refine Stuck.h (A := RetE _ _) ?_) | (with_reducible refine Stuck.h (A := RetM _ _ _ _) ?_) | (with_reducible refine Stuck.h (A := Again _ _ _ _ _ _ _ _) ?_) | (with_reducible refine Stuck.h (A := CallF _ _ _ _ _ _ _) ?_) | (with_reducible refine Stuck.h (A := LoopG _ _ _ _ _ _ _ _) ?_) | (with_reducible refine Stuck.h (A := DrawG _ _ _ _ _ _ _ _) ?_)
  | (with_reducible refine Stuck.h (A := WrapG _ _ _) ?_) | (with_reducible refine Stuck.h (A := DivG _ _ _ _) ?_) | (with_reducible refine Stuck.h (A := ModG _ _ _) ?_) | (with_reducible refine Stuck.h (A := ShlG _ _ _ _) ?_) | (with_reducible refine Stuck.h (A := ShrG _ _ _ _) ?_) | (with_reducible refine Stuck.h (A := BitG _ _ _ _ _) ?_)
  | (with_reducible refine Stuck.h (A := IdxG _ _ _) ?_) | (with_reducible refine Stuck.h (A := IdxL _ _ _) ?_) | (with_reducible refine Stuck.h (A := SlcG _ _ _ _ _) ?_) | (with_reducible refine Stuck.h (A := MakG _ _ _ _) ?_) | (with_reducible refine Stuck.h (A := AppG _ _ _ _ _ _ _) ?_) | (with_reducible refine Stuck.h (A := FzG _ _ _ _) ?_)
  | (with_reducible refine Stuck.h (A := RawG _) ?_) | (with_reducible refine Stuck.h (A := TabG _ _ _ _ _) ?_) | (with_reducible refine Stuck.h (A := ExtF _ _ _ _) ?_) | (with_reducible refine Stuck.h (A := Chk _ _) ?_) | (with_reducible refine Stuck.h (A := False) ?_))
      first
        | exact ⟨ret_e (numR_eq (hb true true (decide_eq_true (by omega)).symm (decide_eq_true (by omega)).symm))⟩
        | exact ⟨ret_e (numR_eq (hb true false (decide_eq_true (by omega)).symm (decide_eq_false (by omega)).symm))⟩
        | exact ⟨ret_e (numR_eq (hb false true (decide_eq_false (by omega)).symm (decide_eq_true (by omega)).symm))⟩
        | exact ⟨ret_e (numR_eq (hb false false (decide_eq_false (by omega)).symm (decide_eq_false (by omega)).symm))⟩
def mulS (n e m f : Int) : PV := if 8192 < L64 (n * m).natAbs then dyE 5 else toldS (n * m) (e + f)
theorem y_mul {g : List (Nat × List Value)} (hD : (0, debT.map (Value.int .u8)) ∈ g) {n e m f : Int} (h : Good n e) (k : Good m f) : FC Tryz.prog g 17 [DY n e, DY m f] (· = mulS n e m f) := by
  have f1 := y_form (G := g) h
  have f2 := y_form (G := g) k
  have e1 := h.2.1
  have e2 := h.2.2.1
  have e3 := k.2.1
  have e4 := k.2.2.1
  have f3 := n_nmul (G := g) n m h.1 k.1
  unfold nmulS at f3
  unfold mulS
  obtain ⟨v, hv⟩ : ∃ v, v = n * m := ⟨_, rfl⟩
  rw [← hv] at f3 ⊢
  by_cases hL : 8192 < L64 v.natAbs
  · rw [if_pos hL] at f3 ⊢
    refine FC.intro (X := XX) tok Tryz.func17 rfl Tryz.ntmps17 (by rw [Tryz.results17]) (by kernel_rfl) rfl ?_; intro F hG hO
    rw [← hG] at f1 f2 f3
    repeat' ((try (conv => whnf)); first
  | ((with_reducible refine cg ?_); refine call_eq (f1) (LpL.refl _) rfl ?_)
  | ((with_reducible refine cg ?_); refine call_eq (f2) (LpL.refl _) rfl ?_)
  | ((with_reducible refine cg ?_); refine call_eq (f3) (LpL.refl _) rfl ?_)
  
  | (with_reducible refine Chk.mk' (by first | omega | exact trivial | (simp only [List.length_append, List.length_set, List.length_replicate, List.length_take, List.length_drop, List.length_cons, List.length_nil, List.length_map]; omega)) ?_)
  | (with_reducible refine wrap_g (by dsimp only [inR]; omega) ?_)
  | (with_reducible refine idx_g (by omega) ?_)
  | (with_reducible refine idx_l _ rfl (by decide) ?_)
  | (with_reducible refine BothG.mk ?_ ?_)
  | (with_reducible refine fork_tt ?_) | (with_reducible refine fork_ff ?_)
  | (with_reducible refine fork_e (c := true) (by decide) ?_; with_reducible refine fork_tt ?_) | (with_reducible refine fork_e (c := false) (by decide) ?_; with_reducible refine fork_ff ?_)
  | (with_reducible refine fork_t (by omega) ?_) | (with_reducible refine fork_f (by omega) ?_)
  | (with_reducible refine fork_d ?_ ?_ <;> intro hc)
  | (with_reducible refine fork_n ?_)
  | (with_reducible refine fork_b ?_ ?_ <;> intro hc)
  | (with_reducible refine SlcG.mk (by omega) ?_)
  | (with_reducible refine MakG.mk (by dsimp only; omega) ?_)
  | (with_reducible refine AppG.mk (by first | omega | (simp only [List.length_append, List.length_set, List.length_replicate, List.length_take, List.length_drop, List.length_cons, List.length_nil, List.length_map]; omega)) (by dsimp only [List.length_cons, List.length_nil]; omega) (by omega) ?_)
  | (with_reducible refine div_g (by omega) (by omega) (by dsimp only [inR]; omega) ?_)
  | (with_reducible refine mod_g (by omega) (by omega) ?_)
  | (with_reducible refine mask_g (m := 4294967296) 32 rfl rfl (by decide) (by omega) ?_)
  | (with_reducible refine shr_g (m := 4294967296) 32 rfl (by decide) (by omega) rfl ?_)
  | (with_reducible refine fz_all (by omega) ?_)
  | (with_reducible refine Stuck.h (A := RetE _ _) ?_) | (with_reducible refine Stuck.h (A := RetM _ _ _ _) ?_) | (with_reducible refine Stuck.h (A := Again _ _ _ _ _ _ _ _) ?_) | (with_reducible refine Stuck.h (A := CallF _ _ _ _ _ _ _) ?_) | (with_reducible refine Stuck.h (A := LoopG _ _ _ _ _ _ _ _) ?_) | (with_reducible refine Stuck.h (A := DrawG _ _ _ _ _ _ _ _) ?_)
  | (with_reducible refine Stuck.h (A := WrapG _ _ _) ?_) | (with_reducible refine Stuck.h (A := DivG _ _ _ _) ?_) | (with_reducible refine Stuck.h (A := ModG _ _ _) ?_) | (with_reducible refine Stuck.h (A := ShlG _ _ _ _) ?_) | (with_reducible refine Stuck.h (A := ShrG _ _ _ _) ?_) | (with_reducible refine Stuck.h (A := BitG _ _ _ _ _) ?_)
  | (with_reducible refine Stuck.h (A := IdxG _ _ _) ?_) | (with_reducible refine Stuck.h (A := IdxL _ _ _) ?_) | (with_reducible refine Stuck.h (A := SlcG _ _ _ _ _) ?_) | (with_reducible refine Stuck.h (A := MakG _ _ _ _) ?_) | (with_reducible refine Stuck.h (A := AppG _ _ _ _ _ _ _) ?_) | (with_reducible refine Stuck.h (A := FzG _ _ _ _) ?_)
  | (with_reducible refine Stuck.h (A := RawG _) ?_) | (with_reducible refine Stuck.h (A := TabG _ _ _ _ _) ?_) | (with_reducible refine Stuck.h (A := ExtF _ _ _ _) ?_) | (with_reducible refine Stuck.h (A := Chk _ _) ?_) | (with_reducible refine Stuck.h (A := False) ?_))
    exact ⟨ret_l _ (lp_dyE 5) rfl⟩
  · rw [if_neg hL] at f3 ⊢
    have f4 := y_make hD v (e + f) (by omega) (by dsimp only [inR]; omega)
    obtain ⟨x, y, c, hr, hgd, hcc⟩ := told_form v (e + f)
    rw [hr] at f4 ⊢
    refine FC.intro (X := XX) tok Tryz.func17 rfl Tryz.ntmps17 (by rw [Tryz.results17]) (by kernel_rfl) rfl ?_; intro F hG hO
    rw [← hG] at f1 f2 f3 f4
    repeat' ((try (conv => whnf)); first
  | ((with_reducible refine cg ?_); refine call_eq (f1) (LpL.refl _) rfl ?_)
  | ((with_reducible refine cg ?_); refine call_eq (f2) (LpL.refl _) rfl ?_)
  | ((with_reducible refine cg ?_); refine call_eq (f3) (LpL.refl _) rfl ?_)
  | ((with_reducible refine cg ?_); refine call_eq (f4) (LpL.refl _) rfl ?_)
  
  | (with_reducible refine Chk.mk' (by first | omega | exact trivial | (simp only [List.length_append, List.length_set, List.length_replicate, List.length_take, List.length_drop, List.length_cons, List.length_nil, List.length_map]; omega)) ?_)
  | (with_reducible refine wrap_g (by dsimp only [inR]; omega) ?_)
  | (with_reducible refine idx_g (by omega) ?_)
  | (with_reducible refine idx_l _ rfl (by decide) ?_)
  | (with_reducible refine BothG.mk ?_ ?_)
  | (with_reducible refine fork_tt ?_) | (with_reducible refine fork_ff ?_)
  | (with_reducible refine fork_e (c := true) (by decide) ?_; with_reducible refine fork_tt ?_) | (with_reducible refine fork_e (c := false) (by decide) ?_; with_reducible refine fork_ff ?_)
  | (with_reducible refine fork_t (by omega) ?_) | (with_reducible refine fork_f (by omega) ?_)
  | (with_reducible refine fork_d ?_ ?_ <;> intro hc)
  | (with_reducible refine fork_n ?_)
  | (with_reducible refine fork_b ?_ ?_ <;> intro hc)
  | (with_reducible refine SlcG.mk (by omega) ?_)
  | (with_reducible refine MakG.mk (by dsimp only; omega) ?_)
  | (with_reducible refine AppG.mk (by first | omega | (simp only [List.length_append, List.length_set, List.length_replicate, List.length_take, List.length_drop, List.length_cons, List.length_nil, List.length_map]; omega)) (by dsimp only [List.length_cons, List.length_nil]; omega) (by omega) ?_)
  | (with_reducible refine div_g (by omega) (by omega) (by dsimp only [inR]; omega) ?_)
  | (with_reducible refine mod_g (by omega) (by omega) ?_)
  | (with_reducible refine mask_g (m := 4294967296) 32 rfl rfl (by decide) (by omega) ?_)
  | (with_reducible refine shr_g (m := 4294967296) 32 rfl (by decide) (by omega) rfl ?_)
  | (with_reducible refine fz_all (by omega) ?_)
  | (with_reducible refine Stuck.h (A := RetE _ _) ?_) | (with_reducible refine Stuck.h (A := RetM _ _ _ _) ?_) | (with_reducible refine Stuck.h (A := Again _ _ _ _ _ _ _ _) ?_) | (with_reducible refine Stuck.h (A := CallF _ _ _ _ _ _ _) ?_) | (with_reducible refine Stuck.h (A := LoopG _ _ _ _ _ _ _ _) ?_) | (with_reducible refine Stuck.h (A := DrawG _ _ _ _ _ _ _ _) ?_)
  | (with_reducible refine Stuck.h (A := WrapG _ _ _) ?_) | (with_reducible refine Stuck.h (A := DivG _ _ _ _) ?_) | (with_reducible refine Stuck.h (A := ModG _ _ _) ?_) | (with_reducible refine Stuck.h (A := ShlG _ _ _ _) ?_) | (with_reducible refine Stuck.h (A := ShrG _ _ _ _) ?_) | (with_reducible refine Stuck.h (A := BitG _ _ _ _ _) ?_)
  | (with_reducible refine Stuck.h (A := IdxG _ _ _) ?_) | (with_reducible refine Stuck.h (A := IdxL _ _ _) ?_) | (with_reducible refine Stuck.h (A := SlcG _ _ _ _ _) ?_) | (with_reducible refine Stuck.h (A := MakG _ _ _ _) ?_) | (with_reducible refine Stuck.h (A := AppG _ _ _ _ _ _ _) ?_) | (with_reducible refine Stuck.h (A := FzG _ _ _ _) ?_)
  | (with_reducible refine Stuck.h (A := RawG _) ?_) | (with_reducible refine Stuck.h (A := TabG _ _ _ _ _) ?_) | (with_reducible refine Stuck.h (A := ExtF _ _ _ _) ?_) | (with_reducible refine Stuck.h (A := Chk _ _) ?_) | (with_reducible refine Stuck.h (A := False) ?_))
    exact ⟨ret_e rfl⟩
end Go.Proofs.YtbeocnjlepcglaaGreatDoor.Sim
namespace Go.Proofs.YtbeocnjlepcglaaGreatDoor.Sim
open Go.RowKit
set_option linter.unusedVariables false
set_option linter.unusedSimpArgs false
/-- Nought, or from 2^lo to below 2^(hi + 1). -/
def Fit (n e lo hi : Int) : Prop := n = 0 ∨ (lo ≤ e ∧ topN n e ≤ hi)
theorem Fit.mono {n e lo hi lo' hi' : Int} (h : Fit n e lo hi) (h1 : lo' ≤ lo) (h2 : hi ≤ hi') : Fit n e lo' hi' := by
  rcases h with h | h
  · exact .inl h
  · exact .inr ⟨by omega, by omega⟩
theorem Fit.neg {n e lo hi : Int} (h : Fit n e lo hi) : Fit (-n) e lo hi := by
  rcases h with h | h
  · exact .inl (by omega)
  · exact .inr ⟨h.1, by unfold topN at *; rw [Int.natAbs_neg]; exact h.2⟩
theorem shl_abs {n : Int} {a b : Nat} (h : bl n.natAbs + a ≤ b) : (n * 2 ^ a).natAbs < 2 ^ b := by
  rw [Int.natAbs_mul, Int.natAbs_pow, show Int.natAbs 2 = 2 from rfl]
  have h1 := lt_bl n.natAbs
  have h2 : n.natAbs * 2 ^ a < 2 ^ bl n.natAbs * 2 ^ a := Nat.mul_lt_mul_of_pos_right h1 (Nat.pow_pos (by decide))
  rw [← Nat.pow_add] at h2
  exact Nat.lt_of_lt_of_le h2 (Nat.pow_le_pow_right (by decide) h)
theorem add_ok {n e m f lo hi : Int} (h : Good n e) (g : Good m f) (b1 : Fit n e lo hi) (b2 : Fit m f lo hi) (hw : hi - lo ≤ 524286) (hlo : -1048576 ≤ lo) (hhi : hi + 1 ≤ 1048576) :
    ∃ z w, Good z w ∧ VV z w = VV n e + VV m f ∧ addS n e m f = dyR z w ∧ Fit z w lo (hi + 1) := by
  by_cases hn : n = 0
  · refine ⟨m, f, g, by rw [hn, VV_zero, Int.zero_add], ?_, b2.mono (Int.le_refl _) (by omega)⟩
    unfold addS
    rw [if_pos hn]
  by_cases hm : m = 0
  · refine ⟨n, e, h, by rw [hm, VV_zero, Int.add_zero], ?_, b1.mono (Int.le_refl _) (by omega)⟩
    unfold addS
    rw [if_neg hn, if_pos hm]
  have c1 := b1.resolve_left hn
  have c2 := b2.resolve_left hm
  have p1 := bl_pos (n := n.natAbs) (by omega)
  have p2 := bl_pos (n := m.natAbs) (by omega)
  have d1 : topN n e = e + (bl n.natAbs : Int) - 1 := rfl
  have d2 : topN m f = f + (bl m.natAbs : Int) - 1 := rfl
  have s1 := shl_abs (n := n) (a := (e - min e f).toNat) (b := (hi + 1 - min e f).toNat) (by omega)
  have s2 := shl_abs (n := m) (a := (f - min e f).toNat) (b := (hi + 1 - min e f).toNat) (by omega)
  have hV : VV (n * 2 ^ (e - min e f).toNat + m * 2 ^ (f - min e f).toNat) (min e f) = VV n e + VV m f := by
    rw [VV_add, ← VV_low (by omega) (by omega), ← VV_low (by omega) (by omega)]
  obtain ⟨s, hs⟩ : ∃ s, s = n * 2 ^ (e - min e f).toNat + m * 2 ^ (f - min e f).toNat := ⟨_, rfl⟩
  have hb : bl s.natAbs ≤ (hi + 1 - min e f).toNat + 1 := by
    refine bl_le ?_
    rw [Nat.pow_succ, hs]
    have := Int.natAbs_add_le (n * 2 ^ (e - min e f).toNat) (m * 2 ^ (f - min e f).toNat)
    omega
  rw [← hs] at hV
  have hL := L32_bl s.natAbs
  obtain ⟨z, w, g1, v1, t1, q1, i1, u1, a1⟩ := told_ex (s := s) (k := min e f) (by omega) (by have := h.2.2.1; have := g.2.2.1; omega) (by omega) (by omega)
  refine ⟨z, w, g1, by rw [v1, hV], ?_, ?_⟩
  · unfold addS
    rw [if_neg hn, if_neg hm, if_neg (by omega), ← hs, if_neg (by omega)]
    exact t1
  · rcases q1 with q1 | q1
    · exact .inl q1
    · by_cases hz : z = 0
      · exact .inl hz
      · exact .inr ⟨by omega, by have := u1.resolve_left hz; omega⟩
theorem VV_mul {n e m f : Int} (h1 : -1048576 ≤ e) (h2 : -1048576 ≤ f) (h3 : -1048576 ≤ e + f) : VV (n * m) (e + f) * 2 ^ 1048576 = VV n e * VV m f := by
  unfold VV
  have e1 : (2 : Int) ^ (e + f + 1048576).toNat * 2 ^ 1048576 = 2 ^ (e + 1048576).toNat * 2 ^ (f + 1048576).toNat := by
    rw [← Int.pow_add, ← Int.pow_add]
    congr 1
    omega
  rw [Int.mul_assoc (n * m), e1, Int.mul_assoc n m, Int.mul_left_comm m, ← Int.mul_assoc n]
theorem mul_ok {n e m f lo hi lo' hi' : Int} (h : Good n e) (g : Good m f) (b1 : Fit n e lo hi) (b2 : Fit m f lo' hi') (hw : hi - lo + (hi' - lo') ≤ 524280) (hlo : -1048576 ≤ lo + lo') (hhi : hi + hi' + 1 ≤ 1048576) :
    ∃ z w, Good z w ∧ VV z w * 2 ^ 1048576 = VV n e * VV m f ∧ mulS n e m f = dyR z w ∧ Fit z w (lo + lo') (hi + hi' + 1) := by
  by_cases hz : n = 0 ∨ m = 0
  · have h0 : n * m = 0 := by rcases hz with h | h <;> rw [h] <;> simp
    refine ⟨0, 0, Good.zero, ?_, ?_, .inl rfl⟩
    · rw [VV_zero, Int.zero_mul]
      rcases hz with h | h <;> rw [h, VV_zero] <;> simp
    · unfold mulS
      rw [h0, if_neg (by rw [show Int.natAbs 0 = 0 from rfl, L64, lenB_zero]; omega)]
      unfold toldS
      rw [if_pos rfl]
      rfl
  · have hn : n ≠ 0 := fun h => hz (.inl h)
    have hm : m ≠ 0 := fun h => hz (.inr h)
    have c1 := b1.resolve_left hn
    have c2 := b2.resolve_left hm
    have d1 : topN n e = e + (bl n.natAbs : Int) - 1 := rfl
    have d2 : topN m f = f + (bl m.natAbs : Int) - 1 := rfl
    have p1 := bl_pos (n := n.natAbs) (by omega)
    have p2 := bl_pos (n := m.natAbs) (by omega)
    have hb : bl (n * m).natAbs ≤ bl n.natAbs + bl m.natAbs := by
      refine bl_le ?_
      rw [Int.natAbs_mul, Nat.pow_add]
      exact Nat.mul_lt_mul'' (lt_bl _) (lt_bl _)
    have hL := L32_bl (n * m).natAbs
    have hL6 := L64_bl (n * m).natAbs
    obtain ⟨z, w, g1, v1, t1, q1, i1, u1, a1⟩ := told_ex (s := n * m) (k := e + f) (by omega) (by omega) (by omega) (by omega)
    refine ⟨z, w, g1, by rw [v1]; exact VV_mul h.2.1 g.2.1 (by omega), ?_, ?_⟩
    · unfold mulS
      rw [if_neg (by omega)]
      exact t1
    · rcases q1 with q1 | q1
      · exact .inl q1
      · by_cases hz : z = 0
        · exact .inl hz
        · exact .inr ⟨by omega, by have := u1.resolve_left hz; omega⟩
theorem dyR_of {n e m f : Int} (h : Good n e) (g : Good m f) (hV : VV n e = VV m f) : dyR n e = dyR m f := by
  obtain ⟨h1, h2⟩ := good_eq h g hV
  rw [h1, h2]
theorem cancelC {a b : Int} (h : a * 2 ^ 1048576 = b * 2 ^ 1048576) : a = b := Int.eq_of_mul_eq_mul_right (Int.ne_of_gt (p2_pos 1048576)) h
end Go.Proofs.YtbeocnjlepcglaaGreatDoor.Sim
namespace Go.Proofs.YtbeocnjlepcglaaGreatDoor.Sim
open Go.RowKit
set_option linter.unusedVariables false
set_option linter.unusedSimpArgs false
set_option maxRecDepth 10000
set_option maxHeartbeats 8000000
variable {G : List (Nat × List Value)}
/-- A quotient's floor, or its ceiling. -/
def rdv (aw : Bool) (x d : Nat) : Nat := match aw with
  | true => (x + d - 1) / d
  | false => x / d
theorem rdv_rdv (aw : Bool) (x d k : Nat) (hd : 0 < d) (hk : 0 < k) : rdv aw (rdv aw x d) k = rdv aw x (d * k) := by
  cases aw
  · exact Nat.div_div_eq_div_mul x d k
  · show ((x + d - 1) / d + k - 1) / k = (x + d * k - 1) / (d * k)
    rw [← Nat.div_div_eq_div_mul]
    congr 1
    have e : x + d * k - 1 = (x + d - 1) + d * (k - 1) := by
      have : d * k = d * (k - 1) + d := by rw [← Nat.mul_succ]; congr 1; omega
      omega
    rw [e, Nat.add_mul_div_left _ _ hd]
    generalize (x + d - 1) / d = q
    omega
theorem rdv_cancel (aw : Bool) (x d t : Nat) (ht : 0 < t) (hd : 0 < d) : rdv aw (x * t) (d * t) = rdv aw x d := by
  cases aw
  · exact Nat.mul_div_mul_right x d ht
  · show (x * t + d * t - 1) / (d * t) = (x + d - 1) / d
    rw [Nat.mul_comm d t, ← Nat.div_div_eq_div_mul]
    congr 1
    have e : x * t + t * d - 1 = (t - 1) + t * (x + d - 1) := by
      have h1 : t * (x + d) = t * (x + d - 1) + t := by rw [← Nat.mul_succ]; congr 1; omega
      rw [Nat.mul_add, Nat.mul_comm t x] at h1
      omega
    rw [e, Nat.add_mul_div_left _ _ ht, Nat.div_eq_of_lt (by omega), Nat.zero_add]
theorem rdv_exact (aw : Bool) (x t : Nat) (ht : 0 < t) : rdv aw (x * t) t = x := by
  have h := rdv_cancel aw x 1 t ht (by decide)
  rw [Nat.one_mul] at h
  rw [h]
  cases aw
  · exact Nat.div_one x
  · show (x + 1 - 1) / 1 = x
    rw [Nat.div_one]; omega
theorem rdv_ge (aw : Bool) (x d : Nat) (hd : 0 < d) : x / d ≤ rdv aw x d := by
  cases aw
  · exact Nat.le_refl _
  · exact Nat.div_le_div_right (by omega)
theorem rdv_up (aw : Bool) (x d : Nat) (hd : 0 < d) : rdv aw x d ≤ x / d + 1 := by
  cases aw
  · exact Nat.le_succ _
  · show (x + d - 1) / d ≤ _
    rw [← Nat.add_div_right x hd]
    exact Nat.div_le_div_right (by omega)
theorem rdv_le (aw : Bool) (x d : Nat) (hd : 0 < d) : rdv aw x d ≤ x := by
  cases aw
  · exact Nat.div_le_self _ _
  · show (x + d - 1) / d ≤ x
    by_cases h : x = 0
    · subst h; rw [Nat.div_eq_of_lt (by omega)]; exact Nat.le_refl _
    · refine Nat.div_le_of_le_mul ?_
      have h1 : 0 ≤ (d - 1) * (x - 1) := Nat.zero_le _
      have h2 : d * x = (d - 1) * (x - 1) + (d - 1) + x := by
        obtain ⟨a, rfl⟩ : ∃ a, d = a + 1 := ⟨d - 1, by omega⟩
        obtain ⟨b, rfl⟩ : ∃ b, x = b + 1 := ⟨x - 1, by omega⟩
        simp only [Nat.add_sub_cancel]
        rw [Nat.add_mul, Nat.mul_add]
        omega
      omega
theorem neg_fdiv_rdv (x d : Nat) (hd : 0 < d) : (-(x : Int)).fdiv (d : Int) = -((rdv true x d : Nat) : Int) := by
  rw [Int.fdiv_eq_ediv_of_nonneg _ (by omega)]
  show _ = -(((x + d - 1) / d : Nat) : Int)
  obtain ⟨c, hc⟩ : ∃ c, c = (x + d - 1) / d := ⟨_, rfl⟩
  have h1 := Nat.div_add_mod (x + d - 1) d
  have h2 := Nat.mod_lt (x + d - 1) hd
  rw [← hc] at h1 ⊢
  have h3 : ((d * c : Nat) : Int) = (d : Int) * (c : Int) := by simp
  exact (div_of (a := -(x : Int)) (b := (d : Int)) (q := -(c : Int)) (r := ((d * c : Nat) : Int) - x) (by omega) (by rw [h3, Int.mul_neg]; omega) (by omega) (by omega)).1
theorem pos_fdiv_rdv (x d : Nat) (hd : 0 < d) : ((x : Int)).fdiv (d : Int) = ((rdv false x d : Nat) : Int) := by
  rw [Int.fdiv_eq_ediv_of_nonneg _ (by omega)]
  show _ = ((x / d : Nat) : Int)
  rw [Int.natCast_ediv]
def docQ (n m : Int) (s : Nat) (up : Bool) : Int := match up with
  | true => -((-(n * 2 ^ s)).fdiv m)
  | false => (n * 2 ^ s).fdiv m
theorem fdiv_sg (a b : Bool) (x d : Nat) (hd : 0 < d) : (sg a x).fdiv (sg b d) = sg (a != b) (rdv (a != b) x d) := by
  cases a <;> cases b
  · exact pos_fdiv_rdv x d hd
  · show ((x : Int)).fdiv (-(d : Int)) = -((rdv true x d : Nat) : Int)
    rw [← neg_fdiv_rdv x d hd, ← Int.neg_fdiv_neg, Int.neg_neg]
  · exact neg_fdiv_rdv x d hd
  · show (-(x : Int)).fdiv (-(d : Int)) = ((rdv false x d : Nat) : Int)
    rw [Int.neg_fdiv_neg]
    exact pos_fdiv_rdv x d hd
theorem neg_sg (a : Bool) (x : Nat) : -(sg a x) = sg (!a) x := by cases a <;> simp [sg]
theorem docQ_eq (n m : Int) (s : Nat) (up : Bool) (hm : m ≠ 0) : docQ n m s up = sg (decide (n < 0) != decide (m < 0)) (rdv (up != (decide (n < 0) != decide (m < 0))) (n.natAbs * 2 ^ s) m.natAbs) := by
  have hd : 0 < m.natAbs := by omega
  have hn := sg_of n
  have hm2 := sg_of m
  obtain ⟨a, ha⟩ : ∃ a, a = decide (n < 0) := ⟨_, rfl⟩
  obtain ⟨b, hb⟩ : ∃ b, b = decide (m < 0) := ⟨_, rfl⟩
  obtain ⟨x, hx⟩ : ∃ x, x = n.natAbs := ⟨_, rfl⟩
  obtain ⟨d, hd2⟩ : ∃ d, d = m.natAbs := ⟨_, rfl⟩
  rw [← ha, ← hx] at hn
  rw [← hb, ← hd2] at hm2
  rw [← hd2] at hd
  rw [← ha, ← hb, ← hx, ← hd2, ← hn, ← hm2]
  cases up
  · show (sg a x * 2 ^ s).fdiv (sg b d) = _
    rw [← sg_pow, fdiv_sg _ _ _ _ hd]
    simp
  · show -((-(sg a x * 2 ^ s)).fdiv (sg b d)) = _
    rw [← sg_pow, neg_sg, fdiv_sg _ _ _ _ hd, neg_sg]
    cases a <;> cases b <;> rfl
theorem whole_sg (neg up : Bool) (N : Nat) (k : Int) : wholeS (sg neg N) k up = sg neg (rdv (up != neg) N (2 ^ k.toNat)) := by
  have hp : 0 < 2 ^ k.toNat := Nat.pow_pos (by decide)
  have hP : (2 : Int) ^ k.toNat = ((2 ^ k.toNat : Nat) : Int) := by simp
  have h1 := pos_fdiv_rdv N (2 ^ k.toNat) hp
  have h2 := neg_fdiv_rdv N (2 ^ k.toNat) hp
  rw [Int.fdiv_eq_ediv_of_nonneg _ (by omega)] at h1 h2
  cases up <;> cases neg
  · show (N : Int) / 2 ^ k.toNat = _
    rw [hP, h1]; rfl
  · show (-(N : Int)) / 2 ^ k.toNat = _
    rw [hP, h2]; rfl
  · show -((-(N : Int)) / 2 ^ k.toNat) = _
    rw [hP, h2, Int.neg_neg]; rfl
  · show -((-(-(N : Int))) / 2 ^ k.toNat) = _
    rw [Int.neg_neg, hP, h1]; rfl
/-- A quotient, and one bit below it that tells whether anything is left. -/
def stk (y d : Nat) : Nat := 2 * (y / d) + (if y % d = 0 then 0 else 1)
theorem stk_rdv (aw : Bool) (y d j : Nat) (hd : 0 < d) (hj : 0 < j) : rdv aw (stk y d) (2 ^ j) = rdv aw y (d * 2 ^ (j - 1)) := by
  have hp : 0 < 2 ^ (j - 1) := Nat.pow_pos (by decide)
  have e : 2 ^ j = 2 * 2 ^ (j - 1) := by rw [Nat.mul_comm, ← Nat.pow_succ]; congr 1; omega
  rw [e, ← rdv_rdv aw _ 2 _ (by decide) hp, ← rdv_rdv aw y d _ hd hp]
  congr 1
  have h1 := Nat.div_add_mod y d
  have h2 := Nat.mod_lt y hd
  unfold stk
  obtain ⟨q, hq⟩ : ∃ q, q = y / d := ⟨_, rfl⟩
  obtain ⟨r, hr⟩ : ∃ r, r = y % d := ⟨_, rfl⟩
  rw [← hq, ← hr] at h1
  rw [← hr] at h2
  rw [← hq, ← hr]
  cases aw
  · show (2 * q + (if r = 0 then 0 else 1)) / 2 = y / d
    rw [← hq]
    split <;> omega
  · show (2 * q + (if r = 0 then 0 else 1) + 2 - 1) / 2 = (y + d - 1) / d
    split
    · have : (y + d - 1) / d = q := by
        rw [show y + d - 1 = (d - 1) + d * q by omega, Nat.add_mul_div_left _ _ hd, Nat.div_eq_of_lt (by omega), Nat.zero_add]
      omega
    · have : (y + d - 1) / d = q + 1 := by
        rw [show y + d - 1 = (r - 1) + d * (q + 1) by rw [Nat.mul_add]; omega, Nat.add_mul_div_left _ _ hd, Nat.div_eq_of_lt (by omega), Nat.zero_add]
      omega
theorem told_pow (neg : Bool) (p : Nat) (E : Int) (hp : 0 < p) (hE : -1099511627776 ≤ E) : toldS (sg neg (2 ^ p)) E = toldS (sg neg (2 ^ (p - 1))) (E + 1) := by
  have hne : ∀ k : Nat, sg neg (2 ^ k) ≠ 0 := fun k h => by
    have h1 := sg_abs neg (2 ^ k)
    rw [h] at h1
    have : 0 < 2 ^ k := Nat.pow_pos (by decide)
    simp at h1
    omega
  have htz : ∀ k : Nat, tz (2 ^ k) = k := fun k => tz_eq (m := 1) (by simp) (by decide)
  have hq : ∀ k : Nat, sg neg (2 ^ k) / 2 ^ k = sg neg 1 := fun k => by
    have := sg_pow 1 k neg
    rw [Nat.one_mul] at this
    rw [this]
    exact Int.mul_ediv_cancel _ (Int.ne_of_gt (Int.pow_pos (by decide)))
  have h1 : ∀ k : Nat, 2 ^ k / 2 ^ k = 1 := fun k => Nat.div_self (Nat.pow_pos (by decide))
  have hl : ¬ 16384 < L32 1 := by decide +kernel
  unfold toldS
  simp only [sg_abs, htz, hq, h1]
  rw [if_neg (hne p), if_neg (hne (p - 1)), if_neg (show ¬ E < -1099511627776 by omega), if_neg (show ¬ E + 1 < -1099511627776 by omega), if_neg hl, if_neg hl]
  rw [show E + 1 + ((p - 1 : Nat) : Int) = E + (p : Int) by omega]
  by_cases h2 : 1048576 < E + 1
  · rw [if_pos h2]
    split
    · rfl
    · rw [if_neg (by omega), if_pos (by omega)]
  · rw [if_neg h2, if_neg (by omega)]
/-- A quotient with a bit for what is left, cut, and the quotient rounded, cut. -/
theorem quo_same (neg up : Bool) (x d p t : Nat) (E : Int) (ht : t ≤ 1) (hp : 0 < p) (hF : 2 ^ p ≤ x / d) (hd : 0 < d) (hE : -1000000000000 ≤ E) :
    cutS (sg neg (stk (x * 2 ^ t) d)) (E - t - 1) p up = cutS (sg neg (rdv (up != neg) x d)) E p up := by
  obtain ⟨aw, haw⟩ : ∃ aw, aw = (up != neg) := ⟨_, rfl⟩
  rw [← haw]
  obtain ⟨F, hFe⟩ : ∃ F, F = x / d := ⟨_, rfl⟩
  obtain ⟨N, hN⟩ : ∃ N, N = rdv aw x d := ⟨_, rfl⟩
  have hge := rdv_ge aw x d hd
  have hup := rdv_up aw x d hd
  rw [← hFe] at hF hge hup
  rw [← hN] at hge hup ⊢
  have hFp : 0 < 2 ^ p := Nat.pow_pos (by decide)
  have hbF := bl_ge hF
  have hbN : p < bl N := bl_ge (Nat.le_trans hF hge)
  have htp : 0 < 2 ^ t := Nat.pow_pos (by decide)
  have hQ : x * 2 ^ t / d / 2 ^ t = F := by
    rw [Nat.div_div_eq_div_mul, Nat.mul_div_mul_right _ _ htp, hFe]
  have hbQ : bl (x * 2 ^ t / d) = t + bl F := by rw [bl_top _ t (by rw [hQ]; omega), hQ]
  have hM2 : stk (x * 2 ^ t) d / 2 ^ 1 = x * 2 ^ t / d := by
    unfold stk
    split <;> omega
  have hQ0 : x * 2 ^ t / d ≠ 0 := fun h => by rw [h] at hQ; simp at hQ; omega
  have hbM : bl (stk (x * 2 ^ t) d) = 1 + (t + bl F) := by rw [bl_top _ 1 (by rw [hM2]; exact hQ0), hM2, hbQ]
  obtain ⟨j, hj⟩ : ∃ j, j = bl F - p := ⟨_, rfl⟩
  have hR : rdv aw x (d * 2 ^ j) = rdv aw N (2 ^ j) := by rw [hN, rdv_rdv _ _ _ _ hd (Nat.pow_pos (by decide))]
  unfold cutS
  rw [sg_abs, sg_abs, hbM, if_neg (by omega), if_neg (by omega), whole_sg, whole_sg, ← haw]
  rw [show ((1 + (t + bl F) : Nat) : Int) - (p : Int) = ((1 + (t + j) : Nat) : Int) by omega, Int.toNat_natCast, stk_rdv _ _ _ _ hd (by omega)]
  rw [show 1 + (t + j) - 1 = j + t by omega, Nat.pow_add, ← Nat.mul_assoc, rdv_cancel _ _ _ _ htp (Nat.mul_pos hd (Nat.pow_pos (by decide))), hR]
  rw [show E - (t : Int) - 1 + ((1 + (t + j) : Nat) : Int) = E + (j : Int) by omega]
  by_cases hb : bl N = bl F
  · rw [hb, show ((bl F : Nat) : Int) - (p : Int) = (j : Int) by omega, Int.toNat_natCast]
  · have h1 := lt_bl F
    have h2 : bl F ≤ bl N := bl_mono hge
    have h3 : N = 2 ^ bl F := by
      rcases Nat.lt_or_ge N (2 ^ bl F) with h | h
      · exact absurd (Nat.le_antisymm (bl_le h) h2) hb
      · omega
    have h4 : bl N = bl F + 1 := by
      rw [h3]
      exact bl_eq (Nat.pow_lt_pow_right (by decide) (by omega)) (.inr (by simp))
    rw [h4, show ((bl F + 1 : Nat) : Int) - (p : Int) = ((j + 1 : Nat) : Int) by omega, Int.toNat_natCast, h3]
    have e1 : 2 ^ bl F = 2 ^ p * 2 ^ j := by rw [← Nat.pow_add]; congr 1; omega
    have e2 : 2 ^ bl F = 2 ^ (p - 1) * 2 ^ (j + 1) := by rw [← Nat.pow_add]; congr 1; omega
    rw [show rdv aw (2 ^ bl F) (2 ^ j) = 2 ^ p by rw [e1, rdv_exact _ _ _ (Nat.pow_pos (by decide))]]
    rw [show rdv aw (2 ^ bl F) (2 ^ (j + 1)) = 2 ^ (p - 1) by rw [e2, rdv_exact _ _ _ (Nat.pow_pos (by decide))]]
    rw [told_pow neg p _ hp (by omega)]
    congr 1
    omega
def quoK (n m p c : Int) : Int := max 0 (p + c + bl m.natAbs - bl n.natAbs)
def quoS (n e m f p : Int) (up : Bool) : PV := if p < 1 then dyE 1 else if 70000 < p then dyE 1 else if m = 0 then dyE 4 else if 4096 < L64 n.natAbs then dyE 5 else if 4096 < L64 m.natAbs then dyE 5
  else cutS (docQ n m (quoK n m p 1).toNat up) (e - f - quoK n m p 1) p up
theorem quoS_1 {n e m f p : Int} {up : Bool} (h : p < 1 ∨ 70000 < p) : quoS n e m f p up = dyE 1 := by
  unfold quoS
  split
  · rfl
  · rw [if_pos (by omega)]
theorem quoS_4 {n e m f p : Int} {up : Bool} (h : 1 ≤ p ∧ p ≤ 70000) (hm : m = 0) : quoS n e m f p up = dyE 4 := by
  unfold quoS
  rw [if_neg (by omega), if_neg (by omega), if_pos hm]
theorem quoS_5 {n e m f p : Int} {up : Bool} (h : 1 ≤ p ∧ p ≤ 70000) (hm : m ≠ 0) (hl : 4096 < L64 n.natAbs ∨ 4096 < L64 m.natAbs) : quoS n e m f p up = dyE 5 := by
  unfold quoS
  rw [if_neg (by omega), if_neg (by omega), if_neg hm]
  split
  · rfl
  · rw [if_pos (by omega)]
theorem quoS_ok {n e m f p : Int} {up : Bool} (h : 1 ≤ p ∧ p ≤ 70000) (hm : m ≠ 0) (hn4 : L64 n.natAbs ≤ 4096) (hm4 : L64 m.natAbs ≤ 4096) : quoS n e m f p up = cutS (docQ n m (quoK n m p 1).toNat up) (e - f - quoK n m p 1) p up := by
  unfold quoS
  rw [if_neg (by omega), if_neg (by omega), if_neg hm, if_neg (by omega), if_neg (by omega)]
theorem quo_form (n e m f p : Int) (up : Bool) : ∃ x y c, quoS n e m f p up = .tup [DY x y, .val (.int .i64 c)] ∧ Good x y := by
  unfold quoS
  repeat' split
  · exact ⟨0, 0, 1, rfl, Good.zero⟩
  · exact ⟨0, 0, 1, rfl, Good.zero⟩
  · exact ⟨0, 0, 4, rfl, Good.zero⟩
  · exact ⟨0, 0, 5, rfl, Good.zero⟩
  · exact ⟨0, 0, 5, rfl, Good.zero⟩
  · obtain ⟨x, y, c, h, g, _⟩ := cut_form (docQ n m (quoK n m p 1).toNat up) (e - f - quoK n m p 1) p up
    exact ⟨x, y, c, h, g⟩
/-- What the program cuts is what the document cuts. -/
theorem quo_code {n e m f p : Int} (up : Bool) (h : 1 ≤ p ∧ p ≤ 70000) (hm : m ≠ 0) (hn4 : bl n.natAbs ≤ 262144) (hm4 : bl m.natAbs ≤ 262144) (he : -1048576 ≤ e ∧ e ≤ 1048576) (hf : -1048576 ≤ f ∧ f ≤ 1048576) :
    cutS (sg (decide (n < 0) != decide (m < 0)) (stk (n.natAbs * 2 ^ (quoK n m p 2).toNat) m.natAbs)) (e - f - quoK n m p 2 - 1) p up = cutS (docQ n m (quoK n m p 1).toNat up) (e - f - quoK n m p 1) p up := by
  have hd : 0 < m.natAbs := by omega
  rw [docQ_eq _ _ _ _ hm]
  have hk1 : quoK n m p 1 = max 0 (p + 1 + bl m.natAbs - bl n.natAbs) := rfl
  have hk2 : quoK n m p 2 = max 0 (p + 2 + bl m.natAbs - bl n.natAbs) := rfl
  obtain ⟨k1, e1⟩ : ∃ k, k = quoK n m p 1 := ⟨_, rfl⟩
  obtain ⟨k2, e2⟩ : ∃ k, k = quoK n m p 2 := ⟨_, rfl⟩
  rw [← e1] at hk1 ⊢
  rw [← e2] at hk2 ⊢
  obtain ⟨neg, hneg⟩ : ∃ b, b = (decide (n < 0) != decide (m < 0)) := ⟨_, rfl⟩
  rw [← hneg]
  obtain ⟨P, rfl⟩ : ∃ P : Nat, p = (P : Int) := ⟨p.toNat, by omega⟩
  by_cases h0 : n = 0
  · subst h0
    have z1 : stk (Int.natAbs 0 * 2 ^ k2.toNat) m.natAbs = 0 := by
      unfold stk; simp
    have z2 : rdv (up != neg) (Int.natAbs 0 * 2 ^ k1.toNat) m.natAbs = 0 := by
      have := rdv_le (up != neg) (Int.natAbs 0 * 2 ^ k1.toNat) m.natAbs hd
      simp at this ⊢
      exact this
    rw [z1, z2]
    have z3 : sg neg 0 = 0 := by cases neg <;> rfl
    have z4 : ∀ E : Int, cutS 0 E (P : Int) up = dyE 0 := fun E => by
      unfold cutS
      rw [if_pos (by rw [show Int.natAbs 0 = 0 from rfl, bl_zero]; omega)]
      unfold toldS
      rw [if_pos rfl]
    rw [z3, z4, z4]
  · have hn0 : n.natAbs ≠ 0 := by omega
    obtain ⟨t, ht⟩ : ∃ t : Nat, t = (k2 - k1).toNat := ⟨_, rfl⟩
    have hk : k2.toNat = k1.toNat + t := by omega
    have hq := quo_same neg up (n.natAbs * 2 ^ k1.toNat) m.natAbs P t (e - f - k1) (by omega) (by omega) ?_ hd (by omega)
    · rw [hk, Nat.pow_add, ← Nat.mul_assoc, ← hq]
      congr 1
      omega
    · rw [Nat.le_div_iff_mul_le hd]
      have a1 := le_of_bl hn0
      have a2 := lt_bl m.natAbs
      have a3 : 2 ^ P * m.natAbs ≤ 2 ^ P * 2 ^ bl m.natAbs := Nat.mul_le_mul_left _ (Nat.le_of_lt a2)
      have a4 : 2 ^ (bl n.natAbs - 1) * 2 ^ k1.toNat ≤ n.natAbs * 2 ^ k1.toNat := Nat.mul_le_mul_right _ a1
      rw [← Nat.pow_add] at a3 a4
      have a5 : 2 ^ (P + bl m.natAbs) ≤ 2 ^ (bl n.natAbs - 1 + k1.toNat) := Nat.pow_le_pow_right (by decide) (by have := bl_pos hn0; omega)
      omega
end Go.Proofs.YtbeocnjlepcglaaGreatDoor.Sim
namespace Go.Proofs.YtbeocnjlepcglaaGreatDoor.Sim
open Go.RowKit
set_option linter.unusedVariables false
set_option linter.unusedSimpArgs false
set_option maxHeartbeats 8000000
theorem quo_cut (neg up : Bool) (x d p j : Nat) (E : Int) (hp : 0 < p) (hF : 2 ^ p ≤ x / d) (hd : 0 < d) (hE : -1000000000000 ≤ E) (hj : j = bl (x / d) - p) :
    cutS (sg neg (rdv (up != neg) x d)) E p up = toldS (sg neg (rdv (up != neg) x (d * 2 ^ j))) (E + (j : Int)) := by
  obtain ⟨aw, haw⟩ : ∃ aw, aw = (up != neg) := ⟨_, rfl⟩
  rw [← haw]
  obtain ⟨F, hFe⟩ : ∃ F, F = x / d := ⟨_, rfl⟩
  obtain ⟨N, hN⟩ : ∃ N, N = rdv aw x d := ⟨_, rfl⟩
  have hge := rdv_ge aw x d hd
  have hup := rdv_up aw x d hd
  rw [← hFe] at hF hge hup hj
  rw [← hN] at hge hup ⊢
  have hFp : 0 < 2 ^ p := Nat.pow_pos (by decide)
  have hbF := bl_ge hF
  have hbN : p < bl N := bl_ge (Nat.le_trans hF hge)
  have hR : rdv aw x (d * 2 ^ j) = rdv aw N (2 ^ j) := by rw [hN, rdv_rdv _ _ _ _ hd (Nat.pow_pos (by decide))]
  unfold cutS
  rw [sg_abs, if_neg (by omega), whole_sg, ← haw, hR]
  by_cases hb : bl N = bl F
  · rw [hb, show ((bl F : Nat) : Int) - (p : Int) = (j : Int) by omega, Int.toNat_natCast]
  · have h1 := lt_bl F
    have h2 : bl F ≤ bl N := bl_mono hge
    have h3 : N = 2 ^ bl F := by
      rcases Nat.lt_or_ge N (2 ^ bl F) with h | h
      · exact absurd (Nat.le_antisymm (bl_le h) h2) hb
      · omega
    have h4 : bl N = bl F + 1 := by
      rw [h3]
      exact bl_eq (Nat.pow_lt_pow_right (by decide) (by omega)) (.inr (by simp))
    rw [h4, show ((bl F + 1 : Nat) : Int) - (p : Int) = ((j + 1 : Nat) : Int) by omega, Int.toNat_natCast, h3]
    have e1 : 2 ^ bl F = 2 ^ p * 2 ^ j := by rw [← Nat.pow_add]; congr 1; omega
    have e2 : 2 ^ bl F = 2 ^ (p - 1) * 2 ^ (j + 1) := by rw [← Nat.pow_add]; congr 1; omega
    rw [show rdv aw (2 ^ bl F) (2 ^ j) = 2 ^ p by rw [e1, rdv_exact _ _ _ (Nat.pow_pos (by decide))]]
    rw [show rdv aw (2 ^ bl F) (2 ^ (j + 1)) = 2 ^ (p - 1) by rw [e2, rdv_exact _ _ _ (Nat.pow_pos (by decide))]]
    rw [told_pow neg p _ hp (by omega)]
    congr 1
    omega
theorem rdv_lo (X D : Nat) : rdv false X D * D ≤ X := Nat.div_mul_le_self X D
theorem rdv_hi (X D : Nat) (hD : 0 < D) : X ≤ rdv true X D * D := by
  show X ≤ (X + D - 1) / D * D
  have h1 := Nat.div_add_mod (X + D - 1) D
  have h2 := Nat.mod_lt (X + D - 1) hD
  rw [Nat.mul_comm] at h1
  omega
theorem rdv_two (X D : Nat) (hD : 0 < D) : (rdv true X D = rdv false X D ∧ rdv false X D * D = X) ∨ rdv true X D = rdv false X D + 1 := by
  have h1 := rdv_ge true X D hD
  have h2 := rdv_up true X D hD
  have h3 := rdv_lo X D
  have h4 := rdv_hi X D hD
  have h5 : rdv false X D = X / D := rfl
  rw [← h5] at h1 h2
  by_cases h : rdv true X D = rdv false X D
  · rw [h] at h4
    exact .inl ⟨h, Nat.le_antisymm h3 h4⟩
  · exact .inr (by omega)
theorem rdv_tops (X d p j : Nat) (hd : 0 < d) (hp : 0 < p) (hF : 2 ^ p ≤ X / d) (hj : j = bl (X / d) - p) :
    bl (rdv false X (d * 2 ^ j)) = p ∧ rdv true X (d * 2 ^ j) ≤ 2 ^ p ∧ p ≤ bl (rdv true X (d * 2 ^ j)) := by
  have hpos : 0 < 2 ^ j := Nat.pow_pos (by decide)
  have hA : rdv false X (d * 2 ^ j) = X / d / 2 ^ j := (Nat.div_div_eq_div_mul X d (2 ^ j)).symm
  have h1 := lt_bl (X / d)
  have h2 := bl_ge hF
  have h3 := le_of_bl (n := X / d) (Nat.ne_of_gt (Nat.lt_of_lt_of_le (Nat.pow_pos (by decide)) hF))
  rw [show bl (X / d) = p + j by omega, Nat.pow_add] at h1
  rw [show bl (X / d) - 1 = (p - 1) + j by omega, Nat.pow_add] at h3
  have h4 : 2 ^ (p - 1) ≤ X / d / 2 ^ j := (Nat.le_div_iff_mul_le hpos).2 h3
  have h5 : X / d / 2 ^ j < 2 ^ p := (Nat.div_lt_iff_lt_mul hpos).2 h1
  have h6 := rdv_ge true X (d * 2 ^ j) (Nat.mul_pos hd hpos)
  have h7 := rdv_up true X (d * 2 ^ j) (Nat.mul_pos hd hpos)
  have h8 : rdv false X (d * 2 ^ j) = X / (d * 2 ^ j) := rfl
  rw [← h8, hA] at h6 h7
  have h9 : bl (X / d / 2 ^ j) = p := bl_eq h5 (.inr h4)
  rw [hA]
  refine ⟨h9, by omega, ?_⟩
  have := bl_mono h6
  omega
theorem sg_le {a : Bool} {x y : Nat} (h : x ≤ y) : (a = false → sg a x ≤ sg a y) ∧ (a = true → sg a y ≤ sg a x) := by
  refine ⟨fun hh => ?_, fun hh => ?_⟩ <;> cases a <;> first | (exact absurd hh (by decide)) | (show (x : Int) ≤ y; omega) | (show -(y : Int) ≤ -(x : Int); omega)
theorem quo_val {s m K f T : Int} {j : Nat} (h1 : -1048576 ≤ K) (h2 : -1048576 ≤ f) (hT : 0 ≤ T) (hK : K + f + 2097152 = (j : Int) + T) : VV s K * VV m f = s * (m * 2 ^ j) * 2 ^ T.toNat := by
  unfold VV
  have e1 : (2 : Int) ^ (K + 1048576).toNat * 2 ^ (f + 1048576).toNat = 2 ^ j * 2 ^ T.toNat := by
    rw [← Int.pow_add, ← Int.pow_add]
    congr 1
    omega
  rw [Int.mul_assoc s, Int.mul_left_comm _ m, e1, ← Int.mul_assoc m, ← Int.mul_assoc s]
theorem num_val {n e T : Int} {k : Nat} (h1 : -1048576 ≤ e) (hT : 0 ≤ T) (hK : e + 2097152 = (k : Int) + T) : VV n e * 2 ^ 1048576 = n * 2 ^ k * 2 ^ T.toNat := by
  unfold VV
  have e1 : (2 : Int) ^ (e + 1048576).toNat * 2 ^ 1048576 = 2 ^ k * 2 ^ T.toNat := by
    rw [← Int.pow_add, ← Int.pow_add]
    congr 1
    omega
  rw [Int.mul_assoc n, e1, ← Int.mul_assoc n]
theorem le_cancelC {a b : Int} (h : a * 2 ^ 1048576 ≤ b * 2 ^ 1048576) : a ≤ b := Int.le_of_mul_le_mul_right h (p2_pos 1048576)
/-- What DyadicQuoted asks of a and b that are not nought. -/
def Quoted (n e m f p x y z w : Int) : Prop :=
  Good x y ∧ Good z w ∧ (bl x.natAbs : Int) ≤ p ∧ (bl z.natAbs : Int) ≤ p
    ∧ (∃ u v r s, mulS x y m f = dyR u v ∧ mulS z w m f = dyR r s ∧ Good u v ∧ Good r s ∧ (m < 0 → VV r s ≤ VV n e ∧ VV n e ≤ VV u v) ∧ (0 < m → VV u v ≤ VV n e ∧ VV n e ≤ VV r s) ∧ (x = z ∧ y = w → (u = n ∧ v = e) ∧ (r = n ∧ s = e)))
    ∧ (¬ (x = z ∧ y = w) → x ≠ 0 ∧ z ≠ 0 ∧ -1048576 ≤ min (topN x y) (topN z w) - p + 1 ∧ min (topN x y) (topN z w) - p + 1 ≤ 1048576 ∧ addS z w (-x) y = dyR 1 (min (topN x y) (topN z w) - p + 1))
theorem quoted_ok {n e m f p : Int} (h : Good n e) (g : Good m f) (b1 : Fit n e (-20000) 52000) (b2 : Fit m f (-20000) 52000) (hn : n ≠ 0) (hm : m ≠ 0) (hp : 1 ≤ p ∧ p ≤ 70000) :
    ∃ x y z w, quoS n e m f p false = dyR x y ∧ quoS n e m f p true = dyR z w ∧ Quoted n e m f p x y z w := by
  have c1 := b1.resolve_left hn
  have c2 := b2.resolve_left hm
  have d1 : topN n e = e + (bl n.natAbs : Int) - 1 := rfl
  have d2 : topN m f = f + (bl m.natAbs : Int) - 1 := rfl
  have p1 := bl_pos (n := n.natAbs) (by omega)
  have p2 := bl_pos (n := m.natAbs) (by omega)
  have hL1 := L64_bl n.natAbs
  have hL2 := L64_bl m.natAbs
  have hd : 0 < m.natAbs := by omega
  have hk1 : quoK n m p 1 = max 0 (p + 1 + bl m.natAbs - bl n.natAbs) := rfl
  rw [quoS_ok hp hm (by omega) (by omega), quoS_ok hp hm (by omega) (by omega), docQ_eq _ _ _ _ hm, docQ_eq _ _ _ _ hm]
  have hns := sg_of n
  have hms := sg_of m
  obtain ⟨k, hk⟩ : ∃ k, k = quoK n m p 1 := ⟨_, rfl⟩
  rw [← hk] at hk1 ⊢
  obtain ⟨a, ha⟩ : ∃ a, a = decide (n < 0) := ⟨_, rfl⟩
  obtain ⟨b, hb⟩ : ∃ b, b = decide (m < 0) := ⟨_, rfl⟩
  rw [← ha] at hns
  rw [← hb] at hms
  rw [← ha, ← hb]
  obtain ⟨P, hP⟩ : ∃ P : Nat, p = (P : Int) := ⟨p.toNat, by omega⟩
  obtain ⟨kn, hkn⟩ : ∃ kn : Nat, k = (kn : Int) := ⟨k.toNat, by omega⟩
  rw [hP, hkn, Int.toNat_natCast]
  obtain ⟨X, hX⟩ : ∃ X, X = n.natAbs * 2 ^ kn := ⟨_, rfl⟩
  obtain ⟨d, hdd⟩ : ∃ d, d = m.natAbs := ⟨_, rfl⟩
  have hF : 2 ^ P ≤ X / d := by
    rw [Nat.le_div_iff_mul_le (by omega), hX, hdd]
    have a1 := le_of_bl (n := n.natAbs) (by omega)
    have a2 := lt_bl m.natAbs
    have a3 : 2 ^ P * m.natAbs ≤ 2 ^ P * 2 ^ bl m.natAbs := Nat.mul_le_mul_left _ (Nat.le_of_lt a2)
    have a4 : 2 ^ (bl n.natAbs - 1) * 2 ^ kn ≤ n.natAbs * 2 ^ kn := Nat.mul_le_mul_right _ a1
    rw [← Nat.pow_add] at a3 a4
    have a5 : 2 ^ (P + bl m.natAbs) ≤ 2 ^ (bl n.natAbs - 1 + kn) := Nat.pow_le_pow_right (by decide) (by omega)
    omega
  have hbX : bl (X / d) ≤ bl n.natAbs + kn := by
    have a1 := bl_mono (Nat.div_le_self X d)
    have a2 : bl X = bl n.natAbs + kn := by rw [hX]; exact bl_mul_pow _ _ (by omega)
    omega
  rw [← hX, ← hdd]
  rw [← hdd] at hms hd
  obtain ⟨j, hj⟩ : ∃ j, j = bl (X / d) - P := ⟨_, rfl⟩
  have hbF := bl_ge hF
  obtain ⟨neg, hneg⟩ : ∃ neg, neg = (a != b) := ⟨_, rfl⟩
  rw [← hneg, quo_cut neg false X d P j _ (by omega) hF hd (by omega) hj, quo_cut neg true X d P j _ (by omega) hF hd (by omega) hj]
  obtain ⟨t1, t2, t3⟩ := rdv_tops X d P j hd (by omega) hF hj
  have hD : 0 < d * 2 ^ j := Nat.mul_pos hd (Nat.pow_pos (by decide))
  have s1 := rdv_lo X (d * 2 ^ j)
  have s2 := rdv_hi X (d * 2 ^ j) hD
  have s3 := rdv_two X (d * 2 ^ j) hD
  obtain ⟨A, hA⟩ : ∃ A, A = rdv false X (d * 2 ^ j) := ⟨_, rfl⟩
  obtain ⟨B, hB⟩ : ∃ B, B = rdv true X (d * 2 ^ j) := ⟨_, rfl⟩
  rw [← hA] at t1 s1 s3
  rw [← hB] at t2 t3 s2 s3
  obtain ⟨K, hK⟩ : ∃ K, K = e - f - (kn : Int) + (j : Int) := ⟨_, rfl⟩
  rw [← hK]
  have hA2 : A ≤ 2 ^ P := by rcases s3 with s3 | s3 <;> omega
  have hA0 : A ≠ 0 := fun h0 => by rw [h0, bl_zero] at t1; omega
  have hB0 : B ≠ 0 := fun h0 => by rw [h0, bl_zero] at t3; omega
  have hbB : bl B ≤ P + 1 := bl_le (Nat.lt_of_le_of_lt t2 (Nat.pow_lt_pow_right (by decide) (by omega)))
  obtain ⟨R, hR⟩ : ∃ R, R = (fun up : Bool => rdv (up != neg) X (d * 2 ^ j)) := ⟨_, rfl⟩
  have hR0 : rdv (false != neg) X (d * 2 ^ j) = R false := by rw [hR]
  have hR1 : rdv (true != neg) X (d * 2 ^ j) = R true := by rw [hR]
  rw [hR0, hR1]
  have hRR : (neg = false ∧ R false = A ∧ R true = B) ∨ (neg = true ∧ R false = B ∧ R true = A) := by
    cases hx : neg
    · exact .inl ⟨rfl, by rw [← hR0, hA, hx]; rfl, by rw [← hR1, hB, hx]; rfl⟩
    · exact .inr ⟨rfl, by rw [← hR0, hB, hx]; rfl, by rw [← hR1, hA, hx]; rfl⟩
  clear hR hR0 hR1
  obtain ⟨R0, hR0⟩ : ∃ R0, R0 = R false := ⟨_, rfl⟩
  obtain ⟨R1, hR1⟩ : ∃ R1, R1 = R true := ⟨_, rfl⟩
  rw [← hR0, ← hR1] at hRR ⊢
  clear hR0 hR1
  have hL3 := L32_bl R0
  have hL4 := L32_bl R1
  have hq0 : bl R0 ≤ P + 1 ∧ P ≤ bl R0 ∧ R0 ≤ 2 ^ P ∧ R0 ≠ 0 := by rcases hRR with ⟨_, r1, r2⟩ | ⟨_, r1, r2⟩ <;> subst r1 <;> omega
  have hq1 : bl R1 ≤ P + 1 ∧ P ≤ bl R1 ∧ R1 ≤ 2 ^ P ∧ R1 ≠ 0 := by rcases hRR with ⟨_, r1, r2⟩ | ⟨_, r1, r2⟩ <;> subst r2 <;> omega
  have hmin : min (bl R0) (bl R1) = P := by rcases hRR with ⟨_, r1, r2⟩ | ⟨_, r1, r2⟩ <;> subst r1 r2 <;> omega
  have hK1 : -300000 ≤ K := by omega
  have hK2 : K ≤ 300000 := by omega
  obtain ⟨x, y, g1, v1, u1, q1, i1, w1, a1⟩ := told_ex (s := sg neg R0) (k := K) (by omega) (by omega) (by rw [sg_abs]; omega) (by rw [sg_abs]; omega)
  obtain ⟨z, w, g2, v2, u2, q2, i2, w2, a2⟩ := told_ex (s := sg neg R1) (k := K) (by omega) (by omega) (by rw [sg_abs]; omega) (by rw [sg_abs]; omega)
  rw [sg_abs] at w1 w2 a1 a2
  have hx0 : x ≠ 0 := fun h0 => by have := sg_abs neg R0; rw [i1.2 h0] at this; simp at this; omega
  have hz0 : z ≠ 0 := fun h0 => by have := sg_abs neg R1; rw [i2.2 h0] at this; simp at this; omega
  replace w1 := w1.resolve_left hx0
  replace w2 := w2.resolve_left hz0
  replace q1 := q1.resolve_left hx0
  replace q2 := q2.resolve_left hz0
  have o1 := odd_bl (g1.2.2.2.2 hx0) (m := P) (by omega) (by omega)
  have o2 := odd_bl (g2.2.2.2.2 hz0) (m := P) (by omega) (by omega)
  have f1 : Fit x y K (K + P) := .inr ⟨q1, by omega⟩
  have f2 : Fit z w K (K + P) := .inr ⟨q2, by omega⟩
  obtain ⟨U, V, g3, v3, u3, _⟩ := mul_ok g1 g f1 b2 (by omega) (by omega) (by omega)
  obtain ⟨S, T, g4, v4, u4, _⟩ := mul_ok g2 g f2 b2 (by omega) (by omega) (by omega)
  have nv := num_val (n := n) (e := e) (T := e + 2097152 - (kn : Int)) (k := kn) (by omega) (by omega) (by omega)
  rw [v1, quo_val (T := e + 2097152 - (kn : Int)) (j := j) (by omega) (by omega) (by omega) (by omega)] at v3
  rw [v2, quo_val (T := e + 2097152 - (kn : Int)) (j := j) (by omega) (by omega) (by omega) (by omega)] at v4
  have hnb : (neg != b) = a := by rw [hneg]; cases a <;> cases b <;> rfl
  rw [← hns, ← sg_pow, ← hX] at nv
  have e3 : sg neg R0 * (m * 2 ^ j) = sg a (R0 * (d * 2 ^ j)) := by rw [← hms, ← sg_pow, ← sg_mul, hnb]
  have e4 : sg neg R1 * (m * 2 ^ j) = sg a (R1 * (d * 2 ^ j)) := by rw [← hms, ← sg_pow, ← sg_mul, hnb]
  rw [e3] at v3
  rw [e4] at v4
  rw [hns] at nv
  have hG := p2_pos (e + 2097152 - (kn : Int)).toNat
  obtain ⟨GG, hGG⟩ : ∃ GG, GG = (2 : Int) ^ (e + 2097152 - (kn : Int)).toNat := ⟨_, rfl⟩
  rw [← hGG] at nv v3 v4 hG
  have cmp1 : ∀ {Y : Nat} {q r : Int}, VV q r * 2 ^ 1048576 = sg a Y * GG → sg a Y ≤ sg a X → VV q r ≤ VV n e := fun hh hl => le_cancelC (by rw [hh, nv]; exact Int.mul_le_mul_of_nonneg_right hl (Int.le_of_lt hG))
  have cmp2 : ∀ {Y : Nat} {q r : Int}, VV q r * 2 ^ 1048576 = sg a Y * GG → sg a X ≤ sg a Y → VV n e ≤ VV q r := fun hh hl => le_cancelC (by rw [hh, nv]; exact Int.mul_le_mul_of_nonneg_right hl (Int.le_of_lt hG))
  have cmp3 : ∀ {Y : Nat} {q r : Int}, VV q r * 2 ^ 1048576 = sg a Y * GG → Y = X → VV q r = VV n e := fun hh hl => cancelC (by rw [hh, nv, hl])
  have hV1 : topN 1 K = K := by unfold topN; rw [show bl (Int.natAbs 1) = 1 from rfl]; omega
  have mt : min (topN x y) (topN z w) - (P : Int) + 1 = K := by omega
  refine ⟨x, y, z, w, u1, u2, g1, g2, by omega, by omega, ⟨U, V, S, T, u3, u4, g3, g4, ?_, ?_, ?_⟩, ?_⟩
  · intro hlt
    have hb1 : b = true := by rw [hb]; exact decide_eq_true hlt
    rw [hb1] at hneg
    rcases hRR with ⟨r0, r1, r2⟩ | ⟨r0, r1, r2⟩
    · have ha1 : a = true := by rw [r0] at hneg; cases a <;> first | rfl | exact absurd hneg (by decide)
      exact ⟨cmp1 v4 ((sg_le (by rw [r2]; exact s2)).2 ha1), cmp2 v3 ((sg_le (by rw [r1]; exact s1)).2 ha1)⟩
    · have ha1 : a = false := by rw [r0] at hneg; cases a <;> first | rfl | exact absurd hneg (by decide)
      exact ⟨cmp1 v4 ((sg_le (by rw [r2]; exact s1)).1 ha1), cmp2 v3 ((sg_le (by rw [r1]; exact s2)).1 ha1)⟩
  · intro hlt
    have hb1 : b = false := by rw [hb]; exact decide_eq_false (by omega)
    rw [hb1] at hneg
    rcases hRR with ⟨r0, r1, r2⟩ | ⟨r0, r1, r2⟩
    · have ha1 : a = false := by rw [r0] at hneg; cases a <;> first | rfl | exact absurd hneg (by decide)
      exact ⟨cmp1 v3 ((sg_le (by rw [r1]; exact s1)).1 ha1), cmp2 v4 ((sg_le (by rw [r2]; exact s2)).1 ha1)⟩
    · have ha1 : a = true := by rw [r0] at hneg; cases a <;> first | rfl | exact absurd hneg (by decide)
      exact ⟨cmp1 v3 ((sg_le (by rw [r1]; exact s2)).2 ha1), cmp2 v4 ((sg_le (by rw [r2]; exact s1)).2 ha1)⟩
  · rintro ⟨hxz, hyw⟩
    have hs : sg neg R0 = sg neg R1 := by
      refine VV_inj (k := K) ?_
      rw [← v1, ← v2, hxz, hyw]
    have hRe : R0 = R1 := by have := congrArg Int.natAbs hs; rw [sg_abs, sg_abs] at this; exact this
    have hex : A * (d * 2 ^ j) = X ∧ A = B := by
      rcases s3 with s3 | s3
      · exact ⟨s3.2, s3.1.symm⟩
      · rcases hRR with ⟨_, r1, r2⟩ | ⟨_, r1, r2⟩ <;> omega
    have e5 : R0 * (d * 2 ^ j) = X := by rcases hRR with ⟨_, r1, r2⟩ | ⟨_, r1, r2⟩ <;> rw [r1] <;> first | exact hex.1 | (rw [← hex.2]; exact hex.1)
    have e6 : R1 * (d * 2 ^ j) = X := by rw [← hRe]; exact e5
    exact ⟨good_eq g3 h (cmp3 v3 e5), good_eq g4 h (cmp3 v4 e6)⟩
  · intro hne
    rw [mt]
    refine ⟨hx0, hz0, by omega, by omega, ?_⟩
    obtain ⟨o, q, g5, v5, u5, _⟩ := add_ok g2 g1.neg f2 f1.neg (by omega) (by omega) (by omega)
    rw [u5]
    refine dyR_of g5 (Good.one (by omega) (by omega)) ?_
    rw [v5, VV_neg, v1, v2]
    have hBA : B = A + 1 := by
      rcases s3 with s3 | s3
      · exfalso
        apply hne
        have : R0 = R1 := by rcases hRR with ⟨_, r1, r2⟩ | ⟨_, r1, r2⟩ <;> omega
        rw [this] at v1
        exact good_eq g1 g2 (by rw [v1, v2])
      · exact s3
    rw [← VV_neg, ← VV_add]
    congr 1
    rcases hRR with ⟨r0, r1, r2⟩ | ⟨r0, r1, r2⟩ <;> rw [r0, r1, r2, hBA] <;> simp only [sg] <;> omega
theorem mulS_zero {m f : Int} : mulS 0 0 m f = dyR 0 0 := by
  unfold mulS
  rw [Int.zero_mul, if_neg (by rw [show Int.natAbs 0 = 0 from rfl, L64, lenB_zero]; omega)]
  unfold toldS
  rw [if_pos rfl]
  rfl
theorem cutS_zero (E p : Int) (up : Bool) (hp : 1 ≤ p) : cutS 0 E p up = dyR 0 0 := by
  unfold cutS
  rw [if_pos (by rw [show Int.natAbs 0 = 0 from rfl, bl_zero]; omega)]
  unfold toldS
  rw [if_pos rfl]
  rfl
theorem docQ_zero (m : Int) (s : Nat) (up : Bool) : docQ 0 m s up = 0 := by
  cases up <;> simp [docQ]
theorem quoted_zero {e m f p : Int} (h : Good 0 e) (g : Good m f) (b2 : Fit m f (-20000) 52000) (hm : m ≠ 0) (hp : 1 ≤ p ∧ p ≤ 70000) :
    quoS 0 e m f p false = dyR 0 0 ∧ quoS 0 e m f p true = dyR 0 0 ∧ Quoted 0 e m f p 0 0 0 0 := by
  have c2 := b2.resolve_left hm
  have d2 : topN m f = f + (bl m.natAbs : Int) - 1 := rfl
  have hL2 := L64_bl m.natAbs
  have hL1 : L64 (Int.natAbs 0) ≤ 4096 := Nat.le_trans (L64_le (n := 1) (by decide)) (by decide)
  have he : e = 0 := h.2.2.2.1 rfl
  have hz : (bl (Int.natAbs 0) : Int) ≤ p := by rw [show Int.natAbs 0 = 0 from rfl, bl_zero]; omega
  subst he
  refine ⟨?_, ?_, Good.zero, Good.zero, hz, hz, ⟨0, 0, 0, 0, mulS_zero, mulS_zero, Good.zero, Good.zero, fun _ => ⟨Int.le_refl _, Int.le_refl _⟩, fun _ => ⟨Int.le_refl _, Int.le_refl _⟩, fun _ => ⟨⟨rfl, rfl⟩, ⟨rfl, rfl⟩⟩⟩, fun hh => absurd ⟨rfl, rfl⟩ hh⟩
  · rw [quoS_ok hp hm hL1 (by omega), docQ_zero, cutS_zero _ _ _ hp.1]
  · rw [quoS_ok hp hm hL1 (by omega), docQ_zero, cutS_zero _ _ _ hp.1]
theorem quoted_all {n e m f p : Int} (h : Good n e) (g : Good m f) (b1 : Fit n e (-20000) 52000) (b2 : Fit m f (-20000) 52000) (hm : m ≠ 0) (hp : 1 ≤ p ∧ p ≤ 70000) :
    ∃ x y z w, quoS n e m f p false = dyR x y ∧ quoS n e m f p true = dyR z w ∧ Quoted n e m f p x y z w := by
  by_cases hn : n = 0
  · subst hn
    exact ⟨0, 0, 0, 0, quoted_zero h g b2 hm hp⟩
  · exact quoted_ok h g b1 b2 hn hm hp
end Go.Proofs.YtbeocnjlepcglaaGreatDoor.Sim
namespace Go.Proofs.YtbeocnjlepcglaaGreatDoor.Sim
open Go.RowKit
set_option linter.unusedVariables false
set_option linter.unusedSimpArgs false
set_option maxRecDepth 10000
set_option maxHeartbeats 8000000
variable {G : List (Nat × List Value)}
theorem ofS_odd {m : Int} (h : m % 2 = 1) : ofS m = DY m 0 := by
  unfold ofS
  rw [tz_odd (n := m.natAbs) (by omega), Int.pow_zero, show ((0 : Nat) : Int) = 0 from rfl, Int.ediv_one]
theorem Good.small {m e : Int} (hm : m % 2 = 1) (hb : -1000 ≤ m ∧ m ≤ 1000) (he : -1048576 ≤ e ∧ e ≤ 1048576) : Good m e :=
  ⟨Nat.le_trans (L64_le (n := 1) (show m.natAbs < 2 ^ (64 * 1) by omega)) (by decide), he.1, he.2, fun h => by omega, fun _ => hm⟩
theorem scale_odd {m e : Int} (h : Good m e) (h0 : m ≠ 0) : scaleS m 0 e = dyR m e := by
  have := h.2.1
  have := h.2.2.1
  unfold scaleS
  rw [if_neg h0, if_neg (by omega), if_neg (by omega), Int.zero_add]
  exact told_good h
theorem l_num (m e : Int) (hm : m % 2 = 1) (hb : -1000 ≤ m ∧ m ≤ 1000) (he : -1048576 ≤ e ∧ e ≤ 1048576) : FC Tryz.prog G 11 [.val (.int .i64 m), .val (.int .i64 e)] (· = DY m e) := by
  have f1 := r_docof (G := G) m (by dsimp only [inR]; omega)
  rw [ofS_odd hm] at f1
  have f2 := r_docscale (G := G) e (Good.small (e := 0) hm hb (by decide)) (by dsimp only [inR]; omega)
  rw [scale_odd (Good.small hm hb he) (by omega)] at f2
  refine FC.intro (X := XX) tok Tryz.func11 rfl Tryz.ntmps11 (by rw [Tryz.results11]) (by kernel_rfl) rfl ?_; intro F hG hO
  rw [← hG] at f1 f2
  repeat' ((try (conv => whnf)); first
  | ((with_reducible refine cg ?_); refine call_eq (f1) (LpL.refl _) rfl ?_)
  | ((with_reducible refine cg ?_); refine call_eq (f2) (LpL.refl _) rfl ?_)
  
  | (with_reducible refine Chk.mk' (by first | omega | exact trivial | (simp only [List.length_append, List.length_set, List.length_replicate, List.length_take, List.length_drop, List.length_cons, List.length_nil, List.length_map]; omega)) ?_)
  | (with_reducible refine wrap_g (by dsimp only [inR]; omega) ?_)
  | (with_reducible refine idx_g (by omega) ?_)
  | (with_reducible refine idx_l _ rfl (by decide) ?_)
  | (with_reducible refine BothG.mk ?_ ?_)
  | (with_reducible refine fork_tt ?_) | (with_reducible refine fork_ff ?_)
  | (with_reducible refine fork_e (c := true) (by decide) ?_; with_reducible refine fork_tt ?_) | (with_reducible refine fork_e (c := false) (by decide) ?_; with_reducible refine fork_ff ?_)
  | (with_reducible refine fork_t (by omega) ?_) | (with_reducible refine fork_f (by omega) ?_)
  | (with_reducible refine fork_d ?_ ?_ <;> intro hc)
  | (with_reducible refine fork_n ?_)
  | (with_reducible refine fork_b ?_ ?_ <;> intro hc)
  | (with_reducible refine SlcG.mk (by omega) ?_)
  | (with_reducible refine MakG.mk (by dsimp only; omega) ?_)
  | (with_reducible refine AppG.mk (by first | omega | (simp only [List.length_append, List.length_set, List.length_replicate, List.length_take, List.length_drop, List.length_cons, List.length_nil, List.length_map]; omega)) (by dsimp only [List.length_cons, List.length_nil]; omega) (by omega) ?_)
  | (with_reducible refine div_g (by omega) (by omega) (by dsimp only [inR]; omega) ?_)
  | (with_reducible refine mod_g (by omega) (by omega) ?_)
  | (with_reducible refine mask_g (m := 4294967296) 32 rfl rfl (by decide) (by omega) ?_)
  | (with_reducible refine shr_g (m := 4294967296) 32 rfl (by decide) (by omega) rfl ?_)
  | (with_reducible refine fz_all (by omega) ?_)
  | (with_reducible refine Stuck.h (A := RetE _ _) ?_) | (with_reducible refine Stuck.h (A := RetM _ _ _ _) ?_) | (with_reducible refine Stuck.h (A := Again _ _ _ _ _ _ _ _) ?_) | (with_reducible refine Stuck.h (A := CallF _ _ _ _ _ _ _) ?_) | (with_reducible refine Stuck.h (A := LoopG _ _ _ _ _ _ _ _) ?_) | (with_reducible refine Stuck.h (A := DrawG _ _ _ _ _ _ _ _) ?_)
  | (with_reducible refine Stuck.h (A := WrapG _ _ _) ?_) | (with_reducible refine Stuck.h (A := DivG _ _ _ _) ?_) | (with_reducible refine Stuck.h (A := ModG _ _ _) ?_) | (with_reducible refine Stuck.h (A := ShlG _ _ _ _) ?_) | (with_reducible refine Stuck.h (A := ShrG _ _ _ _) ?_) | (with_reducible refine Stuck.h (A := BitG _ _ _ _ _) ?_)
  | (with_reducible refine Stuck.h (A := IdxG _ _ _) ?_) | (with_reducible refine Stuck.h (A := IdxL _ _ _) ?_) | (with_reducible refine Stuck.h (A := SlcG _ _ _ _ _) ?_) | (with_reducible refine Stuck.h (A := MakG _ _ _ _) ?_) | (with_reducible refine Stuck.h (A := AppG _ _ _ _ _ _ _) ?_) | (with_reducible refine Stuck.h (A := FzG _ _ _ _) ?_)
  | (with_reducible refine Stuck.h (A := RawG _) ?_) | (with_reducible refine Stuck.h (A := TabG _ _ _ _ _) ?_) | (with_reducible refine Stuck.h (A := ExtF _ _ _ _) ?_) | (with_reducible refine Stuck.h (A := Chk _ _) ?_) | (with_reducible refine Stuck.h (A := False) ?_))
  exact ⟨ret_e rfl⟩
theorem sameB_t (b : Bool) (l : List Int) (e : Int) : sameB b l e b l e = true := by unfold sameB; simp
theorem r_same_t {n e : Int} (h : Good n e) : FC Tryz.prog G 20 [DY n e, DY n e] (· = .val (.bool true)) := by
  have := r_dsame (G := G) (decide (n < 0)) (d64 n.natAbs) e (decide (n < 0)) (d64 n.natAbs) e (Nat.le_trans h.1 (by decide))
  rw [sameB_t] at this
  exact this
theorem sameB_dec (n e m f : Int) : sameB (decide (n < 0)) (d64 n.natAbs) e (decide (m < 0)) (d64 m.natAbs) f = decide (n = m ∧ e = f) := by
  by_cases h : n = m ∧ e = f
  · rw [h.1, h.2, sameB_t, decide_eq_true ⟨rfl, rfl⟩]
  · rw [decide_eq_false h]
    have h2 : ¬ (decide (n < 0) = decide (m < 0) ∧ e = f ∧ d64 n.natAbs = d64 m.natAbs) := by
      rintro ⟨h1, h3, h4⟩
      apply h
      apply DY_inj
      unfold DY
      rw [h1, h3, h4]
    unfold sameB
    cases hx : ((decide (n < 0) == decide (m < 0)) && decide (e = f) && decide (d64 n.natAbs = d64 m.natAbs)) with
    | false => rfl
    | true =>
      simp only [Bool.and_eq_true, beq_iff_eq, decide_eq_true_eq] at hx
      exact absurd ⟨hx.1.1, hx.1.2, hx.2⟩ h2
theorem r_same_d {n e m f : Int} (h : Good n e) : FC Tryz.prog G 20 [DY n e, DY m f] (· = .val (.bool (decide (n = m ∧ e = f)))) := by
  have := r_dsame (G := G) (decide (n < 0)) (d64 n.natAbs) e (decide (m < 0)) (d64 m.natAbs) f (Nat.le_trans h.1 (by decide))
  rw [sameB_dec] at this
  exact this
theorem l_told {n e : Int} (c : Int) (h : Good n e) : FC Tryz.prog G 25 [DY n e, .val (.int .i64 c), DY n e, .val (.int .i64 c)] (· = .val (.bool true)) := by
  have f1 := r_same_t (G := G) h
  refine FC.intro (X := XX) tok Tryz.func25 rfl Tryz.ntmps25 (by rw [Tryz.results25]) (by kernel_rfl) rfl ?_; intro F hG hO
  rw [← hG] at f1
  repeat' ((try (conv => whnf)); first
  | ((with_reducible refine cg ?_); refine call_eq (f1) (LpL.refl _) rfl ?_)
  
  | (with_reducible refine Chk.mk' (by first | omega | exact trivial | (simp only [List.length_append, List.length_set, List.length_replicate, List.length_take, List.length_drop, List.length_cons, List.length_nil, List.length_map]; omega)) ?_)
  | (with_reducible refine wrap_g (by dsimp only [inR]; omega) ?_)
  | (with_reducible refine idx_g (by omega) ?_)
  | (with_reducible refine idx_l _ rfl (by decide) ?_)
  | (with_reducible refine BothG.mk ?_ ?_)
  | (with_reducible refine fork_tt ?_) | (with_reducible refine fork_ff ?_)
  | (with_reducible refine fork_e (c := true) (by decide) ?_; with_reducible refine fork_tt ?_) | (with_reducible refine fork_e (c := false) (by decide) ?_; with_reducible refine fork_ff ?_)
  | (with_reducible refine fork_t (by omega) ?_) | (with_reducible refine fork_f (by omega) ?_)
  | (with_reducible refine fork_d ?_ ?_ <;> intro hc)
  | (with_reducible refine fork_n ?_)
  | (with_reducible refine fork_b ?_ ?_ <;> intro hc)
  | (with_reducible refine SlcG.mk (by omega) ?_)
  | (with_reducible refine MakG.mk (by dsimp only; omega) ?_)
  | (with_reducible refine AppG.mk (by first | omega | (simp only [List.length_append, List.length_set, List.length_replicate, List.length_take, List.length_drop, List.length_cons, List.length_nil, List.length_map]; omega)) (by dsimp only [List.length_cons, List.length_nil]; omega) (by omega) ?_)
  | (with_reducible refine div_g (by omega) (by omega) (by dsimp only [inR]; omega) ?_)
  | (with_reducible refine mod_g (by omega) (by omega) ?_)
  | (with_reducible refine mask_g (m := 4294967296) 32 rfl rfl (by decide) (by omega) ?_)
  | (with_reducible refine shr_g (m := 4294967296) 32 rfl (by decide) (by omega) rfl ?_)
  | (with_reducible refine fz_all (by omega) ?_)
  | (with_reducible refine Stuck.h (A := RetE _ _) ?_) | (with_reducible refine Stuck.h (A := RetM _ _ _ _) ?_) | (with_reducible refine Stuck.h (A := Again _ _ _ _ _ _ _ _) ?_) | (with_reducible refine Stuck.h (A := CallF _ _ _ _ _ _ _) ?_) | (with_reducible refine Stuck.h (A := LoopG _ _ _ _ _ _ _ _) ?_) | (with_reducible refine Stuck.h (A := DrawG _ _ _ _ _ _ _ _) ?_)
  | (with_reducible refine Stuck.h (A := WrapG _ _ _) ?_) | (with_reducible refine Stuck.h (A := DivG _ _ _ _) ?_) | (with_reducible refine Stuck.h (A := ModG _ _ _) ?_) | (with_reducible refine Stuck.h (A := ShlG _ _ _ _) ?_) | (with_reducible refine Stuck.h (A := ShrG _ _ _ _) ?_) | (with_reducible refine Stuck.h (A := BitG _ _ _ _ _) ?_)
  | (with_reducible refine Stuck.h (A := IdxG _ _ _) ?_) | (with_reducible refine Stuck.h (A := IdxL _ _ _) ?_) | (with_reducible refine Stuck.h (A := SlcG _ _ _ _ _) ?_) | (with_reducible refine Stuck.h (A := MakG _ _ _ _) ?_) | (with_reducible refine Stuck.h (A := AppG _ _ _ _ _ _ _) ?_) | (with_reducible refine Stuck.h (A := FzG _ _ _ _) ?_)
  | (with_reducible refine Stuck.h (A := RawG _) ?_) | (with_reducible refine Stuck.h (A := TabG _ _ _ _ _) ?_) | (with_reducible refine Stuck.h (A := ExtF _ _ _ _) ?_) | (with_reducible refine Stuck.h (A := Chk _ _) ?_) | (with_reducible refine Stuck.h (A := False) ?_))
  exact ⟨ret_e (bv_eq (decide_eq_true rfl))⟩
theorem add_awake : addS 3 0 1 (-2) = dyR 13 (-2) := by
  unfold addS
  rw [if_neg (by decide), if_neg (by decide), if_neg (by decide +kernel), if_neg (by decide +kernel)]
  exact told_good (Good.small (by decide) (by decide) (by decide))
theorem cmp_awake : cmpS (-1) 4 1 (-9) = -1 := by unfold cmpS; rw [if_pos (.inl (by decide))]; decide
theorem ofS_12 : ofS 12 = DY 3 2 := by
  unfold ofS
  rw [show tz (Int.natAbs 12) = 2 from tz_eq (m := 3) rfl rfl]
  rfl
theorem l_awake {g : List (Nat × List Value)} (hD : (0, debT.map (Value.int .u8)) ∈ g) : FC Tryz.prog g 13 [] (· = .val (.bool true)) := by
  have n1 := l_num (G := g) 3 0 (by decide) (by decide) (by decide)
  have n2 := l_num (G := g) 1 (-2) (by decide) (by decide) (by decide)
  have n3 := l_num (G := g) (-1) 4 (by decide) (by decide) (by decide)
  have n4 := l_num (G := g) 1 (-9) (by decide) (by decide) (by decide)
  have n5 := l_num (G := g) 13 (-2) (by decide) (by decide) (by decide)
  have n6 := l_num (G := g) 3 2 (by decide) (by decide) (by decide)
  have f1 := y_add hD (Good.small (m := 3) (e := 0) (by decide) (by decide) (by decide)) (Good.small (m := 1) (e := -2) (by decide) (by decide) (by decide))
  rw [add_awake] at f1
  have f2 := y_cmp (G := g) (Good.small (m := -1) (e := 4) (by decide) (by decide) (by decide)) (Good.small (m := 1) (e := -9) (by decide) (by decide) (by decide))
  rw [cmp_awake] at f2
  have f3 := y_of hD 12 (by dsimp only [inR]; omega)
  rw [ofS_12] at f3
  have f4 := r_same_t (G := g) (Good.small (m := 3) (e := 2) (by decide) (by decide) (by decide))
  have f5 := l_told (G := g) 0 (Good.small (m := 13) (e := -2) (by decide) (by decide) (by decide))
  refine FC.intro (X := XX) tok Tryz.func13 rfl Tryz.ntmps13 (by rw [Tryz.results13]) (by kernel_rfl) rfl ?_; intro F hG hO
  rw [← hG] at n1 n2 n3 n4 n5 n6 f1 f2 f3 f4 f5
  repeat' ((try (conv => whnf)); first
  | ((with_reducible refine cg ?_); refine call_eq (n1) (LpL.refl _) rfl ?_)
  | ((with_reducible refine cg ?_); refine call_eq (n2) (LpL.refl _) rfl ?_)
  | ((with_reducible refine cg ?_); refine call_eq (n3) (LpL.refl _) rfl ?_)
  | ((with_reducible refine cg ?_); refine call_eq (n4) (LpL.refl _) rfl ?_)
  | ((with_reducible refine cg ?_); refine call_eq (n5) (LpL.refl _) rfl ?_)
  | ((with_reducible refine cg ?_); refine call_eq (n6) (LpL.refl _) rfl ?_)
  | ((with_reducible refine cg ?_); refine call_eq (f1) (LpL.refl _) rfl ?_)
  | ((with_reducible refine cg ?_); refine call_eq (f2) (LpL.refl _) rfl ?_)
  | ((with_reducible refine cg ?_); refine call_eq (f3) (LpL.refl _) rfl ?_)
  | ((with_reducible refine cg ?_); refine call_eq (f4) (LpL.refl _) rfl ?_)
  | ((with_reducible refine cg ?_); refine call_eq (f5) (LpL.refl _) rfl ?_)
  
  | (with_reducible refine draw_g (id := 3) [[0, 1, 2, 3, 4, 5, 6, 7, 8, 9, 10, 11, 12, 13, 14, 15, 16, 17]] tok mixed (by kernel_rfl) ?_)
  | (with_reducible refine Chk.mk' (by first | omega | exact trivial | (simp only [List.length_append, List.length_set, List.length_replicate, List.length_take, List.length_drop, List.length_cons, List.length_nil, List.length_map]; omega)) ?_)
  | (with_reducible refine wrap_g (by dsimp only [inR]; omega) ?_)
  | (with_reducible refine idx_g (by omega) ?_)
  | (with_reducible refine idx_l _ rfl (by decide) ?_)
  | (with_reducible refine BothG.mk ?_ ?_)
  | (with_reducible refine fork_tt ?_) | (with_reducible refine fork_ff ?_)
  | (with_reducible refine fork_e (c := true) (by decide) ?_; with_reducible refine fork_tt ?_) | (with_reducible refine fork_e (c := false) (by decide) ?_; with_reducible refine fork_ff ?_)
  | (with_reducible refine fork_t (by omega) ?_) | (with_reducible refine fork_f (by omega) ?_)
  | (with_reducible refine fork_d ?_ ?_ <;> intro hc)
  | (with_reducible refine fork_n ?_)
  | (with_reducible refine fork_b ?_ ?_ <;> intro hc)
  | (with_reducible refine SlcG.mk (by omega) ?_)
  | (with_reducible refine MakG.mk (by dsimp only; omega) ?_)
  | (with_reducible refine AppG.mk (by first | omega | (simp only [List.length_append, List.length_set, List.length_replicate, List.length_take, List.length_drop, List.length_cons, List.length_nil, List.length_map]; omega)) (by dsimp only [List.length_cons, List.length_nil]; omega) (by omega) ?_)
  | (with_reducible refine div_g (by omega) (by omega) (by dsimp only [inR]; omega) ?_)
  | (with_reducible refine mod_g (by omega) (by omega) ?_)
  | (with_reducible refine mask_g (m := 4294967296) 32 rfl rfl (by decide) (by omega) ?_)
  | (with_reducible refine shr_g (m := 4294967296) 32 rfl (by decide) (by omega) rfl ?_)
  | (with_reducible refine fz_all (by omega) ?_)
  | (with_reducible refine Stuck.h (A := RetE _ _) ?_) | (with_reducible refine Stuck.h (A := RetM _ _ _ _) ?_) | (with_reducible refine Stuck.h (A := Again _ _ _ _ _ _ _ _) ?_) | (with_reducible refine Stuck.h (A := CallF _ _ _ _ _ _ _) ?_) | (with_reducible refine Stuck.h (A := LoopG _ _ _ _ _ _ _ _) ?_) | (with_reducible refine Stuck.h (A := DrawG _ _ _ _ _ _ _ _) ?_)
  | (with_reducible refine Stuck.h (A := WrapG _ _ _) ?_) | (with_reducible refine Stuck.h (A := DivG _ _ _ _) ?_) | (with_reducible refine Stuck.h (A := ModG _ _ _) ?_) | (with_reducible refine Stuck.h (A := ShlG _ _ _ _) ?_) | (with_reducible refine Stuck.h (A := ShrG _ _ _ _) ?_) | (with_reducible refine Stuck.h (A := BitG _ _ _ _ _) ?_)
  | (with_reducible refine Stuck.h (A := IdxG _ _ _) ?_) | (with_reducible refine Stuck.h (A := IdxL _ _ _) ?_) | (with_reducible refine Stuck.h (A := SlcG _ _ _ _ _) ?_) | (with_reducible refine Stuck.h (A := MakG _ _ _ _) ?_) | (with_reducible refine Stuck.h (A := AppG _ _ _ _ _ _ _) ?_) | (with_reducible refine Stuck.h (A := FzG _ _ _ _) ?_)
  | (with_reducible refine Stuck.h (A := RawG _) ?_) | (with_reducible refine Stuck.h (A := TabG _ _ _ _ _) ?_) | (with_reducible refine Stuck.h (A := ExtF _ _ _ _) ?_) | (with_reducible refine Stuck.h (A := Chk _ _) ?_) | (with_reducible refine Stuck.h (A := False) ?_))
  all_goals exact ⟨ret_e rfl⟩
theorem l_same {n e : Int} (h : Good n e) : FC Tryz.prog G 12 [DY n e, .val (.int .i64 0), DY n e, .val (.int .i64 0)] (· = .val (.bool true)) := by
  have f1 := r_same_t (G := G) h
  have f2 := r_formg (G := G) h
  refine FC.intro (X := XX) tok Tryz.func12 rfl Tryz.ntmps12 (by rw [Tryz.results12]) (by kernel_rfl) rfl ?_; intro F hG hO
  rw [← hG] at f1 f2
  repeat' ((try (conv => whnf)); first
  | ((with_reducible refine cg ?_); refine call_eq (f1) (LpL.refl _) rfl ?_)
  | ((with_reducible refine cg ?_); refine call_eq (f2) (LpL.refl _) rfl ?_)
  
  | (with_reducible refine Chk.mk' (by first | omega | exact trivial | (simp only [List.length_append, List.length_set, List.length_replicate, List.length_take, List.length_drop, List.length_cons, List.length_nil, List.length_map]; omega)) ?_)
  | (with_reducible refine wrap_g (by dsimp only [inR]; omega) ?_)
  | (with_reducible refine idx_g (by omega) ?_)
  | (with_reducible refine idx_l _ rfl (by decide) ?_)
  | (with_reducible refine BothG.mk ?_ ?_)
  | (with_reducible refine fork_tt ?_) | (with_reducible refine fork_ff ?_)
  | (with_reducible refine fork_e (c := true) (by decide) ?_; with_reducible refine fork_tt ?_) | (with_reducible refine fork_e (c := false) (by decide) ?_; with_reducible refine fork_ff ?_)
  | (with_reducible refine fork_t (by omega) ?_) | (with_reducible refine fork_f (by omega) ?_)
  | (with_reducible refine fork_d ?_ ?_ <;> intro hc)
  | (with_reducible refine fork_n ?_)
  | (with_reducible refine fork_b ?_ ?_ <;> intro hc)
  | (with_reducible refine SlcG.mk (by omega) ?_)
  | (with_reducible refine MakG.mk (by dsimp only; omega) ?_)
  | (with_reducible refine AppG.mk (by first | omega | (simp only [List.length_append, List.length_set, List.length_replicate, List.length_take, List.length_drop, List.length_cons, List.length_nil, List.length_map]; omega)) (by dsimp only [List.length_cons, List.length_nil]; omega) (by omega) ?_)
  | (with_reducible refine div_g (by omega) (by omega) (by dsimp only [inR]; omega) ?_)
  | (with_reducible refine mod_g (by omega) (by omega) ?_)
  | (with_reducible refine mask_g (m := 4294967296) 32 rfl rfl (by decide) (by omega) ?_)
  | (with_reducible refine shr_g (m := 4294967296) 32 rfl (by decide) (by omega) rfl ?_)
  | (with_reducible refine fz_all (by omega) ?_)
  | (with_reducible refine Stuck.h (A := RetE _ _) ?_) | (with_reducible refine Stuck.h (A := RetM _ _ _ _) ?_) | (with_reducible refine Stuck.h (A := Again _ _ _ _ _ _ _ _) ?_) | (with_reducible refine Stuck.h (A := CallF _ _ _ _ _ _ _) ?_) | (with_reducible refine Stuck.h (A := LoopG _ _ _ _ _ _ _ _) ?_) | (with_reducible refine Stuck.h (A := DrawG _ _ _ _ _ _ _ _) ?_)
  | (with_reducible refine Stuck.h (A := WrapG _ _ _) ?_) | (with_reducible refine Stuck.h (A := DivG _ _ _ _) ?_) | (with_reducible refine Stuck.h (A := ModG _ _ _) ?_) | (with_reducible refine Stuck.h (A := ShlG _ _ _ _) ?_) | (with_reducible refine Stuck.h (A := ShrG _ _ _ _) ?_) | (with_reducible refine Stuck.h (A := BitG _ _ _ _ _) ?_)
  | (with_reducible refine Stuck.h (A := IdxG _ _ _) ?_) | (with_reducible refine Stuck.h (A := IdxL _ _ _) ?_) | (with_reducible refine Stuck.h (A := SlcG _ _ _ _ _) ?_) | (with_reducible refine Stuck.h (A := MakG _ _ _ _) ?_) | (with_reducible refine Stuck.h (A := AppG _ _ _ _ _ _ _) ?_) | (with_reducible refine Stuck.h (A := FzG _ _ _ _) ?_)
  | (with_reducible refine Stuck.h (A := RawG _) ?_) | (with_reducible refine Stuck.h (A := TabG _ _ _ _ _) ?_) | (with_reducible refine Stuck.h (A := ExtF _ _ _ _) ?_) | (with_reducible refine Stuck.h (A := Chk _ _) ?_) | (with_reducible refine Stuck.h (A := False) ?_))
  exact ⟨ret_e rfl⟩
theorem l_between {n e m f p k : Int} (h : Good n e) (g : Good m f) (t : Good p k) (h1 : VV n e ≤ VV m f) (h2 : VV m f ≤ VV p k) : FC Tryz.prog G 18 [DY n e, DY m f, DY p k] (· = .val (.bool true)) := by
  have f1 := y_cmp (G := G) h g
  have f2 := y_cmp (G := G) g t
  have c1 := cmp_le h g h1
  have c2 := cmp_le g t h2
  refine FC.intro (X := XX) tok Tryz.func18 rfl Tryz.ntmps18 (by rw [Tryz.results18]) (by kernel_rfl) rfl ?_; intro F hG hO
  rw [← hG] at f1 f2
  repeat' ((try (conv => whnf)); first
  | ((with_reducible refine cg ?_); refine call_eq (f1) (LpL.refl _) rfl ?_)
  | ((with_reducible refine cg ?_); refine call_eq (f2) (LpL.refl _) rfl ?_)
  
  | (with_reducible refine Chk.mk' (by first | omega | exact trivial | (simp only [List.length_append, List.length_set, List.length_replicate, List.length_take, List.length_drop, List.length_cons, List.length_nil, List.length_map]; omega)) ?_)
  | (with_reducible refine wrap_g (by dsimp only [inR]; omega) ?_)
  | (with_reducible refine idx_g (by omega) ?_)
  | (with_reducible refine idx_l _ rfl (by decide) ?_)
  | (with_reducible refine BothG.mk ?_ ?_)
  | (with_reducible refine fork_tt ?_) | (with_reducible refine fork_ff ?_)
  | (with_reducible refine fork_e (c := true) (by decide) ?_; with_reducible refine fork_tt ?_) | (with_reducible refine fork_e (c := false) (by decide) ?_; with_reducible refine fork_ff ?_)
  | (with_reducible refine fork_t (by omega) ?_) | (with_reducible refine fork_f (by omega) ?_)
  | (with_reducible refine fork_d ?_ ?_ <;> intro hc)
  | (with_reducible refine fork_n ?_)
  | (with_reducible refine fork_b ?_ ?_ <;> intro hc)
  | (with_reducible refine SlcG.mk (by omega) ?_)
  | (with_reducible refine MakG.mk (by dsimp only; omega) ?_)
  | (with_reducible refine AppG.mk (by first | omega | (simp only [List.length_append, List.length_set, List.length_replicate, List.length_take, List.length_drop, List.length_cons, List.length_nil, List.length_map]; omega)) (by dsimp only [List.length_cons, List.length_nil]; omega) (by omega) ?_)
  | (with_reducible refine div_g (by omega) (by omega) (by dsimp only [inR]; omega) ?_)
  | (with_reducible refine mod_g (by omega) (by omega) ?_)
  | (with_reducible refine mask_g (m := 4294967296) 32 rfl rfl (by decide) (by omega) ?_)
  | (with_reducible refine shr_g (m := 4294967296) 32 rfl (by decide) (by omega) rfl ?_)
  | (with_reducible refine fz_all (by omega) ?_)
  | (with_reducible refine Stuck.h (A := RetE _ _) ?_) | (with_reducible refine Stuck.h (A := RetM _ _ _ _) ?_) | (with_reducible refine Stuck.h (A := Again _ _ _ _ _ _ _ _) ?_) | (with_reducible refine Stuck.h (A := CallF _ _ _ _ _ _ _) ?_) | (with_reducible refine Stuck.h (A := LoopG _ _ _ _ _ _ _ _) ?_) | (with_reducible refine Stuck.h (A := DrawG _ _ _ _ _ _ _ _) ?_)
  | (with_reducible refine Stuck.h (A := WrapG _ _ _) ?_) | (with_reducible refine Stuck.h (A := DivG _ _ _ _) ?_) | (with_reducible refine Stuck.h (A := ModG _ _ _) ?_) | (with_reducible refine Stuck.h (A := ShlG _ _ _ _) ?_) | (with_reducible refine Stuck.h (A := ShrG _ _ _ _) ?_) | (with_reducible refine Stuck.h (A := BitG _ _ _ _ _) ?_)
  | (with_reducible refine Stuck.h (A := IdxG _ _ _) ?_) | (with_reducible refine Stuck.h (A := IdxL _ _ _) ?_) | (with_reducible refine Stuck.h (A := SlcG _ _ _ _ _) ?_) | (with_reducible refine Stuck.h (A := MakG _ _ _ _) ?_) | (with_reducible refine Stuck.h (A := AppG _ _ _ _ _ _ _) ?_) | (with_reducible refine Stuck.h (A := FzG _ _ _ _) ?_)
  | (with_reducible refine Stuck.h (A := RawG _) ?_) | (with_reducible refine Stuck.h (A := TabG _ _ _ _ _) ?_) | (with_reducible refine Stuck.h (A := ExtF _ _ _ _) ?_) | (with_reducible refine Stuck.h (A := Chk _ _) ?_) | (with_reducible refine Stuck.h (A := False) ?_))
  exact ⟨ret_e (bv_eq (decide_eq_true (by omega)))⟩
theorem ofS_1 : ofS 1 = DY 1 0 := ofS_odd rfl
theorem l_step {g : List (Nat × List Value)} (hD : (0, debT.map (Value.int .u8)) ∈ g) {k : Int} (h1 : -1048576 ≤ k) (h2 : k ≤ 1048576) : FC Tryz.prog g 23 [.val (.int .i64 k)] (· = dyR 1 k) := by
  have f1 := y_of hD 1 (by dsimp only [inR]; omega)
  rw [ofS_1] at f1
  have f2 := y_scale (G := g) k (Good.one (k := 0) (by decide) (by decide)) (by dsimp only [inR]; omega)
  rw [scale_one h1 h2] at f2
  refine FC.intro (X := XX) tok Tryz.func23 rfl Tryz.ntmps23 (by rw [Tryz.results23]) (by kernel_rfl) rfl ?_; intro F hG hO
  rw [← hG] at f1 f2
  repeat' ((try (conv => whnf)); first
  | ((with_reducible refine cg ?_); refine call_eq (f1) (LpL.refl _) rfl ?_)
  | ((with_reducible refine cg ?_); refine call_eq (f2) (LpL.refl _) rfl ?_)
  
  | (with_reducible refine Chk.mk' (by first | omega | exact trivial | (simp only [List.length_append, List.length_set, List.length_replicate, List.length_take, List.length_drop, List.length_cons, List.length_nil, List.length_map]; omega)) ?_)
  | (with_reducible refine wrap_g (by dsimp only [inR]; omega) ?_)
  | (with_reducible refine idx_g (by omega) ?_)
  | (with_reducible refine idx_l _ rfl (by decide) ?_)
  | (with_reducible refine BothG.mk ?_ ?_)
  | (with_reducible refine fork_tt ?_) | (with_reducible refine fork_ff ?_)
  | (with_reducible refine fork_e (c := true) (by decide) ?_; with_reducible refine fork_tt ?_) | (with_reducible refine fork_e (c := false) (by decide) ?_; with_reducible refine fork_ff ?_)
  | (with_reducible refine fork_t (by omega) ?_) | (with_reducible refine fork_f (by omega) ?_)
  | (with_reducible refine fork_d ?_ ?_ <;> intro hc)
  | (with_reducible refine fork_n ?_)
  | (with_reducible refine fork_b ?_ ?_ <;> intro hc)
  | (with_reducible refine SlcG.mk (by omega) ?_)
  | (with_reducible refine MakG.mk (by dsimp only; omega) ?_)
  | (with_reducible refine AppG.mk (by first | omega | (simp only [List.length_append, List.length_set, List.length_replicate, List.length_take, List.length_drop, List.length_cons, List.length_nil, List.length_map]; omega)) (by dsimp only [List.length_cons, List.length_nil]; omega) (by omega) ?_)
  | (with_reducible refine div_g (by omega) (by omega) (by dsimp only [inR]; omega) ?_)
  | (with_reducible refine mod_g (by omega) (by omega) ?_)
  | (with_reducible refine mask_g (m := 4294967296) 32 rfl rfl (by decide) (by omega) ?_)
  | (with_reducible refine shr_g (m := 4294967296) 32 rfl (by decide) (by omega) rfl ?_)
  | (with_reducible refine fz_all (by omega) ?_)
  | (with_reducible refine Stuck.h (A := RetE _ _) ?_) | (with_reducible refine Stuck.h (A := RetM _ _ _ _) ?_) | (with_reducible refine Stuck.h (A := Again _ _ _ _ _ _ _ _) ?_) | (with_reducible refine Stuck.h (A := CallF _ _ _ _ _ _ _) ?_) | (with_reducible refine Stuck.h (A := LoopG _ _ _ _ _ _ _ _) ?_) | (with_reducible refine Stuck.h (A := DrawG _ _ _ _ _ _ _ _) ?_)
  | (with_reducible refine Stuck.h (A := WrapG _ _ _) ?_) | (with_reducible refine Stuck.h (A := DivG _ _ _ _) ?_) | (with_reducible refine Stuck.h (A := ModG _ _ _) ?_) | (with_reducible refine Stuck.h (A := ShlG _ _ _ _) ?_) | (with_reducible refine Stuck.h (A := ShrG _ _ _ _) ?_) | (with_reducible refine Stuck.h (A := BitG _ _ _ _ _) ?_)
  | (with_reducible refine Stuck.h (A := IdxG _ _ _) ?_) | (with_reducible refine Stuck.h (A := IdxL _ _ _) ?_) | (with_reducible refine Stuck.h (A := SlcG _ _ _ _ _) ?_) | (with_reducible refine Stuck.h (A := MakG _ _ _ _) ?_) | (with_reducible refine Stuck.h (A := AppG _ _ _ _ _ _ _) ?_) | (with_reducible refine Stuck.h (A := FzG _ _ _ _) ?_)
  | (with_reducible refine Stuck.h (A := RawG _) ?_) | (with_reducible refine Stuck.h (A := TabG _ _ _ _ _) ?_) | (with_reducible refine Stuck.h (A := ExtF _ _ _ _) ?_) | (with_reducible refine Stuck.h (A := Chk _ _) ?_) | (with_reducible refine Stuck.h (A := False) ?_))
  exact ⟨ret_e rfl⟩
theorem l_short {g : List (Nat × List Value)} (hD : (0, debT.map (Value.int .u8)) ∈ g) {n e p : Int} (h : Good n e) (hp : 1 ≤ p ∧ p ≤ 70000) (hb : (bl n.natAbs : Int) ≤ p) : FC Tryz.prog g 19 [DY n e, .val (.int .i64 p)] (· = .val (.bool true)) := by
  have f1 := y_down hD p h
  have f2 := y_up hD p h
  rw [cuts_same _ h hp hb] at f1 f2
  have f3 := l_same (G := g) h
  refine FC.intro (X := XX) tok Tryz.func19 rfl Tryz.ntmps19 (by rw [Tryz.results19]) (by kernel_rfl) rfl ?_; intro F hG hO
  rw [← hG] at f1 f2 f3
  repeat' ((try (conv => whnf)); first
  | ((with_reducible refine cg ?_); refine call_eq (f1) (LpL.refl _) rfl ?_)
  | ((with_reducible refine cg ?_); refine call_eq (f2) (LpL.refl _) rfl ?_)
  | ((with_reducible refine cg ?_); refine call_eq (f3) (LpL.refl _) rfl ?_)
  
  | (with_reducible refine Chk.mk' (by first | omega | exact trivial | (simp only [List.length_append, List.length_set, List.length_replicate, List.length_take, List.length_drop, List.length_cons, List.length_nil, List.length_map]; omega)) ?_)
  | (with_reducible refine wrap_g (by dsimp only [inR]; omega) ?_)
  | (with_reducible refine idx_g (by omega) ?_)
  | (with_reducible refine idx_l _ rfl (by decide) ?_)
  | (with_reducible refine BothG.mk ?_ ?_)
  | (with_reducible refine fork_tt ?_) | (with_reducible refine fork_ff ?_)
  | (with_reducible refine fork_e (c := true) (by decide) ?_; with_reducible refine fork_tt ?_) | (with_reducible refine fork_e (c := false) (by decide) ?_; with_reducible refine fork_ff ?_)
  | (with_reducible refine fork_t (by omega) ?_) | (with_reducible refine fork_f (by omega) ?_)
  | (with_reducible refine fork_d ?_ ?_ <;> intro hc)
  | (with_reducible refine fork_n ?_)
  | (with_reducible refine fork_b ?_ ?_ <;> intro hc)
  | (with_reducible refine SlcG.mk (by omega) ?_)
  | (with_reducible refine MakG.mk (by dsimp only; omega) ?_)
  | (with_reducible refine AppG.mk (by first | omega | (simp only [List.length_append, List.length_set, List.length_replicate, List.length_take, List.length_drop, List.length_cons, List.length_nil, List.length_map]; omega)) (by dsimp only [List.length_cons, List.length_nil]; omega) (by omega) ?_)
  | (with_reducible refine div_g (by omega) (by omega) (by dsimp only [inR]; omega) ?_)
  | (with_reducible refine mod_g (by omega) (by omega) ?_)
  | (with_reducible refine mask_g (m := 4294967296) 32 rfl rfl (by decide) (by omega) ?_)
  | (with_reducible refine shr_g (m := 4294967296) 32 rfl (by decide) (by omega) rfl ?_)
  | (with_reducible refine fz_all (by omega) ?_)
  | (with_reducible refine Stuck.h (A := RetE _ _) ?_) | (with_reducible refine Stuck.h (A := RetM _ _ _ _) ?_) | (with_reducible refine Stuck.h (A := Again _ _ _ _ _ _ _ _) ?_) | (with_reducible refine Stuck.h (A := CallF _ _ _ _ _ _ _) ?_) | (with_reducible refine Stuck.h (A := LoopG _ _ _ _ _ _ _ _) ?_) | (with_reducible refine Stuck.h (A := DrawG _ _ _ _ _ _ _ _) ?_)
  | (with_reducible refine Stuck.h (A := WrapG _ _ _) ?_) | (with_reducible refine Stuck.h (A := DivG _ _ _ _) ?_) | (with_reducible refine Stuck.h (A := ModG _ _ _) ?_) | (with_reducible refine Stuck.h (A := ShlG _ _ _ _) ?_) | (with_reducible refine Stuck.h (A := ShrG _ _ _ _) ?_) | (with_reducible refine Stuck.h (A := BitG _ _ _ _ _) ?_)
  | (with_reducible refine Stuck.h (A := IdxG _ _ _) ?_) | (with_reducible refine Stuck.h (A := IdxL _ _ _) ?_) | (with_reducible refine Stuck.h (A := SlcG _ _ _ _ _) ?_) | (with_reducible refine Stuck.h (A := MakG _ _ _ _) ?_) | (with_reducible refine Stuck.h (A := AppG _ _ _ _ _ _ _) ?_) | (with_reducible refine Stuck.h (A := FzG _ _ _ _) ?_)
  | (with_reducible refine Stuck.h (A := RawG _) ?_) | (with_reducible refine Stuck.h (A := TabG _ _ _ _ _) ?_) | (with_reducible refine Stuck.h (A := ExtF _ _ _ _) ?_) | (with_reducible refine Stuck.h (A := Chk _ _) ?_) | (with_reducible refine Stuck.h (A := False) ?_))
  exact ⟨ret_e rfl⟩
end Go.Proofs.YtbeocnjlepcglaaGreatDoor.Sim
namespace Go.Proofs.YtbeocnjlepcglaaGreatDoor.Sim
open Go.RowKit
set_option linter.unusedVariables false
set_option linter.unusedSimpArgs false
set_option maxRecDepth 10000
set_option maxHeartbeats 8000000
variable {G : List (Nat × List Value)}
def nearB (b : Bool) (l : List Int) (e : Int) : Bool := dyF b l e && decide (l.length ≤ 500) && decide (-20000 ≤ e) && decide (e ≤ 20000)
theorem l_near (b : Bool) (l : List Int) (e : Int) (ok : okD 18446744073709551616 l) : FC Tryz.prog G 15 [Dy b l e] (· = .val (.bool (nearB b l e))) := by
  have f1 := r_docform (G := G) b l e (rd_bd (by decide) ok 0)
  unfold nearB
  obtain ⟨x, hx⟩ : ∃ x, x = dyF b l e := ⟨_, rfl⟩
  rw [← hx] at f1 ⊢
  clear hx
  cases x
  · refine FC.intro (X := XX) tok Tryz.func15 rfl Tryz.ntmps15 (by rw [Tryz.results15]) (by kernel_rfl) rfl ?_; intro F hG hO
    rw [← hG] at f1
    repeat' ((try (conv => whnf)); first
  | ((with_reducible refine cg ?_); refine call_eq (f1) (LpL.refl _) rfl ?_)
  
  | (with_reducible refine Chk.mk' (by first | omega | exact trivial | (simp only [List.length_append, List.length_set, List.length_replicate, List.length_take, List.length_drop, List.length_cons, List.length_nil, List.length_map]; omega)) ?_)
  | (with_reducible refine wrap_g (by dsimp only [inR]; omega) ?_)
  | (with_reducible refine idx_g (by omega) ?_)
  | (with_reducible refine idx_l _ rfl (by decide) ?_)
  | (with_reducible refine BothG.mk ?_ ?_)
  | (with_reducible refine fork_tt ?_) | (with_reducible refine fork_ff ?_)
  | (with_reducible refine fork_e (c := true) (by decide) ?_; with_reducible refine fork_tt ?_) | (with_reducible refine fork_e (c := false) (by decide) ?_; with_reducible refine fork_ff ?_)
  | (with_reducible refine fork_t (by omega) ?_) | (with_reducible refine fork_f (by omega) ?_)
  | (with_reducible refine fork_d ?_ ?_ <;> intro hc)
  | (with_reducible refine fork_n ?_)
  | (with_reducible refine fork_b ?_ ?_ <;> intro hc)
  | (with_reducible refine SlcG.mk (by omega) ?_)
  | (with_reducible refine MakG.mk (by dsimp only; omega) ?_)
  | (with_reducible refine AppG.mk (by first | omega | (simp only [List.length_append, List.length_set, List.length_replicate, List.length_take, List.length_drop, List.length_cons, List.length_nil, List.length_map]; omega)) (by dsimp only [List.length_cons, List.length_nil]; omega) (by omega) ?_)
  | (with_reducible refine div_g (by omega) (by omega) (by dsimp only [inR]; omega) ?_)
  | (with_reducible refine mod_g (by omega) (by omega) ?_)
  | (with_reducible refine mask_g (m := 4294967296) 32 rfl rfl (by decide) (by omega) ?_)
  | (with_reducible refine shr_g (m := 4294967296) 32 rfl (by decide) (by omega) rfl ?_)
  | (with_reducible refine fz_all (by omega) ?_)
  | (with_reducible refine Stuck.h (A := RetE _ _) ?_) | (with_reducible refine Stuck.h (A := RetM _ _ _ _) ?_) | (with_reducible refine Stuck.h (A := Again _ _ _ _ _ _ _ _) ?_) | (with_reducible refine Stuck.h (A := CallF _ _ _ _ _ _ _) ?_) | (with_reducible refine Stuck.h (A := LoopG _ _ _ _ _ _ _ _) ?_) | (with_reducible refine Stuck.h (A := DrawG _ _ _ _ _ _ _ _) ?_)
  | (with_reducible refine Stuck.h (A := WrapG _ _ _) ?_) | (with_reducible refine Stuck.h (A := DivG _ _ _ _) ?_) | (with_reducible refine Stuck.h (A := ModG _ _ _) ?_) | (with_reducible refine Stuck.h (A := ShlG _ _ _ _) ?_) | (with_reducible refine Stuck.h (A := ShrG _ _ _ _) ?_) | (with_reducible refine Stuck.h (A := BitG _ _ _ _ _) ?_)
  | (with_reducible refine Stuck.h (A := IdxG _ _ _) ?_) | (with_reducible refine Stuck.h (A := IdxL _ _ _) ?_) | (with_reducible refine Stuck.h (A := SlcG _ _ _ _ _) ?_) | (with_reducible refine Stuck.h (A := MakG _ _ _ _) ?_) | (with_reducible refine Stuck.h (A := AppG _ _ _ _ _ _ _) ?_) | (with_reducible refine Stuck.h (A := FzG _ _ _ _) ?_)
  | (with_reducible refine Stuck.h (A := RawG _) ?_) | (with_reducible refine Stuck.h (A := TabG _ _ _ _ _) ?_) | (with_reducible refine Stuck.h (A := ExtF _ _ _ _) ?_) | (with_reducible refine Stuck.h (A := Chk _ _) ?_) | (with_reducible refine Stuck.h (A := False) ?_))
    exact ⟨ret_e rfl⟩
  · refine FC.intro (X := XX) tok Tryz.func15 rfl Tryz.ntmps15 (by rw [Tryz.results15]) (by kernel_rfl) rfl ?_; intro F hG hO
    rw [← hG] at f1
    repeat' ((try (conv => whnf)); first
  | ((with_reducible refine cg ?_); refine call_eq (f1) (LpL.refl _) rfl ?_)
  
  | (with_reducible refine Chk.mk' (by first | omega | exact trivial | (simp only [List.length_append, List.length_set, List.length_replicate, List.length_take, List.length_drop, List.length_cons, List.length_nil, List.length_map]; omega)) ?_)
  | (with_reducible refine wrap_g (by dsimp only [inR]; omega) ?_)
  | (with_reducible refine idx_g (by omega) ?_)
  | (with_reducible refine idx_l _ rfl (by decide) ?_)
  | (with_reducible refine BothG.mk ?_ ?_)
  | (with_reducible refine fork_tt ?_) | (with_reducible refine fork_ff ?_)
  | (with_reducible refine fork_e (c := true) (by decide) ?_; with_reducible refine fork_tt ?_) | (with_reducible refine fork_e (c := false) (by decide) ?_; with_reducible refine fork_ff ?_)
  | (with_reducible refine fork_t (by omega) ?_) | (with_reducible refine fork_f (by omega) ?_)
  | (with_reducible refine fork_d ?_ ?_ <;> intro hc)
  | (with_reducible refine fork_n ?_)
  | (with_reducible refine fork_b ?_ ?_ <;> intro hc)
  | (with_reducible refine SlcG.mk (by omega) ?_)
  | (with_reducible refine MakG.mk (by dsimp only; omega) ?_)
  | (with_reducible refine AppG.mk (by first | omega | (simp only [List.length_append, List.length_set, List.length_replicate, List.length_take, List.length_drop, List.length_cons, List.length_nil, List.length_map]; omega)) (by dsimp only [List.length_cons, List.length_nil]; omega) (by omega) ?_)
  | (with_reducible refine div_g (by omega) (by omega) (by dsimp only [inR]; omega) ?_)
  | (with_reducible refine mod_g (by omega) (by omega) ?_)
  | (with_reducible refine mask_g (m := 4294967296) 32 rfl rfl (by decide) (by omega) ?_)
  | (with_reducible refine shr_g (m := 4294967296) 32 rfl (by decide) (by omega) rfl ?_)
  | (with_reducible refine fz_all (by omega) ?_)
  | (with_reducible refine Stuck.h (A := RetE _ _) ?_) | (with_reducible refine Stuck.h (A := RetM _ _ _ _) ?_) | (with_reducible refine Stuck.h (A := Again _ _ _ _ _ _ _ _) ?_) | (with_reducible refine Stuck.h (A := CallF _ _ _ _ _ _ _) ?_) | (with_reducible refine Stuck.h (A := LoopG _ _ _ _ _ _ _ _) ?_) | (with_reducible refine Stuck.h (A := DrawG _ _ _ _ _ _ _ _) ?_)
  | (with_reducible refine Stuck.h (A := WrapG _ _ _) ?_) | (with_reducible refine Stuck.h (A := DivG _ _ _ _) ?_) | (with_reducible refine Stuck.h (A := ModG _ _ _) ?_) | (with_reducible refine Stuck.h (A := ShlG _ _ _ _) ?_) | (with_reducible refine Stuck.h (A := ShrG _ _ _ _) ?_) | (with_reducible refine Stuck.h (A := BitG _ _ _ _ _) ?_)
  | (with_reducible refine Stuck.h (A := IdxG _ _ _) ?_) | (with_reducible refine Stuck.h (A := IdxL _ _ _) ?_) | (with_reducible refine Stuck.h (A := SlcG _ _ _ _ _) ?_) | (with_reducible refine Stuck.h (A := MakG _ _ _ _) ?_) | (with_reducible refine Stuck.h (A := AppG _ _ _ _ _ _ _) ?_) | (with_reducible refine Stuck.h (A := FzG _ _ _ _) ?_)
  | (with_reducible refine Stuck.h (A := RawG _) ?_) | (with_reducible refine Stuck.h (A := TabG _ _ _ _ _) ?_) | (with_reducible refine Stuck.h (A := ExtF _ _ _ _) ?_) | (with_reducible refine Stuck.h (A := Chk _ _) ?_) | (with_reducible refine Stuck.h (A := False) ?_))
    all_goals (refine ⟨ret_e (bv_eq ?_)⟩)
    all_goals first
      | (rw [decide_eq_false (show ¬ l.length ≤ 500 by omega)]; rfl)
      | (rw [decide_eq_true (show l.length ≤ 500 by omega), decide_eq_false (show ¬ -20000 ≤ e by omega)]; rfl)
      | (rw [decide_eq_true (show l.length ≤ 500 by omega), decide_eq_true (show -20000 ≤ e by omega)]; rfl)
theorem near_ex {b : Bool} {l : List Int} {e : Int} (ok : okD 18446744073709551616 l) (h : nearB b l e = true) : ∃ n, Good n e ∧ Dy b l e = DY n e ∧ Fit n e (-20000) 52000 := by
  unfold nearB at h
  simp only [Bool.and_eq_true, decide_eq_true_eq] at h
  obtain ⟨⟨⟨h1, h2⟩, h3⟩, h4⟩ := h
  obtain ⟨n, hg, hd⟩ := dyF_ex ok h1
  refine ⟨n, hg, hd, ?_⟩
  unfold Dy DY at hd
  simp only [PV.agg.injEq, List.cons.injEq, PV.ws.injEq, true_and, and_true] at hd
  have hl := hd.2
  have hlen : L64 n.natAbs ≤ 500 := by
    rw [hl] at h2
    exact h2
  have hb := bl_L64 n.natAbs
  refine .inr ⟨h3, ?_⟩
  unfold topN
  omega
end Go.Proofs.YtbeocnjlepcglaaGreatDoor.Sim
namespace Go.Proofs.YtbeocnjlepcglaaGreatDoor.Sim
open Go.RowKit
set_option linter.unusedVariables false
set_option linter.unusedSimpArgs false
set_option maxRecDepth 10000
set_option maxHeartbeats 8000000
variable {G : List (Nat × List Value)}
/-- One call: its kind, two dyadics, a whole number, an int; all raw. -/
def OpV (k : Int) (b1 : Bool) (l1 : List Int) (e1 : Int) (b2 : Bool) (l2 : List Int) (e2 : Int) (b3 : Bool) (l3 : List Int) (m : Int) : PV :=
  .agg [.val (.int .i64 k), .val (.bool b1), .ws .u64 l1, .val (.int .i64 e1), .val (.bool b2), .ws .u64 l2, .val (.int .i64 e2), .val (.bool b3), .ws .u64 l3, .val (.int .i64 m)]
abbrev OKL (l : List Int) : Prop := okD 18446744073709551616 l ∧ l.length ≤ 17592186044415
end Go.Proofs.YtbeocnjlepcglaaGreatDoor.Sim
namespace Go.Proofs.YtbeocnjlepcglaaGreatDoor.Sim
open Go.RowKit
set_option linter.unusedVariables false
set_option linter.unusedSimpArgs false
set_option maxRecDepth 10000
set_option maxHeartbeats 8000000
variable {G : List (Nat × List Value)}
end Go.Proofs.YtbeocnjlepcglaaGreatDoor.Sim
