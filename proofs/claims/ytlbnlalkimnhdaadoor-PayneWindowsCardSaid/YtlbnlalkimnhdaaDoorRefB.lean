/-
  gnomonref01: Word, Small, Add, Cmp, Sub. Condition: the numbers below 2^(32 * 2^30).
-/
import Derived.Test.YtlbnlalkimnhdaaDoorRefA
namespace Go.Proofs.YtlbnlalkimnhdaaDoor.Sim
open Go.RowKit
set_option linter.unusedVariables false
set_option linter.unusedSimpArgs false
set_option maxRecDepth 10000
set_option maxHeartbeats 4000000
variable {G : List (Nat × List Value)}
theorem r_word (w : Int) (h : 0 ≤ w ∧ w < 18446744073709551616) : FC Tryd.prog G 62 [.val (.int .u64 w)] (· = D w.toNat) := by
  refine FC.intro (X := XX) tok Tryd.func62 rfl Tryd.ntmps62 (by rw [Tryd.results62]) (by kernel_rfl) rfl ?_; intro F hG hO
  repeat' ((try (conv => whnf)); first
  | ((with_reducible refine cg ?_); refine call_eq (r_normD [w % 4294967296, w / 4294967296] (by simp) (okD_cons.2 ⟨by omega, okD_cons.2 ⟨by omega, okD_nil _⟩⟩)) (LpL.refl _) rfl ?_)
  
  | (with_reducible refine Chk.mk' (by first | omega | exact trivial | (simp only [List.length_append, List.length_set, List.length_replicate, List.length_take, List.length_drop, List.length_cons, List.length_nil, List.length_map]; omega)) ?_)
  | (with_reducible refine wrap_g (by dsimp only [inR]; omega) ?_)
  | (with_reducible refine idx_g (by omega) ?_)
  | (with_reducible refine idx_l _ rfl (by decide) ?_)
  | (with_reducible refine fork_tt ?_) | (with_reducible refine fork_ff ?_)
  | (with_reducible refine fork_t (by omega) ?_) | (with_reducible refine fork_f (by omega) ?_)
  | (with_reducible refine fork_d ?_ ?_ <;> intro hc)
  | (with_reducible refine fork_n ?_)
  | (with_reducible refine fork_b ?_ ?_ <;> intro hc)
  | (with_reducible refine SlcG.mk (by omega) ?_)
  | (with_reducible refine MakG.mk (by dsimp only; omega) ?_)
  | (with_reducible refine AppG.mk (by first | omega | (simp only [List.length_append, List.length_set, List.length_replicate, List.length_take, List.length_drop, List.length_cons, List.length_nil, List.length_map]; omega)) (by dsimp only [List.length_cons, List.length_nil]; omega) (by omega) ?_)
  | (with_reducible refine div_g (by omega) (by omega) (by dsimp only [inR]; omega) ?_)
  | (with_reducible refine mod_g (by omega) (by omega) ?_)
  | (with_reducible refine mask_g (m := 4294967296) 32 rfl rfl (by decide) (by omega) ?_)
  | (with_reducible refine shr_g (m := 4294967296) 32 rfl (by decide) (by omega) rfl ?_)
  | (with_reducible refine fz_all (by omega) ?_)
  | (with_reducible refine Stuck.h (A := RetE _ _) ?_) | (with_reducible refine Stuck.h (A := RetM _ _ _ _) ?_) | (with_reducible refine Stuck.h (A := Again _ _ _ _ _ _ _ _) ?_) | (with_reducible refine Stuck.h (A := CallF _ _ _ _ _ _ _) ?_) | (with_reducible refine Stuck.h (A := LoopG _ _ _ _ _ _ _ _) ?_) | (with_reducible refine Stuck.h (A := DrawG _ _ _ _ _ _ _ _) ?_)
  | (with_reducible refine Stuck.h (A := WrapG _ _ _) ?_) | (with_reducible refine Stuck.h (A := DivG _ _ _ _) ?_) | (with_reducible refine Stuck.h (A := ModG _ _ _) ?_) | (with_reducible refine Stuck.h (A := ShlG _ _ _ _) ?_) | (with_reducible refine Stuck.h (A := ShrG _ _ _ _) ?_) | (with_reducible refine Stuck.h (A := BitG _ _ _ _ _) ?_)
  | (with_reducible refine Stuck.h (A := IdxG _ _ _) ?_) | (with_reducible refine Stuck.h (A := IdxL _ _ _) ?_) | (with_reducible refine Stuck.h (A := SlcG _ _ _ _ _) ?_) | (with_reducible refine Stuck.h (A := MakG _ _ _ _) ?_) | (with_reducible refine Stuck.h (A := AppG _ _ _ _ _ _ _) ?_) | (with_reducible refine Stuck.h (A := FzG _ _ _ _) ?_)
  | (with_reducible refine Stuck.h (A := RawG _) ?_) | (with_reducible refine Stuck.h (A := TabG _ _ _ _ _) ?_) | (with_reducible refine Stuck.h (A := ExtF _ _ _ _) ?_) | (with_reducible refine Stuck.h (A := Chk _ _) ?_) | (with_reducible refine Stuck.h (A := False) ?_))
  refine ⟨ret_e ?_⟩
  show D _ = D _
  congr 2
  simp only [vl]; omega
theorem add_round {a b s : List Int} {i : Nat} {c T : Int} (h2 : 0 ≤ c) (h3 : c ≤ 1) (h5 : s.length = i) (h6 : okD 4294967296 s) (h7 : vl 4294967296 s + 4294967296 ^ i * c = vl 4294967296 (a.take i) + vl 4294967296 (b.take i)) (ra : 0 ≤ rd a i ∧ rd a i < 4294967296) (rb : 0 ≤ rd b i ∧ rd b i < 4294967296)
    (hT : T = c + rd a i + rd b i) : 0 ≤ T / 4294967296 ∧ T / 4294967296 ≤ 1 ∧ (s ++ [T % 4294967296]).length = i + 1 ∧ okD 4294967296 (s ++ [T % 4294967296]) ∧
      vl 4294967296 (s ++ [T % 4294967296]) + 4294967296 ^ (i + 1) * (T / 4294967296) = vl 4294967296 (a.take (i + 1)) + vl 4294967296 (b.take (i + 1)) := by
  refine ⟨by omega, by omega, by simp [h5], okD_append.2 ⟨h6, okD_cons.2 ⟨by omega, okD_nil _⟩⟩, ?_⟩
  rw [vl_snoc, h5, sum_step (T := T) i (by omega), vl_take_step, vl_take_step, hT, Int.mul_add, Int.mul_add]
  omega
theorem r_add (X Y : Nat) (hX : L32 X ≤ 1073741824) (hY : L32 Y ≤ 1073741824) : FC Tryd.prog G 64 [D X, D Y] (· = D (X + Y)) := by
  obtain ⟨a, ea⟩ : ∃ a, a = d32 X := ⟨_, rfl⟩
  obtain ⟨b, eb⟩ : ∃ b, b = d32 Y := ⟨_, rfl⟩
  obtain ⟨oka, va⟩ := d32_ok X
  obtain ⟨okb, vb⟩ := d32_ok Y
  replace hX : (d32 X).length ≤ 1073741824 := hX
  replace hY : (d32 Y).length ≤ 1073741824 := hY
  unfold D
  rw [← ea] at hX oka va
  rw [← eb] at hY okb vb
  rw [← ea, ← eb]
  refine FC.intro (X := XX) tok Tryd.func64 rfl Tryd.ntmps64 (by rw [Tryd.results64]) (by kernel_rfl) rfl ?_; intro F hG hO
  repeat' ((try (conv => whnf)); first
  | ((with_reducible refine lg ?_); refine loop_g (A := Nat × List Int × Int) (fun (i, s, c) => i ≤ max a.length b.length + 1 ∧ 0 ≤ c ∧ c ≤ 1 ∧ (i = max a.length b.length + 1 → c = 0) ∧ s.length = i ∧ okD 4294967296 s ∧ vl 4294967296 s + 4294967296 ^ i * c = vl 4294967296 (a.take i) + vl 4294967296 (b.take i)) (fun (i, s, c) => max a.length b.length + 2 - i) (fun (i, s, c) => [(0, .ws .u32 a), (1, .ws .u32 b), (5, .arr 0 0 i), (6, .val (.int .u64 c)), (7, .val (.int .i64 (i : Int)))]) (fun _ => []) (fun (i, s, c) => [some ⟨1, 111, .w .u32 s⟩]) (0, [], 0) tok (fun (i, s, c) => ⟨⟨trivial, trivial, Nat.one_pos, trivial, trivial, trivial⟩, trivial, by simp only [List.length_cons]; omega⟩) ?_ ⟨rfl, rfl, rfl, rfl, rfl, trivial⟩ ⟨[], rfl⟩ ⟨[], rfl⟩ ?_; rotate_left; rintro ⟨i, s, c⟩ ⟨h1, h2, h3, h4, h5, h6, h7⟩; have ra := rd_bd (by decide) oka (i : Int); have rb := rd_bd (by decide) okb (i : Int))
  | ((with_reducible refine cg ?_); refine call_fz 0 (B := s) rfl rfl (by omega) (by rw [List.drop_zero, ← h5, List.take_length]) (by omega) ?_; refine call_eq (r_normD s (by omega) h6) (LpL.refl _) rfl ?_)
  
  | (with_reducible refine Chk.mk' (by first | omega | exact trivial | (simp only [List.length_append, List.length_set, List.length_replicate, List.length_take, List.length_drop, List.length_cons, List.length_nil, List.length_map]; omega)) ?_)
  | (with_reducible refine wrap_g (by dsimp only [inR]; omega) ?_)
  | (with_reducible refine idx_g (by omega) ?_)
  | (with_reducible refine idx_l _ rfl (by decide) ?_)
  | (with_reducible refine fork_tt ?_) | (with_reducible refine fork_ff ?_)
  | (with_reducible refine fork_t (by omega) ?_) | (with_reducible refine fork_f (by omega) ?_)
  | (with_reducible refine fork_d ?_ ?_ <;> intro hc)
  | (with_reducible refine fork_n ?_)
  | (with_reducible refine fork_b ?_ ?_ <;> intro hc)
  | (with_reducible refine SlcG.mk (by omega) ?_)
  | (with_reducible refine MakG.mk (by dsimp only; omega) ?_)
  | (with_reducible refine AppG.mk (by first | omega | (simp only [List.length_append, List.length_set, List.length_replicate, List.length_take, List.length_drop, List.length_cons, List.length_nil, List.length_map]; omega)) (by dsimp only [List.length_cons, List.length_nil]; omega) (by omega) ?_)
  | (with_reducible refine div_g (by omega) (by omega) (by dsimp only [inR]; omega) ?_)
  | (with_reducible refine mod_g (by omega) (by omega) ?_)
  | (with_reducible refine mask_g (m := 4294967296) 32 rfl rfl (by decide) (by omega) ?_)
  | (with_reducible refine shr_g (m := 4294967296) 32 rfl (by decide) (by omega) rfl ?_)
  | (with_reducible refine fz_all (by omega) ?_)
  | (with_reducible refine Stuck.h (A := RetE _ _) ?_) | (with_reducible refine Stuck.h (A := RetM _ _ _ _) ?_) | (with_reducible refine Stuck.h (A := Again _ _ _ _ _ _ _ _) ?_) | (with_reducible refine Stuck.h (A := CallF _ _ _ _ _ _ _) ?_) | (with_reducible refine Stuck.h (A := LoopG _ _ _ _ _ _ _ _) ?_) | (with_reducible refine Stuck.h (A := DrawG _ _ _ _ _ _ _ _) ?_)
  | (with_reducible refine Stuck.h (A := WrapG _ _ _) ?_) | (with_reducible refine Stuck.h (A := DivG _ _ _ _) ?_) | (with_reducible refine Stuck.h (A := ModG _ _ _) ?_) | (with_reducible refine Stuck.h (A := ShlG _ _ _ _) ?_) | (with_reducible refine Stuck.h (A := ShrG _ _ _ _) ?_) | (with_reducible refine Stuck.h (A := BitG _ _ _ _ _) ?_)
  | (with_reducible refine Stuck.h (A := IdxG _ _ _) ?_) | (with_reducible refine Stuck.h (A := IdxL _ _ _) ?_) | (with_reducible refine Stuck.h (A := SlcG _ _ _ _ _) ?_) | (with_reducible refine Stuck.h (A := MakG _ _ _ _) ?_) | (with_reducible refine Stuck.h (A := AppG _ _ _ _ _ _ _) ?_) | (with_reducible refine Stuck.h (A := FzG _ _ _ _) ?_)
  | (with_reducible refine Stuck.h (A := RawG _) ?_) | (with_reducible refine Stuck.h (A := TabG _ _ _ _ _) ?_) | (with_reducible refine Stuck.h (A := ExtF _ _ _ _) ?_) | (with_reducible refine Stuck.h (A := Chk _ _) ?_) | (with_reducible refine Stuck.h (A := False) ?_))
  · obtain ⟨g1, g2, g3, g4, g5⟩ := add_round (T := c + rd a i + rd b i) h2 h3 h5 h6 h7 ra rb rfl
    exact ⟨again (i + 1, _, _) ⟨by omega, g1, g2, by omega, g3, g4, g5⟩ (by dsimp only; omega) ⟨rfl, rfl, rfl, rfl, rfl, trivial⟩ ⟨[], rfl⟩ ⟨[], rfl⟩⟩
  · obtain ⟨g1, g2, g3, g4, g5⟩ := add_round (T := c + rd a i) h2 h3 h5 h6 h7 ra rb (by rw [rd_out b i (by omega)]; omega)
    exact ⟨again (i + 1, _, _) ⟨by omega, g1, g2, by omega, g3, g4, g5⟩ (by dsimp only; omega) ⟨rfl, rfl, rfl, rfl, rfl, trivial⟩ ⟨[], rfl⟩ ⟨[], rfl⟩⟩
  · obtain ⟨g1, g2, g3, g4, g5⟩ := add_round (T := c + rd b i) h2 h3 h5 h6 h7 ra rb (by rw [rd_out a i (by omega)]; omega)
    exact ⟨again (i + 1, _, _) ⟨by omega, g1, g2, by omega, g3, g4, g5⟩ (by dsimp only; omega) ⟨rfl, rfl, rfl, rfl, rfl, trivial⟩ ⟨[], rfl⟩ ⟨[], rfl⟩⟩
  · obtain ⟨g1, g2, g3, g4, g5⟩ := add_round (T := c) h2 h3 h5 h6 h7 ra rb (by rw [rd_out a i (by omega), rd_out b i (by omega)]; omega)
    exact ⟨again (i + 1, _, _) ⟨by omega, g1, g2, by omega, g3, g4, g5⟩ (by dsimp only; omega) ⟨rfl, rfl, rfl, rfl, rfl, trivial⟩ ⟨[], rfl⟩ ⟨[], rfl⟩⟩
  · refine ⟨ret_e ?_⟩
    show D _ = D (X + Y)
    have hc0 : c = 0 := by omega
    rw [hc0, List.take_of_length_le (by omega), List.take_of_length_le (by omega), va, vb] at h7
    congr 1
    simp at h7
    omega
  · exact ⟨by omega, by omega, by omega, fun _ => rfl, rfl, okD_nil _, by simp [vl]⟩
end Go.Proofs.YtlbnlalkimnhdaaDoor.Sim
