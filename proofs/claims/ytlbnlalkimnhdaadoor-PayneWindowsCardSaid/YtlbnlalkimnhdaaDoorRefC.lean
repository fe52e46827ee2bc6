/-
  gnomonref01: Cmp, Sub, MulSmall, DivSmall. Condition: the numbers below 2^(32 * 2^30).
-/
import Derived.Test.YtlbnlalkimnhdaaDoorRefB
namespace Go.Proofs.YtlbnlalkimnhdaaDoor.Sim
open Go.RowKit
set_option linter.unusedVariables false
set_option linter.unusedSimpArgs false
set_option maxRecDepth 10000
set_option maxHeartbeats 4000000
variable {G : List (Nat × List Value)}
def cmpN (X Y : Nat) : Int := if X < Y then -1 else if X = Y then 0 else 1
theorem r_cmp (X Y : Nat) (hX : L32 X ≤ 1073741824) (hY : L32 Y ≤ 1073741824) : FC Tryd.prog G 65 [D X, D Y] (· = .val (.int .i64 (cmpN X Y))) := by
  obtain ⟨a, ea⟩ : ∃ a, a = d32 X := ⟨_, rfl⟩
  obtain ⟨b, eb⟩ : ∃ b, b = d32 Y := ⟨_, rfl⟩
  obtain ⟨oka, va⟩ := d32_ok X
  obtain ⟨okb, vb⟩ := d32_ok Y
  replace hX : (d32 X).length ≤ 1073741824 := hX
  replace hY : (d32 Y).length ≤ 1073741824 := hY
  have hlt : a.length < b.length → X < Y := fun h => dgs_lt (B := 4294967296) (by decide) (by rw [ea, eb] at h; exact h)
  have hgt : b.length < a.length → Y < X := fun h => dgs_lt (B := 4294967296) (by decide) (by rw [ea, eb] at h; exact h)
  unfold D
  rw [← ea] at hX oka va
  rw [← eb] at hY okb vb
  rw [← ea, ← eb]
  refine FC.intro (X := XX) tok Tryd.func65 rfl Tryd.ntmps65 (by rw [Tryd.results65]) (by kernel_rfl) rfl ?_; intro F hG hO
  repeat' ((try (conv => whnf)); first
  | ((with_reducible refine lg ?_); refine loop_g (A := Nat) (fun m => m ≤ a.length ∧ a.drop m = b.drop m) (fun m => m) (fun m => [(0, .ws .u32 a), (1, .ws .u32 b), (5, .val (.int .i64 ((m : Int) - 1)))]) (fun _ => []) (fun _ => []) a.length tok (fun _ => ⟨⟨trivial, trivial, trivial, trivial⟩, trivial, by simp only [List.length_nil]; omega⟩) ?_ ⟨rfl, rfl, rfl, trivial⟩ ⟨[], rfl⟩ ⟨[], rfl⟩ ?_; rotate_left; rintro m ⟨h1, h2⟩)
  
  | (with_reducible refine draw_g (id := 8) [[0, 1, 2, 3, 4, 5, 6, 7, 8]] tok mixed (by kernel_rfl) ?_)
  | (with_reducible refine draw_g (id := 10) [[0, 1, 2, 3, 4, 5, 6, 7, 8]] tok mixed (by kernel_rfl) ?_)
  | (with_reducible refine Chk.mk' (by first | omega | exact trivial | (simp only [List.length_append, List.length_set, List.length_replicate, List.length_take, List.length_drop, List.length_cons, List.length_nil, List.length_map]; omega)) ?_)
  | (with_reducible refine wrap_g (by dsimp only [inR]; omega) ?_)
  | (with_reducible refine idx_g (by omega) ?_)
  | (with_reducible refine idx_l _ rfl (by decide) ?_)
  | (with_reducible refine fork_tt ?_) | (with_reducible refine fork_ff ?_)
  | (with_reducible refine fork_t (by omega) ?_) | (with_reducible refine fork_f (by omega) ?_)
  | (with_reducible refine fork_d ?_ ?_ <;> intro hc)
  | (with_reducible refine fork_n ?_)
  | (with_reducible refine fork_b ?_ ?_ <;> intro hc)
  | (with_reducible refine SlcG.mk (by omega) ?_)
  | (with_reducible refine MakG.mk (by dsimp only; omega) ?_)
  | (with_reducible refine AppG.mk (by first | omega | (simp only [List.length_append, List.length_set, List.length_replicate, List.length_take, List.length_drop, List.length_cons, List.length_nil, List.length_map]; omega)) (by dsimp only [List.length_cons, List.length_nil]; omega) (by omega) ?_)
  | (with_reducible refine div_g (by omega) (by omega) (by dsimp only [inR]; omega) ?_)
  | (with_reducible refine mod_g (by omega) (by omega) ?_)
  | (with_reducible refine mask_g (m := 4294967296) 32 rfl rfl (by decide) (by omega) ?_)
  | (with_reducible refine shr_g (m := 4294967296) 32 rfl (by decide) (by omega) rfl ?_)
  | (with_reducible refine fz_all (by omega) ?_)
  | (with_reducible refine Stuck.h (A := RetE _ _) ?_) | (with_reducible refine Stuck.h (A := RetM _ _ _ _) ?_) | (with_reducible refine Stuck.h (A := Again _ _ _ _ _ _ _ _) ?_) | (with_reducible refine Stuck.h (A := CallF _ _ _ _ _ _ _) ?_) | (with_reducible refine Stuck.h (A := LoopG _ _ _ _ _ _ _ _) ?_) | (with_reducible refine Stuck.h (A := DrawG _ _ _ _ _ _ _ _) ?_)
  | (with_reducible refine Stuck.h (A := WrapG _ _ _) ?_) | (with_reducible refine Stuck.h (A := DivG _ _ _ _) ?_) | (with_reducible refine Stuck.h (A := ModG _ _ _) ?_) | (with_reducible refine Stuck.h (A := ShlG _ _ _ _) ?_) | (with_reducible refine Stuck.h (A := ShrG _ _ _ _) ?_) | (with_reducible refine Stuck.h (A := BitG _ _ _ _ _) ?_)
  | (with_reducible refine Stuck.h (A := IdxG _ _ _) ?_) | (with_reducible refine Stuck.h (A := IdxL _ _ _) ?_) | (with_reducible refine Stuck.h (A := SlcG _ _ _ _ _) ?_) | (with_reducible refine Stuck.h (A := MakG _ _ _ _) ?_) | (with_reducible refine Stuck.h (A := AppG _ _ _ _ _ _ _) ?_) | (with_reducible refine Stuck.h (A := FzG _ _ _ _) ?_)
  | (with_reducible refine Stuck.h (A := RawG _) ?_) | (with_reducible refine Stuck.h (A := TabG _ _ _ _ _) ?_) | (with_reducible refine Stuck.h (A := ExtF _ _ _ _) ?_) | (with_reducible refine Stuck.h (A := Chk _ _) ?_) | (with_reducible refine Stuck.h (A := False) ?_))
  · have h := hlt (by omega)
    exact ⟨ret_e (by rw [cmpN, if_pos h])⟩
  · have h := hgt (by omega)
    exact ⟨ret_e (by rw [cmpN, if_neg (by omega), if_neg (by omega)])⟩
  · have hi : ((m - 1 : Nat) : Int) = (m : Int) - 1 := by omega
    have h := vl_lt_of (by decide) oka okb (by omega) (m - 1) (by omega) (by rw [show m - 1 + 1 = m by omega]; exact h2) (by rw [hi]; assumption)
    exact ⟨ret_e (by rw [cmpN, if_pos (by omega)])⟩
  · have hi : ((m - 1 : Nat) : Int) = (m : Int) - 1 := by omega
    have h := vl_lt_of (by decide) okb oka (by omega) (m - 1) (by omega) (by rw [show m - 1 + 1 = m by omega]; exact h2.symm) (by rw [hi]; assumption)
    exact ⟨ret_e (by rw [cmpN, if_neg (by omega), if_neg (by omega)])⟩
  · have hi : ((m - 1 : Nat) : Int) = (m : Int) - 1 := by omega
    have hdr : a.drop (m - 1) = b.drop (m - 1) := by
      rw [drop_rd a (m - 1) (by omega), drop_rd b (m - 1) (by omega), show m - 1 + 1 = m by omega, h2, hi]
      congr 1; omega
    exact ⟨again (m - 1) ⟨by omega, hdr⟩ (by omega) ⟨rfl, rfl, iv_eq (by omega), trivial⟩ ⟨[], rfl⟩ ⟨[], rfl⟩⟩
  · have hm : m = 0 := by omega
    subst hm
    have hab : a = b := by simpa using h2
    have hXY : X = Y := by rw [hab] at va; omega
    exact ⟨ret_e (by rw [cmpN, if_neg (by omega), if_pos hXY])⟩
  · exact ⟨Nat.le_refl _, by rw [List.drop_length, List.drop_eq_nil_of_le (by omega)]⟩
theorem sub_round {a b s : List Int} {i : Nat} {c d e : Int} (h5 : s.length = i) (h6 : okD 4294967296 s) (h7 : vl 4294967296 s - 4294967296 ^ i * c = vl 4294967296 (a.take i) - vl 4294967296 (b.take i)) (hd : 0 ≤ d ∧ d < 4294967296) (hT : d - 4294967296 * e = rd a i - c - rd b i) :
    (s ++ [d]).length = i + 1 ∧ okD 4294967296 (s ++ [d]) ∧ vl 4294967296 (s ++ [d]) - 4294967296 ^ (i + 1) * e = vl 4294967296 (a.take (i + 1)) - vl 4294967296 (b.take (i + 1)) := by
  refine ⟨by simp [h5], okD_append.2 ⟨h6, okD_cons.2 ⟨hd, okD_nil _⟩⟩, ?_⟩
  have h := sum_step (B := 4294967296) (vs := vl 4294967296 s) (d := d) (c2 := -e) (T := rd a i - c - rd b i) i (by omega)
  rw [Int.mul_neg, Int.mul_sub, Int.mul_sub] at h
  rw [vl_snoc, h5, vl_take_step, vl_take_step]
  omega
theorem r_sub (X Y : Nat) (hX : L32 X ≤ 1073741824) (hY : L32 Y ≤ 1073741824) : FC Tryd.prog G 66 [D X, D Y] (· = D (X - Y)) := by
  have hcmp := r_cmp (G := G) X Y hX hY
  have hw0 := r_word (G := G) 0 (by decide)
  obtain ⟨a, ea⟩ : ∃ a, a = d32 X := ⟨_, rfl⟩
  obtain ⟨b, eb⟩ : ∃ b, b = d32 Y := ⟨_, rfl⟩
  obtain ⟨oka, va⟩ := d32_ok X
  obtain ⟨okb, vb⟩ := d32_ok Y
  replace hX : (d32 X).length ≤ 1073741824 := hX
  replace hY : (d32 Y).length ≤ 1073741824 := hY
  have hlt : a.length < b.length → X < Y := fun h => dgs_lt (B := 4294967296) (by decide) (by rw [ea, eb] at h; exact h)
  unfold D at hcmp ⊢
  rw [← ea] at hX oka va
  rw [← eb] at hY okb vb
  rw [← ea, ← eb] at hcmp ⊢
  refine FC.intro (X := XX) tok Tryd.func66 rfl Tryd.ntmps66 (by rw [Tryd.results66]) (by kernel_rfl) rfl ?_; intro F hG hO
  rw [← hG] at hcmp hw0
  repeat' ((try (conv => whnf)); first
  | ((with_reducible refine cg ?_); refine call_eq hcmp (LpL.refl _) rfl ?_)
  | ((with_reducible refine cg ?_); refine call_eq hw0 (LpL.refl _) rfl ?_)
  | ((with_reducible refine cg ?_); refine call_fz 0 (B := s) rfl rfl (by omega) (by rw [List.drop_zero, ← h5, List.take_length]) (by omega) ?_; refine call_eq (r_normD s (by omega) h6) (LpL.refl _) rfl ?_)
  | ((with_reducible refine lg ?_); refine loop_g (A := Nat × List Int × Int) (fun (i, s, c) => i ≤ a.length ∧ 0 ≤ c ∧ c ≤ 1 ∧ s.length = i ∧ okD 4294967296 s ∧ vl 4294967296 s - 4294967296 ^ i * c = vl 4294967296 (a.take i) - vl 4294967296 (b.take i)) (fun (i, s, c) => a.length - i) (fun (i, s, c) => [(0, .ws .u32 a), (1, .ws .u32 b), (5, .arr 0 0 i), (6, .val (.int .u64 c)), (7, .val (.int .i64 (i : Int)))]) (fun _ => []) (fun (i, s, c) => [some ⟨1, 111, .w .u32 s⟩]) (0, [], 0) tok (fun (i, s, c) => ⟨⟨trivial, trivial, Nat.one_pos, trivial, trivial, trivial⟩, trivial, by simp only [List.length_cons]; omega⟩) ?_ ⟨rfl, rfl, rfl, rfl, rfl, trivial⟩ ⟨[], rfl⟩ ⟨[], rfl⟩ ?_; rotate_left; rintro ⟨i, s, c⟩ ⟨h1, h2, h3, h5, h6, h7⟩; have ra := rd_bd (by decide) oka (i : Int); have rb := rd_bd (by decide) okb (i : Int))
  
  | (with_reducible refine Chk.mk' (by first | omega | exact trivial | (simp only [List.length_append, List.length_set, List.length_replicate, List.length_take, List.length_drop, List.length_cons, List.length_nil, List.length_map]; omega)) ?_)
  | (with_reducible refine wrap_g (by dsimp only [inR]; omega) ?_)
  | (with_reducible refine idx_g (by omega) ?_)
  | (with_reducible refine idx_l _ rfl (by decide) ?_)
  | (with_reducible refine fork_tt ?_) | (with_reducible refine fork_ff ?_)
  | (with_reducible refine fork_t (by omega) ?_) | (with_reducible refine fork_f (by omega) ?_)
  | (with_reducible refine fork_d ?_ ?_ <;> intro hc)
  | (with_reducible refine fork_n ?_)
  | (with_reducible refine fork_b ?_ ?_ <;> intro hc)
  | (with_reducible refine SlcG.mk (by omega) ?_)
  | (with_reducible refine MakG.mk (by dsimp only; omega) ?_)
  | (with_reducible refine AppG.mk (by first | omega | (simp only [List.length_append, List.length_set, List.length_replicate, List.length_take, List.length_drop, List.length_cons, List.length_nil, List.length_map]; omega)) (by dsimp only [List.length_cons, List.length_nil]; omega) (by omega) ?_)
  | (with_reducible refine div_g (by omega) (by omega) (by dsimp only [inR]; omega) ?_)
  | (with_reducible refine mod_g (by omega) (by omega) ?_)
  | (with_reducible refine mask_g (m := 4294967296) 32 rfl rfl (by decide) (by omega) ?_)
  | (with_reducible refine shr_g (m := 4294967296) 32 rfl (by decide) (by omega) rfl ?_)
  | (with_reducible refine fz_all (by omega) ?_)
  | (with_reducible refine Stuck.h (A := RetE _ _) ?_) | (with_reducible refine Stuck.h (A := RetM _ _ _ _) ?_) | (with_reducible refine Stuck.h (A := Again _ _ _ _ _ _ _ _) ?_) | (with_reducible refine Stuck.h (A := CallF _ _ _ _ _ _ _) ?_) | (with_reducible refine Stuck.h (A := LoopG _ _ _ _ _ _ _ _) ?_) | (with_reducible refine Stuck.h (A := DrawG _ _ _ _ _ _ _ _) ?_)
  | (with_reducible refine Stuck.h (A := WrapG _ _ _) ?_) | (with_reducible refine Stuck.h (A := DivG _ _ _ _) ?_) | (with_reducible refine Stuck.h (A := ModG _ _ _) ?_) | (with_reducible refine Stuck.h (A := ShlG _ _ _ _) ?_) | (with_reducible refine Stuck.h (A := ShrG _ _ _ _) ?_) | (with_reducible refine Stuck.h (A := BitG _ _ _ _ _) ?_)
  | (with_reducible refine Stuck.h (A := IdxG _ _ _) ?_) | (with_reducible refine Stuck.h (A := IdxL _ _ _) ?_) | (with_reducible refine Stuck.h (A := SlcG _ _ _ _ _) ?_) | (with_reducible refine Stuck.h (A := MakG _ _ _ _) ?_) | (with_reducible refine Stuck.h (A := AppG _ _ _ _ _ _ _) ?_) | (with_reducible refine Stuck.h (A := FzG _ _ _ _) ?_)
  | (with_reducible refine Stuck.h (A := RawG _) ?_) | (with_reducible refine Stuck.h (A := TabG _ _ _ _ _) ?_) | (with_reducible refine Stuck.h (A := ExtF _ _ _ _) ?_) | (with_reducible refine Stuck.h (A := Chk _ _) ?_) | (with_reducible refine Stuck.h (A := False) ?_))
  · have hle : X - Y = 0 := by
      unfold cmpN at hc
      split at hc
      · omega
      · split at hc
        · omega
        · simp at hc
    exact ⟨ret_e (by rw [hle]; rfl)⟩
  · obtain ⟨g3, g4, g5⟩ := sub_round (d := rd a i + 4294967296 - (c + rd b i)) (e := 1) h5 h6 h7 (by omega) (by omega)
    exact ⟨again (i + 1, _, _) ⟨by omega, by decide, by decide, g3, g4, g5⟩ (by dsimp only; omega) ⟨rfl, rfl, rfl, rfl, rfl, trivial⟩ ⟨[], rfl⟩ ⟨[], rfl⟩⟩
  · obtain ⟨g3, g4, g5⟩ := sub_round (d := rd a i - (c + rd b i)) (e := 0) h5 h6 h7 (by omega) (by omega)
    exact ⟨again (i + 1, _, _) ⟨by omega, by decide, by decide, g3, g4, g5⟩ (by dsimp only; omega) ⟨rfl, rfl, rfl, rfl, rfl, trivial⟩ ⟨[], rfl⟩ ⟨[], rfl⟩⟩
  · obtain ⟨g3, g4, g5⟩ := sub_round (d := rd a i + 4294967296 - c) (e := 1) h5 h6 h7 (by omega) (by rw [rd_out b i (by omega)]; omega)
    exact ⟨again (i + 1, _, _) ⟨by omega, by decide, by decide, g3, g4, g5⟩ (by dsimp only; omega) ⟨rfl, rfl, rfl, rfl, rfl, trivial⟩ ⟨[], rfl⟩ ⟨[], rfl⟩⟩
  · obtain ⟨g3, g4, g5⟩ := sub_round (d := rd a i - c) (e := 0) h5 h6 h7 (by omega) (by rw [rd_out b i (by omega)]; omega)
    exact ⟨again (i + 1, _, _) ⟨by omega, by decide, by decide, g3, g4, g5⟩ (by dsimp only; omega) ⟨rfl, rfl, rfl, rfl, rfl, trivial⟩ ⟨[], rfl⟩ ⟨[], rfl⟩⟩
  · have h8 : ¬ cmpN X Y ≤ 0 := by assumption
    have hgtXY : Y < X := by
      unfold cmpN at h8
      split at h8
      · simp at h8
      · split at h8
        · simp at h8
        · omega
    have hbl : ¬ a.length < b.length := fun h => by have := hlt h; omega
    rw [List.take_of_length_le (by omega), List.take_of_length_le (by omega), va, vb] at h7
    have hv := vl_lt (B := 4294967296) (by decide) h6
    rw [h5] at hv
    have hc01 : c = 0 ∨ c = 1 := by omega
    refine ⟨ret_e ?_⟩
    show D _ = D (X - Y)
    congr 1
    rcases hc01 with e | e
    · rw [e, Int.mul_zero] at h7; omega
    · rw [e, Int.mul_one] at h7; omega
  · exact ⟨by omega, by omega, by omega, rfl, okD_nil _, by simp [vl]⟩
theorem mul_bd {x w : Int} (hx : 0 ≤ x ∧ x < 4294967296) (hw : 0 ≤ w ∧ w < 4294967296) : 0 ≤ x * w ∧ x * w ≤ 18446744065119617025 := by
  refine ⟨Int.mul_nonneg hx.1 hw.1, ?_⟩
  have h1 : x * w ≤ 4294967295 * w := Int.mul_le_mul_of_nonneg_right (by omega) hw.1
  omega
theorem muls_round {a s : List Int} {i : Nat} {c c0 w : Int} (hc : 0 ≤ c ∧ c < 4294967296) (h5 : s.length = i) (h6 : okD 4294967296 s) (h7 : vl 4294967296 s + 4294967296 ^ i * c = vl 4294967296 (a.take i) * w + c0) (hm : 0 ≤ rd a i * w ∧ rd a i * w ≤ 18446744065119617025) :
    0 ≤ (c + rd a i * w) / 4294967296 ∧ (c + rd a i * w) / 4294967296 < 4294967296 ∧ (s ++ [(c + rd a i * w) % 4294967296]).length = i + 1 ∧ okD 4294967296 (s ++ [(c + rd a i * w) % 4294967296]) ∧
      vl 4294967296 (s ++ [(c + rd a i * w) % 4294967296]) + 4294967296 ^ (i + 1) * ((c + rd a i * w) / 4294967296) = vl 4294967296 (a.take (i + 1)) * w + c0 := by
  refine ⟨by omega, by omega, by simp [h5], okD_append.2 ⟨h6, okD_cons.2 ⟨by omega, okD_nil _⟩⟩, ?_⟩
  rw [vl_snoc, h5, sum_step (T := c + rd a i * w) i (by omega), vl_take_step, Int.mul_add, Int.add_mul, Int.mul_assoc]
  omega
theorem r_muls (X : Nat) (w c0 : Int) (hX : L32 X ≤ 1073741824) (hw : 0 ≤ w ∧ w < 4294967296) (hc0 : 0 ≤ c0 ∧ c0 < 4294967296) : FC Tryd.prog G 86 [D X, .val (.int .u32 w), .val (.int .u32 c0)] (· = D (X * w + c0).toNat) := by
  obtain ⟨a, ea⟩ : ∃ a, a = d32 X := ⟨_, rfl⟩
  obtain ⟨oka, va⟩ := d32_ok X
  replace hX : (d32 X).length ≤ 1073741824 := hX
  unfold D
  rw [← ea] at hX oka va
  rw [← ea]
  refine FC.intro (X := XX) tok Tryd.func86 rfl Tryd.ntmps86 (by rw [Tryd.results86]) (by kernel_rfl) rfl ?_; intro F hG hO
  repeat' ((try (conv => whnf)); first
  | ((with_reducible refine cg ?_); refine call_fz 0 (B := s ++ [c]) rfl rfl (by simp only [List.length_append, List.length_cons, List.length_nil]; omega) (by rw [List.drop_zero]; exact List.take_of_length_le (by simp only [List.length_append, List.length_cons, List.length_nil]; omega)) (by omega) ?_; refine call_eq (r_normD (s ++ [c]) (by simp only [List.length_append, List.length_cons, List.length_nil]; omega) (okD_append.2 ⟨h6, okD_cons.2 ⟨h2, okD_nil _⟩⟩)) (LpL.refl _) rfl ?_)
  | ((with_reducible refine lg ?_); refine loop_g (A := Nat × List Int × Int) (fun (i, s, c) => i ≤ a.length ∧ (0 ≤ c ∧ c < 4294967296) ∧ s.length = i ∧ okD 4294967296 s ∧ vl 4294967296 s + 4294967296 ^ i * c = vl 4294967296 (a.take i) * w + c0) (fun (i, s, c) => a.length - i) (fun (i, s, c) => [(0, .ws .u32 a), (1, .val (.int .u32 w)), (7, .arr 0 0 i), (8, .val (.int .u64 c)), (9, .val (.int .i64 (i : Int)))]) (fun _ => []) (fun (i, s, c) => [some ⟨1, 111, .w .u32 s⟩]) (0, [], c0) tok (fun (i, s, c) => ⟨⟨trivial, trivial, Nat.one_pos, trivial, trivial, trivial⟩, trivial, by simp only [List.length_cons]; omega⟩) ?_ ⟨rfl, rfl, rfl, rfl, rfl, trivial⟩ ⟨[], rfl⟩ ⟨[], rfl⟩ ?_; rotate_left; rintro ⟨i, s, c⟩ ⟨h1, h2, h5, h6, h7⟩; have ra := rd_bd (by decide) oka (i : Int); have rm := mul_bd ra hw)
  
  | (with_reducible refine Chk.mk' (by first | omega | exact trivial | (simp only [List.length_append, List.length_set, List.length_replicate, List.length_take, List.length_drop, List.length_cons, List.length_nil, List.length_map]; omega)) ?_)
  | (with_reducible refine wrap_g (by dsimp only [inR]; omega) ?_)
  | (with_reducible refine idx_g (by omega) ?_)
  | (with_reducible refine idx_l _ rfl (by decide) ?_)
  | (with_reducible refine fork_tt ?_) | (with_reducible refine fork_ff ?_)
  | (with_reducible refine fork_t (by omega) ?_) | (with_reducible refine fork_f (by omega) ?_)
  | (with_reducible refine fork_d ?_ ?_ <;> intro hc)
  | (with_reducible refine fork_n ?_)
  | (with_reducible refine fork_b ?_ ?_ <;> intro hc)
  | (with_reducible refine SlcG.mk (by omega) ?_)
  | (with_reducible refine MakG.mk (by dsimp only; omega) ?_)
  | (with_reducible refine AppG.mk (by first | omega | (simp only [List.length_append, List.length_set, List.length_replicate, List.length_take, List.length_drop, List.length_cons, List.length_nil, List.length_map]; omega)) (by dsimp only [List.length_cons, List.length_nil]; omega) (by omega) ?_)
  | (with_reducible refine div_g (by omega) (by omega) (by dsimp only [inR]; omega) ?_)
  | (with_reducible refine mod_g (by omega) (by omega) ?_)
  | (with_reducible refine mask_g (m := 4294967296) 32 rfl rfl (by decide) (by omega) ?_)
  | (with_reducible refine shr_g (m := 4294967296) 32 rfl (by decide) (by omega) rfl ?_)
  | (with_reducible refine fz_all (by omega) ?_)
  | (with_reducible refine Stuck.h (A := RetE _ _) ?_) | (with_reducible refine Stuck.h (A := RetM _ _ _ _) ?_) | (with_reducible refine Stuck.h (A := Again _ _ _ _ _ _ _ _) ?_) | (with_reducible refine Stuck.h (A := CallF _ _ _ _ _ _ _) ?_) | (with_reducible refine Stuck.h (A := LoopG _ _ _ _ _ _ _ _) ?_) | (with_reducible refine Stuck.h (A := DrawG _ _ _ _ _ _ _ _) ?_)
  | (with_reducible refine Stuck.h (A := WrapG _ _ _) ?_) | (with_reducible refine Stuck.h (A := DivG _ _ _ _) ?_) | (with_reducible refine Stuck.h (A := ModG _ _ _) ?_) | (with_reducible refine Stuck.h (A := ShlG _ _ _ _) ?_) | (with_reducible refine Stuck.h (A := ShrG _ _ _ _) ?_) | (with_reducible refine Stuck.h (A := BitG _ _ _ _ _) ?_)
  | (with_reducible refine Stuck.h (A := IdxG _ _ _) ?_) | (with_reducible refine Stuck.h (A := IdxL _ _ _) ?_) | (with_reducible refine Stuck.h (A := SlcG _ _ _ _ _) ?_) | (with_reducible refine Stuck.h (A := MakG _ _ _ _) ?_) | (with_reducible refine Stuck.h (A := AppG _ _ _ _ _ _ _) ?_) | (with_reducible refine Stuck.h (A := FzG _ _ _ _) ?_)
  | (with_reducible refine Stuck.h (A := RawG _) ?_) | (with_reducible refine Stuck.h (A := TabG _ _ _ _ _) ?_) | (with_reducible refine Stuck.h (A := ExtF _ _ _ _) ?_) | (with_reducible refine Stuck.h (A := Chk _ _) ?_) | (with_reducible refine Stuck.h (A := False) ?_))
  · obtain ⟨g1, g2, g3, g4, g5⟩ := muls_round h2 h5 h6 h7 rm
    exact ⟨again (i + 1, _, _) ⟨by omega, ⟨g1, g2⟩, g3, g4, g5⟩ (by dsimp only; omega) ⟨rfl, rfl, rfl, rfl, rfl, trivial⟩ ⟨[], rfl⟩ ⟨[], rfl⟩⟩
  · refine ⟨ret_e ?_⟩
    rw [vl_snoc, h5, h7, List.take_of_length_le (by omega), va]
  · exact ⟨by omega, hc0, rfl, okD_nil _, by simp [vl]⟩
theorem div_bd {l x w : Int} (hl : 0 ≤ l ∧ l < w) (hx : 0 ≤ x ∧ x < 4294967296) (hw : 0 < w) : 0 ≤ (l * 4294967296 + x) / w ∧ (l * 4294967296 + x) / w < 4294967296 := by
  refine ⟨Int.ediv_nonneg (by omega) (by omega), Int.ediv_lt_of_lt_mul hw ?_⟩
  have : (l + 1) * 4294967296 ≤ w * 4294967296 := Int.mul_le_mul_of_nonneg_right (by omega) (by decide)
  rw [Int.mul_comm 4294967296 w]
  omega
theorem div_round {a q : List Int} {m : Nat} {l w : Int} (hm : 0 < m ∧ m ≤ a.length) (hq : q.length = a.length) (hw : 0 < w) (h : vl 4294967296 (a.drop m) = vl 4294967296 (q.drop m) * w + l) :
    vl 4294967296 (a.drop (m - 1)) = vl 4294967296 ((q.set (m - 1) ((l * 4294967296 + rd a ((m : Int) - 1)) / w)).drop (m - 1)) * w + (l * 4294967296 + rd a ((m : Int) - 1)) % w := by
  have hi : ((m - 1 : Nat) : Int) = (m : Int) - 1 := by omega
  have e1 := drop_rd a (m - 1) (by omega)
  rw [show m - 1 + 1 = m by omega, hi] at e1
  have e2 : (q.set (m - 1) ((l * 4294967296 + rd a ((m : Int) - 1)) / w)).drop (m - 1) = (l * 4294967296 + rd a ((m : Int) - 1)) / w :: q.drop m := by
    rw [List.drop_eq_getElem_cons (by simp; omega)]
    simp [show m - 1 + 1 = m by omega]
    exact List.drop_set_of_lt (by omega)
  rw [e1, e2]
  simp only [vl]
  rw [h]
  have hd := Int.mul_ediv_add_emod (l * 4294967296 + rd a ((m : Int) - 1)) w
  rw [Int.mul_comm w] at hd
  rw [Int.add_mul, Int.mul_add, Int.mul_assoc]
  omega
theorem r_divs (X : Nat) (w : Int) (hX : L32 X ≤ 1073741824) (hw : 0 < w ∧ w < 4294967296) : FC Tryd.prog G 85 [D X, .val (.int .u32 w)] (· = .tup [D (X / w).toNat, .val (.int .u32 (X % w))]) := by
  obtain ⟨a, ea⟩ : ∃ a, a = d32 X := ⟨_, rfl⟩
  obtain ⟨oka, va⟩ := d32_ok X
  replace hX : (d32 X).length ≤ 1073741824 := hX
  unfold D
  rw [← ea] at hX oka va
  rw [← ea]
  refine FC.intro (X := XX) tok Tryd.func85 rfl Tryd.ntmps85 (by rw [Tryd.results85]) (by kernel_rfl) rfl ?_; intro F hG hO
  repeat' ((try (conv => whnf)); first
  | (with_reducible refine shl_g (m := 4294967296) 32 rfl (by decide) rfl (by dsimp only [inR]; omega) ?_)
  | ((with_reducible refine cg ?_); refine call_fz 0 (B := q) rfl rfl (by omega) (by rw [List.drop_zero, ← h5, List.take_length]) (by omega) ?_; refine call_eq (r_normD q (by omega) h6) (LpL.refl _) rfl ?_)
  | ((with_reducible refine lg ?_); refine loop_g (A := Nat × List Int × Int) (fun (m, q, l) => m ≤ a.length ∧ (0 ≤ l ∧ l < w) ∧ q.length = a.length ∧ okD 4294967296 q ∧ vl 4294967296 (a.drop m) = vl 4294967296 (q.drop m) * w + l) (fun (m, q, l) => m) (fun (m, q, l) => [(0, .ws .u32 a), (1, .val (.int .u32 w)), (6, .arr 0 0 a.length), (7, .val (.int .u64 l)), (8, .val (.int .i64 ((m : Int) - 1)))]) (fun _ => []) (fun (m, q, l) => [some ⟨1, 111, .w .u32 q⟩]) (a.length, List.replicate a.length 0, 0) tok (fun (m, q, l) => ⟨⟨trivial, trivial, Nat.one_pos, trivial, trivial, trivial⟩, trivial, by simp only [List.length_cons]; omega⟩) ?_ ⟨rfl, rfl, rfl, rfl, rfl, trivial⟩ ⟨[], rfl⟩ ⟨[], rfl⟩ ?_; rotate_left; rintro ⟨m, q, l⟩ ⟨h1, h2, h5, h6, h7⟩; have ra := rd_bd (by decide) oka ((m : Int) - 1); have rq := div_bd h2 ra hw.1)
  
  | (with_reducible refine Chk.mk' (by first | omega | exact trivial | (simp only [List.length_append, List.length_set, List.length_replicate, List.length_take, List.length_drop, List.length_cons, List.length_nil, List.length_map]; omega)) ?_)
  | (with_reducible refine wrap_g (by dsimp only [inR]; omega) ?_)
  | (with_reducible refine idx_g (by omega) ?_)
  | (with_reducible refine idx_l _ rfl (by decide) ?_)
  | (with_reducible refine fork_tt ?_) | (with_reducible refine fork_ff ?_)
  | (with_reducible refine fork_t (by omega) ?_) | (with_reducible refine fork_f (by omega) ?_)
  | (with_reducible refine fork_d ?_ ?_ <;> intro hc)
  | (with_reducible refine fork_n ?_)
  | (with_reducible refine fork_b ?_ ?_ <;> intro hc)
  | (with_reducible refine SlcG.mk (by omega) ?_)
  | (with_reducible refine MakG.mk (by dsimp only; omega) ?_)
  | (with_reducible refine AppG.mk (by first | omega | (simp only [List.length_append, List.length_set, List.length_replicate, List.length_take, List.length_drop, List.length_cons, List.length_nil, List.length_map]; omega)) (by dsimp only [List.length_cons, List.length_nil]; omega) (by omega) ?_)
  | (with_reducible refine div_g (by omega) (by omega) (by dsimp only [inR]; omega) ?_)
  | (with_reducible refine mod_g (by omega) (by omega) ?_)
  | (with_reducible refine mask_g (m := 4294967296) 32 rfl rfl (by decide) (by omega) ?_)
  | (with_reducible refine shr_g (m := 4294967296) 32 rfl (by decide) (by omega) rfl ?_)
  | (with_reducible refine fz_all (by omega) ?_)
  | (with_reducible refine Stuck.h (A := RetE _ _) ?_) | (with_reducible refine Stuck.h (A := RetM _ _ _ _) ?_) | (with_reducible refine Stuck.h (A := Again _ _ _ _ _ _ _ _) ?_) | (with_reducible refine Stuck.h (A := CallF _ _ _ _ _ _ _) ?_) | (with_reducible refine Stuck.h (A := LoopG _ _ _ _ _ _ _ _) ?_) | (with_reducible refine Stuck.h (A := DrawG _ _ _ _ _ _ _ _) ?_)
  | (with_reducible refine Stuck.h (A := WrapG _ _ _) ?_) | (with_reducible refine Stuck.h (A := DivG _ _ _ _) ?_) | (with_reducible refine Stuck.h (A := ModG _ _ _) ?_) | (with_reducible refine Stuck.h (A := ShlG _ _ _ _) ?_) | (with_reducible refine Stuck.h (A := ShrG _ _ _ _) ?_) | (with_reducible refine Stuck.h (A := BitG _ _ _ _ _) ?_)
  | (with_reducible refine Stuck.h (A := IdxG _ _ _) ?_) | (with_reducible refine Stuck.h (A := IdxL _ _ _) ?_) | (with_reducible refine Stuck.h (A := SlcG _ _ _ _ _) ?_) | (with_reducible refine Stuck.h (A := MakG _ _ _ _) ?_) | (with_reducible refine Stuck.h (A := AppG _ _ _ _ _ _ _) ?_) | (with_reducible refine Stuck.h (A := FzG _ _ _ _) ?_)
  | (with_reducible refine Stuck.h (A := RawG _) ?_) | (with_reducible refine Stuck.h (A := TabG _ _ _ _ _) ?_) | (with_reducible refine Stuck.h (A := ExtF _ _ _ _) ?_) | (with_reducible refine Stuck.h (A := Chk _ _) ?_) | (with_reducible refine Stuck.h (A := False) ?_))
  · have hr := div_round (m := m) (by omega) h5 hw.1 h7
    have hmod := Int.emod_nonneg (l * 4294967296 + rd a ((m : Int) - 1)) (show w ≠ 0 by omega)
    have hmod2 := Int.emod_lt_of_pos (l * 4294967296 + rd a ((m : Int) - 1)) hw.1
    refine ⟨again (m - 1, q.set (m - 1) ((l * 4294967296 + rd a ((m : Int) - 1)) / w), (l * 4294967296 + rd a ((m : Int) - 1)) % w) ⟨by omega, ⟨hmod, hmod2⟩, by simpa using h5, fun x hx => ?_, hr⟩ (by dsimp only; omega) ⟨rfl, rfl, rfl, rfl, iv_eq (by omega), trivial⟩ ⟨[], rfl⟩ ⟨[], ?_⟩⟩
    · rcases List.mem_or_eq_of_mem_set hx with h | h
      · exact h6 x h
      · rw [h]; exact rq
    · have ht : 0 + ((m : Int) - 1).toNat = m - 1 := by omega
      rw [ht]; rfl
  · have hm : m = 0 := by omega
    subst hm
    rw [List.drop_zero, List.drop_zero, va] at h7
    have hq0 := vl_nonneg (B := 4294967296) (by decide) h6
    have e2 : (X : Int) / w = vl 4294967296 q := by
      rw [h7, Int.mul_comm, Int.add_comm, Int.add_mul_ediv_left _ _ (by omega), Int.ediv_eq_zero_of_lt h2.1 h2.2, Int.zero_add]
    have e3 : (X : Int) % w = l := by
      rw [h7, Int.mul_comm, Int.add_comm, Int.add_mul_emod_self_left, Int.emod_eq_of_lt h2.1 h2.2]
    exact ⟨ret_e (by rw [e2, e3])⟩
  · refine ⟨Nat.le_refl _, ⟨by omega, by omega⟩, by simp, fun x hx => ?_, by simp [vl]⟩
    have := List.eq_of_mem_replicate hx
    subst this; decide
end Go.Proofs.YtlbnlalkimnhdaaDoor.Sim
