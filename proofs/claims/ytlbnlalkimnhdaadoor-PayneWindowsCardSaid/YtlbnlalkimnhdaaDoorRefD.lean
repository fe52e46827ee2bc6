/-
  gnomonref01: Mul. Condition: the numbers below 2^(32 * 2^30).
-/
import Derived.Test.YtlbnlalkimnhdaaDoorRefC
import Derived.Test.YtlbnlalkimnhdaaDoorRow
namespace Go.Proofs.YtlbnlalkimnhdaaDoor.Sim
open Go.RowKit
set_option linter.unusedVariables false
set_option linter.unusedSimpArgs false
set_option maxRecDepth 10000
set_option maxHeartbeats 4000000
variable {G : List (Nat × List Value)}
theorem vl_set (B : Int) (p : List Int) (k : Nat) (d : Int) (h : k < p.length) : vl B (p.set k d) = vl B p + B ^ k * (d - rd p k) := by
  have e1 := vl_split B (p.set k d) k (by simp; omega)
  have e2 := vl_split B p k (by omega)
  have e3 : (p.set k d).drop k = d :: p.drop (k + 1) := by
    rw [List.drop_eq_getElem_cons (by simp; omega)]
    simp
    exact List.drop_set_of_lt (by omega)
  rw [e1, e2, e3, drop_rd p k h, List.take_set_of_le (by omega)]
  simp only [vl, Int.mul_add, Int.mul_sub]
  omega
theorem drop_next {p q : List Int} {m : Nat} (h : p.drop m = q.drop m) : p.drop (m + 1) = q.drop (m + 1) := by
  have := congrArg (List.drop 1) h
  rwa [List.drop_drop, List.drop_drop] at this
theorem vl_zero (B : Int) : ∀ n, vl B (List.replicate n 0) = 0
  | 0 => rfl
  | n + 1 => by simp [List.replicate_succ, vl, vl_zero B n]
theorem mul_bd2 {x y : Int} (hx : 0 ≤ x ∧ x < 4294967296) (hy : 0 ≤ y ∧ y < 4294967296) : 0 ≤ x * y ∧ x * y ≤ 18446744065119617025 := mul_bd hx hy
theorem r_mul (X Y : Nat) (hX : L32 X ≤ 1073741824) (hY : L32 Y ≤ 1073741824) : FC Tryd.prog G 113 [D X, D Y] (· = D (X * Y)) := by
  obtain ⟨a, ea⟩ : ∃ a, a = d32 X := ⟨_, rfl⟩
  obtain ⟨b, eb⟩ : ∃ b, b = d32 Y := ⟨_, rfl⟩
  obtain ⟨oka, va⟩ := d32_ok X
  obtain ⟨okb, vb⟩ := d32_ok Y
  replace hX : (d32 X).length ≤ 1073741824 := hX
  replace hY : (d32 Y).length ≤ 1073741824 := hY
  unfold D
  rw [← ea] at hX oka va
  rw [← eb] at hY okb vb
  rw [← ea, ← eb]
  refine FC.intro (X := XX) tok Tryd.func113 rfl Tryd.ntmps113 (by rw [Tryd.results113]) (by kernel_rfl) rfl ?_; intro F hG hO
  repeat' ((try (conv => whnf)); first
  | ((with_reducible refine lg ?_); refine loop_g (A := Nat × List Int × Int) (fun (j, p, c) => j ≤ b.length ∧ (0 ≤ c ∧ c < 4294967296) ∧ p.length = a.length + b.length ∧ okD 4294967296 p ∧ p.drop (i + j) = p0.drop (i + j) ∧ vl 4294967296 p + 4294967296 ^ (i + j) * c = vl 4294967296 p0 + 4294967296 ^ i * (rd a i * vl 4294967296 (b.take j))) (fun (j, p, c) => b.length - j) (fun (j, p, c) => [(0, .ws .u32 a), (1, .ws .u32 b), (5, .arr 0 0 (a.length + b.length)), (6, .val (.int .i64 (i : Int))), (7, .val (.int .u64 c)), (8, .val (.int .u64 (rd a i))), (9, .val (.int .i64 (j : Int)))]) (fun _ => []) (fun (j, p, c) => [some ⟨1, 111, .w .u32 p⟩]) (0, p0, 0) tok (fun (j, p, c) => ⟨⟨trivial, trivial, Nat.one_pos, trivial, trivial, trivial, trivial, trivial⟩, trivial, by simp only [List.length_cons]; omega⟩) ?_ ⟨rfl, rfl, rfl, rfl, rfl, rfl, rfl, trivial⟩ ⟨[], rfl⟩ ⟨[], rfl⟩ ?_; rotate_left; rintro ⟨j, p, c⟩ ⟨g1, g2, g5, g6, g7, g8⟩; have rb := rd_bd (by decide) okb (j : Int); have rp := gd_bd (by decide) g6 (0 + ((i : Int) + (j : Int)).toNat); have rm := mul_bd2 ra rb)
  | ((with_reducible refine lg ?_); refine loop_g (A := Nat × List Int) (fun (i, p0) => i ≤ a.length ∧ p0.length = a.length + b.length ∧ okD 4294967296 p0 ∧ (∀ k : Nat, i + b.length ≤ k → rd p0 k = 0) ∧ vl 4294967296 p0 = vl 4294967296 (a.take i) * vl 4294967296 b) (fun (i, p0) => a.length - i) (fun (i, p0) => [(0, .ws .u32 a), (1, .ws .u32 b), (5, .arr 0 0 (a.length + b.length)), (6, .val (.int .i64 (i : Int)))]) (fun _ => []) (fun (i, p0) => [some ⟨1, 111, .w .u32 p0⟩]) (0, List.replicate (a.length + b.length) 0) tok (fun (i, p0) => ⟨⟨trivial, trivial, Nat.one_pos, trivial, trivial⟩, trivial, by simp only [List.length_cons]; omega⟩) ?_ ⟨rfl, rfl, rfl, rfl, trivial⟩ ⟨[], rfl⟩ ⟨[], rfl⟩ ?_; rotate_left; rintro ⟨i, p0⟩ ⟨h1, h5, h6, h7, h8⟩; have ra := rd_bd (by decide) oka (i : Int))
  | ((with_reducible refine cg ?_); refine call_fz 0 (B := p0) rfl rfl (by omega) (by rw [List.drop_zero, ← h5, List.take_length]) (by omega) ?_; refine call_eq (r_normD p0 (by omega) h6) (LpL.refl _) rfl ?_)
  
  | (with_reducible refine draw_g (id := 10) [[0, 1, 2, 3, 4, 5, 6, 7, 8, 9, 10, 11, 12, 13, 14, 15, 16, 17]] tok mixed (by kernel_rfl) ?_)
  | (with_reducible refine Chk.mk' (by first | omega | exact trivial | (simp only [List.length_append, List.length_set, List.length_replicate, List.length_take, List.length_drop, List.length_cons, List.length_nil, List.length_map]; omega)) ?_)
  | (with_reducible refine wrap_g (by dsimp only [inR]; omega) ?_)
  | (with_reducible refine idx_g (by omega) ?_)
  | (with_reducible refine idx_l _ rfl (by decide) ?_)
  | (with_reducible refine fork_tt ?_) | (with_reducible refine fork_ff ?_)
  | (with_reducible refine fork_t (by omega) ?_) | (with_reducible refine fork_f (by omega) ?_)
  | (with_reducible refine fork_d ?_ ?_ <;> intro hc)
  | (with_reducible refine fork_n ?_)
  | (with_reducible refine fork_b ?_ ?_ <;> intro hc)
  | (with_reducible refine SlcG.mk (by omega) ?_)
  | (with_reducible refine MakG.mk (by dsimp only; omega) ?_)
  | (with_reducible refine AppG.mk (by first | omega | (simp only [List.length_append, List.length_set, List.length_replicate, List.length_take, List.length_drop, List.length_cons, List.length_nil, List.length_map]; omega)) (by dsimp only [List.length_cons, List.length_nil]; omega) (by omega) ?_)
  | (with_reducible refine div_g (by omega) (by omega) (by dsimp only [inR]; omega) ?_)
  | (with_reducible refine mod_g (by omega) (by omega) ?_)
  | (with_reducible refine mask_g (m := 4294967296) 32 rfl rfl (by decide) (by omega) ?_)
  | (with_reducible refine shr_g (m := 4294967296) 32 rfl (by decide) (by omega) rfl ?_)
  | (with_reducible refine fz_all (by omega) ?_)
  | (with_reducible refine Stuck.h (A := RetE _ _) ?_) | (with_reducible refine Stuck.h (A := RetM _ _ _ _) ?_) | (with_reducible refine Stuck.h (A := Again _ _ _ _ _ _ _ _) ?_) | (with_reducible refine Stuck.h (A := CallF _ _ _ _ _ _ _) ?_) | (with_reducible refine Stuck.h (A := LoopG _ _ _ _ _ _ _ _) ?_) | (with_reducible refine Stuck.h (A := DrawG _ _ _ _ _ _ _ _) ?_)
  | (with_reducible refine Stuck.h (A := WrapG _ _ _) ?_) | (with_reducible refine Stuck.h (A := DivG _ _ _ _) ?_) | (with_reducible refine Stuck.h (A := ModG _ _ _) ?_) | (with_reducible refine Stuck.h (A := ShlG _ _ _ _) ?_) | (with_reducible refine Stuck.h (A := ShrG _ _ _ _) ?_) | (with_reducible refine Stuck.h (A := BitG _ _ _ _ _) ?_)
  | (with_reducible refine Stuck.h (A := IdxG _ _ _) ?_) | (with_reducible refine Stuck.h (A := IdxL _ _ _) ?_) | (with_reducible refine Stuck.h (A := SlcG _ _ _ _ _) ?_) | (with_reducible refine Stuck.h (A := MakG _ _ _ _) ?_) | (with_reducible refine Stuck.h (A := AppG _ _ _ _ _ _ _) ?_) | (with_reducible refine Stuck.h (A := FzG _ _ _ _) ?_)
  | (with_reducible refine Stuck.h (A := RawG _) ?_) | (with_reducible refine Stuck.h (A := TabG _ _ _ _ _) ?_) | (with_reducible refine Stuck.h (A := ExtF _ _ _ _) ?_) | (with_reducible refine Stuck.h (A := Chk _ _) ?_) | (with_reducible refine Stuck.h (A := False) ?_))
  · obtain ⟨T, hT⟩ : ∃ T : Int, T = c + (p.getD (0 + ((i : Int) + (j : Int)).toNat) 0 + rd a i * rd b j) := ⟨_, rfl⟩
    have hk : 0 + ((i : Int) + (j : Int)).toNat = i + j := by omega
    have hrp : rd p ((i + j : Nat) : Int) = p.getD (0 + ((i : Int) + (j : Int)).toNat) 0 := by rw [hk, gd_rd]
    have hv := vl_set 4294967296 p (i + j) (T % 4294967296) (by omega)
    have hs := sum_step (B := 4294967296) (vs := vl 4294967296 p) (d := T % 4294967296 - rd p ((i + j : Nat) : Int)) (c2 := T / 4294967296) (T := c + rd a i * rd b j) (i + j) (by omega)
    refine ⟨again (j + 1, p.set (i + j) (T % 4294967296), T / 4294967296) ⟨by omega, ⟨by omega, by omega⟩, by simpa using g5, fun x hx => ?_, ?_, ?_⟩ (by dsimp only; omega) ⟨rfl, rfl, rfl, rfl, iv_eq (by rw [hT]), rfl, rfl, trivial⟩ ⟨[], rfl⟩ ⟨[], ?_⟩⟩
    · rcases List.mem_or_eq_of_mem_set hx with h | h
      · exact g6 x h
      · rw [h]; omega
    · rw [← Nat.add_assoc, List.drop_set_of_lt (by omega)]; exact drop_next g7
    · rw [hv, ← Nat.add_assoc, hs, vl_take_step]
      have e1 : (4294967296 : Int) ^ (i + j) * (c + rd a i * rd b j) = 4294967296 ^ (i + j) * c + 4294967296 ^ i * (rd a i * (4294967296 ^ j * rd b j)) := by
        rw [Int.mul_add, Int.pow_add, Int.mul_assoc (4294967296 ^ i) (4294967296 ^ j) (rd a i * rd b j), Int.mul_left_comm (4294967296 ^ j) (rd a i) (rd b j)]
      rw [e1, Int.mul_add (rd a i), Int.mul_add (4294967296 ^ i)]
      omega
    · rw [hT, ← hk]; rfl
  · have hk : 0 + ((i : Int) + (b.length : Int)).toNat = i + b.length := by omega
    have hj : j = b.length := by omega
    subst hj
    have hz : rd p ((i + b.length : Nat) : Int) = 0 := by
      have e1 := drop_rd p (i + b.length) (by omega)
      have e2 := drop_rd p0 (i + b.length) (by omega)
      rw [g7, e2] at e1
      have := (List.cons.inj e1).1
      rw [← this]; exact h7 _ (Nat.le_refl _)
    have hv := vl_set 4294967296 p (i + b.length) c (by omega)
    rw [hz, Int.sub_zero] at hv
    refine ⟨again (i + 1, p.set (i + b.length) c) ⟨by omega, by simpa using g5, fun x hx => ?_, fun k hk2 => ?_, ?_⟩ (by dsimp only; omega) ⟨rfl, rfl, rfl, rfl, trivial⟩ ⟨[], rfl⟩ ⟨[], by rw [← hk]; rfl⟩⟩
    · rcases List.mem_or_eq_of_mem_set hx with h | h
      · exact g6 x h
      · rw [h]; exact g2
    · have e3 : (p.set (i + b.length) c).drop (i + b.length + 1) = p0.drop (i + b.length + 1) := by
        rw [List.drop_set_of_lt (by omega)]; exact drop_next g7
      have e4 : rd (p.set (i + b.length) c) k = rd p0 k := by
        have h0 := congrArg (fun l => l.getD (k - (i + b.length + 1)) 0) e3
        simp only [List.getD_eq_getElem?_getD, List.getElem?_drop] at h0
        rw [show i + b.length + 1 + (k - (i + b.length + 1)) = k by omega] at h0
        simpa [rd, List.getD_eq_getElem?_getD] using h0
      rw [e4]; exact h7 k (by omega)
    · rw [hv, g8, h8, vl_take_step, List.take_length, Int.add_mul, Int.mul_assoc]
  · exact ⟨by omega, ⟨by omega, by omega⟩, h5, h6, rfl, by simp [vl]⟩
  · refine ⟨ret_e ?_⟩
    rw [h8, List.take_of_length_le (by omega), va, vb]
    rfl
  · exact ⟨by omega, by simp, fun x hx => by rw [List.eq_of_mem_replicate hx]; decide, fun k _ => by simp [rd, List.getD_eq_getElem?_getD, List.getElem?_replicate]; split <;> rfl, by rw [vl_zero]; simp [vl]⟩
end Go.Proofs.YtlbnlalkimnhdaaDoor.Sim
