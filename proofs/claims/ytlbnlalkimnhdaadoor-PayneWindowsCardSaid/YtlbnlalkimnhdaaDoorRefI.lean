/-
  gnomonref12: div, Arc, bounds, Inv. Condition: bits to 2^28, the arctangents' arguments to 2^32; of Inv, that the bounds agree at the first try.
-/
import Derived.Test.YtlbnlalkimnhdaaDoorRefH
namespace Go.Proofs.YtlbnlalkimnhdaaDoor.Sim
open Go.RowKit
set_option linter.unusedVariables false
set_option linter.unusedSimpArgs false
set_option maxRecDepth 10000
set_option maxHeartbeats 8000000
variable {G : List (Nat × List Value)}
theorem D_one (Y : Nat) (h : L32 Y = 1) : rd (d32 Y) 0 = (Y : Int) ∧ 0 < Y ∧ Y < 4294967296 := by
  have h1 := d32_rd Y 0
  have h2 := L32_lt Y
  rw [h] at h2
  have h3 : Y ≠ 0 := fun h0 => by subst h0; rw [L32, lenB_zero] at h; omega
  refine ⟨?_, by omega, h2⟩
  rw [show ((0 : Nat) : Int) = 0 by rfl] at h1
  rw [h1, Nat.pow_zero, Nat.div_one]
  omega
theorem r_div (X Y : Nat) (hX : L32 X ≤ 268435456) (hY : L32 Y ≤ 268435456) : FC Tryd.prog G 115 [D X, D Y] (· = D (X / Y)) := by
  have hly : (d32 Y).length = L32 Y := rfl
  refine FC.intro (X := XX) tok Tryd.func115 rfl Tryd.ntmps115 (by rw [Tryd.results115]) (by kernel_rfl) rfl ?_; intro F hG hO
  repeat' ((try (conv => whnf)); first
  | ((with_reducible refine cg ?_); have hr1 := D_one Y (by omega); rw [hr1.1]; refine call_eq (r_divs X Y (by omega) (by omega)) (LpL.refl _) rfl ?_)
  | ((with_reducible refine cg ?_); refine call_eq (r_divmod X Y hX hY) (LpL.refl _) rfl ?_)
  
  | (with_reducible refine Chk.mk' (by first | omega | exact trivial | (simp only [List.length_append, List.length_set, List.length_replicate, List.length_take, List.length_drop, List.length_cons, List.length_nil, List.length_map]; omega)) ?_)
  | (with_reducible refine wrap_g (by dsimp only [inR]; omega) ?_)
  | (with_reducible refine idx_g (by omega) ?_)
  | (with_reducible refine idx_l _ rfl (by decide) ?_)
  | (with_reducible refine fork_tt ?_) | (with_reducible refine fork_ff ?_)
  | (with_reducible refine fork_t (by omega) ?_) | (with_reducible refine fork_f (by omega) ?_)
  | (with_reducible refine fork_d ?_ ?_ <;> intro hc)
  | (with_reducible refine fork_n ?_)
  | (with_reducible refine fork_b ?_ ?_ <;> intro hc)
  | (with_reducible refine SlcG.mk (by omega) ?_)
  | (with_reducible refine MakG.mk (by dsimp only; omega) ?_)
  | (with_reducible refine AppG.mk (by first | omega | (simp only [List.length_append, List.length_set, List.length_replicate, List.length_take, List.length_drop, List.length_cons, List.length_nil, List.length_map]; omega)) (by dsimp only [List.length_cons, List.length_nil]; omega) (by omega) ?_)
  | (with_reducible refine div_g (by omega) (by omega) (by dsimp only [inR]; omega) ?_)
  | (with_reducible refine mod_g (by omega) (by omega) ?_)
  | (with_reducible refine mask_g (m := 4294967296) 32 rfl rfl (by decide) (by omega) ?_)
  | (with_reducible refine shr_g (m := 4294967296) 32 rfl (by decide) (by omega) rfl ?_)
  | (with_reducible refine fz_all (by omega) ?_)
  | (with_reducible refine Stuck.h (A := RetE _ _) ?_) | (with_reducible refine Stuck.h (A := RetM _ _ _ _) ?_) | (with_reducible refine Stuck.h (A := Again _ _ _ _ _ _ _ _) ?_) | (with_reducible refine Stuck.h (A := CallF _ _ _ _ _ _ _) ?_) | (with_reducible refine Stuck.h (A := LoopG _ _ _ _ _ _ _ _) ?_) | (with_reducible refine Stuck.h (A := DrawG _ _ _ _ _ _ _ _) ?_)
  | (with_reducible refine Stuck.h (A := WrapG _ _ _) ?_) | (with_reducible refine Stuck.h (A := DivG _ _ _ _) ?_) | (with_reducible refine Stuck.h (A := ModG _ _ _) ?_) | (with_reducible refine Stuck.h (A := ShlG _ _ _ _) ?_) | (with_reducible refine Stuck.h (A := ShrG _ _ _ _) ?_) | (with_reducible refine Stuck.h (A := BitG _ _ _ _ _) ?_)
  | (with_reducible refine Stuck.h (A := IdxG _ _ _) ?_) | (with_reducible refine Stuck.h (A := IdxL _ _ _) ?_) | (with_reducible refine Stuck.h (A := SlcG _ _ _ _ _) ?_) | (with_reducible refine Stuck.h (A := MakG _ _ _ _) ?_) | (with_reducible refine Stuck.h (A := AppG _ _ _ _ _ _ _) ?_) | (with_reducible refine Stuck.h (A := FzG _ _ _ _) ?_)
  | (with_reducible refine Stuck.h (A := RawG _) ?_) | (with_reducible refine Stuck.h (A := TabG _ _ _ _ _) ?_) | (with_reducible refine Stuck.h (A := ExtF _ _ _ _) ?_) | (with_reducible refine Stuck.h (A := Chk _ _) ?_) | (with_reducible refine Stuck.h (A := False) ?_))
  · exact ⟨ret_e (by rw [← Int.natCast_ediv, Int.toNat_natCast]; rfl)⟩
  · exact ⟨ret_e rfl⟩
/-- Euler's series: the parts that are left, their sum, what it lacks. -/
def arcL (m : Nat) : Nat → Nat → Nat → Nat → Nat → Nat × Nat
  | 0, _, sum, off, _ => (sum, off)
  | f + 1, t, sum, off, i => if t = 0 then (sum, off) else arcL m f (t * (2 * i) / (2 * i + 1) / m) (sum + t) (off + 2) (i + 1)
def arcN (k w : Nat) : Nat × Nat :=
  let r := arcL (k * k + 1) (w + 64) (2 ^ w * k / (k * k + 1)) 0 4 1
  (r.1, r.1 + r.2)
def bndN (w : Nat) : Nat × Nat :=
  let a := arcN 3 w
  let c := arcN 7 w
  (a.1 * 2 ^ 3 + c.1 * 2 ^ 2, a.2 * 2 ^ 3 + c.2 * 2 ^ 2)
theorem L32_p2 (n : Nat) : L32 (2 ^ n) ≤ n / 32 + 1 := by
  have := L32_shl 1 n
  rw [Nat.one_mul] at this
  have h1 : L32 1 ≤ 1 := L32_le (by decide)
  apply L32_le
  exact Nat.pow_lt_pow_right (by decide) (by omega)
theorem L32_mul (x y : Nat) : L32 (x * y) ≤ L32 x + L32 y := lenB_mul (by decide) x y
theorem L32_mono {x y : Nat} (h : x ≤ y) : L32 x ≤ L32 y := lenB_mono (by decide) h
theorem L32_add (x y : Nat) : L32 (x + y) ≤ max (L32 x) (L32 y) + 1 := lenB_add (by decide) x y
theorem arc_lt {m t f i : Nat} (hm : 2 ≤ m) (h : t < 2 ^ (f + 1)) : t * (2 * i) / (2 * i + 1) / m < 2 ^ f := by
  have h1 : t * (2 * i) / (2 * i + 1) ≤ t := Nat.div_le_of_le_mul (by rw [Nat.mul_comm (2 * i + 1)]; exact Nat.mul_le_mul_left _ (by omega))
  rw [Nat.div_lt_iff_lt_mul (by omega)]
  rw [Nat.pow_succ] at h
  have : 2 ^ f * 2 ≤ 2 ^ f * m := Nat.mul_le_mul_left _ hm
  omega
theorem arc_half {m t i : Nat} (hm : 2 ≤ m) : 2 * (t * (2 * i) / (2 * i + 1) / m) ≤ t := by
  have h1 : t * (2 * i) / (2 * i + 1) ≤ t := Nat.div_le_of_le_mul (by rw [Nat.mul_comm (2 * i + 1)]; exact Nat.mul_le_mul_left _ (by omega))
  have h2 := Nat.div_mul_le_self (t * (2 * i) / (2 * i + 1)) m
  have h3 : t * (2 * i) / (2 * i + 1) / m * 2 ≤ t * (2 * i) / (2 * i + 1) / m * m := Nat.mul_le_mul_left _ hm
  omega
def ArcI (k w m T0 t sum i f : Nat) : Prop := 1 ≤ i ∧ i + f = w + 65 ∧ arcL m f t sum (2 * i + 2) i = arcL m (w + 64) T0 0 4 1 ∧ t < 2 ^ f ∧ sum + 2 * t ≤ 2 * T0
theorem mul_nat (t i : Nat) : ((t : Int) * (2 * (i : Int)) + 0).toNat = t * (2 * i) := by
  have : ((t : Int) * (2 * (i : Int)) + 0) = ((t * (2 * i) : Nat) : Int) := by simp
  rw [this, Int.toNat_natCast]
theorem r_arc (k w : Nat) (hk : 2 ≤ k ∧ k ≤ 4294967296) (hw : w ≤ 268435456) : FC Tryd.prog G 87 [.val (.int .i64 (k : Int)), .val (.int .i64 (w : Int))] (· = .tup [D (arcN k w).1, D (arcN k w).2]) := by
  obtain ⟨m, hm⟩ : ∃ m, m = k * k + 1 := ⟨_, rfl⟩
  obtain ⟨T0, hT0⟩ : ∃ T0, T0 = 2 ^ w * k / m := ⟨_, rfl⟩
  have hm2 : 2 ≤ m := by have : 1 * 1 ≤ k * k := Nat.mul_le_mul (by omega) (by omega); omega
  have lk : L32 k ≤ 2 := L32_le (Nat.lt_of_le_of_lt hk.2 (by decide))
  have lkk := L32_mul k k
  have lm := L32_add (k * k) 1
  have l1 : L32 1 ≤ 1 := L32_le (by decide)
  rw [← hm] at lm
  have lw := L32_p2 w
  have lwk := L32_mul (2 ^ w) k
  have hT0k : T0 ≤ 2 ^ w * k := by rw [hT0]; exact Nat.div_le_self _ _
  have lT : L32 T0 ≤ L32 (2 ^ w * k) := L32_mono hT0k
  have l2T : L32 (2 * T0) ≤ L32 T0 + 1 := by have := L32_mul 2 T0; have h2 : L32 2 ≤ 1 := L32_le (by decide); omega
  have hT2 : T0 < 2 ^ (w + 64) := by
    rw [Nat.pow_add]
    exact Nat.lt_of_le_of_lt hT0k (Nat.mul_lt_mul_of_pos_left (Nat.lt_of_le_of_lt hk.2 (by decide)) (Nat.pow_pos (by decide)))
  refine FC.intro (X := XX) tok Tryd.func87 rfl Tryd.ntmps87 (by rw [Tryd.results87]) (by kernel_rfl) rfl ?_; intro F hG hO
  repeat' ((try (conv => whnf)); first
  | ((with_reducible refine cg ?_); refine call_eq (r_small (k : Int) (by dsimp only [inR]; omega)) (LpL.refl _) rfl ?_)
  | ((with_reducible refine cg ?_); refine call_eq (r_mul k k (by omega) (by omega)) (LpL.refl _) rfl ?_)
  | ((with_reducible refine cg ?_); refine call_eq (r_word 1 (by decide)) (LpL.refl _) rfl ?_)
  | ((with_reducible refine cg ?_); refine call_eq (r_word 0 (by decide)) (LpL.refl _) rfl ?_)
  | ((with_reducible refine cg ?_); refine call_eq (r_add (k * k) 1 (by omega) (by omega)) (LpL.refl _) rfl ?_; rw [← hm])
  | ((with_reducible refine cg ?_); refine call_eq (r_pow2 (w : Int) (by dsimp only [inR]; omega) (by omega)) (LpL.refl _) rfl ?_)
  | ((with_reducible refine cg ?_); refine call_eq (r_mul (2 ^ w) k (by omega) (by omega)) (LpL.refl _) rfl ?_)
  | ((with_reducible refine cg ?_); refine call_eq (r_div (2 ^ w * k) m (by omega) (by omega)) (LpL.refl _) rfl ?_; rw [← hT0])
  | ((with_reducible refine lg ?_); refine loop_g (A := Nat × Nat × Nat × Nat) (fun (t, sum, i, f) => ArcI k w m T0 t sum i f) (fun (t, sum, i, f) => f) (fun (t, sum, i, f) => [(6, D m), (7, D t), (8, D sum), (9, .val (.int .i64 (2 * (i : Int) + 2))), (10, .val (.int .i64 (i : Int)))]) (fun _ => []) (fun _ => []) (T0, 0, 1, w + 64) tok (fun (t, sum, i, f) => ⟨⟨trivial, trivial, trivial, trivial, trivial, trivial⟩, trivial, by simp only [List.length_nil]; omega⟩) ?_ ⟨rfl, rfl, rfl, rfl, rfl, trivial⟩ ⟨[], rfl⟩ ⟨[], rfl⟩ ?_; rotate_left; rintro ⟨t, sum, i, f⟩ hI; have hI2 := hI; obtain ⟨i1, i2, i3, i4, i5⟩ := hI2; have hlt : (d32 t).length = L32 t := rfl; have lt := L32_mono (show t ≤ T0 by omega); have ls := L32_mono (show sum ≤ 2 * T0 by omega); have lti := L32_mul t (2 * i); have li : L32 (2 * i) ≤ 1 := L32_le (show 2 * i < 2 ^ 32 by omega); have li1 : L32 (2 * i + 1) ≤ 1 := L32_le (show 2 * i + 1 < 2 ^ 32 by omega); have lq := L32_mono (Nat.div_le_self (t * (2 * i)) (2 * i + 1)))
  | ((with_reducible refine cg ?_); refine call_eq (r_add sum t (by omega) (by omega)) (LpL.refl _) rfl ?_)
  | ((with_reducible refine cg ?_); refine call_eq (r_muls t (2 * (i : Int)) 0 (by omega) (by omega) (by decide)) (LpL.refl _) rfl ?_; rw [mul_nat t i])
  | ((with_reducible refine cg ?_); refine call_eq (r_small (2 * (i : Int) + 1) (by dsimp only [inR]; omega)) (LpL.refl _) rfl ?_; rw [show (2 * (i : Int) + 1).toNat = 2 * i + 1 by omega])
  | ((with_reducible refine cg ?_); refine call_eq (r_div (t * (2 * i)) (2 * i + 1) (by omega) (by omega)) (LpL.refl _) rfl ?_)
  | ((with_reducible refine cg ?_); refine call_eq (r_div (t * (2 * i) / (2 * i + 1)) m (by omega) (by omega)) (LpL.refl _) rfl ?_)
  | ((with_reducible refine cg ?_); refine call_eq (r_small (2 * (i : Int) + 2) (by dsimp only [inR]; omega)) (LpL.refl _) rfl ?_; rw [show (2 * (i : Int) + 2).toNat = 2 * i + 2 by omega])
  | ((with_reducible refine cg ?_); refine call_eq (r_add sum (2 * i + 2) (by omega) (by have : L32 (2 * i + 2) ≤ 1 := L32_le (show 2 * i + 2 < 2 ^ 32 by omega); omega)) (LpL.refl _) rfl ?_)
  
  | (with_reducible refine Chk.mk' (by first | omega | exact trivial | (simp only [List.length_append, List.length_set, List.length_replicate, List.length_take, List.length_drop, List.length_cons, List.length_nil, List.length_map]; omega)) ?_)
  | (with_reducible refine wrap_g (by dsimp only [inR]; omega) ?_)
  | (with_reducible refine idx_g (by omega) ?_)
  | (with_reducible refine idx_l _ rfl (by decide) ?_)
  | (with_reducible refine fork_tt ?_) | (with_reducible refine fork_ff ?_)
  | (with_reducible refine fork_t (by omega) ?_) | (with_reducible refine fork_f (by omega) ?_)
  | (with_reducible refine fork_d ?_ ?_ <;> intro hc)
  | (with_reducible refine fork_n ?_)
  | (with_reducible refine fork_b ?_ ?_ <;> intro hc)
  | (with_reducible refine SlcG.mk (by omega) ?_)
  | (with_reducible refine MakG.mk (by dsimp only; omega) ?_)
  | (with_reducible refine AppG.mk (by first | omega | (simp only [List.length_append, List.length_set, List.length_replicate, List.length_take, List.length_drop, List.length_cons, List.length_nil, List.length_map]; omega)) (by dsimp only [List.length_cons, List.length_nil]; omega) (by omega) ?_)
  | (with_reducible refine div_g (by omega) (by omega) (by dsimp only [inR]; omega) ?_)
  | (with_reducible refine mod_g (by omega) (by omega) ?_)
  | (with_reducible refine mask_g (m := 4294967296) 32 rfl rfl (by decide) (by omega) ?_)
  | (with_reducible refine shr_g (m := 4294967296) 32 rfl (by decide) (by omega) rfl ?_)
  | (with_reducible refine fz_all (by omega) ?_)
  | (with_reducible refine Stuck.h (A := RetE _ _) ?_) | (with_reducible refine Stuck.h (A := RetM _ _ _ _) ?_) | (with_reducible refine Stuck.h (A := Again _ _ _ _ _ _ _ _) ?_) | (with_reducible refine Stuck.h (A := CallF _ _ _ _ _ _ _) ?_) | (with_reducible refine Stuck.h (A := LoopG _ _ _ _ _ _ _ _) ?_) | (with_reducible refine Stuck.h (A := DrawG _ _ _ _ _ _ _ _) ?_)
  | (with_reducible refine Stuck.h (A := WrapG _ _ _) ?_) | (with_reducible refine Stuck.h (A := DivG _ _ _ _) ?_) | (with_reducible refine Stuck.h (A := ModG _ _ _) ?_) | (with_reducible refine Stuck.h (A := ShlG _ _ _ _) ?_) | (with_reducible refine Stuck.h (A := ShrG _ _ _ _) ?_) | (with_reducible refine Stuck.h (A := BitG _ _ _ _ _) ?_)
  | (with_reducible refine Stuck.h (A := IdxG _ _ _) ?_) | (with_reducible refine Stuck.h (A := IdxL _ _ _) ?_) | (with_reducible refine Stuck.h (A := SlcG _ _ _ _ _) ?_) | (with_reducible refine Stuck.h (A := MakG _ _ _ _) ?_) | (with_reducible refine Stuck.h (A := AppG _ _ _ _ _ _ _) ?_) | (with_reducible refine Stuck.h (A := FzG _ _ _ _) ?_)
  | (with_reducible refine Stuck.h (A := RawG _) ?_) | (with_reducible refine Stuck.h (A := TabG _ _ _ _ _) ?_) | (with_reducible refine Stuck.h (A := ExtF _ _ _ _) ?_) | (with_reducible refine Stuck.h (A := Chk _ _) ?_) | (with_reducible refine Stuck.h (A := False) ?_))
  · have ht0 : t ≠ 0 := fun h => by subst h; rw [L32, lenB_zero] at hlt; omega
    cases f with
    | zero => rw [Nat.pow_zero] at i4; omega
    | succ f =>
      have h2 := arc_lt (i := i) hm2 i4
      have h3 := arc_half (t := t) (i := i) hm2
      refine ⟨again (t * (2 * i) / (2 * i + 1) / m, sum + t, i + 1, f) ⟨by omega, by omega, ?_, h2, by omega⟩ (by dsimp only; omega) ⟨rfl, rfl, rfl, iv_eq (by omega), iv_eq (by omega), trivial⟩ ⟨[], rfl⟩ ⟨[], rfl⟩⟩
      rw [arcL, if_neg ht0] at i3
      rw [show 2 * (i + 1) + 2 = 2 * i + 2 + 2 by omega]
      exact i3
  · have : t = 0 := (lenB_eq_zero (B := 4294967296) (by decide)).1 (by unfold L32 at hlt; omega)
    have h4 : arcL m f t sum (2 * i + 2) i = (sum, 2 * i + 2) := by
      cases f with
      | zero => rfl
      | succ f => rw [arcL, if_pos this]
    rw [h4, hT0, hm] at i3
    refine ⟨ret_e ?_⟩
    unfold arcN
    rw [← i3]; rfl
  · exact ⟨by decide, by omega, rfl, hT2, by omega⟩
theorem arcL_le {m : Nat} (hm : 2 ≤ m) : ∀ (f t sum off i : Nat), (arcL m f t sum off i).1 ≤ sum + 2 * t ∧ (arcL m f t sum off i).2 ≤ off + 2 * f
  | 0, t, sum, off, i => by simp [arcL]
  | f + 1, t, sum, off, i => by
    rw [arcL]
    split
    · exact ⟨by simp, by simp⟩
    · have := arcL_le hm f (t * (2 * i) / (2 * i + 1) / m) (sum + t) (off + 2) (i + 1)
      have h3 := arc_half (t := t) (i := i) hm
      omega
theorem arcN_le (k w : Nat) (hk : 2 ≤ k ∧ k ≤ 4294967296) : (arcN k w).1 ≤ 2 * (2 ^ w * k) ∧ (arcN k w).2 ≤ 2 * (2 ^ w * k) + (2 * w + 132) := by
  have hm2 : 2 ≤ k * k + 1 := by have : 1 * 1 ≤ k * k := Nat.mul_le_mul (by omega) (by omega); omega
  have h := arcL_le hm2 (w + 64) (2 ^ w * k / (k * k + 1)) 0 4 1
  have h2 := Nat.div_le_self (2 ^ w * k) (k * k + 1)
  unfold arcN
  dsimp only
  omega
theorem arcN_L (k w : Nat) (hk : 2 ≤ k ∧ k ≤ 4294967296) (hw : w ≤ 268435456) : L32 (arcN k w).1 ≤ w / 32 + 4 ∧ L32 (arcN k w).2 ≤ w / 32 + 5 := by
  obtain ⟨h1, h2⟩ := arcN_le k w hk
  have lk : L32 k ≤ 2 := L32_le (Nat.lt_of_le_of_lt hk.2 (by decide))
  have lw := L32_p2 w
  have lwk := L32_mul (2 ^ w) k
  have l2 := L32_mul 2 (2 ^ w * k)
  have h3 : L32 2 ≤ 1 := L32_le (by decide)
  have l3 := L32_add (2 * (2 ^ w * k)) (2 * w + 132)
  have l4 : L32 (2 * w + 132) ≤ 1 := L32_le (show 2 * w + 132 < 2 ^ 32 by omega)
  have a1 := L32_mono h1
  have a2 := L32_mono h2
  omega
theorem bndN_L (w : Nat) (hw : w ≤ 268435456) : L32 (bndN w).1 ≤ w / 32 + 8 ∧ L32 (bndN w).2 ≤ w / 32 + 8 := by
  obtain ⟨a1, a2⟩ := arcN_L 3 w (by decide) hw
  obtain ⟨b1, b2⟩ := arcN_L 7 w (by decide) hw
  have c1 := L32_shl (arcN 3 w).1 3
  have c2 := L32_shl (arcN 3 w).2 3
  have c3 := L32_shl (arcN 7 w).1 2
  have c4 := L32_shl (arcN 7 w).2 2
  have d1 := L32_add ((arcN 3 w).1 * 2 ^ 3) ((arcN 7 w).1 * 2 ^ 2)
  have d2 := L32_add ((arcN 3 w).2 * 2 ^ 3) ((arcN 7 w).2 * 2 ^ 2)
  unfold bndN
  dsimp only
  omega
theorem r_bounds (w : Nat) (hw : w ≤ 268435456) : FC Tryd.prog G 69 [.val (.int .i64 (w : Int))] (· = .tup [D (bndN w).1, D (bndN w).2]) := by
  obtain ⟨a1, a2⟩ := arcN_L 3 w (by decide) hw
  obtain ⟨b1, b2⟩ := arcN_L 7 w (by decide) hw
  have c1 := L32_shl (arcN 3 w).1 3
  have c2 := L32_shl (arcN 3 w).2 3
  have c3 := L32_shl (arcN 7 w).1 2
  have c4 := L32_shl (arcN 7 w).2 2
  obtain ⟨A, hA⟩ : ∃ A, A = (arcN 3 w).1 := ⟨_, rfl⟩
  obtain ⟨B, hB⟩ : ∃ A, A = (arcN 3 w).2 := ⟨_, rfl⟩
  obtain ⟨C, hC⟩ : ∃ A, A = (arcN 7 w).1 := ⟨_, rfl⟩
  obtain ⟨E, hE⟩ : ∃ A, A = (arcN 7 w).2 := ⟨_, rfl⟩
  have f3 := r_arc (G := G) 3 w (by decide) hw
  have f7 := r_arc (G := G) 7 w (by decide) hw
  have hres : bndN w = (A * 2 ^ 3 + C * 2 ^ 2, B * 2 ^ 3 + E * 2 ^ 2) := by unfold bndN; rw [hA, hB, hC, hE]
  rw [hres]
  rw [← hA, ← hB] at f3
  rw [← hC, ← hE] at f7
  rw [← hA] at a1 c1
  rw [← hB] at a2 c2
  rw [← hC] at b1 c3
  rw [← hE] at b2 c4
  clear hres hA hB hC hE
  refine FC.intro (X := XX) tok Tryd.func69 rfl Tryd.ntmps69 (by rw [Tryd.results69]) (by kernel_rfl) rfl ?_; intro F hG hO
  rw [← hG] at f3 f7
  repeat' ((try (conv => whnf)); first
  | ((with_reducible refine cg ?_); refine call_eq f3 (LpL.refl _) rfl ?_)
  | ((with_reducible refine cg ?_); refine call_eq f7 (LpL.refl _) rfl ?_)
  | ((with_reducible refine cg ?_); refine call_eq (r_shl A 3 (by omega) (by dsimp only [inR]; omega) (by decide)) (LpL.refl _) rfl ?_)
  | ((with_reducible refine cg ?_); refine call_eq (r_shl B 3 (by omega) (by dsimp only [inR]; omega) (by decide)) (LpL.refl _) rfl ?_)
  | ((with_reducible refine cg ?_); refine call_eq (r_shl C 2 (by omega) (by dsimp only [inR]; omega) (by decide)) (LpL.refl _) rfl ?_)
  | ((with_reducible refine cg ?_); refine call_eq (r_shl E 2 (by omega) (by dsimp only [inR]; omega) (by decide)) (LpL.refl _) rfl ?_)
  | ((with_reducible refine cg ?_); refine call_eq (r_add (A * 2 ^ 3) (C * 2 ^ 2) (by omega) (by omega)) (LpL.refl _) rfl ?_)
  | ((with_reducible refine cg ?_); refine call_eq (r_add (B * 2 ^ 3) (E * 2 ^ 2) (by omega) (by omega)) (LpL.refl _) rfl ?_)
  
  | (with_reducible refine Chk.mk' (by first | omega | exact trivial | (simp only [List.length_append, List.length_set, List.length_replicate, List.length_take, List.length_drop, List.length_cons, List.length_nil, List.length_map]; omega)) ?_)
  | (with_reducible refine wrap_g (by dsimp only [inR]; omega) ?_)
  | (with_reducible refine idx_g (by omega) ?_)
  | (with_reducible refine idx_l _ rfl (by decide) ?_)
  | (with_reducible refine fork_tt ?_) | (with_reducible refine fork_ff ?_)
  | (with_reducible refine fork_t (by omega) ?_) | (with_reducible refine fork_f (by omega) ?_)
  | (with_reducible refine fork_d ?_ ?_ <;> intro hc)
  | (with_reducible refine fork_n ?_)
  | (with_reducible refine fork_b ?_ ?_ <;> intro hc)
  | (with_reducible refine SlcG.mk (by omega) ?_)
  | (with_reducible refine MakG.mk (by dsimp only; omega) ?_)
  | (with_reducible refine AppG.mk (by first | omega | (simp only [List.length_append, List.length_set, List.length_replicate, List.length_take, List.length_drop, List.length_cons, List.length_nil, List.length_map]; omega)) (by dsimp only [List.length_cons, List.length_nil]; omega) (by omega) ?_)
  | (with_reducible refine div_g (by omega) (by omega) (by dsimp only [inR]; omega) ?_)
  | (with_reducible refine mod_g (by omega) (by omega) ?_)
  | (with_reducible refine mask_g (m := 4294967296) 32 rfl rfl (by decide) (by omega) ?_)
  | (with_reducible refine shr_g (m := 4294967296) 32 rfl (by decide) (by omega) rfl ?_)
  | (with_reducible refine fz_all (by omega) ?_)
  | (with_reducible refine Stuck.h (A := RetE _ _) ?_) | (with_reducible refine Stuck.h (A := RetM _ _ _ _) ?_) | (with_reducible refine Stuck.h (A := Again _ _ _ _ _ _ _ _) ?_) | (with_reducible refine Stuck.h (A := CallF _ _ _ _ _ _ _) ?_) | (with_reducible refine Stuck.h (A := LoopG _ _ _ _ _ _ _ _) ?_) | (with_reducible refine Stuck.h (A := DrawG _ _ _ _ _ _ _ _) ?_)
  | (with_reducible refine Stuck.h (A := WrapG _ _ _) ?_) | (with_reducible refine Stuck.h (A := DivG _ _ _ _) ?_) | (with_reducible refine Stuck.h (A := ModG _ _ _) ?_) | (with_reducible refine Stuck.h (A := ShlG _ _ _ _) ?_) | (with_reducible refine Stuck.h (A := ShrG _ _ _ _) ?_) | (with_reducible refine Stuck.h (A := BitG _ _ _ _ _) ?_)
  | (with_reducible refine Stuck.h (A := IdxG _ _ _) ?_) | (with_reducible refine Stuck.h (A := IdxL _ _ _) ?_) | (with_reducible refine Stuck.h (A := SlcG _ _ _ _ _) ?_) | (with_reducible refine Stuck.h (A := MakG _ _ _ _) ?_) | (with_reducible refine Stuck.h (A := AppG _ _ _ _ _ _ _) ?_) | (with_reducible refine Stuck.h (A := FzG _ _ _ _) ?_)
  | (with_reducible refine Stuck.h (A := RawG _) ?_) | (with_reducible refine Stuck.h (A := TabG _ _ _ _ _) ?_) | (with_reducible refine Stuck.h (A := ExtF _ _ _ _) ?_) | (with_reducible refine Stuck.h (A := Chk _ _) ?_) | (with_reducible refine Stuck.h (A := False) ?_))
  all_goals exact ⟨ret_e rfl⟩
def invU (p : Nat) : Nat := 2 ^ (2 * p + 65) / (bndN (p + 64)).2
def invO (p : Nat) : Nat := 2 ^ (2 * p + 65) / (bndN (p + 64)).1
theorem r_inv (p : Nat) (hp : p ≤ 16777216) (h : invU p = invO p) : FC Tryd.prog G 42 [.val (.int .i64 (p : Int))] (· = D (invU p)) := by
  obtain ⟨a1, a2⟩ := bndN_L (p + 64) (by omega)
  have lt := L32_p2 (2 * p + 65)
  have f1 := r_bounds (G := G) (p + 64) (by omega)
  unfold invU invO at h
  unfold invU
  obtain ⟨A, hA⟩ : ∃ A, A = (bndN (p + 64)).1 := ⟨_, rfl⟩
  obtain ⟨B, hB⟩ : ∃ A, A = (bndN (p + 64)).2 := ⟨_, rfl⟩
  rw [← hA, ← hB] at f1
  rw [← hA] at a1 h
  rw [← hB] at a2 h ⊢
  obtain ⟨T, hT⟩ : ∃ A, A = 2 ^ (2 * p + 65) := ⟨_, rfl⟩
  rw [← hT] at lt h ⊢
  have q1 := L32_mono (Nat.div_le_self T A)
  have q2 := L32_mono (Nat.div_le_self T B)
  have hc0 : cmpN (T / B) (T / A) = 0 := by unfold cmpN; rw [if_neg (by omega), if_pos h]
  clear hA hB
  refine FC.intro (X := XX) tok Tryd.func42 rfl Tryd.ntmps42 (by rw [Tryd.results42]) (by kernel_rfl) rfl ?_; intro F hG hO
  rw [← hG] at f1
  repeat' ((try (conv => whnf)); first
  | ((with_reducible refine lg ?_); refine rounds_g 1 tok ?_)
  | ((with_reducible refine cg ?_); refine call_eq f1 (LpL.refl _) rfl ?_)
  | ((with_reducible refine cg ?_); refine call_eq (r_pow2 (2 * (p : Int) + 64 + 1) (by dsimp only [inR]; omega) (by omega)) (LpL.refl _) rfl ?_; rw [show (2 * (p : Int) + 64 + 1).toNat = 2 * p + 65 by omega, ← hT])
  | ((with_reducible refine cg ?_); refine call_eq (r_divmod T B (by omega) (by omega)) (LpL.refl _) rfl ?_)
  | ((with_reducible refine cg ?_); refine call_eq (r_divmod T A (by omega) (by omega)) (LpL.refl _) rfl ?_)
  | ((with_reducible refine cg ?_); refine call_eq (r_cmp (T / B) (T / A) (by omega) (by omega)) (LpL.refl _) rfl ?_)
  
  | (with_reducible refine Chk.mk' (by first | omega | exact trivial | (simp only [List.length_append, List.length_set, List.length_replicate, List.length_take, List.length_drop, List.length_cons, List.length_nil, List.length_map]; omega)) ?_)
  | (with_reducible refine wrap_g (by dsimp only [inR]; omega) ?_)
  | (with_reducible refine idx_g (by omega) ?_)
  | (with_reducible refine idx_l _ rfl (by decide) ?_)
  | (with_reducible refine fork_tt ?_) | (with_reducible refine fork_ff ?_)
  | (with_reducible refine fork_t (by omega) ?_) | (with_reducible refine fork_f (by omega) ?_)
  | (with_reducible refine fork_d ?_ ?_ <;> intro hc)
  | (with_reducible refine fork_n ?_)
  | (with_reducible refine fork_b ?_ ?_ <;> intro hc)
  | (with_reducible refine SlcG.mk (by omega) ?_)
  | (with_reducible refine MakG.mk (by dsimp only; omega) ?_)
  | (with_reducible refine AppG.mk (by first | omega | (simp only [List.length_append, List.length_set, List.length_replicate, List.length_take, List.length_drop, List.length_cons, List.length_nil, List.length_map]; omega)) (by dsimp only [List.length_cons, List.length_nil]; omega) (by omega) ?_)
  | (with_reducible refine div_g (by omega) (by omega) (by dsimp only [inR]; omega) ?_)
  | (with_reducible refine mod_g (by omega) (by omega) ?_)
  | (with_reducible refine mask_g (m := 4294967296) 32 rfl rfl (by decide) (by omega) ?_)
  | (with_reducible refine shr_g (m := 4294967296) 32 rfl (by decide) (by omega) rfl ?_)
  | (with_reducible refine fz_all (by omega) ?_)
  | (with_reducible refine Stuck.h (A := RetE _ _) ?_) | (with_reducible refine Stuck.h (A := RetM _ _ _ _) ?_) | (with_reducible refine Stuck.h (A := Again _ _ _ _ _ _ _ _) ?_) | (with_reducible refine Stuck.h (A := CallF _ _ _ _ _ _ _) ?_) | (with_reducible refine Stuck.h (A := LoopG _ _ _ _ _ _ _ _) ?_) | (with_reducible refine Stuck.h (A := DrawG _ _ _ _ _ _ _ _) ?_)
  | (with_reducible refine Stuck.h (A := WrapG _ _ _) ?_) | (with_reducible refine Stuck.h (A := DivG _ _ _ _) ?_) | (with_reducible refine Stuck.h (A := ModG _ _ _) ?_) | (with_reducible refine Stuck.h (A := ShlG _ _ _ _) ?_) | (with_reducible refine Stuck.h (A := ShrG _ _ _ _) ?_) | (with_reducible refine Stuck.h (A := BitG _ _ _ _ _) ?_)
  | (with_reducible refine Stuck.h (A := IdxG _ _ _) ?_) | (with_reducible refine Stuck.h (A := IdxL _ _ _) ?_) | (with_reducible refine Stuck.h (A := SlcG _ _ _ _ _) ?_) | (with_reducible refine Stuck.h (A := MakG _ _ _ _) ?_) | (with_reducible refine Stuck.h (A := AppG _ _ _ _ _ _ _) ?_) | (with_reducible refine Stuck.h (A := FzG _ _ _ _) ?_)
  | (with_reducible refine Stuck.h (A := RawG _) ?_) | (with_reducible refine Stuck.h (A := TabG _ _ _ _ _) ?_) | (with_reducible refine Stuck.h (A := ExtF _ _ _ _) ?_) | (with_reducible refine Stuck.h (A := Chk _ _) ?_) | (with_reducible refine Stuck.h (A := False) ?_))
  all_goals exact ⟨ret_e rfl⟩
end Go.Proofs.YtlbnlalkimnhdaaDoor.Sim
