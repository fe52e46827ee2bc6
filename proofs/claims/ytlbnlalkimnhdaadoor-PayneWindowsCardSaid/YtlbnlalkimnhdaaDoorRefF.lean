/-
  gnomonref01: Low, Zeros, Pow2, To, From, Fits, Same. Condition: the numbers below 2^(32 * 2^29).
-/
import Derived.Test.YtlbnlalkimnhdaaDoorRefE
namespace Go.Proofs.YtlbnlalkimnhdaaDoor.Sim
open Go.RowKit
set_option linter.unusedVariables false
set_option linter.unusedSimpArgs false
set_option maxRecDepth 10000
set_option maxHeartbeats 4000000
variable {G : List (Nat × List Value)}
/-- A natural, as the program holds it. -/
def N64 (n : Nat) : PV := .ws .u64 (d64 n)
theorem low_val (X k r : Nat) (h : r < 32) : X % 2 ^ (32 * k) + 2 ^ (32 * k) * (X / 2 ^ (32 * k) % 4294967296 % 2 ^ r) = X % 2 ^ (32 * k + r) := by
  have e : X / 2 ^ (32 * k) % 4294967296 % 2 ^ r = X / 2 ^ (32 * k) % 2 ^ r := Nat.mod_mod_of_dvd _ ⟨2 ^ (32 - r), by rw [← Nat.pow_add]; rw [show r + (32 - r) = 32 by omega]⟩
  rw [e, Nat.pow_add, Nat.mod_mul]
theorem r_low (X : Nat) (n : Int) (hX : L32 X ≤ 536870912) (hn : inR .i64 n) : FC Tryd.prog G 41 [D X, .val (.int .i64 n)] (· = D (X % 2 ^ n.toNat)) := by
  dsimp only [inR] at hn
  have hlen : (d32 X).length = L32 X := rfl
  have hw := pw32 (n := (n % 32).toNat) (by omega)
  have hw0 := r_word (G := G) 0 (by decide)
  have hb := rd_bd (by decide) (d32_ok X).1 (n / 32)
  have hm1 := Int.emod_nonneg (rd (d32 X) (n / 32)) (show (2 : Int) ^ (n % 32).toNat ≠ 0 by omega)
  have hm2 := Int.emod_lt_of_pos (rd (d32 X) (n / 32)) hw.1
  have hN : 0 < n → (vl 4294967296 ((d32 X).take (n / 32).toNat)).toNat = X % 2 ^ (32 * (n / 32).toNat) := fun _ => by rw [d32_take, Int.toNat_natCast]
  have hL : L32 (vl 4294967296 ((d32 X).take (n / 32).toNat)).toNat ≤ (n / 32).toNat := by
    rw [d32_take, Int.toNat_natCast]
    exact L32_le (Nat.mod_lt _ (Nat.pow_pos (by decide)))
  have hL2 : (d32 (vl 4294967296 ((d32 X).take (n / 32).toNat)).toNat).length = L32 (vl 4294967296 ((d32 X).take (n / 32).toNat)).toNat := rfl
  refine FC.intro (X := XX) tok Tryd.func41 rfl Tryd.ntmps41 (by rw [Tryd.results41]) (by kernel_rfl) rfl ?_; intro F hG hO
  rw [← hG] at hw0
  repeat' ((try (conv => whnf)); first
  | (with_reducible refine shl1_g (.inl rfl) (by dsimp only [IntKind.bits]; omega) ?_)
  | ((with_reducible refine cg ?_); refine call_eq (r_normN X (by omega)) (LpL.refl _) rfl ?_)
  | ((with_reducible refine cg ?_); refine call_eq hw0 (LpL.refl _) rfl ?_)
  | ((with_reducible refine cg ?_); refine call_own (m := 0) (m_normD ((d32 X).take (n / 32).toNat) (by rw [List.length_take]; omega) ((d32_ok X).1.take _)) rfl rfl rfl ?_)
  | ((with_reducible refine lg ?_); refine loop_g (A := List Int) (fun s => s.length ≤ (n / 32).toNat ∧ okD 4294967296 s ∧ vl 4294967296 s = ((X % 2 ^ (32 * (n / 32).toNat) : Nat) : Int)) (fun s => (n / 32).toNat - s.length) (fun s => [(0, .ws .u32 (d32 X)), (1, .val (.int .i64 n)), (5, .arr 0 0 s.length)]) (fun _ => []) (fun s => [some ⟨1, 111, .w .u32 s⟩]) (d32 (vl 4294967296 ((d32 X).take (n / 32).toNat)).toNat) tok (fun s => ⟨⟨trivial, trivial, Nat.one_pos, trivial⟩, trivial, by simp only [List.length_cons]; omega⟩) ?_ ⟨rfl, rfl, rfl, trivial⟩ ⟨[], rfl⟩ ⟨[], rfl⟩ ?_; rotate_left; rintro s ⟨h1, h2, h3⟩)
  | ((with_reducible refine cg ?_); refine call_fz 0 (B := s ++ [rd (d32 X) (n / 32) % 2 ^ (n % 32).toNat]) rfl rfl (by simp) (by rw [List.drop_zero]; exact List.take_of_length_le (by simp)) (by omega) ?_; refine call_eq (r_normD (s ++ [rd (d32 X) (n / 32) % 2 ^ (n % 32).toNat]) (by simp only [List.length_append, List.length_cons, List.length_nil]; omega) (okD_append.2 ⟨h2, okD_cons.2 ⟨by omega, okD_nil _⟩⟩)) (LpL.refl _) rfl ?_)
  
  | (with_reducible refine draw_g (id := 8) [[0, 1, 2, 3, 4, 5, 6, 7, 8, 9, 10], [11, 12, 13]] tok mixed (by kernel_rfl) ?_)
  | (with_reducible refine Chk.mk' (by first | omega | exact trivial | (simp only [List.length_append, List.length_set, List.length_replicate, List.length_take, List.length_drop, List.length_cons, List.length_nil, List.length_map]; omega)) ?_)
  | (with_reducible refine wrap_g (by dsimp only [inR]; omega) ?_)
  | (with_reducible refine idx_g (by omega) ?_)
  | (with_reducible refine idx_l _ rfl (by decide) ?_)
  | (with_reducible refine fork_tt ?_) | (with_reducible refine fork_ff ?_)
  | (with_reducible refine fork_t (by omega) ?_) | (with_reducible refine fork_f (by omega) ?_)
  | (with_reducible refine fork_d ?_ ?_ <;> intro hc)
  | (with_reducible refine fork_n ?_)
  | (with_reducible refine fork_b ?_ ?_ <;> intro hc)
  | (with_reducible refine SlcG.mk (by omega) ?_)
  | (with_reducible refine MakG.mk (by dsimp only; omega) ?_)
  | (with_reducible refine AppG.mk (by first | omega | (simp only [List.length_append, List.length_set, List.length_replicate, List.length_take, List.length_drop, List.length_cons, List.length_nil, List.length_map]; omega)) (by dsimp only [List.length_cons, List.length_nil]; omega) (by omega) ?_)
  | (with_reducible refine div_g (by omega) (by omega) (by dsimp only [inR]; omega) ?_)
  | (with_reducible refine mod_g (by omega) (by omega) ?_)
  | (with_reducible refine mask_g (m := 4294967296) 32 rfl rfl (by decide) (by omega) ?_)
  | (with_reducible refine shr_g (m := 4294967296) 32 rfl (by decide) (by omega) rfl ?_)
  | (with_reducible refine fz_all (by omega) ?_)
  | (with_reducible refine Stuck.h (A := RetE _ _) ?_) | (with_reducible refine Stuck.h (A := RetM _ _ _ _) ?_) | (with_reducible refine Stuck.h (A := Again _ _ _ _ _ _ _ _) ?_) | (with_reducible refine Stuck.h (A := CallF _ _ _ _ _ _ _) ?_) | (with_reducible refine Stuck.h (A := LoopG _ _ _ _ _ _ _ _) ?_) | (with_reducible refine Stuck.h (A := DrawG _ _ _ _ _ _ _ _) ?_)
  | (with_reducible refine Stuck.h (A := WrapG _ _ _) ?_) | (with_reducible refine Stuck.h (A := DivG _ _ _ _) ?_) | (with_reducible refine Stuck.h (A := ModG _ _ _) ?_) | (with_reducible refine Stuck.h (A := ShlG _ _ _ _) ?_) | (with_reducible refine Stuck.h (A := ShrG _ _ _ _) ?_) | (with_reducible refine Stuck.h (A := BitG _ _ _ _ _) ?_)
  | (with_reducible refine Stuck.h (A := IdxG _ _ _) ?_) | (with_reducible refine Stuck.h (A := IdxL _ _ _) ?_) | (with_reducible refine Stuck.h (A := SlcG _ _ _ _ _) ?_) | (with_reducible refine Stuck.h (A := MakG _ _ _ _) ?_) | (with_reducible refine Stuck.h (A := AppG _ _ _ _ _ _ _) ?_) | (with_reducible refine Stuck.h (A := FzG _ _ _ _) ?_)
  | (with_reducible refine Stuck.h (A := RawG _) ?_) | (with_reducible refine Stuck.h (A := TabG _ _ _ _ _) ?_) | (with_reducible refine Stuck.h (A := ExtF _ _ _ _) ?_) | (with_reducible refine Stuck.h (A := Chk _ _) ?_) | (with_reducible refine Stuck.h (A := False) ?_))
  · exact ⟨ret_e (by rw [show n.toNat = 0 by omega, Nat.pow_zero, Nat.mod_one]; rfl)⟩
  · refine ⟨ret_e ?_⟩
    have h1 := L32_lt X
    have h2 : X < 2 ^ n.toNat := Nat.lt_of_lt_of_le h1 (Nat.pow_le_pow_right (by decide) (by omega))
    rw [Nat.mod_eq_of_lt h2]; rfl
  · refine ⟨again (s ++ [0]) ⟨by simp only [List.length_append, List.length_cons, List.length_nil]; omega, okD_append.2 ⟨h2, okD_cons.2 ⟨by decide, okD_nil _⟩⟩, by rw [vl_snoc, h3]; simp⟩ (by simp only [List.length_append, List.length_cons, List.length_nil]; omega) ⟨rfl, rfl, ?_, trivial⟩ ⟨[], rfl⟩ ⟨[], rfl⟩⟩
    rw [List.length_append]; rfl
  · refine ⟨ret_e ?_⟩
    show D _ = D _
    congr 1
    have hs : s.length = (n / 32).toNat := by omega
    have hr := d32_rd X (n / 32).toNat
    rw [show (((n / 32).toNat : Nat) : Int) = n / 32 by omega] at hr
    have hv := low_val X (n / 32).toNat (n % 32).toNat (by omega)
    rw [show 32 * (n / 32).toNat + (n % 32).toNat = n.toNat by omega] at hv
    have h3' : ((2 : Int) ^ (n % 32).toNat) = ((2 ^ (n % 32).toNat : Nat) : Int) := by simp
    rw [vl_snoc, hs, h3, hr, h3', ← Int.natCast_emod]
    have e2 : ((4294967296 : Int) ^ (n / 32).toNat) = ((2 ^ (32 * (n / 32).toNat) : Nat) : Int) := by rw [← pow32]; simp
    rw [e2, ← Int.natCast_mul, ← Int.natCast_add, Int.toNat_natCast, hv]
  · refine ⟨by omega, (d32_ok _).1, ?_⟩
    rw [(d32_ok _).2, hN (by omega)]
theorem r_pow2 (n : Int) (hn : inR .i64 n) (hn2 : n ≤ 8589934592) : FC Tryd.prog G 39 [.val (.int .i64 n)] (· = D (2 ^ n.toNat)) := by
  have h1 : L32 1 ≤ 536870912 := Nat.le_trans (L32_le (n := 1) (by decide)) (by decide)
  refine FC.intro (X := XX) tok Tryd.func39 rfl Tryd.ntmps39 (by rw [Tryd.results39]) (by kernel_rfl) rfl ?_; intro F hG hO
  repeat' ((try (conv => whnf)); first
  | ((with_reducible refine cg ?_); refine call_eq (r_word 1 (by decide)) (LpL.refl _) rfl ?_)
  | ((with_reducible refine cg ?_); refine call_eq (r_shl 1 n h1 hn hn2) (LpL.refl _) rfl ?_)
  
  | (with_reducible refine Chk.mk' (by first | omega | exact trivial | (simp only [List.length_append, List.length_set, List.length_replicate, List.length_take, List.length_drop, List.length_cons, List.length_nil, List.length_map]; omega)) ?_)
  | (with_reducible refine wrap_g (by dsimp only [inR]; omega) ?_)
  | (with_reducible refine idx_g (by omega) ?_)
  | (with_reducible refine idx_l _ rfl (by decide) ?_)
  | (with_reducible refine fork_tt ?_) | (with_reducible refine fork_ff ?_)
  | (with_reducible refine fork_t (by omega) ?_) | (with_reducible refine fork_f (by omega) ?_)
  | (with_reducible refine fork_d ?_ ?_ <;> intro hc)
  | (with_reducible refine fork_n ?_)
  | (with_reducible refine fork_b ?_ ?_ <;> intro hc)
  | (with_reducible refine SlcG.mk (by omega) ?_)
  | (with_reducible refine MakG.mk (by dsimp only; omega) ?_)
  | (with_reducible refine AppG.mk (by first | omega | (simp only [List.length_append, List.length_set, List.length_replicate, List.length_take, List.length_drop, List.length_cons, List.length_nil, List.length_map]; omega)) (by dsimp only [List.length_cons, List.length_nil]; omega) (by omega) ?_)
  | (with_reducible refine div_g (by omega) (by omega) (by dsimp only [inR]; omega) ?_)
  | (with_reducible refine mod_g (by omega) (by omega) ?_)
  | (with_reducible refine mask_g (m := 4294967296) 32 rfl rfl (by decide) (by omega) ?_)
  | (with_reducible refine shr_g (m := 4294967296) 32 rfl (by decide) (by omega) rfl ?_)
  | (with_reducible refine fz_all (by omega) ?_)
  | (with_reducible refine Stuck.h (A := RetE _ _) ?_) | (with_reducible refine Stuck.h (A := RetM _ _ _ _) ?_) | (with_reducible refine Stuck.h (A := Again _ _ _ _ _ _ _ _) ?_) | (with_reducible refine Stuck.h (A := CallF _ _ _ _ _ _ _) ?_) | (with_reducible refine Stuck.h (A := LoopG _ _ _ _ _ _ _ _) ?_) | (with_reducible refine Stuck.h (A := DrawG _ _ _ _ _ _ _ _) ?_)
  | (with_reducible refine Stuck.h (A := WrapG _ _ _) ?_) | (with_reducible refine Stuck.h (A := DivG _ _ _ _) ?_) | (with_reducible refine Stuck.h (A := ModG _ _ _) ?_) | (with_reducible refine Stuck.h (A := ShlG _ _ _ _) ?_) | (with_reducible refine Stuck.h (A := ShrG _ _ _ _) ?_) | (with_reducible refine Stuck.h (A := BitG _ _ _ _ _) ?_)
  | (with_reducible refine Stuck.h (A := IdxG _ _ _) ?_) | (with_reducible refine Stuck.h (A := IdxL _ _ _) ?_) | (with_reducible refine Stuck.h (A := SlcG _ _ _ _ _) ?_) | (with_reducible refine Stuck.h (A := MakG _ _ _ _) ?_) | (with_reducible refine Stuck.h (A := AppG _ _ _ _ _ _ _) ?_) | (with_reducible refine Stuck.h (A := FzG _ _ _ _) ?_)
  | (with_reducible refine Stuck.h (A := RawG _) ?_) | (with_reducible refine Stuck.h (A := TabG _ _ _ _ _) ?_) | (with_reducible refine Stuck.h (A := ExtF _ _ _ _) ?_) | (with_reducible refine Stuck.h (A := Chk _ _) ?_) | (with_reducible refine Stuck.h (A := False) ?_))
  exact ⟨ret_e (by rw [Nat.one_mul]; rfl)⟩
theorem r_to (X : Nat) (hX : L32 X ≤ 536870912) : FC Tryd.prog G 43 [D X] (· = N64 X) := by
  have hlen : (d32 X).length = L32 X := rfl
  have hlen4 : (d64 X).length = L64 X := rfl
  have hb2 := L32_bl X
  have hb4 := L64_bl X
  refine FC.intro (X := XX) tok Tryd.func43 rfl Tryd.ntmps43 (by rw [Tryd.results43]) (by kernel_rfl) rfl ?_; intro F hG hO
  repeat' ((try (conv => whnf)); first
  | (with_reducible refine shl_g (m := 4294967296) 32 rfl (by decide) rfl (by dsimp only [inR]; omega) ?_)
  | ((with_reducible refine cg ?_); refine call_eq (r_normN X (by omega)) (LpL.refl _) rfl ?_)
  | ((with_reducible refine lg ?_); refine loop_g (A := Nat) (fun j => j ≤ L64 X) (fun j => L64 X - j) (fun j => [(3, .ws .u32 (d32 X)), (4, .arr 0 0 j), (5, .val (.int .i64 (2 * (j : Int))))]) (fun _ => []) (fun j => [some ⟨1, 30, .w .u64 ((d64 X).take j)⟩]) 0 tok (fun s => ⟨⟨trivial, Nat.one_pos, trivial, trivial⟩, trivial, by simp only [List.length_cons]; omega⟩) ?_ ⟨rfl, rfl, iv_eq (by omega), trivial⟩ ⟨[], rfl⟩ ⟨[], rfl⟩ ?_; rotate_left; rintro j h1; have ht : ((d64 X).take j).length = j := (by rw [List.length_take]; omega); have r0 := rd_bd (by decide) (d32_ok X).1 (2 * (j : Int)); have r1 := rd_bd (by decide) (d32_ok X).1 (2 * (j : Int) + 1))
  
  | (with_reducible refine Chk.mk' (by first | omega | exact trivial | (simp only [List.length_append, List.length_set, List.length_replicate, List.length_take, List.length_drop, List.length_cons, List.length_nil, List.length_map]; omega)) ?_)
  | (with_reducible refine wrap_g (by dsimp only [inR]; omega) ?_)
  | (with_reducible refine idx_g (by omega) ?_)
  | (with_reducible refine idx_l _ rfl (by decide) ?_)
  | (with_reducible refine fork_tt ?_) | (with_reducible refine fork_ff ?_)
  | (with_reducible refine fork_t (by omega) ?_) | (with_reducible refine fork_f (by omega) ?_)
  | (with_reducible refine fork_d ?_ ?_ <;> intro hc)
  | (with_reducible refine fork_n ?_)
  | (with_reducible refine fork_b ?_ ?_ <;> intro hc)
  | (with_reducible refine SlcG.mk (by omega) ?_)
  | (with_reducible refine MakG.mk (by dsimp only; omega) ?_)
  | (with_reducible refine AppG.mk (by first | omega | (simp only [List.length_append, List.length_set, List.length_replicate, List.length_take, List.length_drop, List.length_cons, List.length_nil, List.length_map]; omega)) (by dsimp only [List.length_cons, List.length_nil]; omega) (by omega) ?_)
  | (with_reducible refine div_g (by omega) (by omega) (by dsimp only [inR]; omega) ?_)
  | (with_reducible refine mod_g (by omega) (by omega) ?_)
  | (with_reducible refine mask_g (m := 4294967296) 32 rfl rfl (by decide) (by omega) ?_)
  | (with_reducible refine shr_g (m := 4294967296) 32 rfl (by decide) (by omega) rfl ?_)
  | (with_reducible refine fz_all (by omega) ?_)
  | (with_reducible refine Stuck.h (A := RetE _ _) ?_) | (with_reducible refine Stuck.h (A := RetM _ _ _ _) ?_) | (with_reducible refine Stuck.h (A := Again _ _ _ _ _ _ _ _) ?_) | (with_reducible refine Stuck.h (A := CallF _ _ _ _ _ _ _) ?_) | (with_reducible refine Stuck.h (A := LoopG _ _ _ _ _ _ _ _) ?_) | (with_reducible refine Stuck.h (A := DrawG _ _ _ _ _ _ _ _) ?_)
  | (with_reducible refine Stuck.h (A := WrapG _ _ _) ?_) | (with_reducible refine Stuck.h (A := DivG _ _ _ _) ?_) | (with_reducible refine Stuck.h (A := ModG _ _ _) ?_) | (with_reducible refine Stuck.h (A := ShlG _ _ _ _) ?_) | (with_reducible refine Stuck.h (A := ShrG _ _ _ _) ?_) | (with_reducible refine Stuck.h (A := BitG _ _ _ _ _) ?_)
  | (with_reducible refine Stuck.h (A := IdxG _ _ _) ?_) | (with_reducible refine Stuck.h (A := IdxL _ _ _) ?_) | (with_reducible refine Stuck.h (A := SlcG _ _ _ _ _) ?_) | (with_reducible refine Stuck.h (A := MakG _ _ _ _) ?_) | (with_reducible refine Stuck.h (A := AppG _ _ _ _ _ _ _) ?_) | (with_reducible refine Stuck.h (A := FzG _ _ _ _) ?_)
  | (with_reducible refine Stuck.h (A := RawG _) ?_) | (with_reducible refine Stuck.h (A := TabG _ _ _ _ _) ?_) | (with_reducible refine Stuck.h (A := ExtF _ _ _ _) ?_) | (with_reducible refine Stuck.h (A := Chk _ _) ?_) | (with_reducible refine Stuck.h (A := False) ?_))
  · refine ⟨again (j + 1) (by first | omega | (dsimp only; omega) | (simp only [id]; omega)) (by omega) ⟨rfl, rfl, iv_eq (by omega), trivial⟩ ⟨[], rfl⟩ ⟨[], ?_⟩⟩
    rw [take_succ_rd _ _ (by omega), d64_two]; rfl
  · refine ⟨again (j + 1) (by first | omega | (dsimp only; omega) | (simp only [id]; omega)) (by omega) ⟨rfl, rfl, iv_eq (by omega), trivial⟩ ⟨[], rfl⟩ ⟨[], ?_⟩⟩
    have := rd_out (d32 X) (2 * j + 1) (by omega)
    rw [show ((2 * j + 1 : Nat) : Int) = 2 * (j : Int) + 1 by omega] at this
    rw [take_succ_rd _ _ (by omega), d64_two, this, Int.zero_mul, Int.add_zero]; rfl
  · refine ⟨ret_e ?_⟩
    rw [List.take_of_length_le (by omega)]; rfl
  · exact Nat.zero_le _
theorem r_fits (X : Nat) (hX : L32 X ≤ 536870912) : FC Tryd.prog G 40 [D X] (· = .tup [.val (.int .u64 (if X < 18446744073709551616 then (X : Int) else 0)), .val (.bool (decide (X < 18446744073709551616)))]) := by
  have hlen4 : (d64 X).length = L64 X := rfl
  refine FC.intro (X := XX) tok Tryd.func40 rfl Tryd.ntmps40 (by rw [Tryd.results40]) (by kernel_rfl) rfl ?_; intro F hG hO
  repeat' ((try (conv => whnf)); first
  | ((with_reducible refine cg ?_); refine call_eq (r_to X hX) (LpL.refl _) rfl ?_)
  
  | (with_reducible refine Chk.mk' (by first | omega | exact trivial | (simp only [List.length_append, List.length_set, List.length_replicate, List.length_take, List.length_drop, List.length_cons, List.length_nil, List.length_map]; omega)) ?_)
  | (with_reducible refine wrap_g (by dsimp only [inR]; omega) ?_)
  | (with_reducible refine idx_g (by omega) ?_)
  | (with_reducible refine idx_l _ rfl (by decide) ?_)
  | (with_reducible refine fork_tt ?_) | (with_reducible refine fork_ff ?_)
  | (with_reducible refine fork_t (by omega) ?_) | (with_reducible refine fork_f (by omega) ?_)
  | (with_reducible refine fork_d ?_ ?_ <;> intro hc)
  | (with_reducible refine fork_n ?_)
  | (with_reducible refine fork_b ?_ ?_ <;> intro hc)
  | (with_reducible refine SlcG.mk (by omega) ?_)
  | (with_reducible refine MakG.mk (by dsimp only; omega) ?_)
  | (with_reducible refine AppG.mk (by first | omega | (simp only [List.length_append, List.length_set, List.length_replicate, List.length_take, List.length_drop, List.length_cons, List.length_nil, List.length_map]; omega)) (by dsimp only [List.length_cons, List.length_nil]; omega) (by omega) ?_)
  | (with_reducible refine div_g (by omega) (by omega) (by dsimp only [inR]; omega) ?_)
  | (with_reducible refine mod_g (by omega) (by omega) ?_)
  | (with_reducible refine mask_g (m := 4294967296) 32 rfl rfl (by decide) (by omega) ?_)
  | (with_reducible refine shr_g (m := 4294967296) 32 rfl (by decide) (by omega) rfl ?_)
  | (with_reducible refine fz_all (by omega) ?_)
  | (with_reducible refine Stuck.h (A := RetE _ _) ?_) | (with_reducible refine Stuck.h (A := RetM _ _ _ _) ?_) | (with_reducible refine Stuck.h (A := Again _ _ _ _ _ _ _ _) ?_) | (with_reducible refine Stuck.h (A := CallF _ _ _ _ _ _ _) ?_) | (with_reducible refine Stuck.h (A := LoopG _ _ _ _ _ _ _ _) ?_) | (with_reducible refine Stuck.h (A := DrawG _ _ _ _ _ _ _ _) ?_)
  | (with_reducible refine Stuck.h (A := WrapG _ _ _) ?_) | (with_reducible refine Stuck.h (A := DivG _ _ _ _) ?_) | (with_reducible refine Stuck.h (A := ModG _ _ _) ?_) | (with_reducible refine Stuck.h (A := ShlG _ _ _ _) ?_) | (with_reducible refine Stuck.h (A := ShrG _ _ _ _) ?_) | (with_reducible refine Stuck.h (A := BitG _ _ _ _ _) ?_)
  | (with_reducible refine Stuck.h (A := IdxG _ _ _) ?_) | (with_reducible refine Stuck.h (A := IdxL _ _ _) ?_) | (with_reducible refine Stuck.h (A := SlcG _ _ _ _ _) ?_) | (with_reducible refine Stuck.h (A := MakG _ _ _ _) ?_) | (with_reducible refine Stuck.h (A := AppG _ _ _ _ _ _ _) ?_) | (with_reducible refine Stuck.h (A := FzG _ _ _ _) ?_)
  | (with_reducible refine Stuck.h (A := RawG _) ?_) | (with_reducible refine Stuck.h (A := TabG _ _ _ _ _) ?_) | (with_reducible refine Stuck.h (A := ExtF _ _ _ _) ?_) | (with_reducible refine Stuck.h (A := Chk _ _) ?_) | (with_reducible refine Stuck.h (A := False) ?_))
  · have h0 : X = 0 := (lenB_eq_zero (B := 18446744073709551616) (by decide)).1 (by unfold L64 at hlen4; omega)
    subst h0
    exact ⟨ret_e rfl⟩
  · have h1 := L64_lt X
    have h2 : X < 18446744073709551616 := by rw [show L64 X = 1 by omega] at h1; exact h1
    refine ⟨ret_e ?_⟩
    have hr := d64_rd X 0
    have e0 : rd (d64 X) 0 = (X : Int) := by
      rw [show (0 : Int) = ((0 : Nat) : Int) by rfl, hr, Nat.mul_zero, Nat.pow_zero, Nat.div_one, Nat.mod_eq_of_lt h2]
    rw [e0, if_pos h2, decide_eq_true h2]
  · have h2 : ¬ X < 18446744073709551616 := fun h => by
      have := L64_le (x := X) (n := 1) h
      omega
    exact ⟨ret_e (by rw [if_neg h2, decide_eq_false h2])⟩
end Go.Proofs.YtlbnlalkimnhdaaDoor.Sim
