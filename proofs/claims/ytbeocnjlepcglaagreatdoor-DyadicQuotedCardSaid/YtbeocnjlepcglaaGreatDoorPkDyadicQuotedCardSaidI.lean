/-
  What the statement DyadicQuotedCardSaid leans on, part 9: the logic of walks, digits, contracts of the functions, the plain law. Conditions stand in each theorem.
-/
import Derived.Test.YtbeocnjlepcglaaGreatDoorPkDyadicQuotedCardSaidH
namespace Go.Proofs.YtbeocnjlepcglaaGreatDoor.Sim
open Go.RowKit
set_option linter.unusedVariables false
set_option linter.unusedSimpArgs false
set_option maxRecDepth 10000
set_option maxHeartbeats 8000000
variable {G : List (Nat × List Value)}
theorem n_bits (X : Nat) (hX : L64 X ≤ 1073741824) : FC Tryz.prog G 66 [.ws .u64 (d64 X)] (· = .val (.int .i64 (bl X : Int))) := by
  have hl : (d64 X).length = L64 X := rfl
  have hp := len64_pos X
  obtain ⟨T, hT⟩ : ∃ T, T = X / 2 ^ (64 * (L64 X - 1)) := ⟨_, rfl⟩
  have hr : Unit → 0 < L64 X → rd (d64 X) ((L64 X : Int) - 1) = (T : Int) ∧ T < 18446744073709551616 ∧ bl X = 64 * (L64 X - 1) + bl T ∧ bl T ≤ 64 := fun _ h => by
    have h0 : X ≠ 0 := fun h1 => by subst h1; rw [L64, lenB_zero] at h; omega
    obtain ⟨h1, h2⟩ := top64 h0
    rw [← hT] at h1 h2
    refine ⟨?_, h1, ?_, bl_le h1⟩
    · have := d64_rd X (L64 X - 1)
      rw [← hT, Nat.mod_eq_of_lt h1] at this
      rw [← this]; congr 1; omega
    · rw [hT]; exact bl_top X _ (by rw [← hT]; exact h2)
  refine FC.intro (X := XX) tok Tryz.func66 rfl Tryz.ntmps66 (by rw [Tryz.results66]) (by kernel_rfl) rfl ?_; intro F hG hO
  repeat' ((try (conv => whnf)); first
  | ((with_reducible refine cg ?_); refine call_eq (n_trimN X hX) (LpL.refl _) rfl ?_)
  | ((with_reducible refine cg ?_); have hr2 := hr () (by omega); rw [hl, hr2.1]; refine call_eq (b_len T hr2.2.1) (LpL.refl _) rfl ?_)
  
  | (with_reducible refine Chk.mk' (by first | omega | exact trivial | (simp only [List.length_append, List.length_set, List.length_replicate, List.length_take, List.length_drop, List.length_cons, List.length_nil, List.length_map]; omega)) ?_)
  | (with_reducible refine wrap_g (by dsimp only [inR]; omega) ?_)
  | (with_reducible refine idx_g (by omega) ?_)
  | (with_reducible refine idx_l _ rfl (by decide) ?_)
  | (with_reducible refine BothG.mk ?_ ?_)
  | (with_reducible refine fork_tt ?_) | (with_reducible refine fork_ff ?_)
  | (with_reducible refine fork_e (c := true) (by decide) ?_; with_reducible refine fork_tt ?_) | (with_reducible refine fork_e (c := false) (by decide) ?_; with_reducible refine fork_ff ?_)
  | (with_reducible refine fork_t (by omega) ?_) | (with_reducible refine fork_f (by omega) ?_)
  | (with_reducible refine fork_d ?_ ?_ <;> intro hc)
  | (with_reducible refine fork_n ?_)
  | (with_reducible refine fork_b ?_ ?_ <;> intro hc)
  | (with_reducible refine SlcG.mk (by omega) ?_)
  | (with_reducible refine MakG.mk (by dsimp only; omega) ?_)
  | (with_reducible refine AppG.mk (by first | omega | (simp only [List.length_append, List.length_set, List.length_replicate, List.length_take, List.length_drop, List.length_cons, List.length_nil, List.length_map]; omega)) (by dsimp only [List.length_cons, List.length_nil]; omega) (by omega) ?_)
  | (with_reducible refine div_g (by omega) (by omega) (by dsimp only [inR]; omega) ?_)
  | (with_reducible refine mod_g (by omega) (by omega) ?_)
  | (with_reducible refine mask_g (m := 4294967296) 32 rfl rfl (by decide) (by omega) ?_)
  | (with_reducible refine shr_g (m := 4294967296) 32 rfl (by decide) (by omega) rfl ?_)
  | (with_reducible refine fz_all (by omega) ?_)
  | (with_reducible refine Stuck.h (A := RetE _ _) ?_) | (with_reducible refine Stuck.h (A := RetM _ _ _ _) ?_) | (with_reducible refine Stuck.h (A := Again _ _ _ _ _ _ _ _) ?_) | (with_reducible refine Stuck.h (A := CallF _ _ _ _ _ _ _) ?_) | (with_reducible refine Stuck.h (A := LoopG _ _ _ _ _ _ _ _) ?_) | (with_reducible refine Stuck.h (A := DrawG _ _ _ _ _ _ _ _) ?_)
  | (with_reducible refine Stuck.h (A := WrapG _ _ _) ?_) | (with_reducible refine Stuck.h (A := DivG _ _ _ _) ?_) | (with_reducible refine Stuck.h (A := ModG _ _ _) ?_) | (with_reducible refine Stuck.h (A := ShlG _ _ _ _) ?_) | (with_reducible refine Stuck.h (A := ShrG _ _ _ _) ?_) | (with_reducible refine Stuck.h (A := BitG _ _ _ _ _) ?_)
  | (with_reducible refine Stuck.h (A := IdxG _ _ _) ?_) | (with_reducible refine Stuck.h (A := IdxL _ _ _) ?_) | (with_reducible refine Stuck.h (A := SlcG _ _ _ _ _) ?_) | (with_reducible refine Stuck.h (A := MakG _ _ _ _) ?_) | (with_reducible refine Stuck.h (A := AppG _ _ _ _ _ _ _) ?_) | (with_reducible refine Stuck.h (A := FzG _ _ _ _) ?_)
  | (with_reducible refine Stuck.h (A := RawG _) ?_) | (with_reducible refine Stuck.h (A := TabG _ _ _ _ _) ?_) | (with_reducible refine Stuck.h (A := ExtF _ _ _ _) ?_) | (with_reducible refine Stuck.h (A := Chk _ _) ?_) | (with_reducible refine Stuck.h (A := False) ?_))
  · have h0 : X = 0 := by omega
    subst h0
    exact ⟨ret_e rfl⟩
  · have hr2 := hr () (by omega)
    exact ⟨ret_e (iv_eq (by omega))⟩
theorem n_bit (X : Nat) (i : Int) (hX : L64 X ≤ 1073741824) (hi : inR .i64 i) : FC Tryz.prog G 165 [.ws .u64 (d64 X), .val (.int .i64 i)] (· = .val (.bool (decide (0 ≤ i ∧ X / 2 ^ i.toNat % 2 = 1)))) := by
  dsimp only [inR] at hi
  have hl : (d64 X).length = L64 X := rfl
  have hr := rd_bd (by decide) (d64_ok X).1 (i / 64)
  have hp := (pw64 (n := (i % 64).toNat) (by omega)).1
  have hq0 := Int.ediv_nonneg hr.1 (Int.le_of_lt hp)
  have hq1 := Int.ediv_le_self (2 ^ (i % 64).toNat) hr.1
  refine FC.intro (X := XX) tok Tryz.func165 rfl Tryz.ntmps165 (by rw [Tryz.results165]) (by kernel_rfl) rfl ?_; intro F hG hO
  repeat' ((try (conv => whnf)); first
  | (with_reducible refine shr_p (by omega) (by dsimp only [IntKind.bits]; omega) ?_)
  | (with_reducible refine mask_g (m := 2) 1 rfl rfl (by decide) (by omega) ?_)
  
  | (with_reducible refine Chk.mk' (by first | omega | exact trivial | (simp only [List.length_append, List.length_set, List.length_replicate, List.length_take, List.length_drop, List.length_cons, List.length_nil, List.length_map]; omega)) ?_)
  | (with_reducible refine wrap_g (by dsimp only [inR]; omega) ?_)
  | (with_reducible refine idx_g (by omega) ?_)
  | (with_reducible refine idx_l _ rfl (by decide) ?_)
  | (with_reducible refine BothG.mk ?_ ?_)
  | (with_reducible refine fork_tt ?_) | (with_reducible refine fork_ff ?_)
  | (with_reducible refine fork_e (c := true) (by decide) ?_; with_reducible refine fork_tt ?_) | (with_reducible refine fork_e (c := false) (by decide) ?_; with_reducible refine fork_ff ?_)
  | (with_reducible refine fork_t (by omega) ?_) | (with_reducible refine fork_f (by omega) ?_)
  | (with_reducible refine fork_d ?_ ?_ <;> intro hc)
  | (with_reducible refine fork_n ?_)
  | (with_reducible refine fork_b ?_ ?_ <;> intro hc)
  | (with_reducible refine SlcG.mk (by omega) ?_)
  | (with_reducible refine MakG.mk (by dsimp only; omega) ?_)
  | (with_reducible refine AppG.mk (by first | omega | (simp only [List.length_append, List.length_set, List.length_replicate, List.length_take, List.length_drop, List.length_cons, List.length_nil, List.length_map]; omega)) (by dsimp only [List.length_cons, List.length_nil]; omega) (by omega) ?_)
  | (with_reducible refine div_g (by omega) (by omega) (by dsimp only [inR]; omega) ?_)
  | (with_reducible refine mod_g (by omega) (by omega) ?_)
  | (with_reducible refine mask_g (m := 4294967296) 32 rfl rfl (by decide) (by omega) ?_)
  | (with_reducible refine shr_g (m := 4294967296) 32 rfl (by decide) (by omega) rfl ?_)
  | (with_reducible refine fz_all (by omega) ?_)
  | (with_reducible refine Stuck.h (A := RetE _ _) ?_) | (with_reducible refine Stuck.h (A := RetM _ _ _ _) ?_) | (with_reducible refine Stuck.h (A := Again _ _ _ _ _ _ _ _) ?_) | (with_reducible refine Stuck.h (A := CallF _ _ _ _ _ _ _) ?_) | (with_reducible refine Stuck.h (A := LoopG _ _ _ _ _ _ _ _) ?_) | (with_reducible refine Stuck.h (A := DrawG _ _ _ _ _ _ _ _) ?_)
  | (with_reducible refine Stuck.h (A := WrapG _ _ _) ?_) | (with_reducible refine Stuck.h (A := DivG _ _ _ _) ?_) | (with_reducible refine Stuck.h (A := ModG _ _ _) ?_) | (with_reducible refine Stuck.h (A := ShlG _ _ _ _) ?_) | (with_reducible refine Stuck.h (A := ShrG _ _ _ _) ?_) | (with_reducible refine Stuck.h (A := BitG _ _ _ _ _) ?_)
  | (with_reducible refine Stuck.h (A := IdxG _ _ _) ?_) | (with_reducible refine Stuck.h (A := IdxL _ _ _) ?_) | (with_reducible refine Stuck.h (A := SlcG _ _ _ _ _) ?_) | (with_reducible refine Stuck.h (A := MakG _ _ _ _) ?_) | (with_reducible refine Stuck.h (A := AppG _ _ _ _ _ _ _) ?_) | (with_reducible refine Stuck.h (A := FzG _ _ _ _) ?_)
  | (with_reducible refine Stuck.h (A := RawG _) ?_) | (with_reducible refine Stuck.h (A := TabG _ _ _ _ _) ?_) | (with_reducible refine Stuck.h (A := ExtF _ _ _ _) ?_) | (with_reducible refine Stuck.h (A := Chk _ _) ?_) | (with_reducible refine Stuck.h (A := False) ?_))
  · exact ⟨ret_e (bv_eq (decide_eq_false (fun h => by omega)).symm)⟩
  · refine ⟨ret_e (bv_eq (decide_eq_false (fun h => ?_)).symm)⟩
    have h1 := L64_lt X
    have h2 : X < 2 ^ i.toNat := Nat.lt_of_lt_of_le h1 (Nat.pow_le_pow_right (by decide) (by omega))
    rw [Nat.div_eq_of_lt h2] at h
    exact absurd h.2 (by decide)
  · refine ⟨ret_e (bv_eq ?_)⟩
    have h1 := d64_rd X (i / 64).toNat
    rw [show (((i / 64).toNat : Nat) : Int) = i / 64 by omega] at h1
    have h2 := bit_in X (64 * (i / 64).toNat) (i % 64).toNat 64 (by omega)
    rw [show 64 * (i / 64).toNat + (i % 64).toNat = i.toNat by omega, show (2 : Nat) ^ 64 = 18446744073709551616 by decide] at h2
    have h3 : ((2 : Int) ^ (i % 64).toNat) = ((2 ^ (i % 64).toNat : Nat) : Int) := by simp
    refine decide_eq_decide.2 ?_
    rw [h1, h3, ← Int.natCast_ediv]
    omega
theorem tz_part {X W k : Nat} (h : X % 2 ^ k = 0) (hW : W = X / 2 ^ k % 18446744073709551616) (h0 : W ≠ 0) : tz X = k + tz W := by
  obtain ⟨m, h1, h2⟩ := tz_ok h0
  have hl := tz_64 h0 (by rw [hW]; exact Nat.mod_lt _ (by decide))
  have h3 := Nat.div_add_mod X (2 ^ k)
  rw [h, Nat.add_zero] at h3
  have h4 := Nat.div_add_mod (X / 2 ^ k) 18446744073709551616
  rw [← hW] at h4
  obtain ⟨q, hq⟩ : ∃ q, q = X / 2 ^ k / 18446744073709551616 := ⟨_, rfl⟩
  rw [← hq] at h4
  obtain ⟨t, ht⟩ : ∃ t, t = tz W := ⟨_, rfl⟩
  rw [← ht] at h1 hl ⊢
  have e1 : (18446744073709551616 : Nat) = 2 ^ (63 - t) * 2 * 2 ^ t := by
    rw [Nat.mul_right_comm, ← Nat.pow_add, show 63 - t + t = 63 by omega]
  have h5 : X = (2 * (2 ^ (63 - t) * q) + m) * 2 ^ (k + t) := by
    rw [← h3, ← h4, h1, e1, Nat.pow_add]
    simp only [Nat.add_mul, Nat.mul_add]
    ac_rfl
  exact tz_eq h5 (by omega)
theorem n_trail {g : List (Nat × List Value)} (hD : (0, debT.map (Value.int .u8)) ∈ g) (X : Nat) (hX : L64 X ≤ 1073741824) : FC Tryz.prog g 47 [.ws .u64 (d64 X)] (· = .val (.int .i64 (tz X : Int))) := by
  have hl : (d64 X).length = L64 X := rfl
  refine FC.intro (X := XX) tok Tryz.func47 rfl Tryz.ntmps47 (by rw [Tryz.results47]) (by kernel_rfl) rfl ?_; intro F hG hO
  rw [← hG] at hD
  repeat' ((try (conv => whnf)); first
  | ((with_reducible refine lg ?_); refine loop_g (A := Nat) (fun j => j ≤ L64 X ∧ X % 2 ^ (64 * j) = 0) (fun j => L64 X - j) (fun j => [(0, .ws .u64 (d64 X)), (5, .val (.int .i64 (L64 X : Int))), (6, .val (.int .i64 (j : Int)))]) (fun _ => []) (fun _ => []) 0 tok (fun _ => ⟨⟨trivial, trivial, trivial, trivial⟩, trivial, by simp only [List.length_nil]; omega⟩) ?_ ⟨rfl, rfl, rfl, trivial⟩ ⟨[], rfl⟩ ⟨[], rfl⟩ ?_; rotate_left; rintro j ⟨h1, h2⟩; have hr := d64_rd X j; obtain ⟨W, hW⟩ : ∃ W, W = X / 2 ^ (64 * j) % 18446744073709551616 := ⟨_, rfl⟩; rw [← hW] at hr; have hWl : W < 18446744073709551616 := (by rw [hW]; exact Nat.mod_lt _ (by decide)))
  | ((with_reducible refine cg ?_); have h64 := tz_64 (x := W) (by omega) hWl; rw [hr]; refine call_eq (b_tz hD W (by omega) hWl) (LpL.refl _) rfl ?_)
  
  | (with_reducible refine Chk.mk' (by first | omega | exact trivial | (simp only [List.length_append, List.length_set, List.length_replicate, List.length_take, List.length_drop, List.length_cons, List.length_nil, List.length_map]; omega)) ?_)
  | (with_reducible refine wrap_g (by dsimp only [inR]; omega) ?_)
  | (with_reducible refine idx_g (by omega) ?_)
  | (with_reducible refine idx_l _ rfl (by decide) ?_)
  | (with_reducible refine BothG.mk ?_ ?_)
  | (with_reducible refine fork_tt ?_) | (with_reducible refine fork_ff ?_)
  | (with_reducible refine fork_e (c := true) (by decide) ?_; with_reducible refine fork_tt ?_) | (with_reducible refine fork_e (c := false) (by decide) ?_; with_reducible refine fork_ff ?_)
  | (with_reducible refine fork_t (by omega) ?_) | (with_reducible refine fork_f (by omega) ?_)
  | (with_reducible refine fork_d ?_ ?_ <;> intro hc)
  | (with_reducible refine fork_n ?_)
  | (with_reducible refine fork_b ?_ ?_ <;> intro hc)
  | (with_reducible refine SlcG.mk (by omega) ?_)
  | (with_reducible refine MakG.mk (by dsimp only; omega) ?_)
  | (with_reducible refine AppG.mk (by first | omega | (simp only [List.length_append, List.length_set, List.length_replicate, List.length_take, List.length_drop, List.length_cons, List.length_nil, List.length_map]; omega)) (by dsimp only [List.length_cons, List.length_nil]; omega) (by omega) ?_)
  | (with_reducible refine div_g (by omega) (by omega) (by dsimp only [inR]; omega) ?_)
  | (with_reducible refine mod_g (by omega) (by omega) ?_)
  | (with_reducible refine mask_g (m := 4294967296) 32 rfl rfl (by decide) (by omega) ?_)
  | (with_reducible refine shr_g (m := 4294967296) 32 rfl (by decide) (by omega) rfl ?_)
  | (with_reducible refine fz_all (by omega) ?_)
  | (with_reducible refine Stuck.h (A := RetE _ _) ?_) | (with_reducible refine Stuck.h (A := RetM _ _ _ _) ?_) | (with_reducible refine Stuck.h (A := Again _ _ _ _ _ _ _ _) ?_) | (with_reducible refine Stuck.h (A := CallF _ _ _ _ _ _ _) ?_) | (with_reducible refine Stuck.h (A := LoopG _ _ _ _ _ _ _ _) ?_) | (with_reducible refine Stuck.h (A := DrawG _ _ _ _ _ _ _ _) ?_)
  | (with_reducible refine Stuck.h (A := WrapG _ _ _) ?_) | (with_reducible refine Stuck.h (A := DivG _ _ _ _) ?_) | (with_reducible refine Stuck.h (A := ModG _ _ _) ?_) | (with_reducible refine Stuck.h (A := ShlG _ _ _ _) ?_) | (with_reducible refine Stuck.h (A := ShrG _ _ _ _) ?_) | (with_reducible refine Stuck.h (A := BitG _ _ _ _ _) ?_)
  | (with_reducible refine Stuck.h (A := IdxG _ _ _) ?_) | (with_reducible refine Stuck.h (A := IdxL _ _ _) ?_) | (with_reducible refine Stuck.h (A := SlcG _ _ _ _ _) ?_) | (with_reducible refine Stuck.h (A := MakG _ _ _ _) ?_) | (with_reducible refine Stuck.h (A := AppG _ _ _ _ _ _ _) ?_) | (with_reducible refine Stuck.h (A := FzG _ _ _ _) ?_)
  | (with_reducible refine Stuck.h (A := RawG _) ?_) | (with_reducible refine Stuck.h (A := TabG _ _ _ _ _) ?_) | (with_reducible refine Stuck.h (A := ExtF _ _ _ _) ?_) | (with_reducible refine Stuck.h (A := Chk _ _) ?_) | (with_reducible refine Stuck.h (A := False) ?_))
  · have h0 : W ≠ 0 := by omega
    have h4 := tz_part h2 hW h0
    exact ⟨ret_e (iv_eq (by rw [h4]; omega))⟩
  · have h0 : W = 0 := by omega
    refine ⟨again (j + 1) ⟨by omega, ?_⟩ (by omega) ⟨rfl, rfl, iv_eq (by omega), trivial⟩ ⟨[], rfl⟩ ⟨[], rfl⟩⟩
    rw [show 64 * (j + 1) = 64 * j + 64 by omega]
    exact mod_step X (64 * j) 64 h2 (by rw [show (2 : Nat) ^ 64 = 18446744073709551616 by decide]; omega)
  · have h3 := L64_lt X
    rw [show L64 X = j by omega] at h3
    rw [Nat.mod_eq_of_lt h3] at h2
    exact ⟨ret_e (iv_eq (by rw [h2, tz_zero]; rfl))⟩
  · exact ⟨Nat.zero_le _, by rw [Nat.mul_zero, Nat.pow_zero, Nat.mod_one]⟩
end Go.Proofs.YtbeocnjlepcglaaGreatDoor.Sim
namespace Go.Proofs.YtbeocnjlepcglaaGreatDoor.Sim
open Go.RowKit
set_option linter.unusedVariables false
set_option linter.unusedSimpArgs false
set_option maxRecDepth 10000
set_option maxHeartbeats 8000000
variable {G : List (Nat × List Value)}
theorem L32_L64 (x : Nat) : L32 x ≤ 2 * L64 x := L32_le (by have := L64_lt x; rw [show 32 * (2 * L64 x) = 64 * L64 x by omega]; exact this)
theorem Good.lz {n e : Int} (h : Good n e) : LZ n ≤ 16384 := by have := L32_L64 n.natAbs; unfold LZ; have := h.1; omega
theorem bl_L64 (x : Nat) : bl x ≤ 64 * L64 x := bl_le (L64_lt x)
theorem Good.bl {n e : Int} (h : Good n e) : Sim.bl n.natAbs ≤ 524288 := by have := bl_L64 n.natAbs; have := h.1; omega
theorem vl_d64 (m : Nat) : (vl 18446744073709551616 (d64 m)).toNat = m := by rw [(d64_ok m).2, Int.toNat_natCast]
theorem r_zfromN (n : Int) (h : L64 n.natAbs ≤ 134217728) : FC Tryz.prog G 72 [NI n] (· = ZI n) := by
  have := r_zfrom (G := G) (decide (n < 0)) (d64 n.natAbs) (d64_ok _).1 h
  rw [vl_d64, sg_of] at this
  exact this
theorem r_formg {n e : Int} (h : Good n e) : FC Tryz.prog G 36 [DY n e] (· = .val (.bool true)) := by
  have := r_docform (G := G) (decide (n < 0)) (d64 n.natAbs) e (rd_bd (by decide) (d64_ok _).1 0)
  rw [dyF_DY n e h] at this
  exact this
theorem r_noughtg (n e : Int) : FC Tryz.prog G 16 [DY n e] (· = .val (.bool (decide (n = 0)))) := by
  have := r_nought (G := G) (decide (n < 0)) (d64 n.natAbs) e
  have hl := len64_pos n.natAbs
  rw [show decide (((d64 n.natAbs).length : Int) = 0) = decide (n = 0) from decide_eq_decide.2 (by omega)] at this
  exact this
def ofS (n : Int) : PV := DY (n / 2 ^ tz n.natAbs) (tz n.natAbs)
theorem told_of (n : Int) (h : LZ n ≤ 2) : toldS n 0 = .tup [ofS n, .val (.int .i64 0)] := by
  unfold toldS ofS
  by_cases h0 : n = 0
  · subst h0
    rw [if_pos rfl, show tz (Int.natAbs 0) = 0 from tz_zero]; rfl
  · have h1 := tz_lt (n := n.natAbs) (by omega)
    have h2 := L32_mono (Nat.div_le_self n.natAbs (2 ^ tz n.natAbs))
    unfold LZ at h
    rw [if_neg h0, if_neg (by omega), if_neg (by omega), if_neg (by omega), if_neg (by omega), if_neg (by omega), Int.zero_add]; rfl
theorem r_docof (n : Int) (h : inR .i64 n) : FC Tryz.prog G 31 [.val (.int .i64 n)] (· = ofS n) := by
  have hL : LZ n ≤ 2 := by
    dsimp only [inR] at h
    exact L32_le (show n.natAbs < 2 ^ (32 * 2) by omega)
  have f1 := r_told (G := G) n 0 (by omega) (by dsimp only [inR]; omega)
  rw [told_of n hL] at f1
  unfold ofS at f1 ⊢
  refine FC.intro (X := XX) tok Tryz.func31 rfl Tryz.ntmps31 (by rw [Tryz.results31]) (by kernel_rfl) rfl ?_; intro F hG hO
  rw [← hG] at f1
  repeat' ((try (conv => whnf)); first
  | ((with_reducible refine cg ?_); refine call_eq (r_of n h) (LpL.refl _) rfl ?_)
  | ((with_reducible refine cg ?_); refine call_eq (f1) (LpL.refl _) rfl ?_)
  
  | (with_reducible refine Chk.mk' (by first | omega | exact trivial | (simp only [List.length_append, List.length_set, List.length_replicate, List.length_take, List.length_drop, List.length_cons, List.length_nil, List.length_map]; omega)) ?_)
  | (with_reducible refine wrap_g (by dsimp only [inR]; omega) ?_)
  | (with_reducible refine idx_g (by omega) ?_)
  | (with_reducible refine idx_l _ rfl (by decide) ?_)
  | (with_reducible refine BothG.mk ?_ ?_)
  | (with_reducible refine fork_tt ?_) | (with_reducible refine fork_ff ?_)
  | (with_reducible refine fork_e (c := true) (by decide) ?_; with_reducible refine fork_tt ?_) | (with_reducible refine fork_e (c := false) (by decide) ?_; with_reducible refine fork_ff ?_)
  | (with_reducible refine fork_t (by omega) ?_) | (with_reducible refine fork_f (by omega) ?_)
  | (with_reducible refine fork_d ?_ ?_ <;> intro hc)
  | (with_reducible refine fork_n ?_)
  | (with_reducible refine fork_b ?_ ?_ <;> intro hc)
  | (with_reducible refine SlcG.mk (by omega) ?_)
  | (with_reducible refine MakG.mk (by dsimp only; omega) ?_)
  | (with_reducible refine AppG.mk (by first | omega | (simp only [List.length_append, List.length_set, List.length_replicate, List.length_take, List.length_drop, List.length_cons, List.length_nil, List.length_map]; omega)) (by dsimp only [List.length_cons, List.length_nil]; omega) (by omega) ?_)
  | (with_reducible refine div_g (by omega) (by omega) (by dsimp only [inR]; omega) ?_)
  | (with_reducible refine mod_g (by omega) (by omega) ?_)
  | (with_reducible refine mask_g (m := 4294967296) 32 rfl rfl (by decide) (by omega) ?_)
  | (with_reducible refine shr_g (m := 4294967296) 32 rfl (by decide) (by omega) rfl ?_)
  | (with_reducible refine fz_all (by omega) ?_)
  | (with_reducible refine Stuck.h (A := RetE _ _) ?_) | (with_reducible refine Stuck.h (A := RetM _ _ _ _) ?_) | (with_reducible refine Stuck.h (A := Again _ _ _ _ _ _ _ _) ?_) | (with_reducible refine Stuck.h (A := CallF _ _ _ _ _ _ _) ?_) | (with_reducible refine Stuck.h (A := LoopG _ _ _ _ _ _ _ _) ?_) | (with_reducible refine Stuck.h (A := DrawG _ _ _ _ _ _ _ _) ?_)
  | (with_reducible refine Stuck.h (A := WrapG _ _ _) ?_) | (with_reducible refine Stuck.h (A := DivG _ _ _ _) ?_) | (with_reducible refine Stuck.h (A := ModG _ _ _) ?_) | (with_reducible refine Stuck.h (A := ShlG _ _ _ _) ?_) | (with_reducible refine Stuck.h (A := ShrG _ _ _ _) ?_) | (with_reducible refine Stuck.h (A := BitG _ _ _ _ _) ?_)
  | (with_reducible refine Stuck.h (A := IdxG _ _ _) ?_) | (with_reducible refine Stuck.h (A := IdxL _ _ _) ?_) | (with_reducible refine Stuck.h (A := SlcG _ _ _ _ _) ?_) | (with_reducible refine Stuck.h (A := MakG _ _ _ _) ?_) | (with_reducible refine Stuck.h (A := AppG _ _ _ _ _ _ _) ?_) | (with_reducible refine Stuck.h (A := FzG _ _ _ _) ?_)
  | (with_reducible refine Stuck.h (A := RawG _) ?_) | (with_reducible refine Stuck.h (A := TabG _ _ _ _ _) ?_) | (with_reducible refine Stuck.h (A := ExtF _ _ _ _) ?_) | (with_reducible refine Stuck.h (A := Chk _ _) ?_) | (with_reducible refine Stuck.h (A := False) ?_))
  exact ⟨ret_e rfl⟩
def topN (n e : Int) : Int := e + (bl n.natAbs : Int) - 1
def cmpS (n e m f : Int) : Int := if n.sign ≠ m.sign ∨ n.sign = 0 then (n.sign - m.sign).sign else if topN n e ≠ topN m f then n.sign * (topN n e - topN m f).sign else (n * 2 ^ (e - min e f).toNat - m * 2 ^ (f - min e f).toNat).sign
theorem sign_bd (n : Int) : -1 ≤ n.sign ∧ n.sign ≤ 1 := by
  rcases Int.lt_trichotomy n 0 with h | h | h
  · rw [Int.sign_eq_neg_one_of_neg h]; decide
  · subst h; decide
  · rw [Int.sign_eq_one_of_pos h]; decide
theorem tz_odd {n : Nat} (h : n % 2 = 1) : tz n = 0 := tz_eq (m := n) (by simp) h
theorem told_good {n e : Int} (h : Good n e) : toldS n e = dyR n e := by
  obtain ⟨g1, g2, g3, g4, g5⟩ := h
  unfold toldS
  by_cases h0 : n = 0
  · rw [if_pos h0, h0, g4 h0]; rfl
  · have h1 : tz n.natAbs = 0 := tz_odd (by have := g5 h0; omega)
    have h2 := L32_L64 n.natAbs
    rw [if_neg h0, h1, Nat.pow_zero, Nat.div_one, if_neg (by omega), if_neg (by omega), if_neg (by omega), if_neg (by omega), if_neg (by omega)]
    simp
theorem Good.neg {n e : Int} (h : Good n e) : Good (-n) e := by
  obtain ⟨g1, g2, g3, g4, g5⟩ := h
  exact ⟨by rw [Int.natAbs_neg]; exact g1, g2, g3, fun h => g4 (by omega), fun h => by have := g5 (by omega); omega⟩
def addS (n e m f : Int) : PV :=
  if n = 0 then dyR m f else if m = 0 then dyR n e else if 524288 ≤ topN n e - min e f ∨ 524288 ≤ topN m f - min e f then dyE 5
  else if 524288 < bl (n * 2 ^ (e - min e f).toNat + m * 2 ^ (f - min e f).toNat).natAbs then dyE 5 else toldS (n * 2 ^ (e - min e f).toNat + m * 2 ^ (f - min e f).toNat) (min e f)
end Go.Proofs.YtbeocnjlepcglaaGreatDoor.Sim
namespace Go.Proofs.YtbeocnjlepcglaaGreatDoor.Sim
open Go.RowKit
set_option linter.unusedVariables false
set_option linter.unusedSimpArgs false
set_option maxRecDepth 10000
set_option maxHeartbeats 8000000
variable {G : List (Nat × List Value)}
theorem topN_bd {n e : Int} (h : Good n e) : -2000000 ≤ topN n e ∧ topN n e ≤ 2000000 := by
  have b1 := h.bl
  unfold topN
  have := h.2.1
  have := h.2.2.1
  omega
theorem L64_L32 (x : Nat) : L64 x ≤ (L32 x + 1) / 2 := L64_le (Nat.lt_of_lt_of_le (L32_lt x) (Nat.pow_le_pow_right (by decide) (by omega)))
theorem Good.zero : Good 0 0 := ⟨by rw [show Int.natAbs 0 = 0 from rfl, L64, lenB_zero]; omega, by decide, by decide, fun _ => rfl, fun h => absurd rfl h⟩
/-- What is told is a dyadic in form and an error. -/
theorem told_form (n e : Int) : ∃ x y c, toldS n e = .tup [DY x y, .val (.int .i64 c)] ∧ Good x y ∧ (c = 0 ∨ c = 5) := by
  unfold toldS
  split
  · exact ⟨0, 0, 0, rfl, Good.zero, .inl rfl⟩
  · rename_i h0
    have h1 := odd_div (n := n.natAbs) (by omega)
    obtain ⟨t, ht⟩ : ∃ t, t = tz n.natAbs := ⟨_, rfl⟩
    rw [← ht] at h1 ⊢
    obtain ⟨q, hq⟩ : ∃ q, q = n.natAbs / 2 ^ t := ⟨_, rfl⟩
    rw [← hq] at h1 ⊢
    have hx := exact_div (n := n) (q := q) (t := t) h1.1
    repeat' split
    · exact ⟨0, 0, 5, rfl, Good.zero, .inr rfl⟩
    · exact ⟨0, 0, 5, rfl, Good.zero, .inr rfl⟩
    · exact ⟨0, 0, 5, rfl, Good.zero, .inr rfl⟩
    · exact ⟨0, 0, 5, rfl, Good.zero, .inr rfl⟩
    · exact ⟨0, 0, 5, rfl, Good.zero, .inr rfl⟩
    · refine ⟨_, _, 0, rfl, ?_, .inl rfl⟩
      rw [hx]
      have h3 := L64_L32 q
      have h2 := h1.2
      refine ⟨by rw [sg_abs]; omega, by omega, by omega, fun h => ?_, fun _ => ?_⟩
      · have := sg_abs (decide (n < 0)) q
        rw [h] at this
        have : q = 0 := by simpa using this.symm
        omega
      · generalize decide (n < 0) = b
        cases b <;> simp only [sg] <;> omega
end Go.Proofs.YtbeocnjlepcglaaGreatDoor.Sim
namespace Go.Proofs.YtbeocnjlepcglaaGreatDoor.Sim
open Go.RowKit
set_option linter.unusedVariables false
set_option linter.unusedSimpArgs false
set_option maxRecDepth 10000
set_option maxHeartbeats 8000000
variable {G : List (Nat × List Value)}
theorem add_form {n e m f : Int} (h : Good n e) (g : Good m f) : ∃ x y c, addS n e m f = .tup [DY x y, .val (.int .i64 c)] ∧ Good x y ∧ (c = 0 ∨ c = 5) := by
  unfold addS
  repeat' split
  · exact ⟨m, f, 0, rfl, g, .inl rfl⟩
  · exact ⟨n, e, 0, rfl, h, .inl rfl⟩
  · exact ⟨0, 0, 5, rfl, Good.zero, .inr rfl⟩
  · exact ⟨0, 0, 5, rfl, Good.zero, .inr rfl⟩
  · exact told_form _ _
def scaleS (n e k : Int) : PV := if n = 0 then dyE 0 else if 2097152 < k then dyE 5 else if k < -2097152 then dyE 5 else toldS n (e + k)
theorem r_docscale {n e : Int} (k : Int) (h : Good n e) (hk : inR .i64 k) : FC Tryz.prog G 35 [DY n e, .val (.int .i64 k)] (· = scaleS n e k) := by
  dsimp only [inR] at hk
  have l1 := h.lz
  have e1 := h.2.1
  have e2 := h.2.2.1
  unfold scaleS
  obtain ⟨x, y, c, hr, hgd, hcc⟩ := told_form n (e + k)
  have f1 : -2097152 ≤ k ∧ k ≤ 2097152 → FC Tryz.prog G 53 [ZI n, .val (.int .i64 (e + k))] (· = .tup [DY x y, .val (.int .i64 c)]) := fun hk => by rw [← hr]; exact r_told (G := G) n (e + k) (by omega) (by dsimp only [inR]; omega)
  rw [hr]
  refine FC.intro (X := XX) tok Tryz.func35 rfl Tryz.ntmps35 (by rw [Tryz.results35]) (by kernel_rfl) rfl ?_; intro F hG hO
  rw [← hG] at f1
  repeat' ((try (conv => whnf)); first
  | ((with_reducible refine cg ?_); refine call_eq (r_formg h) (LpL.refl _) rfl ?_)
  | ((with_reducible refine cg ?_); refine call_eq (r_noughtg n e) (LpL.refl _) rfl ?_)
  | ((with_reducible refine cg ?_); refine call_eq (r_zfromN n (Nat.le_trans h.1 (by decide))) (LpL.refl _) rfl ?_)
  | ((with_reducible refine cg ?_); refine call_eq (f1 (by omega)) (LpL.refl _) rfl ?_)
  
  | (with_reducible refine draw_g (id := 7) [[0, 1, 3, 4, 5, 6, 2, 7, 8, 9], [10, 11]] tok mixed (by kernel_rfl) ?_)
  | (with_reducible refine Chk.mk' (by first | omega | exact trivial | (simp only [List.length_append, List.length_set, List.length_replicate, List.length_take, List.length_drop, List.length_cons, List.length_nil, List.length_map]; omega)) ?_)
  | (with_reducible refine wrap_g (by dsimp only [inR]; omega) ?_)
  | (with_reducible refine idx_g (by omega) ?_)
  | (with_reducible refine idx_l _ rfl (by decide) ?_)
  | (with_reducible refine BothG.mk ?_ ?_)
  | (with_reducible refine fork_tt ?_) | (with_reducible refine fork_ff ?_)
  | (with_reducible refine fork_e (c := true) (by decide) ?_; with_reducible refine fork_tt ?_) | (with_reducible refine fork_e (c := false) (by decide) ?_; with_reducible refine fork_ff ?_)
  | (with_reducible refine fork_t (by omega) ?_) | (with_reducible refine fork_f (by omega) ?_)
  | (with_reducible refine fork_d ?_ ?_ <;> intro hc)
  | (with_reducible refine fork_n ?_)
  | (with_reducible refine fork_b ?_ ?_ <;> intro hc)
  | (with_reducible refine SlcG.mk (by omega) ?_)
  | (with_reducible refine MakG.mk (by dsimp only; omega) ?_)
  | (with_reducible refine AppG.mk (by first | omega | (simp only [List.length_append, List.length_set, List.length_replicate, List.length_take, List.length_drop, List.length_cons, List.length_nil, List.length_map]; omega)) (by dsimp only [List.length_cons, List.length_nil]; omega) (by omega) ?_)
  | (with_reducible refine div_g (by omega) (by omega) (by dsimp only [inR]; omega) ?_)
  | (with_reducible refine mod_g (by omega) (by omega) ?_)
  | (with_reducible refine mask_g (m := 4294967296) 32 rfl rfl (by decide) (by omega) ?_)
  | (with_reducible refine shr_g (m := 4294967296) 32 rfl (by decide) (by omega) rfl ?_)
  | (with_reducible refine fz_all (by omega) ?_)
  | (with_reducible refine Stuck.h (A := RetE _ _) ?_) | (with_reducible refine Stuck.h (A := RetM _ _ _ _) ?_) | (with_reducible refine Stuck.h (A := Again _ _ _ _ _ _ _ _) ?_) | (with_reducible refine Stuck.h (A := CallF _ _ _ _ _ _ _) ?_) | (with_reducible refine Stuck.h (A := LoopG _ _ _ _ _ _ _ _) ?_) | (with_reducible refine Stuck.h (A := DrawG _ _ _ _ _ _ _ _) ?_)
  | (with_reducible refine Stuck.h (A := WrapG _ _ _) ?_) | (with_reducible refine Stuck.h (A := DivG _ _ _ _) ?_) | (with_reducible refine Stuck.h (A := ModG _ _ _) ?_) | (with_reducible refine Stuck.h (A := ShlG _ _ _ _) ?_) | (with_reducible refine Stuck.h (A := ShrG _ _ _ _) ?_) | (with_reducible refine Stuck.h (A := BitG _ _ _ _ _) ?_)
  | (with_reducible refine Stuck.h (A := IdxG _ _ _) ?_) | (with_reducible refine Stuck.h (A := IdxL _ _ _) ?_) | (with_reducible refine Stuck.h (A := SlcG _ _ _ _ _) ?_) | (with_reducible refine Stuck.h (A := MakG _ _ _ _) ?_) | (with_reducible refine Stuck.h (A := AppG _ _ _ _ _ _ _) ?_) | (with_reducible refine Stuck.h (A := FzG _ _ _ _) ?_)
  | (with_reducible refine Stuck.h (A := RawG _) ?_) | (with_reducible refine Stuck.h (A := TabG _ _ _ _ _) ?_) | (with_reducible refine Stuck.h (A := ExtF _ _ _ _) ?_) | (with_reducible refine Stuck.h (A := Chk _ _) ?_) | (with_reducible refine Stuck.h (A := False) ?_))
  all_goals first
    | (refine ⟨ret_l _ (lp_dyE 0) ?_⟩; rw [if_pos (by omega)])
    | (refine ⟨ret_l _ (lp_dyE 5) ?_⟩; rw [if_neg (by omega), if_pos (by omega)])
    | (refine ⟨ret_l _ (lp_dyE 5) ?_⟩; rw [if_neg (by omega), if_neg (by omega), if_pos (by omega)])
    | (refine ⟨ret_e ?_⟩; rw [if_neg (by omega), if_neg (by omega), if_neg (by omega)]; rfl)
def wholeS (n k : Int) (up : Bool) : Int := match up with
  | true => -((-n) / 2 ^ k.toNat)
  | false => n / 2 ^ k.toNat
def cutS (n e p : Int) (up : Bool) : PV := if (bl n.natAbs : Int) - p ≤ 0 then toldS n e else toldS (wholeS n ((bl n.natAbs : Int) - p) up) (e + ((bl n.natAbs : Int) - p))
theorem cut_form (n e p : Int) (up : Bool) : ∃ x y c, cutS n e p up = .tup [DY x y, .val (.int .i64 c)] ∧ Good x y ∧ (c = 0 ∨ c = 5) := by
  unfold cutS
  split <;> exact told_form _ _
def cutsS (n e p : Int) (up : Bool) : PV := if p < 1 then dyE 1 else if 70000 < p then dyE 1 else cutS n e p up
theorem cuts_form (n e p : Int) (up : Bool) : ∃ x y c, cutsS n e p up = .tup [DY x y, .val (.int .i64 c)] ∧ Good x y := by
  unfold cutsS
  repeat' split
  · exact ⟨0, 0, 1, rfl, Good.zero⟩
  · exact ⟨0, 0, 1, rfl, Good.zero⟩
  · obtain ⟨x, y, c, h, g, _⟩ := cut_form n e p up
    exact ⟨x, y, c, h, g⟩
end Go.Proofs.YtbeocnjlepcglaaGreatDoor.Sim
namespace Go.Proofs.YtbeocnjlepcglaaGreatDoor.Sim
open Go.RowKit
set_option linter.unusedVariables false
set_option linter.unusedSimpArgs false
set_option maxRecDepth 10000
set_option maxHeartbeats 8000000
variable {G : List (Nat × List Value)}
def shlC (X : Nat) (n : Int) : Int := if n < 0 then 1 else if X = 0 then 0 else if 524288 - (bl X : Int) < n then 5 else 0
def shlL (X : Nat) (n : Int) : List Int := if shlC X n = 0 then d64 (X * 2 ^ n.toNat) else []
def shlT (X : Nat) (n : Int) : PV := .tup [.ws .u64 (shlL X n), .val (.int .i64 (shlC X n))]
theorem shl_word (a k : Nat) (ha : a < 18446744073709551616) (hk : k < 64) : a * 2 ^ k % 18446744073709551616 + 18446744073709551616 * (a / 2 / 2 ^ (63 - k)) = a * 2 ^ k ∧ a / 2 / 2 ^ (63 - k) < 2 ^ k ∧ a * 2 ^ k % 18446744073709551616 % 2 ^ k = 0 ∧ a * 2 ^ k % 18446744073709551616 + 2 ^ k ≤ 18446744073709551616 := by
  have e1 : a / 2 / 2 ^ (63 - k) = a * 2 ^ k / 18446744073709551616 := by
    rw [Nat.div_div_eq_div_mul, show 2 * 2 ^ (63 - k) = 2 ^ (64 - k) by rw [Nat.mul_comm, ← Nat.pow_succ]; congr 1; omega]
    rw [show (18446744073709551616 : Nat) = 2 ^ (64 - k) * 2 ^ k by rw [← Nat.pow_add, show 64 - k + k = 64 by omega], Nat.mul_div_mul_right _ _ (Nat.pow_pos (by decide))]
  have e2 : (18446744073709551616 : Nat) = 2 ^ (64 - k) * 2 ^ k := by rw [← Nat.pow_add, show 64 - k + k = 64 by omega]
  have h3 : a * 2 ^ k % 18446744073709551616 % 2 ^ k = 0 := by
    rw [Nat.mod_mod_of_dvd _ (by rw [e2]; exact Nat.dvd_mul_left _ _), Nat.mul_mod_left]
  refine ⟨by rw [e1]; exact Nat.mod_add_div _ _, ?_, h3, ?_⟩
  · rw [e1, Nat.div_lt_iff_lt_mul (by decide), Nat.mul_comm]
    exact Nat.mul_lt_mul_of_pos_left ha (Nat.pow_pos (by decide))
  · have h4 := Nat.mod_lt (a * 2 ^ k) (show 0 < 18446744073709551616 by decide)
    have h5 := Nat.div_add_mod (a * 2 ^ k % 18446744073709551616) (2 ^ k)
    rw [h3, Nat.add_zero] at h5
    rw [← h5] at h4 ⊢
    generalize a * 2 ^ k % 18446744073709551616 / 2 ^ k = q at *
    rw [e2, Nat.mul_comm] at h4
    have h6 : q < 2 ^ (64 - k) := Nat.lt_of_mul_lt_mul_right h4
    have h7 : 2 ^ k * (q + 1) ≤ 2 ^ k * 2 ^ (64 - k) := Nat.mul_le_mul_left _ h6
    rw [Nat.mul_add, Nat.mul_one, Nat.mul_comm (2 ^ k) (2 ^ (64 - k)), ← e2] at h7
    exact h7
def ShlI (a t : List Int) (k : Nat) (c : Int) : Prop := t.length ≤ a.length ∧ okD 18446744073709551616 t ∧ (0 ≤ c ∧ c < 2 ^ k) ∧ vl 18446744073709551616 t + 18446744073709551616 ^ t.length * c = vl 18446744073709551616 (a.take t.length) * 2 ^ k
theorem ShlI.step {a t : List Int} {k : Nat} {c : Int} (h : ShlI a t k c) (hlt : t.length < a.length) (ok : okD 18446744073709551616 a) (hk : k < 64) :
    (0 ≤ rd a t.length * 2 ^ k % 18446744073709551616 ∧ rd a t.length * 2 ^ k % 18446744073709551616 < 18446744073709551616) ∧ rd a t.length * 2 ^ k % 18446744073709551616 % 2 ^ k = 0 ∧ c + rd a t.length * 2 ^ k % 18446744073709551616 < 18446744073709551616 ∧ ShlI a (t ++ [c + rd a t.length * 2 ^ k % 18446744073709551616]) k (rd a t.length / 2 / 2 ^ (63 - k)) := by
  obtain ⟨h1, h2, h3, h4⟩ := h
  obtain ⟨x, hx⟩ := Int.eq_ofNat_of_zero_le (rd_bd (by decide) ok (t.length : Int)).1
  have hb := (rd_bd (by decide) ok (t.length : Int)).2
  rw [hx] at hb
  obtain ⟨g1, g2, g3, g4⟩ := shl_word x k (by omega) hk
  have p1 : ((2 : Int) ^ k) = ((2 ^ k : Nat) : Int) := by simp
  have p2 : ((2 : Int) ^ (63 - k)) = ((2 ^ (63 - k) : Nat) : Int) := by simp
  rw [p1] at h3 h4
  rw [hx, p1, p2]
  have q1 : ((x : Int) * ((2 ^ k : Nat) : Int) % 18446744073709551616) = ((x * 2 ^ k % 18446744073709551616 : Nat) : Int) := by simp
  have q2 : ((x : Int) / 2 / ((2 ^ (63 - k) : Nat) : Int)) = ((x / 2 / 2 ^ (63 - k) : Nat) : Int) := by simp
  rw [q1, q2]
  have q3 : (((x * 2 ^ k % 18446744073709551616 : Nat) : Int) % ((2 ^ k : Nat) : Int)) = ((x * 2 ^ k % 18446744073709551616 % 2 ^ k : Nat) : Int) := by simp
  rw [q3, g3]
  refine ⟨by omega, rfl, by omega, ?_⟩
  refine ⟨by rw [len_snoc]; omega, okD_append.2 ⟨h2, okD_cons.2 ⟨by omega, okD_nil _⟩⟩, by rw [p1]; omega, ?_⟩
  have g5 : ((x * 2 ^ k % 18446744073709551616 : Nat) : Int) + 18446744073709551616 * ((x / 2 / 2 ^ (63 - k) : Nat) : Int) = (x : Int) * ((2 ^ k : Nat) : Int) := by
    rw [← Int.natCast_mul, ← g1]; simp
  rw [p1, vl_snoc, len_snoc, sum_step (T := c + (x : Int) * ((2 ^ k : Nat) : Int)) t.length (by omega), Int.mul_add, ← Int.add_assoc, h4, vl_take_step, hx, Int.add_mul, Int.mul_assoc]
theorem ins_end {p s : List Int} {lo : Nat} (h : lo + s.length = p.length) : ins p lo s = p.take lo ++ s := by
  unfold ins
  rw [List.drop_eq_nil_of_le (by omega), List.append_nil]
theorem ShlI.done {a t : List Int} {k : Nat} {c : Int} (h : ShlI a t k c) (hk : (2 : Int) ^ k < 18446744073709551616) (hl : t.length = a.length) (lo : Nat) : okD 18446744073709551616 (List.replicate lo 0 ++ (t ++ [c])) ∧ vl 18446744073709551616 (List.replicate lo 0 ++ (t ++ [c])) = 18446744073709551616 ^ lo * (vl 18446744073709551616 a * 2 ^ k) := by
  obtain ⟨h1, h2, h3, h4⟩ := h
  rw [List.take_of_length_le (by omega)] at h4
  refine ⟨okD_append.2 ⟨fun x hx => by rw [List.eq_of_mem_replicate hx]; decide, okD_append.2 ⟨h2, okD_cons.2 ⟨by omega, okD_nil _⟩⟩⟩, ?_⟩
  rw [vl_append, vl_zero, List.length_replicate, Int.zero_add, vl_snoc, h4]
theorem shlT_1 {X : Nat} {n : Int} (h : n < 0) : shlT X n = natE 1 := by unfold shlT shlL shlC; rw [if_pos h]; rfl
theorem shlT_0 {X : Nat} {n : Int} (h : ¬ n < 0) (h0 : X = 0) : shlT X n = natE 0 := by
  unfold shlT shlL shlC
  rw [if_neg h, if_pos h0, if_pos rfl, h0, Nat.zero_mul, d64_0]; rfl
theorem shlT_5 {X : Nat} {n : Int} (h : ¬ n < 0) (h0 : X ≠ 0) (h1 : 524288 - (bl X : Int) < n) : shlT X n = natE 5 := by unfold shlT shlL shlC; rw [if_neg h, if_neg h0, if_pos h1]; rfl
theorem shlT_ok {X : Nat} {n : Int} (h : ¬ n < 0) (h0 : X ≠ 0) (h1 : ¬ 524288 - (bl X : Int) < n) : shlT X n = natT (X * 2 ^ n.toNat) := by
  rw [natT_ok]
  · unfold shlT shlL shlC; rw [if_neg h, if_neg h0, if_neg h1, if_pos rfl]; rfl
  · rw [L64_bl, bl_mul_pow X n.toNat h0]; omega
theorem shl_final (X : Nat) (n : Int) (h : 0 ≤ n) : ((18446744073709551616 : Int) ^ (n / 64).toNat * ((X : Int) * 2 ^ (n % 64).toNat)).toNat = X * 2 ^ n.toNat := by
  have e : ((18446744073709551616 : Int) ^ (n / 64).toNat * ((X : Int) * 2 ^ (n % 64).toNat)) = ((18446744073709551616 ^ (n / 64).toNat * (X * 2 ^ (n % 64).toNat) : Nat) : Int) := by simp
  rw [e, Int.toNat_natCast, pow64, Nat.mul_left_comm, ← Nat.pow_add]
  congr 2
  omega
theorem n_shl (X : Nat) (n : Int) (hX : L64 X ≤ 8192) (hn : inR .i64 n) : FC Tryz.prog G 67 [.ws .u64 (d64 X), .val (.int .i64 n)] (· = shlT X n) := by
  dsimp only [inR] at hn
  have fa := n_formN (G := G) X hX
  have fb := n_bits (G := G) X (by omega)
  have hbl : bl X ≤ 524288 := by have := bl_L64 X; omega
  have hp := len64_pos X
  obtain ⟨a, ea⟩ : ∃ a, a = d64 X := ⟨_, rfl⟩
  obtain ⟨oka, va⟩ := d64_ok X
  replace hX : (d64 X).length ≤ 8192 := hX
  rw [← ea] at hX oka va fa fb hp
  rw [← ea]
  have hk : (n % 64).toNat < 64 := by omega
  have hw := pw64 hk
  refine FC.intro (X := XX) tok Tryz.func67 rfl Tryz.ntmps67 (by rw [Tryz.results67]) (by kernel_rfl) rfl ?_; intro F hG hO
  rw [← hG] at fa fb
  repeat' ((try (conv => whnf)); first
  | ((with_reducible refine cg ?_); refine call_eq (fa) (LpL.refl _) rfl ?_)
  | ((with_reducible refine cg ?_); refine call_eq (fb) (LpL.refl _) rfl ?_)
  | ((with_reducible refine lg ?_); refine loop_g (A := List Int × Int) (fun (t, c) => ShlI a t (n % 64).toNat c) (fun (t, c) => a.length - t.length) (fun (t, c) => [(0, .ws .u64 a), (6, .val (.int .i64 (n / 64))), (7, .val (.int .i64 (n % 64))), (8, .arr 0 0 ((n / 64).toNat + a.length + 1)), (34, .val (.int .i64 (a.length : Int))), (35, .val (.int .i64 (t.length : Int)))]) (fun _ => []) (fun (t, c) => [some ⟨1, 44, .w .u64 (ins (List.replicate ((n / 64).toNat + a.length + 1) 0) (n / 64).toNat (t ++ [c]))⟩]) ([], 0) tok (fun (t, c) => ⟨⟨trivial, trivial, trivial, Nat.one_pos, trivial, trivial, trivial⟩, trivial, by simp only [List.length_cons]; omega⟩) ?_ ⟨rfl, rfl, rfl, congrArg (PV.arr 0 0) (by omega), rfl, rfl, trivial⟩ ⟨[], rfl⟩ ⟨[], (by dsimp only; rw [List.nil_append, ins_zero _ _ (by omega), show (n / 64 + (a.length : Int) + 1).toNat = (n / 64).toNat + a.length + 1 by omega]; rfl)⟩ ?_; rotate_left; rintro ⟨t, c⟩ hI; have hI2 := hI; obtain ⟨i1, i2, i3, i4⟩ := hI2; have ra := rd_bd (by decide) oka (t.length : Int); have hil : (ins (List.replicate ((n / 64).toNat + a.length + 1) 0) (n / 64).toNat (t ++ [c])).length = (n / 64).toNat + a.length + 1 := (by rw [ins_len (by simp; omega)]; simp))
  | (with_reducible refine shl_m (by omega) ?_)
  | (with_reducible refine shr_g (m := 2) 1 rfl (by decide) (by omega) rfl ?_)
  | (with_reducible refine shr_p (by omega) (by dsimp only [IntKind.bits]; omega) ?_)
  | (have hst := hI.step (by omega) oka hk; rw [show 0 + (n / 64 + (t.length : Int)).toNat = (n / 64).toNat + t.length by omega, ins_getE c (by simp; omega)]; refine or_g (n % 64).toNat (by omega) hst.1 i3.2 hst.2.1 hst.2.2.1 ?_)
  | ((with_reducible refine cg ?_); have hdn := hI.done hw.2 (by omega) (n / 64).toNat; refine call_fz 0 (A := ins (List.replicate ((n / 64).toNat + a.length + 1) 0) (n / 64).toNat (t ++ [c])) (B := List.replicate (n / 64).toNat 0 ++ (t ++ [c])) rfl rfl (by omega) (by rw [List.drop_zero, ins_end (by simp; omega), List.take_replicate, Nat.min_eq_left (by omega)]; exact List.take_of_length_le (by simp; omega)) (by omega) ?_; refine call_eq (n_told (List.replicate (n / 64).toNat 0 ++ (t ++ [c])) hdn.1 (by simp; omega)) (LpL.refl _) rfl ?_; rw [hdn.2])
  
  | (with_reducible refine draw_g (id := 14) [[0, 1, 2, 3, 4, 5, 6, 7, 8, 9, 10, 11, 12, 13], [14]] tok mixed (by kernel_rfl) ?_)
  | (with_reducible refine Chk.mk' (by first | omega | exact trivial | (simp only [List.length_append, List.length_set, List.length_replicate, List.length_take, List.length_drop, List.length_cons, List.length_nil, List.length_map]; omega)) ?_)
  | (with_reducible refine wrap_g (by dsimp only [inR]; omega) ?_)
  | (with_reducible refine idx_g (by omega) ?_)
  | (with_reducible refine idx_l _ rfl (by decide) ?_)
  | (with_reducible refine BothG.mk ?_ ?_)
  | (with_reducible refine fork_tt ?_) | (with_reducible refine fork_ff ?_)
  | (with_reducible refine fork_e (c := true) (by decide) ?_; with_reducible refine fork_tt ?_) | (with_reducible refine fork_e (c := false) (by decide) ?_; with_reducible refine fork_ff ?_)
  | (with_reducible refine fork_t (by omega) ?_) | (with_reducible refine fork_f (by omega) ?_)
  | (with_reducible refine fork_d ?_ ?_ <;> intro hc)
  | (with_reducible refine fork_n ?_)
  | (with_reducible refine fork_b ?_ ?_ <;> intro hc)
  | (with_reducible refine SlcG.mk (by omega) ?_)
  | (with_reducible refine MakG.mk (by dsimp only; omega) ?_)
  | (with_reducible refine AppG.mk (by first | omega | (simp only [List.length_append, List.length_set, List.length_replicate, List.length_take, List.length_drop, List.length_cons, List.length_nil, List.length_map]; omega)) (by dsimp only [List.length_cons, List.length_nil]; omega) (by omega) ?_)
  | (with_reducible refine div_g (by omega) (by omega) (by dsimp only [inR]; omega) ?_)
  | (with_reducible refine mod_g (by omega) (by omega) ?_)
  | (with_reducible refine mask_g (m := 4294967296) 32 rfl rfl (by decide) (by omega) ?_)
  | (with_reducible refine shr_g (m := 4294967296) 32 rfl (by decide) (by omega) rfl ?_)
  | (with_reducible refine fz_all (by omega) ?_)
  | (with_reducible refine Stuck.h (A := RetE _ _) ?_) | (with_reducible refine Stuck.h (A := RetM _ _ _ _) ?_) | (with_reducible refine Stuck.h (A := Again _ _ _ _ _ _ _ _) ?_) | (with_reducible refine Stuck.h (A := CallF _ _ _ _ _ _ _) ?_) | (with_reducible refine Stuck.h (A := LoopG _ _ _ _ _ _ _ _) ?_) | (with_reducible refine Stuck.h (A := DrawG _ _ _ _ _ _ _ _) ?_)
  | (with_reducible refine Stuck.h (A := WrapG _ _ _) ?_) | (with_reducible refine Stuck.h (A := DivG _ _ _ _) ?_) | (with_reducible refine Stuck.h (A := ModG _ _ _) ?_) | (with_reducible refine Stuck.h (A := ShlG _ _ _ _) ?_) | (with_reducible refine Stuck.h (A := ShrG _ _ _ _) ?_) | (with_reducible refine Stuck.h (A := BitG _ _ _ _ _) ?_)
  | (with_reducible refine Stuck.h (A := IdxG _ _ _) ?_) | (with_reducible refine Stuck.h (A := IdxL _ _ _) ?_) | (with_reducible refine Stuck.h (A := SlcG _ _ _ _ _) ?_) | (with_reducible refine Stuck.h (A := MakG _ _ _ _) ?_) | (with_reducible refine Stuck.h (A := AppG _ _ _ _ _ _ _) ?_) | (with_reducible refine Stuck.h (A := FzG _ _ _ _) ?_)
  | (with_reducible refine Stuck.h (A := RawG _) ?_) | (with_reducible refine Stuck.h (A := TabG _ _ _ _ _) ?_) | (with_reducible refine Stuck.h (A := ExtF _ _ _ _) ?_) | (with_reducible refine Stuck.h (A := Chk _ _) ?_) | (with_reducible refine Stuck.h (A := False) ?_))
  · exact ⟨ret_l _ (lp_natE 1) (shlT_1 hc).symm⟩
  · exact ⟨ret_l _ (lp_natE 0) (shlT_0 (by omega) (by omega)).symm⟩
  · exact ⟨ret_l _ (lp_natE 5) (shlT_5 (by omega) (by omega) (by omega)).symm⟩
  · have hst := hI.step (by omega) oka hk
    have e3 : (63 - n % 64).toNat = 63 - (n % 64).toNat := by omega
    refine ⟨again (t ++ [c + rd a (t.length : Int) * 2 ^ (n % 64).toNat % 18446744073709551616], rd a (t.length : Int) / 2 / 2 ^ (63 - (n % 64).toNat)) hst.2.2.2 (by dsimp only; rw [len_snoc]; omega) ⟨rfl, rfl, rfl, rfl, rfl, iv_eq (by rw [len_snoc]; omega), trivial⟩ ⟨[], rfl⟩ ⟨[], ?_⟩⟩
    have hs1 := ins_over (p := List.replicate ((n / 64).toNat + a.length + 1) (0 : Int)) (t := t) (lo := (n / 64).toNat) c (c + rd a (t.length : Int) * 2 ^ (n % 64).toNat % 18446744073709551616) (by simp; omega)
    have hs2 := ins_set (p := List.replicate ((n / 64).toNat + a.length + 1) (0 : Int)) (s := t ++ [c + rd a (t.length : Int) * 2 ^ (n % 64).toNat % 18446744073709551616]) (lo := (n / 64).toNat) (rd a (t.length : Int) / 2 / 2 ^ (63 - (n % 64).toNat)) (by simp; omega)
    rw [len_snoc] at hs2
    dsimp only
    rw [← hs2, ← hs1, e3, show 0 + (n / 64 + (t.length : Int)).toNat = (n / 64).toNat + t.length by omega, show 0 + (n / 64 + (t.length : Int) + 1).toNat = (n / 64).toNat + (t.length + 1) by omega]; rfl
  · refine ⟨ret_e ?_⟩
    rw [va, shlT_ok (by omega) (by omega) (by omega), shl_final X n (by omega)]; rfl
  · exact ⟨Nat.zero_le _, okD_nil _, ⟨Int.le_refl _, hw.1⟩, by simp [vl]⟩
end Go.Proofs.YtbeocnjlepcglaaGreatDoor.Sim
namespace Go.Proofs.YtbeocnjlepcglaaGreatDoor.Sim
open Go.RowKit
set_option linter.unusedVariables false
set_option linter.unusedSimpArgs false
set_option maxRecDepth 10000
set_option maxHeartbeats 8000000
variable {G : List (Nat × List Value)}
theorem shr_word (Z k : Nat) (hk : k < 64) : Z / 2 ^ k % 18446744073709551616 = Z % 18446744073709551616 / 2 ^ k + Z / 18446744073709551616 % 18446744073709551616 * 2 % 18446744073709551616 * 2 ^ (63 - k) % 18446744073709551616 ∧ Z % 18446744073709551616 / 2 ^ k < 2 ^ (64 - k) ∧ Z / 18446744073709551616 % 18446744073709551616 * 2 % 18446744073709551616 * 2 ^ (63 - k) % 18446744073709551616 % 2 ^ (64 - k) = 0 := by
  have e2 : (18446744073709551616 : Nat) = 2 ^ (64 - k) * 2 ^ k := by rw [← Nat.pow_add, show 64 - k + k = 64 by omega]
  have hp : 0 < 2 ^ k := Nat.pow_pos (by decide)
  have h1 : Z % 18446744073709551616 / 2 ^ k < 2 ^ (64 - k) := by
    rw [Nat.div_lt_iff_lt_mul hp, ← e2]; exact Nat.mod_lt _ (by decide)
  have h2 : Z / 18446744073709551616 % 18446744073709551616 * 2 % 18446744073709551616 * 2 ^ (63 - k) % 18446744073709551616 = Z / 18446744073709551616 * 2 ^ (64 - k) % 18446744073709551616 := by
    rw [Nat.mod_mul_mod, Nat.mul_assoc, Nat.mod_mul_mod, show 2 * 2 ^ (63 - k) = 2 ^ (64 - k) by rw [Nat.mul_comm, ← Nat.pow_succ]; congr 1; omega]
  have h3 : Z / 18446744073709551616 * 2 ^ (64 - k) % 18446744073709551616 % 2 ^ (64 - k) = 0 := by
    rw [Nat.mod_mod_of_dvd _ (by rw [e2]; exact Nat.dvd_mul_right _ _), Nat.mul_mod_left]
  rw [h2]
  refine ⟨?_, h1, h3⟩
  have h4 : Z / 2 ^ k = Z % 18446744073709551616 / 2 ^ k + Z / 18446744073709551616 * 2 ^ (64 - k) := by
    have h5 := Nat.mod_add_div Z 18446744073709551616
    conv => lhs; rw [← h5]
    have h6 : 18446744073709551616 * (Z / 18446744073709551616) = 2 ^ k * (Z / 18446744073709551616 * 2 ^ (64 - k)) := by
      generalize Z / 18446744073709551616 = q
      rw [e2, Nat.mul_comm (2 ^ (64 - k)), Nat.mul_assoc, Nat.mul_comm (2 ^ (64 - k))]
    rw [h6, Nat.add_mul_div_left _ _ hp]
  have h7 : Z / 18446744073709551616 * 2 ^ (64 - k) % 18446744073709551616 + 2 ^ (64 - k) ≤ 18446744073709551616 := by
    have h8 := Nat.mod_lt (Z / 18446744073709551616 * 2 ^ (64 - k)) (show 0 < 18446744073709551616 by decide)
    have h9 := Nat.div_add_mod (Z / 18446744073709551616 * 2 ^ (64 - k) % 18446744073709551616) (2 ^ (64 - k))
    rw [h3, Nat.add_zero] at h9
    rw [← h9] at h8 ⊢
    generalize Z / 18446744073709551616 * 2 ^ (64 - k) % 18446744073709551616 / 2 ^ (64 - k) = q at *
    have h10 : q < 2 ^ k := by
      rw [e2] at h8
      exact Nat.lt_of_mul_lt_mul_left h8
    have h11 : 2 ^ (64 - k) * (q + 1) ≤ 2 ^ (64 - k) * 2 ^ k := Nat.mul_le_mul_left _ h10
    rw [← e2, Nat.mul_add, Nat.mul_one] at h11
    exact h11
  rw [h4, Nat.add_mod, Nat.mod_eq_of_lt (show Z % 18446744073709551616 / 2 ^ k < 18446744073709551616 from Nat.lt_of_le_of_lt (Nat.div_le_self _ _) (Nat.mod_lt _ (by decide)))]
  exact Nat.mod_eq_of_lt (by omega)
def ShrI (Y m : Nat) (s : List Int) : Prop := s.length ≤ m ∧ okD 18446744073709551616 s ∧ vl 18446744073709551616 s = ((Y % 2 ^ (64 * s.length) : Nat) : Int)
theorem ShrI.step {Y m : Nat} {s : List Int} {d : Int} (h : ShrI Y m s) (hlt : s.length < m) (hd : d = ((Y / 2 ^ (64 * s.length) % 18446744073709551616 : Nat) : Int)) : ShrI Y m (s ++ [d]) := by
  obtain ⟨h1, h2, h3⟩ := h
  have hm := Nat.mod_lt (Y / 2 ^ (64 * s.length)) (show 0 < 18446744073709551616 by decide)
  refine ⟨by rw [len_snoc]; omega, okD_append.2 ⟨h2, okD_cons.2 ⟨by omega, okD_nil _⟩⟩, ?_⟩
  rw [vl_snoc, len_snoc, h3, hd, show 64 * (s.length + 1) = 64 * s.length + 64 by omega, Nat.pow_add, Nat.mod_mul]
  have e : ((18446744073709551616 : Int) ^ s.length) = ((2 ^ (64 * s.length) : Nat) : Int) := by rw [← pow64]; simp
  rw [e, ← Int.natCast_mul, ← Int.natCast_add]
def shrT (X : Nat) (n : Int) : PV := .tup [.ws .u64 (if n < 0 then [] else d64 (X / 2 ^ n.toNat)), .val (.int .i64 (if n < 0 then 1 else 0))]
theorem shr_dig {X : Nat} {a : List Int} (hdig : ∀ j : Nat, rd a (j : Int) = ((X / 2 ^ (64 * j) % 18446744073709551616 : Nat) : Int)) (l i k : Nat) (hk : k < 64) {u v : Int} (hu : u = rd a ((l + i : Nat) : Int)) (hv : v = rd a ((l + i + 1 : Nat) : Int)) :
    (0 ≤ u / 2 ^ k ∧ u / 2 ^ k < 18446744073709551616) ∧ (0 ≤ v * 2 % 18446744073709551616 * 2 ^ (63 - k) % 18446744073709551616 ∧ v * 2 % 18446744073709551616 * 2 ^ (63 - k) % 18446744073709551616 < 18446744073709551616) ∧ u / 2 ^ k < 2 ^ (64 - k) ∧ v * 2 % 18446744073709551616 * 2 ^ (63 - k) % 18446744073709551616 % 2 ^ (64 - k) = 0 ∧
    u / 2 ^ k + v * 2 % 18446744073709551616 * 2 ^ (63 - k) % 18446744073709551616 = ((X / 2 ^ (64 * l + k) / 2 ^ (64 * i) % 18446744073709551616 : Nat) : Int) := by
  obtain ⟨Z, hZ⟩ : ∃ Z, Z = X / 2 ^ (64 * (l + i)) := ⟨_, rfl⟩
  rw [hdig] at hu hv
  rw [← hZ] at hu
  have e1 : X / 2 ^ (64 * (l + i + 1)) = Z / 18446744073709551616 := by
    rw [hZ, Nat.div_div_eq_div_mul, show (18446744073709551616 : Nat) = 2 ^ 64 by decide, ← Nat.pow_add]; congr 2
  rw [e1] at hv
  have e2 : X / 2 ^ (64 * l + k) / 2 ^ (64 * i) = Z / 2 ^ k := by
    rw [hZ, Nat.div_div_eq_div_mul, Nat.div_div_eq_div_mul, ← Nat.pow_add, ← Nat.pow_add]; congr 2; omega
  obtain ⟨g1, g2, g3⟩ := shr_word Z k hk
  rw [e2, g1]
  have p1 : ((2 : Int) ^ k) = ((2 ^ k : Nat) : Int) := by simp
  have p2 : ((2 : Int) ^ (63 - k)) = ((2 ^ (63 - k) : Nat) : Int) := by simp
  have p3 : ((2 : Int) ^ (64 - k)) = ((2 ^ (64 - k) : Nat) : Int) := by simp
  have q1 : u / 2 ^ k = ((Z % 18446744073709551616 / 2 ^ k : Nat) : Int) := by rw [hu, p1]; simp
  have q2 : v * 2 % 18446744073709551616 * 2 ^ (63 - k) % 18446744073709551616 = ((Z / 18446744073709551616 % 18446744073709551616 * 2 % 18446744073709551616 * 2 ^ (63 - k) % 18446744073709551616 : Nat) : Int) := by rw [hv, p2]; simp only [Int.natCast_mul, Int.natCast_emod, Int.natCast_ediv]; rfl
  rw [q1, q2, p3, ← Int.natCast_emod, g3]
  have h5 := Nat.mod_lt (Z / 18446744073709551616 % 18446744073709551616 * 2 % 18446744073709551616 * 2 ^ (63 - k)) (show 0 < 18446744073709551616 by decide)
  have h6 := Nat.lt_of_le_of_lt (Nat.div_le_self (Z % 18446744073709551616) (2 ^ k)) (Nat.mod_lt Z (show 0 < 18446744073709551616 by decide))
  exact ⟨⟨Int.natCast_nonneg _, Int.ofNat_lt.2 h6⟩, ⟨Int.natCast_nonneg _, Int.ofNat_lt.2 h5⟩, Int.ofNat_lt.2 g2, rfl, (Int.natCast_add _ _).symm⟩
theorem lp_shr1 {X : Nat} {n : Int} (h : n < 0) : shrT X n = natE 1 := by unfold shrT; rw [if_pos h, if_pos h]; rfl
theorem shrT_ok {X : Nat} {n : Int} (h : ¬ n < 0) : shrT X n = natR (X / 2 ^ n.toNat) := by unfold shrT; rw [if_neg h, if_neg h]; rfl
theorem n_shr (X : Nat) (n : Int) (hX : L64 X ≤ 8192) (hn : inR .i64 n) : FC Tryz.prog G 48 [.ws .u64 (d64 X), .val (.int .i64 n)] (· = shrT X n) := by
  dsimp only [inR] at hn
  have fa := n_formN (G := G) X hX
  have hlt := L64_lt X
  have hk : (n % 64).toNat < 64 := by omega
  have hw := pw64 hk
  have hres : natT (X / 2 ^ n.toNat) = natR (X / 2 ^ n.toNat) := natT_ok (Nat.le_trans (lenB_mono (by decide) (Nat.div_le_self _ _)) hX)
  have hdig : ∀ j : Nat, rd (d64 X) (j : Int) = ((X / 2 ^ (64 * j) % 18446744073709551616 : Nat) : Int) := fun j => d64_rd X j
  obtain ⟨a, ea⟩ : ∃ a, a = d64 X := ⟨_, rfl⟩
  obtain ⟨oka, va⟩ := d64_ok X
  have hL : a.length = L64 X := by rw [ea]; rfl
  rw [← ea] at oka va fa hdig
  rw [← ea]
  refine FC.intro (X := XX) tok Tryz.func48 rfl Tryz.ntmps48 (by rw [Tryz.results48]) (by kernel_rfl) rfl ?_; intro F hG hO
  rw [← hG] at fa
  repeat' ((try (conv => whnf)); first
  | ((with_reducible refine cg ?_); refine call_eq (fa) (LpL.refl _) rfl ?_)
  | ((with_reducible refine lg ?_); refine loop_g (A := List Int) (fun s => ShrI (X / 2 ^ n.toNat) (a.length - (n / 64).toNat) s) (fun s => a.length - (n / 64).toNat - s.length) (fun s => [(0, .ws .u64 a), (6, .val (.int .i64 (n / 64))), (7, .val (.int .i64 (n % 64))), (8, .arr 0 0 (a.length - (n / 64).toNat)), (29, .val (.int .i64 ((a.length - (n / 64).toNat : Nat) : Int))), (30, .val (.int .i64 (s.length : Int)))]) (fun _ => []) (fun s => [some ⟨1, 44, .w .u64 (ins (List.replicate (a.length - (n / 64).toNat) 0) 0 s)⟩]) [] tok (fun s => ⟨⟨trivial, trivial, trivial, Nat.one_pos, trivial, trivial, trivial⟩, trivial, by simp only [List.length_cons]; omega⟩) ?_ ⟨rfl, rfl, rfl, congrArg (PV.arr 0 0) (by omega), iv_eq (by omega), rfl, trivial⟩ ⟨[], rfl⟩ ⟨[], (by rw [ins_nil, show ((a.length : Int) - n / 64).toNat = a.length - (n / 64).toNat by omega]; rfl)⟩ ?_; rotate_left; rintro s hI; have hI2 := hI; obtain ⟨i1, i2, i3⟩ := hI2; have ra := rd_bd (by decide) oka (n / 64 + (s.length : Int)); have rb := rd_bd (by decide) oka (n / 64 + (s.length : Int) + 1); have hil : (ins (List.replicate (a.length - (n / 64).toNat) 0) 0 s).length = a.length - (n / 64).toNat := (by rw [ins_len (by simp; omega)]; simp))
  | (with_reducible refine shl_m (by omega) ?_)
  | (with_reducible refine shr_p (by omega) (by dsimp only [IntKind.bits]; omega) ?_)
  | (have hz := shr_dig hdig (n / 64).toNat s.length (n % 64).toNat hk (u := rd a (n / 64 + (s.length : Int))) (v := rd a (n / 64 + (s.length : Int) + 1)) (by congr 1; omega) (by congr 1; omega); have hs1 := ins_set (p := List.replicate (a.length - (n / 64).toNat) (0 : Int)) (s := s) (lo := 0) (rd a (n / 64 + (s.length : Int)) / 2 ^ (n % 64).toNat) (by simp; omega); rw [show (63 - n % 64).toNat = 63 - (n % 64).toNat by omega, show Int.toNat 1 = 1 from rfl, Int.pow_succ, Int.pow_zero, Int.one_mul, show 0 + ((s.length : Nat) : Int).toNat = 0 + s.length by omega, hs1, ins_getE _ (by simp)]; refine or_g (64 - (n % 64).toNat) hz.1 hz.2.1 hz.2.2.1 hz.2.2.2.1 (by have := hz.2.2.2.2; omega) ?_; rw [hz.2.2.2.2]; have hil2 : (ins (List.replicate (a.length - (n / 64).toNat) (0 : Int)) 0 (s ++ [rd a (n / 64 + (s.length : Int)) / 2 ^ (n % 64).toNat])).length = a.length - (n / 64).toNat := (by rw [ins_len (by simp; omega)]; simp))
  | ((with_reducible refine cg ?_); refine call_fz 0 (A := ins (List.replicate (a.length - (n / 64).toNat) 0) 0 s) (B := s) rfl rfl (by omega) (by rw [List.drop_zero, ins_full (by simp; omega)]; exact List.take_of_length_le (by omega)) (by omega) ?_; refine call_eq (n_told s i2 (by omega)) (LpL.refl _) rfl ?_; rw [i3])
  
  | (with_reducible refine draw_g (id := 14) [[0, 1, 2, 3, 4, 5, 6, 7, 8, 9, 10, 11, 12, 13, 14, 15, 16], [17]] tok mixed (by kernel_rfl) ?_)
  | (with_reducible refine Chk.mk' (by first | omega | exact trivial | (simp only [List.length_append, List.length_set, List.length_replicate, List.length_take, List.length_drop, List.length_cons, List.length_nil, List.length_map]; omega)) ?_)
  | (with_reducible refine wrap_g (by dsimp only [inR]; omega) ?_)
  | (with_reducible refine idx_g (by omega) ?_)
  | (with_reducible refine idx_l _ rfl (by decide) ?_)
  | (with_reducible refine BothG.mk ?_ ?_)
  | (with_reducible refine fork_tt ?_) | (with_reducible refine fork_ff ?_)
  | (with_reducible refine fork_e (c := true) (by decide) ?_; with_reducible refine fork_tt ?_) | (with_reducible refine fork_e (c := false) (by decide) ?_; with_reducible refine fork_ff ?_)
  | (with_reducible refine fork_t (by omega) ?_) | (with_reducible refine fork_f (by omega) ?_)
  | (with_reducible refine fork_d ?_ ?_ <;> intro hc)
  | (with_reducible refine fork_n ?_)
  | (with_reducible refine fork_b ?_ ?_ <;> intro hc)
  | (with_reducible refine SlcG.mk (by omega) ?_)
  | (with_reducible refine MakG.mk (by dsimp only; omega) ?_)
  | (with_reducible refine AppG.mk (by first | omega | (simp only [List.length_append, List.length_set, List.length_replicate, List.length_take, List.length_drop, List.length_cons, List.length_nil, List.length_map]; omega)) (by dsimp only [List.length_cons, List.length_nil]; omega) (by omega) ?_)
  | (with_reducible refine div_g (by omega) (by omega) (by dsimp only [inR]; omega) ?_)
  | (with_reducible refine mod_g (by omega) (by omega) ?_)
  | (with_reducible refine mask_g (m := 4294967296) 32 rfl rfl (by decide) (by omega) ?_)
  | (with_reducible refine shr_g (m := 4294967296) 32 rfl (by decide) (by omega) rfl ?_)
  | (with_reducible refine fz_all (by omega) ?_)
  | (with_reducible refine Stuck.h (A := RetE _ _) ?_) | (with_reducible refine Stuck.h (A := RetM _ _ _ _) ?_) | (with_reducible refine Stuck.h (A := Again _ _ _ _ _ _ _ _) ?_) | (with_reducible refine Stuck.h (A := CallF _ _ _ _ _ _ _) ?_) | (with_reducible refine Stuck.h (A := LoopG _ _ _ _ _ _ _ _) ?_) | (with_reducible refine Stuck.h (A := DrawG _ _ _ _ _ _ _ _) ?_)
  | (with_reducible refine Stuck.h (A := WrapG _ _ _) ?_) | (with_reducible refine Stuck.h (A := DivG _ _ _ _) ?_) | (with_reducible refine Stuck.h (A := ModG _ _ _) ?_) | (with_reducible refine Stuck.h (A := ShlG _ _ _ _) ?_) | (with_reducible refine Stuck.h (A := ShrG _ _ _ _) ?_) | (with_reducible refine Stuck.h (A := BitG _ _ _ _ _) ?_)
  | (with_reducible refine Stuck.h (A := IdxG _ _ _) ?_) | (with_reducible refine Stuck.h (A := IdxL _ _ _) ?_) | (with_reducible refine Stuck.h (A := SlcG _ _ _ _ _) ?_) | (with_reducible refine Stuck.h (A := MakG _ _ _ _) ?_) | (with_reducible refine Stuck.h (A := AppG _ _ _ _ _ _ _) ?_) | (with_reducible refine Stuck.h (A := FzG _ _ _ _) ?_)
  | (with_reducible refine Stuck.h (A := RawG _) ?_) | (with_reducible refine Stuck.h (A := TabG _ _ _ _ _) ?_) | (with_reducible refine Stuck.h (A := ExtF _ _ _ _) ?_) | (with_reducible refine Stuck.h (A := Chk _ _) ?_) | (with_reducible refine Stuck.h (A := False) ?_))
  · exact ⟨ret_l _ (lp_natE 1) (lp_shr1 hc).symm⟩
  · refine ⟨ret_l _ (lp_natE 0) ?_⟩
    have h2 : X < 2 ^ n.toNat := Nat.lt_of_lt_of_le hlt (Nat.pow_le_pow_right (by decide) (by omega))
    rw [shrT_ok (by omega), Nat.div_eq_of_lt h2]
    unfold natE natR
    rw [d64_0]
  · have hd := shr_dig hdig (n / 64).toNat s.length (n % 64).toNat hk (u := rd a (n / 64 + (s.length : Int))) (v := rd a (n / 64 + (s.length : Int) + 1)) (by congr 1; omega) (by congr 1; omega)
    rw [show 64 * (n / 64).toNat + (n % 64).toNat = n.toNat by omega]
    refine ⟨again (s ++ [((X / 2 ^ n.toNat / 2 ^ (64 * s.length) % 18446744073709551616 : Nat) : Int)]) (hI.step (by omega) rfl) (by rw [len_snoc]; omega) ⟨rfl, rfl, rfl, rfl, rfl, iv_eq (by rw [len_snoc]; omega), trivial⟩ ⟨[], rfl⟩ ⟨[], ?_⟩⟩
    have hs2 := ins_over (p := List.replicate (a.length - (n / 64).toNat) (0 : Int)) (t := s) (lo := 0) (rd a (n / 64 + (s.length : Int)) / 2 ^ (n % 64).toNat) ((X / 2 ^ n.toNat / 2 ^ (64 * s.length) % 18446744073709551616 : Nat) : Int) (by simp; omega)
    rw [← hs2]; rfl
  · have hd := shr_dig hdig (n / 64).toNat s.length (n % 64).toNat hk (u := rd a (n / 64 + (s.length : Int))) (v := rd a (n / 64 + (s.length : Int) + 1)) (by congr 1; omega) (by congr 1; omega)
    have hv0 : rd a (n / 64 + (s.length : Int) + 1) = 0 := by
      have := rd_out a ((n / 64).toNat + s.length + 1) (by omega)
      rw [← this]; congr 1; omega
    have hd2 := hd.2.2.2.2
    rw [hv0, show 64 * (n / 64).toNat + (n % 64).toNat = n.toNat by omega] at hd2
    simp only [Int.zero_mul, Int.zero_emod, Int.add_zero] at hd2
    refine ⟨again (s ++ [rd a (n / 64 + (s.length : Int)) / 2 ^ (n % 64).toNat]) (hI.step (by omega) hd2) (by rw [len_snoc]; omega) ⟨rfl, rfl, rfl, rfl, rfl, iv_eq (by rw [len_snoc]; omega), trivial⟩ ⟨[], rfl⟩ ⟨[], ?_⟩⟩
    have hs2 := ins_set (p := List.replicate (a.length - (n / 64).toNat) (0 : Int)) (s := s) (lo := 0) (rd a (n / 64 + (s.length : Int)) / 2 ^ (n % 64).toNat) (by simp; omega)
    rw [← hs2]; rfl
  · refine ⟨ret_e ?_⟩
    have hY : X / 2 ^ n.toNat < 2 ^ (64 * s.length) := by
      rw [Nat.div_lt_iff_lt_mul (Nat.pow_pos (by decide)), ← Nat.pow_add]
      exact Nat.lt_of_lt_of_le hlt (Nat.pow_le_pow_right (by decide) (by omega))
    rw [shrT_ok (by omega), Nat.mod_eq_of_lt hY, Int.toNat_natCast, ← hres]; rfl
  · exact ⟨Nat.zero_le _, okD_nil _, by rw [List.length_nil, Nat.mul_zero, Nat.pow_zero, Nat.mod_one]; rfl⟩
end Go.Proofs.YtbeocnjlepcglaaGreatDoor.Sim
namespace Go.Proofs.YtbeocnjlepcglaaGreatDoor.Sim
open Go.RowKit
set_option linter.unusedVariables false
set_option linter.unusedSimpArgs false
set_option maxRecDepth 10000
set_option maxHeartbeats 8000000
variable {G : List (Nat × List Value)}
theorem ni_sg (b : Bool) (m : Nat) (c : Bool) (h : c = (b && decide (0 < m))) : PV.agg [.val (.bool c), .ws .u64 (d64 m)] = NI (sg b m) := by
  subst h
  unfold NI N64
  rw [sg_abs]
  congr 4
  cases b
  · simp only [sg, Bool.false_and]
    exact (decide_eq_false (by omega)).symm
  · simp [sg]
theorem ni_eq {a b : Int} (h : a = b) : NI a = NI b := by rw [h]
theorem NI_zero : NI 0 = .agg [.val (.bool false), .ws .u64 []] := by
  unfold NI N64
  rw [show d64 (Int.natAbs 0) = [] from d64_0]
  rfl
theorem lp_ni0 : Lp (.agg [.val (.bool false), .nil]) (NI 0) := by
  rw [NI_zero]
  exact .agg (.cons (.refl _) (.cons (.nil _) .nil))
def numE (c : Int) : PV := .tup [NI 0, .val (.int .i64 c)]
def numR (n : Int) : PV := .tup [NI n, .val (.int .i64 0)]
theorem lp_numE (c : Int) : Lp (.tup [.agg [.val (.bool false), .nil], .val (.int .i64 c)]) (numE c) := .tup (.cons lp_ni0 (.cons (.refl _) .nil))
theorem n_whole (b : Bool) (X : Nat) : FC Tryz.prog G 121 [.val (.bool b), .ws .u64 (d64 X)] (· = NI (sg b X)) := by
  have hp := len64_pos X
  cases b
  · refine FC.intro (X := XX) tok Tryz.func121 rfl Tryz.ntmps121 (by rw [Tryz.results121]) (by kernel_rfl) rfl ?_; intro F hG hO
    repeat' ((try (conv => whnf)); first
  
  | (with_reducible refine Chk.mk' (by first | omega | exact trivial | (simp only [List.length_append, List.length_set, List.length_replicate, List.length_take, List.length_drop, List.length_cons, List.length_nil, List.length_map]; omega)) ?_)
  | (with_reducible refine wrap_g (by dsimp only [inR]; omega) ?_)
  | (with_reducible refine idx_g (by omega) ?_)
  | (with_reducible refine idx_l _ rfl (by decide) ?_)
  | (with_reducible refine BothG.mk ?_ ?_)
  | (with_reducible refine fork_tt ?_) | (with_reducible refine fork_ff ?_)
  | (with_reducible refine fork_e (c := true) (by decide) ?_; with_reducible refine fork_tt ?_) | (with_reducible refine fork_e (c := false) (by decide) ?_; with_reducible refine fork_ff ?_)
  | (with_reducible refine fork_t (by omega) ?_) | (with_reducible refine fork_f (by omega) ?_)
  | (with_reducible refine fork_d ?_ ?_ <;> intro hc)
  | (with_reducible refine fork_n ?_)
  | (with_reducible refine fork_b ?_ ?_ <;> intro hc)
  | (with_reducible refine SlcG.mk (by omega) ?_)
  | (with_reducible refine MakG.mk (by dsimp only; omega) ?_)
  | (with_reducible refine AppG.mk (by first | omega | (simp only [List.length_append, List.length_set, List.length_replicate, List.length_take, List.length_drop, List.length_cons, List.length_nil, List.length_map]; omega)) (by dsimp only [List.length_cons, List.length_nil]; omega) (by omega) ?_)
  | (with_reducible refine div_g (by omega) (by omega) (by dsimp only [inR]; omega) ?_)
  | (with_reducible refine mod_g (by omega) (by omega) ?_)
  | (with_reducible refine mask_g (m := 4294967296) 32 rfl rfl (by decide) (by omega) ?_)
  | (with_reducible refine shr_g (m := 4294967296) 32 rfl (by decide) (by omega) rfl ?_)
  | (with_reducible refine fz_all (by omega) ?_)
  | (with_reducible refine Stuck.h (A := RetE _ _) ?_) | (with_reducible refine Stuck.h (A := RetM _ _ _ _) ?_) | (with_reducible refine Stuck.h (A := Again _ _ _ _ _ _ _ _) ?_) | (with_reducible refine Stuck.h (A := CallF _ _ _ _ _ _ _) ?_) | (with_reducible refine Stuck.h (A := LoopG _ _ _ _ _ _ _ _) ?_) | (with_reducible refine Stuck.h (A := DrawG _ _ _ _ _ _ _ _) ?_)
  | (with_reducible refine Stuck.h (A := WrapG _ _ _) ?_) | (with_reducible refine Stuck.h (A := DivG _ _ _ _) ?_) | (with_reducible refine Stuck.h (A := ModG _ _ _) ?_) | (with_reducible refine Stuck.h (A := ShlG _ _ _ _) ?_) | (with_reducible refine Stuck.h (A := ShrG _ _ _ _) ?_) | (with_reducible refine Stuck.h (A := BitG _ _ _ _ _) ?_)
  | (with_reducible refine Stuck.h (A := IdxG _ _ _) ?_) | (with_reducible refine Stuck.h (A := IdxL _ _ _) ?_) | (with_reducible refine Stuck.h (A := SlcG _ _ _ _ _) ?_) | (with_reducible refine Stuck.h (A := MakG _ _ _ _) ?_) | (with_reducible refine Stuck.h (A := AppG _ _ _ _ _ _ _) ?_) | (with_reducible refine Stuck.h (A := FzG _ _ _ _) ?_)
  | (with_reducible refine Stuck.h (A := RawG _) ?_) | (with_reducible refine Stuck.h (A := TabG _ _ _ _ _) ?_) | (with_reducible refine Stuck.h (A := ExtF _ _ _ _) ?_) | (with_reducible refine Stuck.h (A := Chk _ _) ?_) | (with_reducible refine Stuck.h (A := False) ?_))
    all_goals exact ⟨ret_e (ni_sg _ X _ (by simp))⟩
  · refine FC.intro (X := XX) tok Tryz.func121 rfl Tryz.ntmps121 (by rw [Tryz.results121]) (by kernel_rfl) rfl ?_; intro F hG hO
    repeat' ((try (conv => whnf)); first
  
  | (with_reducible refine Chk.mk' (by first | omega | exact trivial | (simp only [List.length_append, List.length_set, List.length_replicate, List.length_take, List.length_drop, List.length_cons, List.length_nil, List.length_map]; omega)) ?_)
  | (with_reducible refine wrap_g (by dsimp only [inR]; omega) ?_)
  | (with_reducible refine idx_g (by omega) ?_)
  | (with_reducible refine idx_l _ rfl (by decide) ?_)
  | (with_reducible refine BothG.mk ?_ ?_)
  | (with_reducible refine fork_tt ?_) | (with_reducible refine fork_ff ?_)
  | (with_reducible refine fork_e (c := true) (by decide) ?_; with_reducible refine fork_tt ?_) | (with_reducible refine fork_e (c := false) (by decide) ?_; with_reducible refine fork_ff ?_)
  | (with_reducible refine fork_t (by omega) ?_) | (with_reducible refine fork_f (by omega) ?_)
  | (with_reducible refine fork_d ?_ ?_ <;> intro hc)
  | (with_reducible refine fork_n ?_)
  | (with_reducible refine fork_b ?_ ?_ <;> intro hc)
  | (with_reducible refine SlcG.mk (by omega) ?_)
  | (with_reducible refine MakG.mk (by dsimp only; omega) ?_)
  | (with_reducible refine AppG.mk (by first | omega | (simp only [List.length_append, List.length_set, List.length_replicate, List.length_take, List.length_drop, List.length_cons, List.length_nil, List.length_map]; omega)) (by dsimp only [List.length_cons, List.length_nil]; omega) (by omega) ?_)
  | (with_reducible refine div_g (by omega) (by omega) (by dsimp only [inR]; omega) ?_)
  | (with_reducible refine mod_g (by omega) (by omega) ?_)
  | (with_reducible refine mask_g (m := 4294967296) 32 rfl rfl (by decide) (by omega) ?_)
  | (with_reducible refine shr_g (m := 4294967296) 32 rfl (by decide) (by omega) rfl ?_)
  | (with_reducible refine fz_all (by omega) ?_)
  | (with_reducible refine Stuck.h (A := RetE _ _) ?_) | (with_reducible refine Stuck.h (A := RetM _ _ _ _) ?_) | (with_reducible refine Stuck.h (A := Again _ _ _ _ _ _ _ _) ?_) | (with_reducible refine Stuck.h (A := CallF _ _ _ _ _ _ _) ?_) | (with_reducible refine Stuck.h (A := LoopG _ _ _ _ _ _ _ _) ?_) | (with_reducible refine Stuck.h (A := DrawG _ _ _ _ _ _ _ _) ?_)
  | (with_reducible refine Stuck.h (A := WrapG _ _ _) ?_) | (with_reducible refine Stuck.h (A := DivG _ _ _ _) ?_) | (with_reducible refine Stuck.h (A := ModG _ _ _) ?_) | (with_reducible refine Stuck.h (A := ShlG _ _ _ _) ?_) | (with_reducible refine Stuck.h (A := ShrG _ _ _ _) ?_) | (with_reducible refine Stuck.h (A := BitG _ _ _ _ _) ?_)
  | (with_reducible refine Stuck.h (A := IdxG _ _ _) ?_) | (with_reducible refine Stuck.h (A := IdxL _ _ _) ?_) | (with_reducible refine Stuck.h (A := SlcG _ _ _ _ _) ?_) | (with_reducible refine Stuck.h (A := MakG _ _ _ _) ?_) | (with_reducible refine Stuck.h (A := AppG _ _ _ _ _ _ _) ?_) | (with_reducible refine Stuck.h (A := FzG _ _ _ _) ?_)
  | (with_reducible refine Stuck.h (A := RawG _) ?_) | (with_reducible refine Stuck.h (A := TabG _ _ _ _ _) ?_) | (with_reducible refine Stuck.h (A := ExtF _ _ _ _) ?_) | (with_reducible refine Stuck.h (A := Chk _ _) ?_) | (with_reducible refine Stuck.h (A := False) ?_))
    all_goals exact ⟨ret_e (ni_sg _ X _ (by rw [Bool.true_and]; exact decide_eq_decide.2 (by omega)))⟩
theorem n_ntoldE (b : Bool) (l : List Int) (c : Int) (hc : c ≠ 0) : FC Tryz.prog G 80 [.val (.bool b), .ws .u64 l, .val (.int .i64 c)] (· = numE c) := by
  refine FC.intro (X := XX) tok Tryz.func80 rfl Tryz.ntmps80 (by rw [Tryz.results80]) (by kernel_rfl) rfl ?_; intro F hG hO
  repeat' ((try (conv => whnf)); first
  
  | (with_reducible refine Chk.mk' (by first | omega | exact trivial | (simp only [List.length_append, List.length_set, List.length_replicate, List.length_take, List.length_drop, List.length_cons, List.length_nil, List.length_map]; omega)) ?_)
  | (with_reducible refine wrap_g (by dsimp only [inR]; omega) ?_)
  | (with_reducible refine idx_g (by omega) ?_)
  | (with_reducible refine idx_l _ rfl (by decide) ?_)
  | (with_reducible refine BothG.mk ?_ ?_)
  | (with_reducible refine fork_tt ?_) | (with_reducible refine fork_ff ?_)
  | (with_reducible refine fork_e (c := true) (by decide) ?_; with_reducible refine fork_tt ?_) | (with_reducible refine fork_e (c := false) (by decide) ?_; with_reducible refine fork_ff ?_)
  | (with_reducible refine fork_t (by omega) ?_) | (with_reducible refine fork_f (by omega) ?_)
  | (with_reducible refine fork_d ?_ ?_ <;> intro hc)
  | (with_reducible refine fork_n ?_)
  | (with_reducible refine fork_b ?_ ?_ <;> intro hc)
  | (with_reducible refine SlcG.mk (by omega) ?_)
  | (with_reducible refine MakG.mk (by dsimp only; omega) ?_)
  | (with_reducible refine AppG.mk (by first | omega | (simp only [List.length_append, List.length_set, List.length_replicate, List.length_take, List.length_drop, List.length_cons, List.length_nil, List.length_map]; omega)) (by dsimp only [List.length_cons, List.length_nil]; omega) (by omega) ?_)
  | (with_reducible refine div_g (by omega) (by omega) (by dsimp only [inR]; omega) ?_)
  | (with_reducible refine mod_g (by omega) (by omega) ?_)
  | (with_reducible refine mask_g (m := 4294967296) 32 rfl rfl (by decide) (by omega) ?_)
  | (with_reducible refine shr_g (m := 4294967296) 32 rfl (by decide) (by omega) rfl ?_)
  | (with_reducible refine fz_all (by omega) ?_)
  | (with_reducible refine Stuck.h (A := RetE _ _) ?_) | (with_reducible refine Stuck.h (A := RetM _ _ _ _) ?_) | (with_reducible refine Stuck.h (A := Again _ _ _ _ _ _ _ _) ?_) | (with_reducible refine Stuck.h (A := CallF _ _ _ _ _ _ _) ?_) | (with_reducible refine Stuck.h (A := LoopG _ _ _ _ _ _ _ _) ?_) | (with_reducible refine Stuck.h (A := DrawG _ _ _ _ _ _ _ _) ?_)
  | (with_reducible refine Stuck.h (A := WrapG _ _ _) ?_) | (with_reducible refine Stuck.h (A := DivG _ _ _ _) ?_) | (with_reducible refine Stuck.h (A := ModG _ _ _) ?_) | (with_reducible refine Stuck.h (A := ShlG _ _ _ _) ?_) | (with_reducible refine Stuck.h (A := ShrG _ _ _ _) ?_) | (with_reducible refine Stuck.h (A := BitG _ _ _ _ _) ?_)
  | (with_reducible refine Stuck.h (A := IdxG _ _ _) ?_) | (with_reducible refine Stuck.h (A := IdxL _ _ _) ?_) | (with_reducible refine Stuck.h (A := SlcG _ _ _ _ _) ?_) | (with_reducible refine Stuck.h (A := MakG _ _ _ _) ?_) | (with_reducible refine Stuck.h (A := AppG _ _ _ _ _ _ _) ?_) | (with_reducible refine Stuck.h (A := FzG _ _ _ _) ?_)
  | (with_reducible refine Stuck.h (A := RawG _) ?_) | (with_reducible refine Stuck.h (A := TabG _ _ _ _ _) ?_) | (with_reducible refine Stuck.h (A := ExtF _ _ _ _) ?_) | (with_reducible refine Stuck.h (A := Chk _ _) ?_) | (with_reducible refine Stuck.h (A := False) ?_))
  exact ⟨ret_l _ (lp_numE c) rfl⟩
theorem n_ntold (b : Bool) (X : Nat) : FC Tryz.prog G 80 [.val (.bool b), .ws .u64 (d64 X), .val (.int .i64 0)] (· = numR (sg b X)) := by
  refine FC.intro (X := XX) tok Tryz.func80 rfl Tryz.ntmps80 (by rw [Tryz.results80]) (by kernel_rfl) rfl ?_; intro F hG hO
  repeat' ((try (conv => whnf)); first
  | ((with_reducible refine cg ?_); refine call_eq (n_whole b X) (LpL.refl _) rfl ?_)
  
  | (with_reducible refine Chk.mk' (by first | omega | exact trivial | (simp only [List.length_append, List.length_set, List.length_replicate, List.length_take, List.length_drop, List.length_cons, List.length_nil, List.length_map]; omega)) ?_)
  | (with_reducible refine wrap_g (by dsimp only [inR]; omega) ?_)
  | (with_reducible refine idx_g (by omega) ?_)
  | (with_reducible refine idx_l _ rfl (by decide) ?_)
  | (with_reducible refine BothG.mk ?_ ?_)
  | (with_reducible refine fork_tt ?_) | (with_reducible refine fork_ff ?_)
  | (with_reducible refine fork_e (c := true) (by decide) ?_; with_reducible refine fork_tt ?_) | (with_reducible refine fork_e (c := false) (by decide) ?_; with_reducible refine fork_ff ?_)
  | (with_reducible refine fork_t (by omega) ?_) | (with_reducible refine fork_f (by omega) ?_)
  | (with_reducible refine fork_d ?_ ?_ <;> intro hc)
  | (with_reducible refine fork_n ?_)
  | (with_reducible refine fork_b ?_ ?_ <;> intro hc)
  | (with_reducible refine SlcG.mk (by omega) ?_)
  | (with_reducible refine MakG.mk (by dsimp only; omega) ?_)
  | (with_reducible refine AppG.mk (by first | omega | (simp only [List.length_append, List.length_set, List.length_replicate, List.length_take, List.length_drop, List.length_cons, List.length_nil, List.length_map]; omega)) (by dsimp only [List.length_cons, List.length_nil]; omega) (by omega) ?_)
  | (with_reducible refine div_g (by omega) (by omega) (by dsimp only [inR]; omega) ?_)
  | (with_reducible refine mod_g (by omega) (by omega) ?_)
  | (with_reducible refine mask_g (m := 4294967296) 32 rfl rfl (by decide) (by omega) ?_)
  | (with_reducible refine shr_g (m := 4294967296) 32 rfl (by decide) (by omega) rfl ?_)
  | (with_reducible refine fz_all (by omega) ?_)
  | (with_reducible refine Stuck.h (A := RetE _ _) ?_) | (with_reducible refine Stuck.h (A := RetM _ _ _ _) ?_) | (with_reducible refine Stuck.h (A := Again _ _ _ _ _ _ _ _) ?_) | (with_reducible refine Stuck.h (A := CallF _ _ _ _ _ _ _) ?_) | (with_reducible refine Stuck.h (A := LoopG _ _ _ _ _ _ _ _) ?_) | (with_reducible refine Stuck.h (A := DrawG _ _ _ _ _ _ _ _) ?_)
  | (with_reducible refine Stuck.h (A := WrapG _ _ _) ?_) | (with_reducible refine Stuck.h (A := DivG _ _ _ _) ?_) | (with_reducible refine Stuck.h (A := ModG _ _ _) ?_) | (with_reducible refine Stuck.h (A := ShlG _ _ _ _) ?_) | (with_reducible refine Stuck.h (A := ShrG _ _ _ _) ?_) | (with_reducible refine Stuck.h (A := BitG _ _ _ _ _) ?_)
  | (with_reducible refine Stuck.h (A := IdxG _ _ _) ?_) | (with_reducible refine Stuck.h (A := IdxL _ _ _) ?_) | (with_reducible refine Stuck.h (A := SlcG _ _ _ _ _) ?_) | (with_reducible refine Stuck.h (A := MakG _ _ _ _) ?_) | (with_reducible refine Stuck.h (A := AppG _ _ _ _ _ _ _) ?_) | (with_reducible refine Stuck.h (A := FzG _ _ _ _) ?_)
  | (with_reducible refine Stuck.h (A := RawG _) ?_) | (with_reducible refine Stuck.h (A := TabG _ _ _ _ _) ?_) | (with_reducible refine Stuck.h (A := ExtF _ _ _ _) ?_) | (with_reducible refine Stuck.h (A := Chk _ _) ?_) | (with_reducible refine Stuck.h (A := False) ?_))
  exact ⟨ret_e rfl⟩
theorem n_of (n : Int) (h : inR .i64 n) : FC Tryz.prog G 78 [.val (.int .i64 n)] (· = NI n) := by
  dsimp only [inR] at h
  refine FC.intro (X := XX) tok Tryz.func78 rfl Tryz.ntmps78 (by rw [Tryz.results78]) (by kernel_rfl) rfl ?_; intro F hG hO
  repeat' ((try (conv => whnf)); first
  | ((with_reducible refine wrap_r ?_); rw [wrap64])
  | ((with_reducible refine cg ?_); rw [show (0 - n % 18446744073709551616) % 18446744073709551616 = -n by omega]; refine call_eq (n_word (-n) (by omega)) (LpL.refl _) rfl ?_)
  | ((with_reducible refine cg ?_); rw [show n % 18446744073709551616 = n by omega]; refine call_eq (n_word n (by omega)) (LpL.refl _) rfl ?_)
  | ((with_reducible refine cg ?_); refine call_eq (n_whole true (-n).toNat) (LpL.refl _) rfl ?_)
  | ((with_reducible refine cg ?_); refine call_eq (n_whole false n.toNat) (LpL.refl _) rfl ?_)
  
  | (with_reducible refine Chk.mk' (by first | omega | exact trivial | (simp only [List.length_append, List.length_set, List.length_replicate, List.length_take, List.length_drop, List.length_cons, List.length_nil, List.length_map]; omega)) ?_)
  | (with_reducible refine wrap_g (by dsimp only [inR]; omega) ?_)
  | (with_reducible refine idx_g (by omega) ?_)
  | (with_reducible refine idx_l _ rfl (by decide) ?_)
  | (with_reducible refine BothG.mk ?_ ?_)
  | (with_reducible refine fork_tt ?_) | (with_reducible refine fork_ff ?_)
  | (with_reducible refine fork_e (c := true) (by decide) ?_; with_reducible refine fork_tt ?_) | (with_reducible refine fork_e (c := false) (by decide) ?_; with_reducible refine fork_ff ?_)
  | (with_reducible refine fork_t (by omega) ?_) | (with_reducible refine fork_f (by omega) ?_)
  | (with_reducible refine fork_d ?_ ?_ <;> intro hc)
  | (with_reducible refine fork_n ?_)
  | (with_reducible refine fork_b ?_ ?_ <;> intro hc)
  | (with_reducible refine SlcG.mk (by omega) ?_)
  | (with_reducible refine MakG.mk (by dsimp only; omega) ?_)
  | (with_reducible refine AppG.mk (by first | omega | (simp only [List.length_append, List.length_set, List.length_replicate, List.length_take, List.length_drop, List.length_cons, List.length_nil, List.length_map]; omega)) (by dsimp only [List.length_cons, List.length_nil]; omega) (by omega) ?_)
  | (with_reducible refine div_g (by omega) (by omega) (by dsimp only [inR]; omega) ?_)
  | (with_reducible refine mod_g (by omega) (by omega) ?_)
  | (with_reducible refine mask_g (m := 4294967296) 32 rfl rfl (by decide) (by omega) ?_)
  | (with_reducible refine shr_g (m := 4294967296) 32 rfl (by decide) (by omega) rfl ?_)
  | (with_reducible refine fz_all (by omega) ?_)
  | (with_reducible refine Stuck.h (A := RetE _ _) ?_) | (with_reducible refine Stuck.h (A := RetM _ _ _ _) ?_) | (with_reducible refine Stuck.h (A := Again _ _ _ _ _ _ _ _) ?_) | (with_reducible refine Stuck.h (A := CallF _ _ _ _ _ _ _) ?_) | (with_reducible refine Stuck.h (A := LoopG _ _ _ _ _ _ _ _) ?_) | (with_reducible refine Stuck.h (A := DrawG _ _ _ _ _ _ _ _) ?_)
  | (with_reducible refine Stuck.h (A := WrapG _ _ _) ?_) | (with_reducible refine Stuck.h (A := DivG _ _ _ _) ?_) | (with_reducible refine Stuck.h (A := ModG _ _ _) ?_) | (with_reducible refine Stuck.h (A := ShlG _ _ _ _) ?_) | (with_reducible refine Stuck.h (A := ShrG _ _ _ _) ?_) | (with_reducible refine Stuck.h (A := BitG _ _ _ _ _) ?_)
  | (with_reducible refine Stuck.h (A := IdxG _ _ _) ?_) | (with_reducible refine Stuck.h (A := IdxL _ _ _) ?_) | (with_reducible refine Stuck.h (A := SlcG _ _ _ _ _) ?_) | (with_reducible refine Stuck.h (A := MakG _ _ _ _) ?_) | (with_reducible refine Stuck.h (A := AppG _ _ _ _ _ _ _) ?_) | (with_reducible refine Stuck.h (A := FzG _ _ _ _) ?_)
  | (with_reducible refine Stuck.h (A := RawG _) ?_) | (with_reducible refine Stuck.h (A := TabG _ _ _ _ _) ?_) | (with_reducible refine Stuck.h (A := ExtF _ _ _ _) ?_) | (with_reducible refine Stuck.h (A := Chk _ _) ?_) | (with_reducible refine Stuck.h (A := False) ?_))
  · exact ⟨ret_e (ni_eq (a := sg true (-n).toNat) (by simp only [sg]; omega))⟩
  · exact ⟨ret_e (ni_eq (a := sg false n.toNat) (by simp only [sg]; omega))⟩
theorem n_nform (n : Int) (h : L64 n.natAbs ≤ 8192) : FC Tryz.prog G 46 [NI n] (· = .val (.bool true)) := by
  have hp := len64_pos n.natAbs
  have f1 := n_formN (G := G) n.natAbs h
  refine FC.intro (X := XX) tok Tryz.func46 rfl Tryz.ntmps46 (by rw [Tryz.results46]) (by kernel_rfl) rfl ?_; intro F hG hO
  rw [← hG] at f1
  repeat' ((try (conv => whnf)); first
  | ((with_reducible refine cg ?_); refine call_eq (f1) (LpL.refl _) rfl ?_)
  
  | (with_reducible refine Chk.mk' (by first | omega | exact trivial | (simp only [List.length_append, List.length_set, List.length_replicate, List.length_take, List.length_drop, List.length_cons, List.length_nil, List.length_map]; omega)) ?_)
  | (with_reducible refine wrap_g (by dsimp only [inR]; omega) ?_)
  | (with_reducible refine idx_g (by omega) ?_)
  | (with_reducible refine idx_l _ rfl (by decide) ?_)
  | (with_reducible refine BothG.mk ?_ ?_)
  | (with_reducible refine fork_tt ?_) | (with_reducible refine fork_ff ?_)
  | (with_reducible refine fork_e (c := true) (by decide) ?_; with_reducible refine fork_tt ?_) | (with_reducible refine fork_e (c := false) (by decide) ?_; with_reducible refine fork_ff ?_)
  | (with_reducible refine fork_t (by omega) ?_) | (with_reducible refine fork_f (by omega) ?_)
  | (with_reducible refine fork_d ?_ ?_ <;> intro hc)
  | (with_reducible refine fork_n ?_)
  | (with_reducible refine fork_b ?_ ?_ <;> intro hc)
  | (with_reducible refine SlcG.mk (by omega) ?_)
  | (with_reducible refine MakG.mk (by dsimp only; omega) ?_)
  | (with_reducible refine AppG.mk (by first | omega | (simp only [List.length_append, List.length_set, List.length_replicate, List.length_take, List.length_drop, List.length_cons, List.length_nil, List.length_map]; omega)) (by dsimp only [List.length_cons, List.length_nil]; omega) (by omega) ?_)
  | (with_reducible refine div_g (by omega) (by omega) (by dsimp only [inR]; omega) ?_)
  | (with_reducible refine mod_g (by omega) (by omega) ?_)
  | (with_reducible refine mask_g (m := 4294967296) 32 rfl rfl (by decide) (by omega) ?_)
  | (with_reducible refine shr_g (m := 4294967296) 32 rfl (by decide) (by omega) rfl ?_)
  | (with_reducible refine fz_all (by omega) ?_)
  | (with_reducible refine Stuck.h (A := RetE _ _) ?_) | (with_reducible refine Stuck.h (A := RetM _ _ _ _) ?_) | (with_reducible refine Stuck.h (A := Again _ _ _ _ _ _ _ _) ?_) | (with_reducible refine Stuck.h (A := CallF _ _ _ _ _ _ _) ?_) | (with_reducible refine Stuck.h (A := LoopG _ _ _ _ _ _ _ _) ?_) | (with_reducible refine Stuck.h (A := DrawG _ _ _ _ _ _ _ _) ?_)
  | (with_reducible refine Stuck.h (A := WrapG _ _ _) ?_) | (with_reducible refine Stuck.h (A := DivG _ _ _ _) ?_) | (with_reducible refine Stuck.h (A := ModG _ _ _) ?_) | (with_reducible refine Stuck.h (A := ShlG _ _ _ _) ?_) | (with_reducible refine Stuck.h (A := ShrG _ _ _ _) ?_) | (with_reducible refine Stuck.h (A := BitG _ _ _ _ _) ?_)
  | (with_reducible refine Stuck.h (A := IdxG _ _ _) ?_) | (with_reducible refine Stuck.h (A := IdxL _ _ _) ?_) | (with_reducible refine Stuck.h (A := SlcG _ _ _ _ _) ?_) | (with_reducible refine Stuck.h (A := MakG _ _ _ _) ?_) | (with_reducible refine Stuck.h (A := AppG _ _ _ _ _ _ _) ?_) | (with_reducible refine Stuck.h (A := FzG _ _ _ _) ?_)
  | (with_reducible refine Stuck.h (A := RawG _) ?_) | (with_reducible refine Stuck.h (A := TabG _ _ _ _ _) ?_) | (with_reducible refine Stuck.h (A := ExtF _ _ _ _) ?_) | (with_reducible refine Stuck.h (A := Chk _ _) ?_) | (with_reducible refine Stuck.h (A := False) ?_))
  · exact ⟨ret_e (bv_eq (by rw [decide_eq_false (by omega)]; rfl))⟩
  · exact ⟨ret_e rfl⟩
theorem n_sign (n : Int) (h : L64 n.natAbs ≤ 8192) : FC Tryz.prog G 76 [NI n] (· = .val (.int .i64 n.sign)) := by
  have hb : bl n.natAbs = 0 ↔ n.natAbs = 0 := bl_eq_zero
  have f1 := n_bits (G := G) n.natAbs (by omega)
  refine FC.intro (X := XX) tok Tryz.func76 rfl Tryz.ntmps76 (by rw [Tryz.results76]) (by kernel_rfl) rfl ?_; intro F hG hO
  rw [← hG] at f1
  repeat' ((try (conv => whnf)); first
  | ((with_reducible refine cg ?_); refine call_eq (f1) (LpL.refl _) rfl ?_)
  
  | (with_reducible refine Chk.mk' (by first | omega | exact trivial | (simp only [List.length_append, List.length_set, List.length_replicate, List.length_take, List.length_drop, List.length_cons, List.length_nil, List.length_map]; omega)) ?_)
  | (with_reducible refine wrap_g (by dsimp only [inR]; omega) ?_)
  | (with_reducible refine idx_g (by omega) ?_)
  | (with_reducible refine idx_l _ rfl (by decide) ?_)
  | (with_reducible refine BothG.mk ?_ ?_)
  | (with_reducible refine fork_tt ?_) | (with_reducible refine fork_ff ?_)
  | (with_reducible refine fork_e (c := true) (by decide) ?_; with_reducible refine fork_tt ?_) | (with_reducible refine fork_e (c := false) (by decide) ?_; with_reducible refine fork_ff ?_)
  | (with_reducible refine fork_t (by omega) ?_) | (with_reducible refine fork_f (by omega) ?_)
  | (with_reducible refine fork_d ?_ ?_ <;> intro hc)
  | (with_reducible refine fork_n ?_)
  | (with_reducible refine fork_b ?_ ?_ <;> intro hc)
  | (with_reducible refine SlcG.mk (by omega) ?_)
  | (with_reducible refine MakG.mk (by dsimp only; omega) ?_)
  | (with_reducible refine AppG.mk (by first | omega | (simp only [List.length_append, List.length_set, List.length_replicate, List.length_take, List.length_drop, List.length_cons, List.length_nil, List.length_map]; omega)) (by dsimp only [List.length_cons, List.length_nil]; omega) (by omega) ?_)
  | (with_reducible refine div_g (by omega) (by omega) (by dsimp only [inR]; omega) ?_)
  | (with_reducible refine mod_g (by omega) (by omega) ?_)
  | (with_reducible refine mask_g (m := 4294967296) 32 rfl rfl (by decide) (by omega) ?_)
  | (with_reducible refine shr_g (m := 4294967296) 32 rfl (by decide) (by omega) rfl ?_)
  | (with_reducible refine fz_all (by omega) ?_)
  | (with_reducible refine Stuck.h (A := RetE _ _) ?_) | (with_reducible refine Stuck.h (A := RetM _ _ _ _) ?_) | (with_reducible refine Stuck.h (A := Again _ _ _ _ _ _ _ _) ?_) | (with_reducible refine Stuck.h (A := CallF _ _ _ _ _ _ _) ?_) | (with_reducible refine Stuck.h (A := LoopG _ _ _ _ _ _ _ _) ?_) | (with_reducible refine Stuck.h (A := DrawG _ _ _ _ _ _ _ _) ?_)
  | (with_reducible refine Stuck.h (A := WrapG _ _ _) ?_) | (with_reducible refine Stuck.h (A := DivG _ _ _ _) ?_) | (with_reducible refine Stuck.h (A := ModG _ _ _) ?_) | (with_reducible refine Stuck.h (A := ShlG _ _ _ _) ?_) | (with_reducible refine Stuck.h (A := ShrG _ _ _ _) ?_) | (with_reducible refine Stuck.h (A := BitG _ _ _ _ _) ?_)
  | (with_reducible refine Stuck.h (A := IdxG _ _ _) ?_) | (with_reducible refine Stuck.h (A := IdxL _ _ _) ?_) | (with_reducible refine Stuck.h (A := SlcG _ _ _ _ _) ?_) | (with_reducible refine Stuck.h (A := MakG _ _ _ _) ?_) | (with_reducible refine Stuck.h (A := AppG _ _ _ _ _ _ _) ?_) | (with_reducible refine Stuck.h (A := FzG _ _ _ _) ?_)
  | (with_reducible refine Stuck.h (A := RawG _) ?_) | (with_reducible refine Stuck.h (A := TabG _ _ _ _ _) ?_) | (with_reducible refine Stuck.h (A := ExtF _ _ _ _) ?_) | (with_reducible refine Stuck.h (A := Chk _ _) ?_) | (with_reducible refine Stuck.h (A := False) ?_))
  · exact ⟨ret_e (iv_eq (by rw [show n = 0 by omega]; rfl))⟩
  · exact ⟨ret_e (iv_eq (Int.sign_eq_neg_one_of_neg hc).symm)⟩
  · exact ⟨ret_e (iv_eq (Int.sign_eq_one_of_pos (by omega)).symm)⟩
end Go.Proofs.YtbeocnjlepcglaaGreatDoor.Sim
namespace Go.Proofs.YtbeocnjlepcglaaGreatDoor.Sim
open Go.RowKit
set_option linter.unusedVariables false
set_option linter.unusedSimpArgs false
set_option maxRecDepth 10000
set_option maxHeartbeats 8000000
variable {G : List (Nat × List Value)}
theorem by_signN {a : Int} {p : PV → Prop} (h1 : a < 0 → p (.agg [.val (.bool true), N64 a.natAbs])) (h2 : ¬ a < 0 → p (.agg [.val (.bool false), N64 a.natAbs])) : p (NI a) := by
  unfold NI
  by_cases h : a < 0
  · rw [decide_eq_true h]; exact h1 h
  · rw [decide_eq_false h]; exact h2 h
def nshlS (n k : Int) : PV := if shlC n.natAbs k = 0 then numR (n * 2 ^ k.toNat) else numE (shlC n.natAbs k)
theorem numR_eq {a b : Int} (h : a = b) : numR a = numR b := by rw [h]
theorem n_nshl (n k : Int) (h : L64 n.natAbs ≤ 8192) (hk : inR .i64 k) : FC Tryz.prog G 74 [NI n, .val (.int .i64 k)] (· = nshlS n k) := by
  have f0 := n_nform (G := G) n h
  have f1 := n_shl (G := G) n.natAbs k h hk
  have hs := sg_of n
  unfold nshlS
  unfold shlT shlL at f1
  dsimp only [inR] at hk
  have hneg : Unit → k < 0 → shlC n.natAbs k = 1 := fun _ h => by unfold shlC; rw [if_pos h]
  by_cases hc0 : shlC n.natAbs k = 0
  · rw [if_pos hc0]
    rw [hc0, if_pos rfl] at f1
    have f2 := n_ntold (G := G) (decide (n < 0)) (n.natAbs * 2 ^ k.toNat)
    rw [sg_pow, hs] at f2
    refine FC.intro (X := XX) tok Tryz.func74 rfl Tryz.ntmps74 (by rw [Tryz.results74]) (by kernel_rfl) rfl ?_; intro F hG hO
    rw [← hG] at f0 f1 f2
    repeat' ((try (conv => whnf)); first
  | ((with_reducible refine cg ?_); refine call_eq (f0) (LpL.refl _) rfl ?_)
  | ((with_reducible refine cg ?_); refine call_eq (f1) (LpL.refl _) rfl ?_)
  | ((with_reducible refine cg ?_); refine call_eq (f2) (LpL.refl _) rfl ?_)
  
  | (with_reducible refine Chk.mk' (by first | omega | exact trivial | (simp only [List.length_append, List.length_set, List.length_replicate, List.length_take, List.length_drop, List.length_cons, List.length_nil, List.length_map]; omega)) ?_)
  | (with_reducible refine wrap_g (by dsimp only [inR]; omega) ?_)
  | (with_reducible refine idx_g (by omega) ?_)
  | (with_reducible refine idx_l _ rfl (by decide) ?_)
  | (with_reducible refine BothG.mk ?_ ?_)
  | (with_reducible refine fork_tt ?_) | (with_reducible refine fork_ff ?_)
  | (with_reducible refine fork_e (c := true) (by decide) ?_; with_reducible refine fork_tt ?_) | (with_reducible refine fork_e (c := false) (by decide) ?_; with_reducible refine fork_ff ?_)
  | (with_reducible refine fork_t (by omega) ?_) | (with_reducible refine fork_f (by omega) ?_)
  | (with_reducible refine fork_d ?_ ?_ <;> intro hc)
  | (with_reducible refine fork_n ?_)
  | (with_reducible refine fork_b ?_ ?_ <;> intro hc)
  | (with_reducible refine SlcG.mk (by omega) ?_)
  | (with_reducible refine MakG.mk (by dsimp only; omega) ?_)
  | (with_reducible refine AppG.mk (by first | omega | (simp only [List.length_append, List.length_set, List.length_replicate, List.length_take, List.length_drop, List.length_cons, List.length_nil, List.length_map]; omega)) (by dsimp only [List.length_cons, List.length_nil]; omega) (by omega) ?_)
  | (with_reducible refine div_g (by omega) (by omega) (by dsimp only [inR]; omega) ?_)
  | (with_reducible refine mod_g (by omega) (by omega) ?_)
  | (with_reducible refine mask_g (m := 4294967296) 32 rfl rfl (by decide) (by omega) ?_)
  | (with_reducible refine shr_g (m := 4294967296) 32 rfl (by decide) (by omega) rfl ?_)
  | (with_reducible refine fz_all (by omega) ?_)
  | (with_reducible refine Stuck.h (A := RetE _ _) ?_) | (with_reducible refine Stuck.h (A := RetM _ _ _ _) ?_) | (with_reducible refine Stuck.h (A := Again _ _ _ _ _ _ _ _) ?_) | (with_reducible refine Stuck.h (A := CallF _ _ _ _ _ _ _) ?_) | (with_reducible refine Stuck.h (A := LoopG _ _ _ _ _ _ _ _) ?_) | (with_reducible refine Stuck.h (A := DrawG _ _ _ _ _ _ _ _) ?_)
  | (with_reducible refine Stuck.h (A := WrapG _ _ _) ?_) | (with_reducible refine Stuck.h (A := DivG _ _ _ _) ?_) | (with_reducible refine Stuck.h (A := ModG _ _ _) ?_) | (with_reducible refine Stuck.h (A := ShlG _ _ _ _) ?_) | (with_reducible refine Stuck.h (A := ShrG _ _ _ _) ?_) | (with_reducible refine Stuck.h (A := BitG _ _ _ _ _) ?_)
  | (with_reducible refine Stuck.h (A := IdxG _ _ _) ?_) | (with_reducible refine Stuck.h (A := IdxL _ _ _) ?_) | (with_reducible refine Stuck.h (A := SlcG _ _ _ _ _) ?_) | (with_reducible refine Stuck.h (A := MakG _ _ _ _) ?_) | (with_reducible refine Stuck.h (A := AppG _ _ _ _ _ _ _) ?_) | (with_reducible refine Stuck.h (A := FzG _ _ _ _) ?_)
  | (with_reducible refine Stuck.h (A := RawG _) ?_) | (with_reducible refine Stuck.h (A := TabG _ _ _ _ _) ?_) | (with_reducible refine Stuck.h (A := ExtF _ _ _ _) ?_) | (with_reducible refine Stuck.h (A := Chk _ _) ?_) | (with_reducible refine Stuck.h (A := False) ?_))
    · rw [hneg () hc] at hc0; cases hc0
    · exact ⟨ret_e rfl⟩
  · rw [if_neg hc0]
    rw [if_neg hc0] at f1
    have f2 := n_ntoldE (G := G) (decide (n < 0)) [] (shlC n.natAbs k) hc0
    refine FC.intro (X := XX) tok Tryz.func74 rfl Tryz.ntmps74 (by rw [Tryz.results74]) (by kernel_rfl) rfl ?_; intro F hG hO
    rw [← hG] at f0 f1 f2
    repeat' ((try (conv => whnf)); first
  | ((with_reducible refine cg ?_); refine call_eq (f0) (LpL.refl _) rfl ?_)
  | ((with_reducible refine cg ?_); refine call_eq (f1) (LpL.refl _) rfl ?_)
  | ((with_reducible refine cg ?_); refine call_eq (f2) (LpL.refl _) rfl ?_)
  
  | (with_reducible refine Chk.mk' (by first | omega | exact trivial | (simp only [List.length_append, List.length_set, List.length_replicate, List.length_take, List.length_drop, List.length_cons, List.length_nil, List.length_map]; omega)) ?_)
  | (with_reducible refine wrap_g (by dsimp only [inR]; omega) ?_)
  | (with_reducible refine idx_g (by omega) ?_)
  | (with_reducible refine idx_l _ rfl (by decide) ?_)
  | (with_reducible refine BothG.mk ?_ ?_)
  | (with_reducible refine fork_tt ?_) | (with_reducible refine fork_ff ?_)
  | (with_reducible refine fork_e (c := true) (by decide) ?_; with_reducible refine fork_tt ?_) | (with_reducible refine fork_e (c := false) (by decide) ?_; with_reducible refine fork_ff ?_)
  | (with_reducible refine fork_t (by omega) ?_) | (with_reducible refine fork_f (by omega) ?_)
  | (with_reducible refine fork_d ?_ ?_ <;> intro hc)
  | (with_reducible refine fork_n ?_)
  | (with_reducible refine fork_b ?_ ?_ <;> intro hc)
  | (with_reducible refine SlcG.mk (by omega) ?_)
  | (with_reducible refine MakG.mk (by dsimp only; omega) ?_)
  | (with_reducible refine AppG.mk (by first | omega | (simp only [List.length_append, List.length_set, List.length_replicate, List.length_take, List.length_drop, List.length_cons, List.length_nil, List.length_map]; omega)) (by dsimp only [List.length_cons, List.length_nil]; omega) (by omega) ?_)
  | (with_reducible refine div_g (by omega) (by omega) (by dsimp only [inR]; omega) ?_)
  | (with_reducible refine mod_g (by omega) (by omega) ?_)
  | (with_reducible refine mask_g (m := 4294967296) 32 rfl rfl (by decide) (by omega) ?_)
  | (with_reducible refine shr_g (m := 4294967296) 32 rfl (by decide) (by omega) rfl ?_)
  | (with_reducible refine fz_all (by omega) ?_)
  | (with_reducible refine Stuck.h (A := RetE _ _) ?_) | (with_reducible refine Stuck.h (A := RetM _ _ _ _) ?_) | (with_reducible refine Stuck.h (A := Again _ _ _ _ _ _ _ _) ?_) | (with_reducible refine Stuck.h (A := CallF _ _ _ _ _ _ _) ?_) | (with_reducible refine Stuck.h (A := LoopG _ _ _ _ _ _ _ _) ?_) | (with_reducible refine Stuck.h (A := DrawG _ _ _ _ _ _ _ _) ?_)
  | (with_reducible refine Stuck.h (A := WrapG _ _ _) ?_) | (with_reducible refine Stuck.h (A := DivG _ _ _ _) ?_) | (with_reducible refine Stuck.h (A := ModG _ _ _) ?_) | (with_reducible refine Stuck.h (A := ShlG _ _ _ _) ?_) | (with_reducible refine Stuck.h (A := ShrG _ _ _ _) ?_) | (with_reducible refine Stuck.h (A := BitG _ _ _ _ _) ?_)
  | (with_reducible refine Stuck.h (A := IdxG _ _ _) ?_) | (with_reducible refine Stuck.h (A := IdxL _ _ _) ?_) | (with_reducible refine Stuck.h (A := SlcG _ _ _ _ _) ?_) | (with_reducible refine Stuck.h (A := MakG _ _ _ _) ?_) | (with_reducible refine Stuck.h (A := AppG _ _ _ _ _ _ _) ?_) | (with_reducible refine Stuck.h (A := FzG _ _ _ _) ?_)
  | (with_reducible refine Stuck.h (A := RawG _) ?_) | (with_reducible refine Stuck.h (A := TabG _ _ _ _ _) ?_) | (with_reducible refine Stuck.h (A := ExtF _ _ _ _) ?_) | (with_reducible refine Stuck.h (A := Chk _ _) ?_) | (with_reducible refine Stuck.h (A := False) ?_))
    · rw [hneg () hc]; exact ⟨ret_l _ (lp_numE 1) rfl⟩
    · exact ⟨ret_e rfl⟩
def naddS (n m : Int) : PV := if 8192 < L64 (n + m).natAbs then numE 5 else numR (n + m)
theorem ni_neg {a : Int} (h : a < 0) : NI a = .agg [.val (.bool true), N64 a.natAbs] := by unfold NI; rw [decide_eq_true h]
theorem ni_pos {a : Int} (h : ¬ a < 0) : NI a = .agg [.val (.bool false), N64 a.natAbs] := by unfold NI; rw [decide_eq_false h]
theorem n_nadd (n m : Int) (hn : L64 n.natAbs ≤ 8192) (hm : L64 m.natAbs ≤ 8192) : FC Tryz.prog G 75 [NI n, NI m] (· = naddS n m) := by
  have f0 := n_nform (G := G) n hn
  have g0 := n_nform (G := G) m hm
  have f1 := n_add (G := G) n.natAbs m.natAbs hn hm
  have f2 := n_cmp (G := G) n.natAbs m.natAbs (by omega) (by omega)
  have hcm := cmpN_ge n.natAbs m.natAbs
  have f3 : Unit → m.natAbs ≤ n.natAbs → FC Tryz.prog G 120 [.ws .u64 (d64 n.natAbs), .ws .u64 (d64 m.natAbs)] (· = natR (n.natAbs - m.natAbs)) := fun _ h => n_sub (G := G) n.natAbs m.natAbs hn hm h
  have f4 : Unit → n.natAbs ≤ m.natAbs → FC Tryz.prog G 120 [.ws .u64 (d64 m.natAbs), .ws .u64 (d64 n.natAbs)] (· = natR (m.natAbs - n.natAbs)) := fun _ h => n_sub (G := G) m.natAbs n.natAbs hm hn h
  refine by_signN (a := n) (p := fun p => FC _ _ _ [p, _] _) (fun hs => ?_) (fun hs => ?_)
  all_goals
    refine by_signN (a := m) (p := fun p => FC _ _ _ [_, p] _) (fun ht => ?_) (fun ht => ?_)
  · have e : n + m = sg true (n.natAbs + m.natAbs) := by simp only [sg]; omega
    have ea : (n + m).natAbs = n.natAbs + m.natAbs := by omega
    unfold naddS
    rw [ea]
    rw [ni_neg hs] at f0
    rw [ni_neg ht] at g0
    by_cases hL : 8192 < L64 (n.natAbs + m.natAbs)
    · rw [if_pos hL]
      rw [natT_no hL] at f1
      have f5 := n_ntoldE (G := G) true [] 5 (by decide)
      refine FC.intro (X := XX) tok Tryz.func75 rfl Tryz.ntmps75 (by rw [Tryz.results75]) (by kernel_rfl) rfl ?_; intro F hG hO
      rw [← hG] at f0 g0 f1 f5
      repeat' ((try (conv => whnf)); first
  | ((with_reducible refine cg ?_); refine call_eq (f0) (LpL.refl _) rfl ?_)
  | ((with_reducible refine cg ?_); refine call_eq (g0) (LpL.refl _) rfl ?_)
  | ((with_reducible refine cg ?_); refine call_eq (f1) (LpL.refl _) rfl ?_)
  | ((with_reducible refine cg ?_); refine call_eq (f5) (LpL.refl _) rfl ?_)
  
  | (with_reducible refine Chk.mk' (by first | omega | exact trivial | (simp only [List.length_append, List.length_set, List.length_replicate, List.length_take, List.length_drop, List.length_cons, List.length_nil, List.length_map]; omega)) ?_)
  | (with_reducible refine wrap_g (by dsimp only [inR]; omega) ?_)
  | (with_reducible refine idx_g (by omega) ?_)
  | (with_reducible refine idx_l _ rfl (by decide) ?_)
  | (with_reducible refine BothG.mk ?_ ?_)
  | (with_reducible refine fork_tt ?_) | (with_reducible refine fork_ff ?_)
  | (with_reducible refine fork_e (c := true) (by decide) ?_; with_reducible refine fork_tt ?_) | (with_reducible refine fork_e (c := false) (by decide) ?_; with_reducible refine fork_ff ?_)
  | (with_reducible refine fork_t (by omega) ?_) | (with_reducible refine fork_f (by omega) ?_)
  | (with_reducible refine fork_d ?_ ?_ <;> intro hc)
  | (with_reducible refine fork_n ?_)
  | (with_reducible refine fork_b ?_ ?_ <;> intro hc)
  | (with_reducible refine SlcG.mk (by omega) ?_)
  | (with_reducible refine MakG.mk (by dsimp only; omega) ?_)
  | (with_reducible refine AppG.mk (by first | omega | (simp only [List.length_append, List.length_set, List.length_replicate, List.length_take, List.length_drop, List.length_cons, List.length_nil, List.length_map]; omega)) (by dsimp only [List.length_cons, List.length_nil]; omega) (by omega) ?_)
  | (with_reducible refine div_g (by omega) (by omega) (by dsimp only [inR]; omega) ?_)
  | (with_reducible refine mod_g (by omega) (by omega) ?_)
  | (with_reducible refine mask_g (m := 4294967296) 32 rfl rfl (by decide) (by omega) ?_)
  | (with_reducible refine shr_g (m := 4294967296) 32 rfl (by decide) (by omega) rfl ?_)
  | (with_reducible refine fz_all (by omega) ?_)
  | (with_reducible refine Stuck.h (A := RetE _ _) ?_) | (with_reducible refine Stuck.h (A := RetM _ _ _ _) ?_) | (with_reducible refine Stuck.h (A := Again _ _ _ _ _ _ _ _) ?_) | (with_reducible refine Stuck.h (A := CallF _ _ _ _ _ _ _) ?_) | (with_reducible refine Stuck.h (A := LoopG _ _ _ _ _ _ _ _) ?_) | (with_reducible refine Stuck.h (A := DrawG _ _ _ _ _ _ _ _) ?_)
  | (with_reducible refine Stuck.h (A := WrapG _ _ _) ?_) | (with_reducible refine Stuck.h (A := DivG _ _ _ _) ?_) | (with_reducible refine Stuck.h (A := ModG _ _ _) ?_) | (with_reducible refine Stuck.h (A := ShlG _ _ _ _) ?_) | (with_reducible refine Stuck.h (A := ShrG _ _ _ _) ?_) | (with_reducible refine Stuck.h (A := BitG _ _ _ _ _) ?_)
  | (with_reducible refine Stuck.h (A := IdxG _ _ _) ?_) | (with_reducible refine Stuck.h (A := IdxL _ _ _) ?_) | (with_reducible refine Stuck.h (A := SlcG _ _ _ _ _) ?_) | (with_reducible refine Stuck.h (A := MakG _ _ _ _) ?_) | (with_reducible refine Stuck.h (A := AppG _ _ _ _ _ _ _) ?_) | (with_reducible refine Stuck.h (A := FzG _ _ _ _) ?_)
  | (with_reducible refine Stuck.h (A := RawG _) ?_) | (with_reducible refine Stuck.h (A := TabG _ _ _ _ _) ?_) | (with_reducible refine Stuck.h (A := ExtF _ _ _ _) ?_) | (with_reducible refine Stuck.h (A := Chk _ _) ?_) | (with_reducible refine Stuck.h (A := False) ?_))
      exact ⟨ret_e rfl⟩
    · rw [if_neg hL, e]
      rw [natT_ok (by omega)] at f1
      have f5 := n_ntold (G := G) true (n.natAbs + m.natAbs)
      refine FC.intro (X := XX) tok Tryz.func75 rfl Tryz.ntmps75 (by rw [Tryz.results75]) (by kernel_rfl) rfl ?_; intro F hG hO
      rw [← hG] at f0 g0 f1 f5
      repeat' ((try (conv => whnf)); first
  | ((with_reducible refine cg ?_); refine call_eq (f0) (LpL.refl _) rfl ?_)
  | ((with_reducible refine cg ?_); refine call_eq (g0) (LpL.refl _) rfl ?_)
  | ((with_reducible refine cg ?_); refine call_eq (f1) (LpL.refl _) rfl ?_)
  | ((with_reducible refine cg ?_); refine call_eq (f5) (LpL.refl _) rfl ?_)
  
  | (with_reducible refine Chk.mk' (by first | omega | exact trivial | (simp only [List.length_append, List.length_set, List.length_replicate, List.length_take, List.length_drop, List.length_cons, List.length_nil, List.length_map]; omega)) ?_)
  | (with_reducible refine wrap_g (by dsimp only [inR]; omega) ?_)
  | (with_reducible refine idx_g (by omega) ?_)
  | (with_reducible refine idx_l _ rfl (by decide) ?_)
  | (with_reducible refine BothG.mk ?_ ?_)
  | (with_reducible refine fork_tt ?_) | (with_reducible refine fork_ff ?_)
  | (with_reducible refine fork_e (c := true) (by decide) ?_; with_reducible refine fork_tt ?_) | (with_reducible refine fork_e (c := false) (by decide) ?_; with_reducible refine fork_ff ?_)
  | (with_reducible refine fork_t (by omega) ?_) | (with_reducible refine fork_f (by omega) ?_)
  | (with_reducible refine fork_d ?_ ?_ <;> intro hc)
  | (with_reducible refine fork_n ?_)
  | (with_reducible refine fork_b ?_ ?_ <;> intro hc)
  | (with_reducible refine SlcG.mk (by omega) ?_)
  | (with_reducible refine MakG.mk (by dsimp only; omega) ?_)
  | (with_reducible refine AppG.mk (by first | omega | (simp only [List.length_append, List.length_set, List.length_replicate, List.length_take, List.length_drop, List.length_cons, List.length_nil, List.length_map]; omega)) (by dsimp only [List.length_cons, List.length_nil]; omega) (by omega) ?_)
  | (with_reducible refine div_g (by omega) (by omega) (by dsimp only [inR]; omega) ?_)
  | (with_reducible refine mod_g (by omega) (by omega) ?_)
  | (with_reducible refine mask_g (m := 4294967296) 32 rfl rfl (by decide) (by omega) ?_)
  | (with_reducible refine shr_g (m := 4294967296) 32 rfl (by decide) (by omega) rfl ?_)
  | (with_reducible refine fz_all (by omega) ?_)
  | (with_reducible refine Stuck.h (A := RetE _ _) ?_) | (with_reducible refine Stuck.h (A := RetM _ _ _ _) ?_) | (with_reducible refine Stuck.h (A := Again _ _ _ _ _ _ _ _) ?_) | (with_reducible refine Stuck.h (A := CallF _ _ _ _ _ _ _) ?_) | (with_reducible refine Stuck.h (A := LoopG _ _ _ _ _ _ _ _) ?_) | (with_reducible refine Stuck.h (A := DrawG _ _ _ _ _ _ _ _) ?_)
  | (with_reducible refine Stuck.h (A := WrapG _ _ _) ?_) | (with_reducible refine Stuck.h (A := DivG _ _ _ _) ?_) | (with_reducible refine Stuck.h (A := ModG _ _ _) ?_) | (with_reducible refine Stuck.h (A := ShlG _ _ _ _) ?_) | (with_reducible refine Stuck.h (A := ShrG _ _ _ _) ?_) | (with_reducible refine Stuck.h (A := BitG _ _ _ _ _) ?_)
  | (with_reducible refine Stuck.h (A := IdxG _ _ _) ?_) | (with_reducible refine Stuck.h (A := IdxL _ _ _) ?_) | (with_reducible refine Stuck.h (A := SlcG _ _ _ _ _) ?_) | (with_reducible refine Stuck.h (A := MakG _ _ _ _) ?_) | (with_reducible refine Stuck.h (A := AppG _ _ _ _ _ _ _) ?_) | (with_reducible refine Stuck.h (A := FzG _ _ _ _) ?_)
  | (with_reducible refine Stuck.h (A := RawG _) ?_) | (with_reducible refine Stuck.h (A := TabG _ _ _ _ _) ?_) | (with_reducible refine Stuck.h (A := ExtF _ _ _ _) ?_) | (with_reducible refine Stuck.h (A := Chk _ _) ?_) | (with_reducible refine Stuck.h (A := False) ?_))
      exact ⟨ret_e rfl⟩
  · rw [ni_neg hs] at f0
    rw [ni_pos ht] at g0
    have hle : L64 (n + m).natAbs ≤ 8192 := by
      rcases Nat.le_total n.natAbs m.natAbs with h | h
      · exact Nat.le_trans (lenB_mono (by decide) (show (n + m).natAbs ≤ m.natAbs by omega)) hm
      · exact Nat.le_trans (lenB_mono (by decide) (show (n + m).natAbs ≤ n.natAbs by omega)) hn
    unfold naddS
    rw [if_neg (by omega)]
    have f5 := n_ntold (G := G) true (n.natAbs - m.natAbs)
    have f6 := n_ntold (G := G) false (m.natAbs - n.natAbs)
    refine FC.intro (X := XX) tok Tryz.func75 rfl Tryz.ntmps75 (by rw [Tryz.results75]) (by kernel_rfl) rfl ?_; intro F hG hO
    rw [← hG] at f0 g0 f2 f3 f4 f5 f6
    repeat' ((try (conv => whnf)); first
  | ((with_reducible refine cg ?_); refine call_eq (f0) (LpL.refl _) rfl ?_)
  | ((with_reducible refine cg ?_); refine call_eq (g0) (LpL.refl _) rfl ?_)
  | ((with_reducible refine cg ?_); refine call_eq (f2) (LpL.refl _) rfl ?_)
  | ((with_reducible refine cg ?_); refine call_eq (f3 () (hcm.1 (by omega))) (LpL.refl _) rfl ?_)
  | ((with_reducible refine cg ?_); refine call_eq (f4 () (by rcases Nat.le_total n.natAbs m.natAbs with h | h; exact h; have := hcm.2 h; omega)) (LpL.refl _) rfl ?_)
  | ((with_reducible refine cg ?_); refine call_eq (f5) (LpL.refl _) rfl ?_)
  | ((with_reducible refine cg ?_); refine call_eq (f6) (LpL.refl _) rfl ?_)
  
  | (with_reducible refine Chk.mk' (by first | omega | exact trivial | (simp only [List.length_append, List.length_set, List.length_replicate, List.length_take, List.length_drop, List.length_cons, List.length_nil, List.length_map]; omega)) ?_)
  | (with_reducible refine wrap_g (by dsimp only [inR]; omega) ?_)
  | (with_reducible refine idx_g (by omega) ?_)
  | (with_reducible refine idx_l _ rfl (by decide) ?_)
  | (with_reducible refine BothG.mk ?_ ?_)
  | (with_reducible refine fork_tt ?_) | (with_reducible refine fork_ff ?_)
  | (with_reducible refine fork_e (c := true) (by decide) ?_; with_reducible refine fork_tt ?_) | (with_reducible refine fork_e (c := false) (by decide) ?_; with_reducible refine fork_ff ?_)
  | (with_reducible refine fork_t (by omega) ?_) | (with_reducible refine fork_f (by omega) ?_)
  | (with_reducible refine fork_d ?_ ?_ <;> intro hc)
  | (with_reducible refine fork_n ?_)
  | (with_reducible refine fork_b ?_ ?_ <;> intro hc)
  | (with_reducible refine SlcG.mk (by omega) ?_)
  | (with_reducible refine MakG.mk (by dsimp only; omega) ?_)
  | (with_reducible refine AppG.mk (by first | omega | (simp only [List.length_append, List.length_set, List.length_replicate, List.length_take, List.length_drop, List.length_cons, List.length_nil, List.length_map]; omega)) (by dsimp only [List.length_cons, List.length_nil]; omega) (by omega) ?_)
  | (with_reducible refine div_g (by omega) (by omega) (by dsimp only [inR]; omega) ?_)
  | (with_reducible refine mod_g (by omega) (by omega) ?_)
  | (with_reducible refine mask_g (m := 4294967296) 32 rfl rfl (by decide) (by omega) ?_)
  | (with_reducible refine shr_g (m := 4294967296) 32 rfl (by decide) (by omega) rfl ?_)
  | (with_reducible refine fz_all (by omega) ?_)
  | (with_reducible refine Stuck.h (A := RetE _ _) ?_) | (with_reducible refine Stuck.h (A := RetM _ _ _ _) ?_) | (with_reducible refine Stuck.h (A := Again _ _ _ _ _ _ _ _) ?_) | (with_reducible refine Stuck.h (A := CallF _ _ _ _ _ _ _) ?_) | (with_reducible refine Stuck.h (A := LoopG _ _ _ _ _ _ _ _) ?_) | (with_reducible refine Stuck.h (A := DrawG _ _ _ _ _ _ _ _) ?_)
  | (with_reducible refine Stuck.h (A := WrapG _ _ _) ?_) | (with_reducible refine Stuck.h (A := DivG _ _ _ _) ?_) | (with_reducible refine Stuck.h (A := ModG _ _ _) ?_) | (with_reducible refine Stuck.h (A := ShlG _ _ _ _) ?_) | (with_reducible refine Stuck.h (A := ShrG _ _ _ _) ?_) | (with_reducible refine Stuck.h (A := BitG _ _ _ _ _) ?_)
  | (with_reducible refine Stuck.h (A := IdxG _ _ _) ?_) | (with_reducible refine Stuck.h (A := IdxL _ _ _) ?_) | (with_reducible refine Stuck.h (A := SlcG _ _ _ _ _) ?_) | (with_reducible refine Stuck.h (A := MakG _ _ _ _) ?_) | (with_reducible refine Stuck.h (A := AppG _ _ _ _ _ _ _) ?_) | (with_reducible refine Stuck.h (A := FzG _ _ _ _) ?_)
  | (with_reducible refine Stuck.h (A := RawG _) ?_) | (with_reducible refine Stuck.h (A := TabG _ _ _ _ _) ?_) | (with_reducible refine Stuck.h (A := ExtF _ _ _ _) ?_) | (with_reducible refine Stuck.h (A := Chk _ _) ?_) | (with_reducible refine Stuck.h (A := False) ?_))
    · have hlt : ¬ m.natAbs ≤ n.natAbs := fun h => (by have := hcm.2 h; omega)
      exact ⟨ret_e (numR_eq (a := sg false (m.natAbs - n.natAbs)) (by simp only [sg]; omega))⟩
    · have hge := hcm.1 (by omega)
      exact ⟨ret_e (numR_eq (a := sg true (n.natAbs - m.natAbs)) (by simp only [sg]; omega))⟩
  · rw [ni_pos hs] at f0
    rw [ni_neg ht] at g0
    have hle : L64 (n + m).natAbs ≤ 8192 := by
      rcases Nat.le_total n.natAbs m.natAbs with h | h
      · exact Nat.le_trans (lenB_mono (by decide) (show (n + m).natAbs ≤ m.natAbs by omega)) hm
      · exact Nat.le_trans (lenB_mono (by decide) (show (n + m).natAbs ≤ n.natAbs by omega)) hn
    unfold naddS
    rw [if_neg (by omega)]
    have f5 := n_ntold (G := G) false (n.natAbs - m.natAbs)
    have f6 := n_ntold (G := G) true (m.natAbs - n.natAbs)
    refine FC.intro (X := XX) tok Tryz.func75 rfl Tryz.ntmps75 (by rw [Tryz.results75]) (by kernel_rfl) rfl ?_; intro F hG hO
    rw [← hG] at f0 g0 f2 f3 f4 f5 f6
    repeat' ((try (conv => whnf)); first
  | ((with_reducible refine cg ?_); refine call_eq (f0) (LpL.refl _) rfl ?_)
  | ((with_reducible refine cg ?_); refine call_eq (g0) (LpL.refl _) rfl ?_)
  | ((with_reducible refine cg ?_); refine call_eq (f2) (LpL.refl _) rfl ?_)
  | ((with_reducible refine cg ?_); refine call_eq (f3 () (hcm.1 (by omega))) (LpL.refl _) rfl ?_)
  | ((with_reducible refine cg ?_); refine call_eq (f4 () (by rcases Nat.le_total n.natAbs m.natAbs with h | h; exact h; have := hcm.2 h; omega)) (LpL.refl _) rfl ?_)
  | ((with_reducible refine cg ?_); refine call_eq (f5) (LpL.refl _) rfl ?_)
  | ((with_reducible refine cg ?_); refine call_eq (f6) (LpL.refl _) rfl ?_)
  
  | (with_reducible refine Chk.mk' (by first | omega | exact trivial | (simp only [List.length_append, List.length_set, List.length_replicate, List.length_take, List.length_drop, List.length_cons, List.length_nil, List.length_map]; omega)) ?_)
  | (with_reducible refine wrap_g (by dsimp only [inR]; omega) ?_)
  | (with_reducible refine idx_g (by omega) ?_)
  | (with_reducible refine idx_l _ rfl (by decide) ?_)
  | (with_reducible refine BothG.mk ?_ ?_)
  | (with_reducible refine fork_tt ?_) | (with_reducible refine fork_ff ?_)
  | (with_reducible refine fork_e (c := true) (by decide) ?_; with_reducible refine fork_tt ?_) | (with_reducible refine fork_e (c := false) (by decide) ?_; with_reducible refine fork_ff ?_)
  | (with_reducible refine fork_t (by omega) ?_) | (with_reducible refine fork_f (by omega) ?_)
  | (with_reducible refine fork_d ?_ ?_ <;> intro hc)
  | (with_reducible refine fork_n ?_)
  | (with_reducible refine fork_b ?_ ?_ <;> intro hc)
  | (with_reducible refine SlcG.mk (by omega) ?_)
  | (with_reducible refine MakG.mk (by dsimp only; omega) ?_)
  | (with_reducible refine AppG.mk (by first | omega | (simp only [List.length_append, List.length_set, List.length_replicate, List.length_take, List.length_drop, List.length_cons, List.length_nil, List.length_map]; omega)) (by dsimp only [List.length_cons, List.length_nil]; omega) (by omega) ?_)
  | (with_reducible refine div_g (by omega) (by omega) (by dsimp only [inR]; omega) ?_)
  | (with_reducible refine mod_g (by omega) (by omega) ?_)
  | (with_reducible refine mask_g (m := 4294967296) 32 rfl rfl (by decide) (by omega) ?_)
  | (with_reducible refine shr_g (m := 4294967296) 32 rfl (by decide) (by omega) rfl ?_)
  | (with_reducible refine fz_all (by omega) ?_)
  | (with_reducible refine Stuck.h (A := RetE _ _) ?_) | (with_reducible refine Stuck.h (A := RetM _ _ _ _) ?_) | (with_reducible refine Stuck.h (A := Again _ _ _ _ _ _ _ _) ?_) | (with_reducible refine Stuck.h (A := CallF _ _ _ _ _ _ _) ?_) | (with_reducible refine Stuck.h (A := LoopG _ _ _ _ _ _ _ _) ?_) | (with_reducible refine Stuck.h (A := DrawG _ _ _ _ _ _ _ _) ?_)
  | (with_reducible refine Stuck.h (A := WrapG _ _ _) ?_) | (with_reducible refine Stuck.h (A := DivG _ _ _ _) ?_) | (with_reducible refine Stuck.h (A := ModG _ _ _) ?_) | (with_reducible refine Stuck.h (A := ShlG _ _ _ _) ?_) | (with_reducible refine Stuck.h (A := ShrG _ _ _ _) ?_) | (with_reducible refine Stuck.h (A := BitG _ _ _ _ _) ?_)
  | (with_reducible refine Stuck.h (A := IdxG _ _ _) ?_) | (with_reducible refine Stuck.h (A := IdxL _ _ _) ?_) | (with_reducible refine Stuck.h (A := SlcG _ _ _ _ _) ?_) | (with_reducible refine Stuck.h (A := MakG _ _ _ _) ?_) | (with_reducible refine Stuck.h (A := AppG _ _ _ _ _ _ _) ?_) | (with_reducible refine Stuck.h (A := FzG _ _ _ _) ?_)
  | (with_reducible refine Stuck.h (A := RawG _) ?_) | (with_reducible refine Stuck.h (A := TabG _ _ _ _ _) ?_) | (with_reducible refine Stuck.h (A := ExtF _ _ _ _) ?_) | (with_reducible refine Stuck.h (A := Chk _ _) ?_) | (with_reducible refine Stuck.h (A := False) ?_))
    · have hlt : ¬ m.natAbs ≤ n.natAbs := fun h => (by have := hcm.2 h; omega)
      exact ⟨ret_e (numR_eq (a := sg true (m.natAbs - n.natAbs)) (by simp only [sg]; omega))⟩
    · have hge := hcm.1 (by omega)
      exact ⟨ret_e (numR_eq (a := sg false (n.natAbs - m.natAbs)) (by simp only [sg]; omega))⟩
  · have e : n + m = sg false (n.natAbs + m.natAbs) := by simp only [sg]; omega
    have ea : (n + m).natAbs = n.natAbs + m.natAbs := by omega
    unfold naddS
    rw [ea]
    rw [ni_pos hs] at f0
    rw [ni_pos ht] at g0
    by_cases hL : 8192 < L64 (n.natAbs + m.natAbs)
    · rw [if_pos hL]
      rw [natT_no hL] at f1
      have f5 := n_ntoldE (G := G) false [] 5 (by decide)
      refine FC.intro (X := XX) tok Tryz.func75 rfl Tryz.ntmps75 (by rw [Tryz.results75]) (by kernel_rfl) rfl ?_; intro F hG hO
      rw [← hG] at f0 g0 f1 f5
      repeat' ((try (conv => whnf)); first
  | ((with_reducible refine cg ?_); refine call_eq (f0) (LpL.refl _) rfl ?_)
  | ((with_reducible refine cg ?_); refine call_eq (g0) (LpL.refl _) rfl ?_)
  | ((with_reducible refine cg ?_); refine call_eq (f1) (LpL.refl _) rfl ?_)
  | ((with_reducible refine cg ?_); refine call_eq (f5) (LpL.refl _) rfl ?_)
  
  | (with_reducible refine Chk.mk' (by first | omega | exact trivial | (simp only [List.length_append, List.length_set, List.length_replicate, List.length_take, List.length_drop, List.length_cons, List.length_nil, List.length_map]; omega)) ?_)
  | (with_reducible refine wrap_g (by dsimp only [inR]; omega) ?_)
  | (with_reducible refine idx_g (by omega) ?_)
  | (with_reducible refine idx_l _ rfl (by decide) ?_)
  | (with_reducible refine BothG.mk ?_ ?_)
  | (with_reducible refine fork_tt ?_) | (with_reducible refine fork_ff ?_)
  | (with_reducible refine fork_e (c := true) (by decide) ?_; with_reducible refine fork_tt ?_) | (with_reducible refine fork_e (c := false) (by decide) ?_; with_reducible refine fork_ff ?_)
  | (with_reducible refine fork_t (by omega) ?_) | (with_reducible refine fork_f (by omega) ?_)
  | (with_reducible refine fork_d ?_ ?_ <;> intro hc)
  | (with_reducible refine fork_n ?_)
  | (with_reducible refine fork_b ?_ ?_ <;> intro hc)
  | (with_reducible refine SlcG.mk (by omega) ?_)
  | (with_reducible refine MakG.mk (by dsimp only; omega) ?_)
  | (with_reducible refine AppG.mk (by first | omega | (simp only [List.length_append, List.length_set, List.length_replicate, List.length_take, List.length_drop, List.length_cons, List.length_nil, List.length_map]; omega)) (by dsimp only [List.length_cons, List.length_nil]; omega) (by omega) ?_)
  | (with_reducible refine div_g (by omega) (by omega) (by dsimp only [inR]; omega) ?_)
  | (with_reducible refine mod_g (by omega) (by omega) ?_)
  | (with_reducible refine mask_g (m := 4294967296) 32 rfl rfl (by decide) (by omega) ?_)
  | (with_reducible refine shr_g (m := 4294967296) 32 rfl (by decide) (by omega) rfl ?_)
  | (with_reducible refine fz_all (by omega) ?_)
  | (with_reducible refine Stuck.h (A := RetE _ _) ?_) | (with_reducible refine Stuck.h (A := RetM _ _ _ _) ?_) | (with_reducible refine Stuck.h (A := Again _ _ _ _ _ _ _ _) ?_) | (with_reducible refine Stuck.h (A := CallF _ _ _ _ _ _ _) ?_) | (with_reducible refine Stuck.h (A := LoopG _ _ _ _ _ _ _ _) ?_) | (with_reducible refine Stuck.h (A := DrawG _ _ _ _ _ _ _ _) ?_)
  | (with_reducible refine Stuck.h (A := WrapG _ _ _) ?_) | (with_reducible refine Stuck.h (A := DivG _ _ _ _) ?_) | (with_reducible refine Stuck.h (A := ModG _ _ _) ?_) | (with_reducible refine Stuck.h (A := ShlG _ _ _ _) ?_) | (with_reducible refine Stuck.h (A := ShrG _ _ _ _) ?_) | (with_reducible refine Stuck.h (A := BitG _ _ _ _ _) ?_)
  | (with_reducible refine Stuck.h (A := IdxG _ _ _) ?_) | (with_reducible refine Stuck.h (A := IdxL _ _ _) ?_) | (with_reducible refine Stuck.h (A := SlcG _ _ _ _ _) ?_) | (with_reducible refine Stuck.h (A := MakG _ _ _ _) ?_) | (with_reducible refine Stuck.h (A := AppG _ _ _ _ _ _ _) ?_) | (with_reducible refine Stuck.h (A := FzG _ _ _ _) ?_)
  | (with_reducible refine Stuck.h (A := RawG _) ?_) | (with_reducible refine Stuck.h (A := TabG _ _ _ _ _) ?_) | (with_reducible refine Stuck.h (A := ExtF _ _ _ _) ?_) | (with_reducible refine Stuck.h (A := Chk _ _) ?_) | (with_reducible refine Stuck.h (A := False) ?_))
      exact ⟨ret_e rfl⟩
    · rw [if_neg hL, e]
      rw [natT_ok (by omega)] at f1
      have f5 := n_ntold (G := G) false (n.natAbs + m.natAbs)
      refine FC.intro (X := XX) tok Tryz.func75 rfl Tryz.ntmps75 (by rw [Tryz.results75]) (by kernel_rfl) rfl ?_; intro F hG hO
      rw [← hG] at f0 g0 f1 f5
      repeat' ((try (conv => whnf)); first
  | ((with_reducible refine cg ?_); refine call_eq (f0) (LpL.refl _) rfl ?_)
  | ((with_reducible refine cg ?_); refine call_eq (g0) (LpL.refl _) rfl ?_)
  | ((with_reducible refine cg ?_); refine call_eq (f1) (LpL.refl _) rfl ?_)
  | ((with_reducible refine cg ?_); refine call_eq (f5) (LpL.refl _) rfl ?_)
  
  | (with_reducible refine Chk.mk' (by first | omega | exact trivial | (simp only [List.length_append, List.length_set, List.length_replicate, List.length_take, List.length_drop, List.length_cons, List.length_nil, List.length_map]; omega)) ?_)
  | (with_reducible refine wrap_g (by dsimp only [inR]; omega) ?_)
  | (with_reducible refine idx_g (by omega) ?_)
  | (with_reducible refine idx_l _ rfl (by decide) ?_)
  | (with_reducible refine BothG.mk ?_ ?_)
  | (with_reducible refine fork_tt ?_) | (with_reducible refine fork_ff ?_)
  | (with_reducible refine fork_e (c := true) (by decide) ?_; with_reducible refine fork_tt ?_) | (with_reducible refine fork_e (c := false) (by decide) ?_; with_reducible refine fork_ff ?_)
  | (with_reducible refine fork_t (by omega) ?_) | (with_reducible refine fork_f (by omega) ?_)
  | (with_reducible refine fork_d ?_ ?_ <;> intro hc)
  | (with_reducible refine fork_n ?_)
  | (with_reducible refine fork_b ?_ ?_ <;> intro hc)
  | (with_reducible refine SlcG.mk (by omega) ?_)
  | (with_reducible refine MakG.mk (by dsimp only; omega) ?_)
  | (with_reducible refine AppG.mk (by first | omega | (simp only [List.length_append, List.length_set, List.length_replicate, List.length_take, List.length_drop, List.length_cons, List.length_nil, List.length_map]; omega)) (by dsimp only [List.length_cons, List.length_nil]; omega) (by omega) ?_)
  | (with_reducible refine div_g (by omega) (by omega) (by dsimp only [inR]; omega) ?_)
  | (with_reducible refine mod_g (by omega) (by omega) ?_)
  | (with_reducible refine mask_g (m := 4294967296) 32 rfl rfl (by decide) (by omega) ?_)
  | (with_reducible refine shr_g (m := 4294967296) 32 rfl (by decide) (by omega) rfl ?_)
  | (with_reducible refine fz_all (by omega) ?_)
  | (with_reducible refine Stuck.h (A := RetE _ _) ?_) | (with_reducible refine Stuck.h (A := RetM _ _ _ _) ?_) | (with_reducible refine Stuck.h (A := Again _ _ _ _ _ _ _ _) ?_) | (with_reducible refine Stuck.h (A := CallF _ _ _ _ _ _ _) ?_) | (with_reducible refine Stuck.h (A := LoopG _ _ _ _ _ _ _ _) ?_) | (with_reducible refine Stuck.h (A := DrawG _ _ _ _ _ _ _ _) ?_)
  | (with_reducible refine Stuck.h (A := WrapG _ _ _) ?_) | (with_reducible refine Stuck.h (A := DivG _ _ _ _) ?_) | (with_reducible refine Stuck.h (A := ModG _ _ _) ?_) | (with_reducible refine Stuck.h (A := ShlG _ _ _ _) ?_) | (with_reducible refine Stuck.h (A := ShrG _ _ _ _) ?_) | (with_reducible refine Stuck.h (A := BitG _ _ _ _ _) ?_)
  | (with_reducible refine Stuck.h (A := IdxG _ _ _) ?_) | (with_reducible refine Stuck.h (A := IdxL _ _ _) ?_) | (with_reducible refine Stuck.h (A := SlcG _ _ _ _ _) ?_) | (with_reducible refine Stuck.h (A := MakG _ _ _ _) ?_) | (with_reducible refine Stuck.h (A := AppG _ _ _ _ _ _ _) ?_) | (with_reducible refine Stuck.h (A := FzG _ _ _ _) ?_)
  | (with_reducible refine Stuck.h (A := RawG _) ?_) | (with_reducible refine Stuck.h (A := TabG _ _ _ _ _) ?_) | (with_reducible refine Stuck.h (A := ExtF _ _ _ _) ?_) | (with_reducible refine Stuck.h (A := Chk _ _) ?_) | (with_reducible refine Stuck.h (A := False) ?_))
      exact ⟨ret_e rfl⟩
end Go.Proofs.YtbeocnjlepcglaaGreatDoor.Sim
namespace Go.Proofs.YtbeocnjlepcglaaGreatDoor.Sim
open Go.RowKit
set_option linter.unusedVariables false
set_option linter.unusedSimpArgs false
set_option maxRecDepth 10000
set_option maxHeartbeats 8000000
variable {G : List (Nat × List Value)}
def moreB (up b s : Bool) : Bool := match up with
  | true => !b && s
  | false => b && s
def wayV (up : Bool) : Int := match up with
  | true => 1
  | false => 0
theorem n_more (up b o s : Bool) (h : Int) : FC Tryz.prog G 174 [.val (.int .i64 (wayV up)), .val (.bool b), .val (.bool o), .val (.bool s), .val (.int .i64 h)] (· = .val (.bool (moreB up b s))) := by
  cases up <;> cases b
  all_goals
    refine FC.intro (X := XX) tok Tryz.func174 rfl Tryz.ntmps174 (by rw [Tryz.results174]) (by kernel_rfl) rfl ?_; intro F hG hO
    repeat' ((try (conv => whnf)); first
  
  | (with_reducible refine Chk.mk' (by first | omega | exact trivial | (simp only [List.length_append, List.length_set, List.length_replicate, List.length_take, List.length_drop, List.length_cons, List.length_nil, List.length_map]; omega)) ?_)
  | (with_reducible refine wrap_g (by dsimp only [inR]; omega) ?_)
  | (with_reducible refine idx_g (by omega) ?_)
  | (with_reducible refine idx_l _ rfl (by decide) ?_)
  | (with_reducible refine BothG.mk ?_ ?_)
  | (with_reducible refine fork_tt ?_) | (with_reducible refine fork_ff ?_)
  | (with_reducible refine fork_e (c := true) (by decide) ?_; with_reducible refine fork_tt ?_) | (with_reducible refine fork_e (c := false) (by decide) ?_; with_reducible refine fork_ff ?_)
  | (with_reducible refine fork_t (by omega) ?_) | (with_reducible refine fork_f (by omega) ?_)
  | (with_reducible refine fork_d ?_ ?_ <;> intro hc)
  | (with_reducible refine fork_n ?_)
  | (with_reducible refine fork_b ?_ ?_ <;> intro hc)
  | (with_reducible refine SlcG.mk (by omega) ?_)
  | (with_reducible refine MakG.mk (by dsimp only; omega) ?_)
  | (with_reducible refine AppG.mk (by first | omega | (simp only [List.length_append, List.length_set, List.length_replicate, List.length_take, List.length_drop, List.length_cons, List.length_nil, List.length_map]; omega)) (by dsimp only [List.length_cons, List.length_nil]; omega) (by omega) ?_)
  | (with_reducible refine div_g (by omega) (by omega) (by dsimp only [inR]; omega) ?_)
  | (with_reducible refine mod_g (by omega) (by omega) ?_)
  | (with_reducible refine mask_g (m := 4294967296) 32 rfl rfl (by decide) (by omega) ?_)
  | (with_reducible refine shr_g (m := 4294967296) 32 rfl (by decide) (by omega) rfl ?_)
  | (with_reducible refine fz_all (by omega) ?_)
  | (with_reducible refine Stuck.h (A := RetE _ _) ?_) | (with_reducible refine Stuck.h (A := RetM _ _ _ _) ?_) | (with_reducible refine Stuck.h (A := Again _ _ _ _ _ _ _ _) ?_) | (with_reducible refine Stuck.h (A := CallF _ _ _ _ _ _ _) ?_) | (with_reducible refine Stuck.h (A := LoopG _ _ _ _ _ _ _ _) ?_) | (with_reducible refine Stuck.h (A := DrawG _ _ _ _ _ _ _ _) ?_)
  | (with_reducible refine Stuck.h (A := WrapG _ _ _) ?_) | (with_reducible refine Stuck.h (A := DivG _ _ _ _) ?_) | (with_reducible refine Stuck.h (A := ModG _ _ _) ?_) | (with_reducible refine Stuck.h (A := ShlG _ _ _ _) ?_) | (with_reducible refine Stuck.h (A := ShrG _ _ _ _) ?_) | (with_reducible refine Stuck.h (A := BitG _ _ _ _ _) ?_)
  | (with_reducible refine Stuck.h (A := IdxG _ _ _) ?_) | (with_reducible refine Stuck.h (A := IdxL _ _ _) ?_) | (with_reducible refine Stuck.h (A := SlcG _ _ _ _ _) ?_) | (with_reducible refine Stuck.h (A := MakG _ _ _ _) ?_) | (with_reducible refine Stuck.h (A := AppG _ _ _ _ _ _ _) ?_) | (with_reducible refine Stuck.h (A := FzG _ _ _ _) ?_)
  | (with_reducible refine Stuck.h (A := RawG _) ?_) | (with_reducible refine Stuck.h (A := TabG _ _ _ _ _) ?_) | (with_reducible refine Stuck.h (A := ExtF _ _ _ _) ?_) | (with_reducible refine Stuck.h (A := Chk _ _) ?_) | (with_reducible refine Stuck.h (A := False) ?_))
    exact ⟨ret_e rfl⟩
theorem n_made (up b : Bool) (Q : Nat) (s : Bool) (h : Int) (hQ : L64 Q ≤ 8192) (hQ1 : s = true → L64 (Q + 1) ≤ 8192) : FC Tryz.prog G 166 [.val (.int .i64 (wayV up)), .val (.bool b), .ws .u64 (d64 Q), .val (.bool s), .val (.int .i64 h)] (· = numR (sg b (if moreB up b s = true then Q + 1 else Q))) := by
  have f1 := n_bit (G := G) Q 0 (by omega) (by dsimp only [inR]; omega)
  obtain ⟨o, ho⟩ : ∃ o, o = decide (0 ≤ (0 : Int) ∧ Q / 2 ^ (Int.toNat 0) % 2 = 1) := ⟨_, rfl⟩
  rw [← ho] at f1
  clear ho
  have f2 := n_more (G := G) up b o s h
  have f3 := n_word (G := G) 1 (by decide)
  have f4 := n_ntold (G := G) b Q
  obtain ⟨r, hr⟩ : ∃ r, r = moreB up b s := ⟨_, rfl⟩
  rw [← hr] at f2 ⊢
  have hrs : r = true → s = true := fun h => by rw [h] at hr; cases up <;> cases b <;> cases s <;> first | rfl | exact absurd hr (by decide)
  cases r
  · rw [if_neg (by decide)]
    clear hQ1 hrs hr
    refine FC.intro (X := XX) tok Tryz.func166 rfl Tryz.ntmps166 (by rw [Tryz.results166]) (by kernel_rfl) rfl ?_; intro F hG hO
    rw [← hG] at f1 f2 f3 f4
    repeat' ((try (conv => whnf)); first
  | ((with_reducible refine cg ?_); refine call_eq (f1) (LpL.refl _) rfl ?_)
  | ((with_reducible refine cg ?_); refine call_eq (f2) (LpL.refl _) rfl ?_)
  | ((with_reducible refine cg ?_); refine call_eq (f4) (LpL.refl _) rfl ?_)
  
  | (with_reducible refine Chk.mk' (by first | omega | exact trivial | (simp only [List.length_append, List.length_set, List.length_replicate, List.length_take, List.length_drop, List.length_cons, List.length_nil, List.length_map]; omega)) ?_)
  | (with_reducible refine wrap_g (by dsimp only [inR]; omega) ?_)
  | (with_reducible refine idx_g (by omega) ?_)
  | (with_reducible refine idx_l _ rfl (by decide) ?_)
  | (with_reducible refine BothG.mk ?_ ?_)
  | (with_reducible refine fork_tt ?_) | (with_reducible refine fork_ff ?_)
  | (with_reducible refine fork_e (c := true) (by decide) ?_; with_reducible refine fork_tt ?_) | (with_reducible refine fork_e (c := false) (by decide) ?_; with_reducible refine fork_ff ?_)
  | (with_reducible refine fork_t (by omega) ?_) | (with_reducible refine fork_f (by omega) ?_)
  | (with_reducible refine fork_d ?_ ?_ <;> intro hc)
  | (with_reducible refine fork_n ?_)
  | (with_reducible refine fork_b ?_ ?_ <;> intro hc)
  | (with_reducible refine SlcG.mk (by omega) ?_)
  | (with_reducible refine MakG.mk (by dsimp only; omega) ?_)
  | (with_reducible refine AppG.mk (by first | omega | (simp only [List.length_append, List.length_set, List.length_replicate, List.length_take, List.length_drop, List.length_cons, List.length_nil, List.length_map]; omega)) (by dsimp only [List.length_cons, List.length_nil]; omega) (by omega) ?_)
  | (with_reducible refine div_g (by omega) (by omega) (by dsimp only [inR]; omega) ?_)
  | (with_reducible refine mod_g (by omega) (by omega) ?_)
  | (with_reducible refine mask_g (m := 4294967296) 32 rfl rfl (by decide) (by omega) ?_)
  | (with_reducible refine shr_g (m := 4294967296) 32 rfl (by decide) (by omega) rfl ?_)
  | (with_reducible refine fz_all (by omega) ?_)
  | (with_reducible refine Stuck.h (A := RetE _ _) ?_) | (with_reducible refine Stuck.h (A := RetM _ _ _ _) ?_) | (with_reducible refine Stuck.h (A := Again _ _ _ _ _ _ _ _) ?_) | (with_reducible refine Stuck.h (A := CallF _ _ _ _ _ _ _) ?_) | (with_reducible refine Stuck.h (A := LoopG _ _ _ _ _ _ _ _) ?_) | (with_reducible refine Stuck.h (A := DrawG _ _ _ _ _ _ _ _) ?_)
  | (with_reducible refine Stuck.h (A := WrapG _ _ _) ?_) | (with_reducible refine Stuck.h (A := DivG _ _ _ _) ?_) | (with_reducible refine Stuck.h (A := ModG _ _ _) ?_) | (with_reducible refine Stuck.h (A := ShlG _ _ _ _) ?_) | (with_reducible refine Stuck.h (A := ShrG _ _ _ _) ?_) | (with_reducible refine Stuck.h (A := BitG _ _ _ _ _) ?_)
  | (with_reducible refine Stuck.h (A := IdxG _ _ _) ?_) | (with_reducible refine Stuck.h (A := IdxL _ _ _) ?_) | (with_reducible refine Stuck.h (A := SlcG _ _ _ _ _) ?_) | (with_reducible refine Stuck.h (A := MakG _ _ _ _) ?_) | (with_reducible refine Stuck.h (A := AppG _ _ _ _ _ _ _) ?_) | (with_reducible refine Stuck.h (A := FzG _ _ _ _) ?_)
  | (with_reducible refine Stuck.h (A := RawG _) ?_) | (with_reducible refine Stuck.h (A := TabG _ _ _ _ _) ?_) | (with_reducible refine Stuck.h (A := ExtF _ _ _ _) ?_) | (with_reducible refine Stuck.h (A := Chk _ _) ?_) | (with_reducible refine Stuck.h (A := False) ?_))
    exact ⟨ret_e rfl⟩
  · rw [if_pos rfl]
    have hq := hQ1 (hrs rfl)
    have l1 : L64 1 ≤ 8192 := Nat.le_trans (L64_le (n := 1) (by decide)) (by decide)
    have f5 := n_add (G := G) Q 1 hQ l1
    rw [natT_ok hq] at f5
    have f6 := n_ntold (G := G) b (Q + 1)
    clear hQ1 hrs hr
    refine FC.intro (X := XX) tok Tryz.func166 rfl Tryz.ntmps166 (by rw [Tryz.results166]) (by kernel_rfl) rfl ?_; intro F hG hO
    rw [← hG] at f1 f2 f3 f5 f6
    repeat' ((try (conv => whnf)); first
  | ((with_reducible refine cg ?_); refine call_eq (f1) (LpL.refl _) rfl ?_)
  | ((with_reducible refine cg ?_); refine call_eq (f2) (LpL.refl _) rfl ?_)
  | ((with_reducible refine cg ?_); refine call_eq (f3) (LpL.refl _) rfl ?_)
  | ((with_reducible refine cg ?_); refine call_eq (f5) (LpL.refl _) rfl ?_)
  | ((with_reducible refine cg ?_); refine call_eq (f6) (LpL.refl _) rfl ?_)
  
  | (with_reducible refine Chk.mk' (by first | omega | exact trivial | (simp only [List.length_append, List.length_set, List.length_replicate, List.length_take, List.length_drop, List.length_cons, List.length_nil, List.length_map]; omega)) ?_)
  | (with_reducible refine wrap_g (by dsimp only [inR]; omega) ?_)
  | (with_reducible refine idx_g (by omega) ?_)
  | (with_reducible refine idx_l _ rfl (by decide) ?_)
  | (with_reducible refine BothG.mk ?_ ?_)
  | (with_reducible refine fork_tt ?_) | (with_reducible refine fork_ff ?_)
  | (with_reducible refine fork_e (c := true) (by decide) ?_; with_reducible refine fork_tt ?_) | (with_reducible refine fork_e (c := false) (by decide) ?_; with_reducible refine fork_ff ?_)
  | (with_reducible refine fork_t (by omega) ?_) | (with_reducible refine fork_f (by omega) ?_)
  | (with_reducible refine fork_d ?_ ?_ <;> intro hc)
  | (with_reducible refine fork_n ?_)
  | (with_reducible refine fork_b ?_ ?_ <;> intro hc)
  | (with_reducible refine SlcG.mk (by omega) ?_)
  | (with_reducible refine MakG.mk (by dsimp only; omega) ?_)
  | (with_reducible refine AppG.mk (by first | omega | (simp only [List.length_append, List.length_set, List.length_replicate, List.length_take, List.length_drop, List.length_cons, List.length_nil, List.length_map]; omega)) (by dsimp only [List.length_cons, List.length_nil]; omega) (by omega) ?_)
  | (with_reducible refine div_g (by omega) (by omega) (by dsimp only [inR]; omega) ?_)
  | (with_reducible refine mod_g (by omega) (by omega) ?_)
  | (with_reducible refine mask_g (m := 4294967296) 32 rfl rfl (by decide) (by omega) ?_)
  | (with_reducible refine shr_g (m := 4294967296) 32 rfl (by decide) (by omega) rfl ?_)
  | (with_reducible refine fz_all (by omega) ?_)
  | (with_reducible refine Stuck.h (A := RetE _ _) ?_) | (with_reducible refine Stuck.h (A := RetM _ _ _ _) ?_) | (with_reducible refine Stuck.h (A := Again _ _ _ _ _ _ _ _) ?_) | (with_reducible refine Stuck.h (A := CallF _ _ _ _ _ _ _) ?_) | (with_reducible refine Stuck.h (A := LoopG _ _ _ _ _ _ _ _) ?_) | (with_reducible refine Stuck.h (A := DrawG _ _ _ _ _ _ _ _) ?_)
  | (with_reducible refine Stuck.h (A := WrapG _ _ _) ?_) | (with_reducible refine Stuck.h (A := DivG _ _ _ _) ?_) | (with_reducible refine Stuck.h (A := ModG _ _ _) ?_) | (with_reducible refine Stuck.h (A := ShlG _ _ _ _) ?_) | (with_reducible refine Stuck.h (A := ShrG _ _ _ _) ?_) | (with_reducible refine Stuck.h (A := BitG _ _ _ _ _) ?_)
  | (with_reducible refine Stuck.h (A := IdxG _ _ _) ?_) | (with_reducible refine Stuck.h (A := IdxL _ _ _) ?_) | (with_reducible refine Stuck.h (A := SlcG _ _ _ _ _) ?_) | (with_reducible refine Stuck.h (A := MakG _ _ _ _) ?_) | (with_reducible refine Stuck.h (A := AppG _ _ _ _ _ _ _) ?_) | (with_reducible refine Stuck.h (A := FzG _ _ _ _) ?_)
  | (with_reducible refine Stuck.h (A := RawG _) ?_) | (with_reducible refine Stuck.h (A := TabG _ _ _ _ _) ?_) | (with_reducible refine Stuck.h (A := ExtF _ _ _ _) ?_) | (with_reducible refine Stuck.h (A := Chk _ _) ?_) | (with_reducible refine Stuck.h (A := False) ?_))
    exact ⟨ret_e rfl⟩
theorem tz_lt_iff {X k : Nat} (h : X ≠ 0) : tz X < k ↔ X % 2 ^ k ≠ 0 := by
  obtain ⟨m, h1, h2⟩ := tz_ok h
  obtain ⟨t, ht⟩ : ∃ t, t = tz X := ⟨_, rfl⟩
  rw [← ht] at h1 ⊢
  constructor
  · intro hlt h0
    obtain ⟨j, hj⟩ : ∃ j, k = t + (j + 1) := ⟨k - t - 1, by omega⟩
    have hd : 2 ^ k ∣ X := Nat.dvd_of_mod_eq_zero h0
    obtain ⟨q, hq⟩ := hd
    rw [hj, Nat.pow_add, h1] at hq
    have h3 : m = 2 ^ (j + 1) * q := by
      have h4 : m * 2 ^ t = 2 ^ (j + 1) * q * 2 ^ t := by rw [hq, Nat.mul_assoc, Nat.mul_comm]
      exact Nat.eq_of_mul_eq_mul_right (Nat.pow_pos (by decide)) h4
    rw [Nat.pow_succ] at h3
    have : m % 2 = 0 := by rw [h3, Nat.mul_right_comm, Nat.mul_mod_left]
    omega
  · intro hne
    rcases Nat.lt_or_ge t k with h3 | h3
    · exact h3
    · exfalso
      apply hne
      rw [h1, show t = (t - k) + k by omega, Nat.pow_add, ← Nat.mul_assoc, Nat.mul_mod_left]
theorem shr_way (up : Bool) (n : Int) (k : Nat) (s : Bool) (hs : s = decide (n.natAbs % 2 ^ k ≠ 0)) : sg (decide (n < 0)) (if moreB up (decide (n < 0)) s = true then n.natAbs / 2 ^ k + 1 else n.natAbs / 2 ^ k) = wholeS n (k : Int) up := by
  unfold wholeS
  rw [Int.toNat_natCast]
  have hP0 : 0 < 2 ^ k := Nat.pow_pos (by decide)
  have hPi : (2 : Int) ^ k = ((2 ^ k : Nat) : Int) := by simp
  obtain ⟨d1, d2⟩ := nat_dm n.natAbs (2 ^ k) hP0
  rw [hPi]
  obtain ⟨P, hP⟩ : ∃ P, P = 2 ^ k := ⟨_, rfl⟩
  rw [← hP] at hs hP0 d1 d2 ⊢
  obtain ⟨q, hq⟩ : ∃ q, q = n.natAbs / P := ⟨_, rfl⟩
  obtain ⟨r, hr⟩ : ∃ r, r = n.natAbs % P := ⟨_, rfl⟩
  rw [← hq] at d1 ⊢
  rw [← hr] at d1 d2 hs
  by_cases hn : n < 0 <;> by_cases h0 : r = 0
  · rw [decide_eq_true hn]
    rw [decide_eq_false (by omega)] at hs
    subst hs
    cases up
    · exact (div_of (a := n) (b := (P : Int)) (q := -(q : Int)) (r := r) (by omega) (by rw [Int.mul_neg]; omega) (by omega) (by omega)).1.symm
    · show -(q : Int) = -((-n) / (P : Int))
      rw [(div_of (a := -n) (b := (P : Int)) (q := (q : Int)) (r := r) (by omega) (by omega) (by omega) (by omega)).1]
  · rw [decide_eq_true hn]
    rw [decide_eq_true (by omega)] at hs
    subst hs
    cases up
    · exact (div_of (a := n) (b := (P : Int)) (q := -((q + 1 : Nat) : Int)) (r := (P : Int) - r) (by omega) (by rw [Int.mul_neg, Int.natCast_add, Int.mul_add]; omega) (by omega) (by omega)).1.symm
    · show -(q : Int) = -((-n) / (P : Int))
      rw [(div_of (a := -n) (b := (P : Int)) (q := (q : Int)) (r := r) (by omega) (by omega) (by omega) (by omega)).1]
  · rw [decide_eq_false hn]
    rw [decide_eq_false (by omega)] at hs
    subst hs
    cases up
    · exact (div_of (a := n) (b := (P : Int)) (q := (q : Int)) (r := r) (by omega) (by omega) (by omega) (by omega)).1.symm
    · show (q : Int) = -((-n) / (P : Int))
      rw [(div_of (a := -n) (b := (P : Int)) (q := -(q : Int)) (r := r) (by omega) (by rw [Int.mul_neg]; omega) (by omega) (by omega)).1, Int.neg_neg]
  · rw [decide_eq_false hn]
    rw [decide_eq_true (by omega)] at hs
    subst hs
    cases up
    · exact (div_of (a := n) (b := (P : Int)) (q := (q : Int)) (r := r) (by omega) (by omega) (by omega) (by omega)).1.symm
    · show ((q + 1 : Nat) : Int) = -((-n) / (P : Int))
      rw [(div_of (a := -n) (b := (P : Int)) (q := -((q + 1 : Nat) : Int)) (r := (P : Int) - r) (by omega) (by rw [Int.mul_neg, Int.natCast_add, Int.mul_add]; omega) (by omega) (by omega)).1, Int.neg_neg]
end Go.Proofs.YtbeocnjlepcglaaGreatDoor.Sim
namespace Go.Proofs.YtbeocnjlepcglaaGreatDoor.Sim
open Go.RowKit
set_option linter.unusedVariables false
set_option linter.unusedSimpArgs false
set_option maxRecDepth 10000
set_option maxHeartbeats 8000000
variable {G : List (Nat × List Value)}
theorem shr_one {X k : Nat} (h0 : X ≠ 0) (hk : tz X < k) : X / 2 ^ k + 1 ≤ X := by
  have h1 : 2 ^ 1 ≤ 2 ^ k := Nat.pow_le_pow_right (by decide) (by omega)
  have h2 : X / 2 ^ k ≤ X / 2 ^ 1 := Nat.div_le_div_left h1 (by decide)
  rw [Nat.pow_one] at h2
  omega
theorem n_wshr {g : List (Nat × List Value)} (hD : (0, debT.map (Value.int .u8)) ∈ g) (up : Bool) (n k : Int) (h : L64 n.natAbs ≤ 8192) (hk : inR .i64 k) (hk0 : 0 ≤ k) : FC Tryz.prog g 152 [.val (.int .i64 (wayV up)), NI n, .val (.int .i64 k)] (· = numR (wholeS n k up)) := by
  have hk1 := hk
  dsimp only [inR] at hk
  have hp := len64_pos n.natAbs
  have f0 := n_nform (G := g) n h
  have f1 := n_shr (G := g) n.natAbs k h hk1
  rw [shrT_ok (by omega)] at f1
  have f2 := n_trail hD n.natAbs (by omega)
  have f3 := n_bit (G := g) n.natAbs (k - 1) (by omega) (by dsimp only [inR]; omega)
  have hQ : L64 (n.natAbs / 2 ^ k.toNat) ≤ 8192 := Nat.le_trans (lenB_mono (by decide) (Nat.div_le_self _ _)) h
  have hw0 : Unit → n.natAbs = 0 → sg (decide (n < 0)) (if moreB up (decide (n < 0)) false = true then n.natAbs / 2 ^ k.toNat + 1 else n.natAbs / 2 ^ k.toNat) = wholeS n ((k.toNat : Nat) : Int) up := fun _ h0 => shr_way up n k.toNat false (decide_eq_false (by rw [h0]; simp)).symm
  have hw1 : Unit → n.natAbs ≠ 0 → sg (decide (n < 0)) (if moreB up (decide (n < 0)) (decide ((tz n.natAbs : Int) < k)) = true then n.natAbs / 2 ^ k.toNat + 1 else n.natAbs / 2 ^ k.toNat) = wholeS n ((k.toNat : Nat) : Int) up := fun _ h0 => shr_way up n k.toNat (decide ((tz n.natAbs : Int) < k)) (decide_eq_decide.2 (by rw [← tz_lt_iff h0]; omega))
  rw [show ((k.toNat : Nat) : Int) = k by omega] at hw0 hw1
  have f4 := fun b s c hs => n_made (G := g) up b (n.natAbs / 2 ^ k.toNat) s c hQ hs
  have hs1 : Unit → n.natAbs ≠ 0 → decide ((tz n.natAbs : Int) < k) = true → L64 (n.natAbs / 2 ^ k.toNat + 1) ≤ 8192 := fun _ h0 hd => Nat.le_trans (lenB_mono (by decide) (shr_one h0 (by have := of_decide_eq_true hd; omega))) h
  have hbo : PV.val (.int .i64 (wayV up)) = PV.val (.int .i64 (wayV up)) := rfl
  obtain ⟨w, hw⟩ : ∃ w, w = wayV up := ⟨_, rfl⟩
  rw [← hw] at f4 ⊢
  refine FC.intro (X := XX) tok Tryz.func152 rfl Tryz.ntmps152 (by rw [Tryz.results152]) (by kernel_rfl) rfl ?_; intro F hG hO
  rw [← hG] at f0 f1 f2 f3 f4
  repeat' ((try (conv => whnf)); first
  | ((with_reducible refine cg ?_); refine call_eq (f0) (LpL.refl _) rfl ?_)
  | ((with_reducible refine cg ?_); refine call_eq (f1) (LpL.refl _) rfl ?_)
  | ((with_reducible refine cg ?_); refine call_eq (f2) (LpL.refl _) rfl ?_)
  | ((with_reducible refine cg ?_); refine call_eq (f3) (LpL.refl _) rfl ?_)
  | ((with_reducible refine cg ?_); refine call_eq (f4 _ _ _ (by first | exact hs1 () (by omega) | (intro hx; cases hx))) (LpL.refl _) rfl ?_)
  
  | (with_reducible refine Chk.mk' (by first | omega | exact trivial | (simp only [List.length_append, List.length_set, List.length_replicate, List.length_take, List.length_drop, List.length_cons, List.length_nil, List.length_map]; omega)) ?_)
  | (with_reducible refine wrap_g (by dsimp only [inR]; omega) ?_)
  | (with_reducible refine idx_g (by omega) ?_)
  | (with_reducible refine idx_l _ rfl (by decide) ?_)
  | (with_reducible refine BothG.mk ?_ ?_)
  | (with_reducible refine fork_tt ?_) | (with_reducible refine fork_ff ?_)
  | (with_reducible refine fork_e (c := true) (by decide) ?_; with_reducible refine fork_tt ?_) | (with_reducible refine fork_e (c := false) (by decide) ?_; with_reducible refine fork_ff ?_)
  | (with_reducible refine fork_t (by omega) ?_) | (with_reducible refine fork_f (by omega) ?_)
  | (with_reducible refine fork_d ?_ ?_ <;> intro hc)
  | (with_reducible refine fork_n ?_)
  | (with_reducible refine fork_b ?_ ?_ <;> intro hc)
  | (with_reducible refine SlcG.mk (by omega) ?_)
  | (with_reducible refine MakG.mk (by dsimp only; omega) ?_)
  | (with_reducible refine AppG.mk (by first | omega | (simp only [List.length_append, List.length_set, List.length_replicate, List.length_take, List.length_drop, List.length_cons, List.length_nil, List.length_map]; omega)) (by dsimp only [List.length_cons, List.length_nil]; omega) (by omega) ?_)
  | (with_reducible refine div_g (by omega) (by omega) (by dsimp only [inR]; omega) ?_)
  | (with_reducible refine mod_g (by omega) (by omega) ?_)
  | (with_reducible refine mask_g (m := 4294967296) 32 rfl rfl (by decide) (by omega) ?_)
  | (with_reducible refine shr_g (m := 4294967296) 32 rfl (by decide) (by omega) rfl ?_)
  | (with_reducible refine fz_all (by omega) ?_)
  | (with_reducible refine Stuck.h (A := RetE _ _) ?_) | (with_reducible refine Stuck.h (A := RetM _ _ _ _) ?_) | (with_reducible refine Stuck.h (A := Again _ _ _ _ _ _ _ _) ?_) | (with_reducible refine Stuck.h (A := CallF _ _ _ _ _ _ _) ?_) | (with_reducible refine Stuck.h (A := LoopG _ _ _ _ _ _ _ _) ?_) | (with_reducible refine Stuck.h (A := DrawG _ _ _ _ _ _ _ _) ?_)
  | (with_reducible refine Stuck.h (A := WrapG _ _ _) ?_) | (with_reducible refine Stuck.h (A := DivG _ _ _ _) ?_) | (with_reducible refine Stuck.h (A := ModG _ _ _) ?_) | (with_reducible refine Stuck.h (A := ShlG _ _ _ _) ?_) | (with_reducible refine Stuck.h (A := ShrG _ _ _ _) ?_) | (with_reducible refine Stuck.h (A := BitG _ _ _ _ _) ?_)
  | (with_reducible refine Stuck.h (A := IdxG _ _ _) ?_) | (with_reducible refine Stuck.h (A := IdxL _ _ _) ?_) | (with_reducible refine Stuck.h (A := SlcG _ _ _ _ _) ?_) | (with_reducible refine Stuck.h (A := MakG _ _ _ _) ?_) | (with_reducible refine Stuck.h (A := AppG _ _ _ _ _ _ _) ?_) | (with_reducible refine Stuck.h (A := FzG _ _ _ _) ?_)
  | (with_reducible refine Stuck.h (A := RawG _) ?_) | (with_reducible refine Stuck.h (A := TabG _ _ _ _ _) ?_) | (with_reducible refine Stuck.h (A := ExtF _ _ _ _) ?_) | (with_reducible refine Stuck.h (A := Chk _ _) ?_) | (with_reducible refine Stuck.h (A := False) ?_))
  all_goals first
    | exact ⟨ret_e (numR_eq (hw1 () (by omega)))⟩
    | exact ⟨ret_e (numR_eq (hw0 () (by omega)))⟩
theorem n_floorshr {g : List (Nat × List Value)} (hD : (0, debT.map (Value.int .u8)) ∈ g) (n k : Int) (h : L64 n.natAbs ≤ 8192) (hk : inR .i64 k) (hk0 : 0 ≤ k) : FC Tryz.prog g 129 [NI n, .val (.int .i64 k)] (· = numR (wholeS n k false)) := by
  have f1 := n_wshr hD false n k h hk hk0
  refine FC.intro (X := XX) tok Tryz.func129 rfl Tryz.ntmps129 (by rw [Tryz.results129]) (by kernel_rfl) rfl ?_; intro F hG hO
  rw [← hG] at f1
  repeat' ((try (conv => whnf)); first
  | ((with_reducible refine cg ?_); refine call_eq (f1) (LpL.refl _) rfl ?_)
  
  | (with_reducible refine Chk.mk' (by first | omega | exact trivial | (simp only [List.length_append, List.length_set, List.length_replicate, List.length_take, List.length_drop, List.length_cons, List.length_nil, List.length_map]; omega)) ?_)
  | (with_reducible refine wrap_g (by dsimp only [inR]; omega) ?_)
  | (with_reducible refine idx_g (by omega) ?_)
  | (with_reducible refine idx_l _ rfl (by decide) ?_)
  | (with_reducible refine BothG.mk ?_ ?_)
  | (with_reducible refine fork_tt ?_) | (with_reducible refine fork_ff ?_)
  | (with_reducible refine fork_e (c := true) (by decide) ?_; with_reducible refine fork_tt ?_) | (with_reducible refine fork_e (c := false) (by decide) ?_; with_reducible refine fork_ff ?_)
  | (with_reducible refine fork_t (by omega) ?_) | (with_reducible refine fork_f (by omega) ?_)
  | (with_reducible refine fork_d ?_ ?_ <;> intro hc)
  | (with_reducible refine fork_n ?_)
  | (with_reducible refine fork_b ?_ ?_ <;> intro hc)
  | (with_reducible refine SlcG.mk (by omega) ?_)
  | (with_reducible refine MakG.mk (by dsimp only; omega) ?_)
  | (with_reducible refine AppG.mk (by first | omega | (simp only [List.length_append, List.length_set, List.length_replicate, List.length_take, List.length_drop, List.length_cons, List.length_nil, List.length_map]; omega)) (by dsimp only [List.length_cons, List.length_nil]; omega) (by omega) ?_)
  | (with_reducible refine div_g (by omega) (by omega) (by dsimp only [inR]; omega) ?_)
  | (with_reducible refine mod_g (by omega) (by omega) ?_)
  | (with_reducible refine mask_g (m := 4294967296) 32 rfl rfl (by decide) (by omega) ?_)
  | (with_reducible refine shr_g (m := 4294967296) 32 rfl (by decide) (by omega) rfl ?_)
  | (with_reducible refine fz_all (by omega) ?_)
  | (with_reducible refine Stuck.h (A := RetE _ _) ?_) | (with_reducible refine Stuck.h (A := RetM _ _ _ _) ?_) | (with_reducible refine Stuck.h (A := Again _ _ _ _ _ _ _ _) ?_) | (with_reducible refine Stuck.h (A := CallF _ _ _ _ _ _ _) ?_) | (with_reducible refine Stuck.h (A := LoopG _ _ _ _ _ _ _ _) ?_) | (with_reducible refine Stuck.h (A := DrawG _ _ _ _ _ _ _ _) ?_)
  | (with_reducible refine Stuck.h (A := WrapG _ _ _) ?_) | (with_reducible refine Stuck.h (A := DivG _ _ _ _) ?_) | (with_reducible refine Stuck.h (A := ModG _ _ _) ?_) | (with_reducible refine Stuck.h (A := ShlG _ _ _ _) ?_) | (with_reducible refine Stuck.h (A := ShrG _ _ _ _) ?_) | (with_reducible refine Stuck.h (A := BitG _ _ _ _ _) ?_)
  | (with_reducible refine Stuck.h (A := IdxG _ _ _) ?_) | (with_reducible refine Stuck.h (A := IdxL _ _ _) ?_) | (with_reducible refine Stuck.h (A := SlcG _ _ _ _ _) ?_) | (with_reducible refine Stuck.h (A := MakG _ _ _ _) ?_) | (with_reducible refine Stuck.h (A := AppG _ _ _ _ _ _ _) ?_) | (with_reducible refine Stuck.h (A := FzG _ _ _ _) ?_)
  | (with_reducible refine Stuck.h (A := RawG _) ?_) | (with_reducible refine Stuck.h (A := TabG _ _ _ _ _) ?_) | (with_reducible refine Stuck.h (A := ExtF _ _ _ _) ?_) | (with_reducible refine Stuck.h (A := Chk _ _) ?_) | (with_reducible refine Stuck.h (A := False) ?_))
  exact ⟨ret_e rfl⟩
theorem n_ceilshr {g : List (Nat × List Value)} (hD : (0, debT.map (Value.int .u8)) ∈ g) (n k : Int) (h : L64 n.natAbs ≤ 8192) (hk : inR .i64 k) (hk0 : 0 ≤ k) : FC Tryz.prog g 128 [NI n, .val (.int .i64 k)] (· = numR (wholeS n k true)) := by
  have f1 := n_wshr hD true n k h hk hk0
  refine FC.intro (X := XX) tok Tryz.func128 rfl Tryz.ntmps128 (by rw [Tryz.results128]) (by kernel_rfl) rfl ?_; intro F hG hO
  rw [← hG] at f1
  repeat' ((try (conv => whnf)); first
  | ((with_reducible refine cg ?_); refine call_eq (f1) (LpL.refl _) rfl ?_)
  
  | (with_reducible refine Chk.mk' (by first | omega | exact trivial | (simp only [List.length_append, List.length_set, List.length_replicate, List.length_take, List.length_drop, List.length_cons, List.length_nil, List.length_map]; omega)) ?_)
  | (with_reducible refine wrap_g (by dsimp only [inR]; omega) ?_)
  | (with_reducible refine idx_g (by omega) ?_)
  | (with_reducible refine idx_l _ rfl (by decide) ?_)
  | (with_reducible refine BothG.mk ?_ ?_)
  | (with_reducible refine fork_tt ?_) | (with_reducible refine fork_ff ?_)
  | (with_reducible refine fork_e (c := true) (by decide) ?_; with_reducible refine fork_tt ?_) | (with_reducible refine fork_e (c := false) (by decide) ?_; with_reducible refine fork_ff ?_)
  | (with_reducible refine fork_t (by omega) ?_) | (with_reducible refine fork_f (by omega) ?_)
  | (with_reducible refine fork_d ?_ ?_ <;> intro hc)
  | (with_reducible refine fork_n ?_)
  | (with_reducible refine fork_b ?_ ?_ <;> intro hc)
  | (with_reducible refine SlcG.mk (by omega) ?_)
  | (with_reducible refine MakG.mk (by dsimp only; omega) ?_)
  | (with_reducible refine AppG.mk (by first | omega | (simp only [List.length_append, List.length_set, List.length_replicate, List.length_take, List.length_drop, List.length_cons, List.length_nil, List.length_map]; omega)) (by dsimp only [List.length_cons, List.length_nil]; omega) (by omega) ?_)
  | (with_reducible refine div_g (by omega) (by omega) (by dsimp only [inR]; omega) ?_)
  | (with_reducible refine mod_g (by omega) (by omega) ?_)
  | (with_reducible refine mask_g (m := 4294967296) 32 rfl rfl (by decide) (by omega) ?_)
  | (with_reducible refine shr_g (m := 4294967296) 32 rfl (by decide) (by omega) rfl ?_)
  | (with_reducible refine fz_all (by omega) ?_)
  | (with_reducible refine Stuck.h (A := RetE _ _) ?_) | (with_reducible refine Stuck.h (A := RetM _ _ _ _) ?_) | (with_reducible refine Stuck.h (A := Again _ _ _ _ _ _ _ _) ?_) | (with_reducible refine Stuck.h (A := CallF _ _ _ _ _ _ _) ?_) | (with_reducible refine Stuck.h (A := LoopG _ _ _ _ _ _ _ _) ?_) | (with_reducible refine Stuck.h (A := DrawG _ _ _ _ _ _ _ _) ?_)
  | (with_reducible refine Stuck.h (A := WrapG _ _ _) ?_) | (with_reducible refine Stuck.h (A := DivG _ _ _ _) ?_) | (with_reducible refine Stuck.h (A := ModG _ _ _) ?_) | (with_reducible refine Stuck.h (A := ShlG _ _ _ _) ?_) | (with_reducible refine Stuck.h (A := ShrG _ _ _ _) ?_) | (with_reducible refine Stuck.h (A := BitG _ _ _ _ _) ?_)
  | (with_reducible refine Stuck.h (A := IdxG _ _ _) ?_) | (with_reducible refine Stuck.h (A := IdxL _ _ _) ?_) | (with_reducible refine Stuck.h (A := SlcG _ _ _ _ _) ?_) | (with_reducible refine Stuck.h (A := MakG _ _ _ _) ?_) | (with_reducible refine Stuck.h (A := AppG _ _ _ _ _ _ _) ?_) | (with_reducible refine Stuck.h (A := FzG _ _ _ _) ?_)
  | (with_reducible refine Stuck.h (A := RawG _) ?_) | (with_reducible refine Stuck.h (A := TabG _ _ _ _ _) ?_) | (with_reducible refine Stuck.h (A := ExtF _ _ _ _) ?_) | (with_reducible refine Stuck.h (A := Chk _ _) ?_) | (with_reducible refine Stuck.h (A := False) ?_))
  exact ⟨ret_e rfl⟩
end Go.Proofs.YtbeocnjlepcglaaGreatDoor.Sim
namespace Go.Proofs.YtbeocnjlepcglaaGreatDoor.Sim
open Go.RowKit
set_option linter.unusedVariables false
set_option linter.unusedSimpArgs false
set_option maxRecDepth 10000
set_option maxHeartbeats 8000000
variable {G : List (Nat × List Value)}
theorem run_equalIn_nil {P : Program} {t e : TypeId} (ht : P.underlying t = some (.slice e)) (d : Nat) (A : Option Addr) (n c : Nat) (w : World) : (Op.equalIn (d + 1) t (.slice A n c) (.slice none 0 0)).run P w = .ok A.isNone w := by
  cases A <;> simp only [Op.equalIn, Go.Sem.run_bind, run_underlying ht, Result.andThen_ok] <;> rfl
theorem run_eql_nil {P : Program} {t e : TypeId} (ht : P.underlying t = some (.slice e)) (A : Option Addr) (n c : Nat) (w : World) : (Go.binOp .eql t (.slice A n c) (.slice none 0 0)).run P w = .ok (.bool A.isNone) w := by
  simp only [Go.binOp, Op.equal, Op.maxDepth, Go.Sem.run_bind, run_equalIn_nil ht 9999, Result.andThen_ok]
  rfl
theorem run_guard_nil {P : Program} {t : TypeId} {x y : Operand} (A : Option Addr) (n c : Nat) (w : World) : (eqGuard .eql t x y (.slice A n c) (.slice none 0 0)).run P w = .ok () w := rfl
theorem does_eqnil {P : Program} {F : Fr} {o : Oper} {s : St} {K : St → Prop} {t e t' : TypeId} {x y : Operand} {k : IntKind} {l : List Int} (ho : o.op = .binOp .eql t x y t') (hx : pev s x = .ws k l) (hy : pev s y = .nil) (ht : P.underlying t = some (.slice e)) (hd : s.fits o.dst = true) (h1 : l = [] → K (s.put o.dst (.val (.bool true)))) (h2 : K (s.put o.dst (.val (.bool false)))) : Does P F o true s K := by
  intro Q c a w hi
  have rx := pev_rep hi x
  have ry := pev_rep hi y
  rw [hx] at rx
  rw [hy] at ry
  generalize hvx : a.eval x = vx at rx
  generalize hvy : a.eval y = vy at ry
  cases ry
  cases rx with
  | ws g1 g2 g4 =>
    rename_i n cap A
    have hrun : (execOp a.eval o).run P w = .ok (.value (.bool A.isNone)) w := by
      simp only [execOp, ho, hvx, hvy, Go.Sem.run_bind, run_guard_nil, run_eql_nil ht, Result.andThen_ok]
      rfl
    unfold Oper.wp
    rw [hrun]
    cases A with
    | none =>
      have hl : l = [] := by
        cases l with
        | nil => rfl
        | cons z l =>
          obtain ⟨ad, h, _⟩ := g4 0 z rfl
          cases h
      exact ⟨c, _, hi.put hd (.val _), h1 hl, fun _ => Ext.refl w⟩
    | some A => exact ⟨c, _, hi.put hd (.val _), h2, fun _ => Ext.refl w⟩
/-- A literal without parts, as a row of one's own. -/
theorem Does.lit0 {P : Program} {F : Fr} {o : Oper} {N : Nat} {t : Nat → PV} {bx : List (List PV)} {ob : List (Option Row)} {K : St → Prop} {ty e : TypeId} {d : Nat} {k : IntKind} (ho : o.op = .buildSlice ty 0 #[]) (ht : elT P ty = some (e, 1)) (hz : zeroT P e = some [.val (.int k 0)]) (hd : o.dst = some d) (hn : Nat.blt d N = true)
    (h : K ⟨N, upd t d (.arr ob.length 0 0), bx, ob ++ [some (rw_ k e [])]⟩) : Does P F o true ⟨N, t, bx, ob⟩ K := by
  intro R c a w hi
  obtain ⟨hu, hs⟩ := elT_ok ht
  cases hq : P.info? e with
  | none => simp [szT, hq] at hs
  | some i =>
    cases hv : i.zero with
    | none => simp [zeroT, hq, hv] at hz
    | some v =>
      unfold Oper.wp
      have hrun : (execOp a.eval o).run P w = .ok (.value (.slice (some ⟨w.heap.size, 0, none⟩) 0 0)) (w.alloc (.cells #[] e)) := by
        have hs1 : i.size = 1 := by simpa [szT, hq] using hs
        have e0 : ∀ f : Nat → Value, Array.map f (Array.range 0) = #[] := fun f => by simp
        simp [execOp, ho, Instr.buildSlice, run_underlying hu, sizeOf, typeInfo, hq, hs1, newRow, zeroValue, hv, e0, Instr.fill]
      rw [hrun]
      have hn' := hi.newrow (r := rw_ k e []) (us := []) (by simp [rw_, cs_w]) (by simp [rw_, cs_w]; exact .nil)
      refine ⟨_, _, hn'.put (d := o.dst) (p := .arr ob.length 0 0) (by simpa [St.fits, hd] using hn) ?_, by simpa [St.put, hd] using h, fun _ => cell_grow fun j h => heap_alloc_old w _ _ h⟩
      have hol : c.ob.length = ob.length := hi.W.ol
      exact .arr (x := ⟨w.heap.size, 0, 1, e⟩) (by have := idx_new c.ob (⟨w.heap.size, 0, 1, e⟩ : Ob); rw [hol] at this; simpa [rw_] using this) Nat.one_pos (by omega) (fun _ => by simp) (fun _ => by simp)
theorem s_clone (l : List Int) (hl : l.length ≤ 17592186044415) : FC Tryz.prog G 86 [.ws .u64 l] (· = .ws .u64 l) := by
  refine FC.intro (X := XX) tok Tryz.func86 rfl Tryz.ntmps86 (by rw [Tryz.results86]) (by kernel_rfl) rfl ?_; intro F hG hO
  repeat' ((try (conv => whnf)); first
  | (refine RawG.mk ?_; refine Sem.does rfl (does_eqnil rfl rfl rfl (show Tryz.prog.underlying 22 = some (.slice 44) by kernel_rfl) rfl ?_ ?_))
  | (intro hnil)
  | (refine AppG.mk rfl (by dsimp only; omega) (by rw [hO]; exact Nat.zero_le _) ?_)
  | (refine RawG.mk ?_; refine Sem.does rfl (Does.lit0 (k := .u64) rfl (show elT Tryz.prog 22 = some (44, 1) by kernel_rfl) (show zeroT Tryz.prog 44 = some [.val (.int .u64 0)] by kernel_rfl) rfl rfl ?_))
  
  | (with_reducible refine Chk.mk' (by first | omega | exact trivial | (simp only [List.length_append, List.length_set, List.length_replicate, List.length_take, List.length_drop, List.length_cons, List.length_nil, List.length_map]; omega)) ?_)
  | (with_reducible refine wrap_g (by dsimp only [inR]; omega) ?_)
  | (with_reducible refine idx_g (by omega) ?_)
  | (with_reducible refine idx_l _ rfl (by decide) ?_)
  | (with_reducible refine BothG.mk ?_ ?_)
  | (with_reducible refine fork_tt ?_) | (with_reducible refine fork_ff ?_)
  | (with_reducible refine fork_e (c := true) (by decide) ?_; with_reducible refine fork_tt ?_) | (with_reducible refine fork_e (c := false) (by decide) ?_; with_reducible refine fork_ff ?_)
  | (with_reducible refine fork_t (by omega) ?_) | (with_reducible refine fork_f (by omega) ?_)
  | (with_reducible refine fork_d ?_ ?_ <;> intro hc)
  | (with_reducible refine fork_n ?_)
  | (with_reducible refine fork_b ?_ ?_ <;> intro hc)
  | (with_reducible refine SlcG.mk (by omega) ?_)
  | (with_reducible refine MakG.mk (by dsimp only; omega) ?_)
  | (with_reducible refine AppG.mk (by first | omega | (simp only [List.length_append, List.length_set, List.length_replicate, List.length_take, List.length_drop, List.length_cons, List.length_nil, List.length_map]; omega)) (by dsimp only [List.length_cons, List.length_nil]; omega) (by omega) ?_)
  | (with_reducible refine div_g (by omega) (by omega) (by dsimp only [inR]; omega) ?_)
  | (with_reducible refine mod_g (by omega) (by omega) ?_)
  | (with_reducible refine mask_g (m := 4294967296) 32 rfl rfl (by decide) (by omega) ?_)
  | (with_reducible refine shr_g (m := 4294967296) 32 rfl (by decide) (by omega) rfl ?_)
  | (with_reducible refine fz_all (by omega) ?_)
  | (with_reducible refine Stuck.h (A := RetE _ _) ?_) | (with_reducible refine Stuck.h (A := RetM _ _ _ _) ?_) | (with_reducible refine Stuck.h (A := Again _ _ _ _ _ _ _ _) ?_) | (with_reducible refine Stuck.h (A := CallF _ _ _ _ _ _ _) ?_) | (with_reducible refine Stuck.h (A := LoopG _ _ _ _ _ _ _ _) ?_) | (with_reducible refine Stuck.h (A := DrawG _ _ _ _ _ _ _ _) ?_)
  | (with_reducible refine Stuck.h (A := WrapG _ _ _) ?_) | (with_reducible refine Stuck.h (A := DivG _ _ _ _) ?_) | (with_reducible refine Stuck.h (A := ModG _ _ _) ?_) | (with_reducible refine Stuck.h (A := ShlG _ _ _ _) ?_) | (with_reducible refine Stuck.h (A := ShrG _ _ _ _) ?_) | (with_reducible refine Stuck.h (A := BitG _ _ _ _ _) ?_)
  | (with_reducible refine Stuck.h (A := IdxG _ _ _) ?_) | (with_reducible refine Stuck.h (A := IdxL _ _ _) ?_) | (with_reducible refine Stuck.h (A := SlcG _ _ _ _ _) ?_) | (with_reducible refine Stuck.h (A := MakG _ _ _ _) ?_) | (with_reducible refine Stuck.h (A := AppG _ _ _ _ _ _ _) ?_) | (with_reducible refine Stuck.h (A := FzG _ _ _ _) ?_)
  | (with_reducible refine Stuck.h (A := RawG _) ?_) | (with_reducible refine Stuck.h (A := TabG _ _ _ _ _) ?_) | (with_reducible refine Stuck.h (A := ExtF _ _ _ _) ?_) | (with_reducible refine Stuck.h (A := Chk _ _) ?_) | (with_reducible refine Stuck.h (A := False) ?_))
  · exact ⟨ret_l _ (.nil .u64) (by rw [hnil])⟩
  · exact ⟨fz_all (by simp) (ret_e (by simp))⟩
end Go.Proofs.YtbeocnjlepcglaaGreatDoor.Sim
namespace Go.Proofs.YtbeocnjlepcglaaGreatDoor.Sim
open Go.RowKit
set_option linter.unusedVariables false
set_option linter.unusedSimpArgs false
set_option maxRecDepth 10000
set_option maxHeartbeats 8000000
variable {G : List (Nat × List Value)}
theorem y_nought (b : Bool) (l : List Int) (e : Int) : FC Tryz.prog G 43 [Dy b l e] (· = .val (.bool (decide ((l.length : Int) = 0)))) := by
  refine FC.intro (X := XX) tok Tryz.func43 rfl Tryz.ntmps43 (by rw [Tryz.results43]) (by kernel_rfl) rfl ?_; intro F hG hO
  repeat' ((try (conv => whnf)); first
  
  | (with_reducible refine Chk.mk' (by first | omega | exact trivial | (simp only [List.length_append, List.length_set, List.length_replicate, List.length_take, List.length_drop, List.length_cons, List.length_nil, List.length_map]; omega)) ?_)
  | (with_reducible refine wrap_g (by dsimp only [inR]; omega) ?_)
  | (with_reducible refine idx_g (by omega) ?_)
  | (with_reducible refine idx_l _ rfl (by decide) ?_)
  | (with_reducible refine BothG.mk ?_ ?_)
  | (with_reducible refine fork_tt ?_) | (with_reducible refine fork_ff ?_)
  | (with_reducible refine fork_e (c := true) (by decide) ?_; with_reducible refine fork_tt ?_) | (with_reducible refine fork_e (c := false) (by decide) ?_; with_reducible refine fork_ff ?_)
  | (with_reducible refine fork_t (by omega) ?_) | (with_reducible refine fork_f (by omega) ?_)
  | (with_reducible refine fork_d ?_ ?_ <;> intro hc)
  | (with_reducible refine fork_n ?_)
  | (with_reducible refine fork_b ?_ ?_ <;> intro hc)
  | (with_reducible refine SlcG.mk (by omega) ?_)
  | (with_reducible refine MakG.mk (by dsimp only; omega) ?_)
  | (with_reducible refine AppG.mk (by first | omega | (simp only [List.length_append, List.length_set, List.length_replicate, List.length_take, List.length_drop, List.length_cons, List.length_nil, List.length_map]; omega)) (by dsimp only [List.length_cons, List.length_nil]; omega) (by omega) ?_)
  | (with_reducible refine div_g (by omega) (by omega) (by dsimp only [inR]; omega) ?_)
  | (with_reducible refine mod_g (by omega) (by omega) ?_)
  | (with_reducible refine mask_g (m := 4294967296) 32 rfl rfl (by decide) (by omega) ?_)
  | (with_reducible refine shr_g (m := 4294967296) 32 rfl (by decide) (by omega) rfl ?_)
  | (with_reducible refine fz_all (by omega) ?_)
  | (with_reducible refine Stuck.h (A := RetE _ _) ?_) | (with_reducible refine Stuck.h (A := RetM _ _ _ _) ?_) | (with_reducible refine Stuck.h (A := Again _ _ _ _ _ _ _ _) ?_) | (with_reducible refine Stuck.h (A := CallF _ _ _ _ _ _ _) ?_) | (with_reducible refine Stuck.h (A := LoopG _ _ _ _ _ _ _ _) ?_) | (with_reducible refine Stuck.h (A := DrawG _ _ _ _ _ _ _ _) ?_)
  | (with_reducible refine Stuck.h (A := WrapG _ _ _) ?_) | (with_reducible refine Stuck.h (A := DivG _ _ _ _) ?_) | (with_reducible refine Stuck.h (A := ModG _ _ _) ?_) | (with_reducible refine Stuck.h (A := ShlG _ _ _ _) ?_) | (with_reducible refine Stuck.h (A := ShrG _ _ _ _) ?_) | (with_reducible refine Stuck.h (A := BitG _ _ _ _ _) ?_)
  | (with_reducible refine Stuck.h (A := IdxG _ _ _) ?_) | (with_reducible refine Stuck.h (A := IdxL _ _ _) ?_) | (with_reducible refine Stuck.h (A := SlcG _ _ _ _ _) ?_) | (with_reducible refine Stuck.h (A := MakG _ _ _ _) ?_) | (with_reducible refine Stuck.h (A := AppG _ _ _ _ _ _ _) ?_) | (with_reducible refine Stuck.h (A := FzG _ _ _ _) ?_)
  | (with_reducible refine Stuck.h (A := RawG _) ?_) | (with_reducible refine Stuck.h (A := TabG _ _ _ _ _) ?_) | (with_reducible refine Stuck.h (A := ExtF _ _ _ _) ?_) | (with_reducible refine Stuck.h (A := Chk _ _) ?_) | (with_reducible refine Stuck.h (A := False) ?_))
  exact ⟨ret_e rfl⟩
theorem y_twin (b : Bool) (l : List Int) (e : Int) (h : l.length ≤ 17592186044415) : FC Tryz.prog G 50 [Dy b l e] (· = Dy b l e) := by
  have f1 := s_clone (G := G) l h
  refine FC.intro (X := XX) tok Tryz.func50 rfl Tryz.ntmps50 (by rw [Tryz.results50]) (by kernel_rfl) rfl ?_; intro F hG hO
  rw [← hG] at f1
  repeat' ((try (conv => whnf)); first
  | ((with_reducible refine cg ?_); refine call_eq (f1) (LpL.refl _) rfl ?_)
  
  | (with_reducible refine Chk.mk' (by first | omega | exact trivial | (simp only [List.length_append, List.length_set, List.length_replicate, List.length_take, List.length_drop, List.length_cons, List.length_nil, List.length_map]; omega)) ?_)
  | (with_reducible refine wrap_g (by dsimp only [inR]; omega) ?_)
  | (with_reducible refine idx_g (by omega) ?_)
  | (with_reducible refine idx_l _ rfl (by decide) ?_)
  | (with_reducible refine BothG.mk ?_ ?_)
  | (with_reducible refine fork_tt ?_) | (with_reducible refine fork_ff ?_)
  | (with_reducible refine fork_e (c := true) (by decide) ?_; with_reducible refine fork_tt ?_) | (with_reducible refine fork_e (c := false) (by decide) ?_; with_reducible refine fork_ff ?_)
  | (with_reducible refine fork_t (by omega) ?_) | (with_reducible refine fork_f (by omega) ?_)
  | (with_reducible refine fork_d ?_ ?_ <;> intro hc)
  | (with_reducible refine fork_n ?_)
  | (with_reducible refine fork_b ?_ ?_ <;> intro hc)
  | (with_reducible refine SlcG.mk (by omega) ?_)
  | (with_reducible refine MakG.mk (by dsimp only; omega) ?_)
  | (with_reducible refine AppG.mk (by first | omega | (simp only [List.length_append, List.length_set, List.length_replicate, List.length_take, List.length_drop, List.length_cons, List.length_nil, List.length_map]; omega)) (by dsimp only [List.length_cons, List.length_nil]; omega) (by omega) ?_)
  | (with_reducible refine div_g (by omega) (by omega) (by dsimp only [inR]; omega) ?_)
  | (with_reducible refine mod_g (by omega) (by omega) ?_)
  | (with_reducible refine mask_g (m := 4294967296) 32 rfl rfl (by decide) (by omega) ?_)
  | (with_reducible refine shr_g (m := 4294967296) 32 rfl (by decide) (by omega) rfl ?_)
  | (with_reducible refine fz_all (by omega) ?_)
  | (with_reducible refine Stuck.h (A := RetE _ _) ?_) | (with_reducible refine Stuck.h (A := RetM _ _ _ _) ?_) | (with_reducible refine Stuck.h (A := Again _ _ _ _ _ _ _ _) ?_) | (with_reducible refine Stuck.h (A := CallF _ _ _ _ _ _ _) ?_) | (with_reducible refine Stuck.h (A := LoopG _ _ _ _ _ _ _ _) ?_) | (with_reducible refine Stuck.h (A := DrawG _ _ _ _ _ _ _ _) ?_)
  | (with_reducible refine Stuck.h (A := WrapG _ _ _) ?_) | (with_reducible refine Stuck.h (A := DivG _ _ _ _) ?_) | (with_reducible refine Stuck.h (A := ModG _ _ _) ?_) | (with_reducible refine Stuck.h (A := ShlG _ _ _ _) ?_) | (with_reducible refine Stuck.h (A := ShrG _ _ _ _) ?_) | (with_reducible refine Stuck.h (A := BitG _ _ _ _ _) ?_)
  | (with_reducible refine Stuck.h (A := IdxG _ _ _) ?_) | (with_reducible refine Stuck.h (A := IdxL _ _ _) ?_) | (with_reducible refine Stuck.h (A := SlcG _ _ _ _ _) ?_) | (with_reducible refine Stuck.h (A := MakG _ _ _ _) ?_) | (with_reducible refine Stuck.h (A := AppG _ _ _ _ _ _ _) ?_) | (with_reducible refine Stuck.h (A := FzG _ _ _ _) ?_)
  | (with_reducible refine Stuck.h (A := RawG _) ?_) | (with_reducible refine Stuck.h (A := TabG _ _ _ _ _) ?_) | (with_reducible refine Stuck.h (A := ExtF _ _ _ _) ?_) | (with_reducible refine Stuck.h (A := Chk _ _) ?_) | (with_reducible refine Stuck.h (A := False) ?_))
  exact ⟨ret_e rfl⟩
theorem y_top {n e : Int} (h : Good n e) : FC Tryz.prog G 44 [DY n e] (· = .val (.int .i64 (topN n e))) := by
  have h2 := h.bl
  obtain ⟨g1, g2, g3, g4, g5⟩ := h
  have f1 := n_bits (G := G) n.natAbs (by omega)
  refine FC.intro (X := XX) tok Tryz.func44 rfl Tryz.ntmps44 (by rw [Tryz.results44]) (by kernel_rfl) rfl ?_; intro F hG hO
  rw [← hG] at f1
  repeat' ((try (conv => whnf)); first
  | ((with_reducible refine cg ?_); refine call_eq (f1) (LpL.refl _) rfl ?_)
  
  | (with_reducible refine draw_g (id := 1) [[0, 1, 2, 3, 4, 5, 6, 7, 8]] tok mixed (by kernel_rfl) ?_)
  | (with_reducible refine Chk.mk' (by first | omega | exact trivial | (simp only [List.length_append, List.length_set, List.length_replicate, List.length_take, List.length_drop, List.length_cons, List.length_nil, List.length_map]; omega)) ?_)
  | (with_reducible refine wrap_g (by dsimp only [inR]; omega) ?_)
  | (with_reducible refine idx_g (by omega) ?_)
  | (with_reducible refine idx_l _ rfl (by decide) ?_)
  | (with_reducible refine BothG.mk ?_ ?_)
  | (with_reducible refine fork_tt ?_) | (with_reducible refine fork_ff ?_)
  | (with_reducible refine fork_e (c := true) (by decide) ?_; with_reducible refine fork_tt ?_) | (with_reducible refine fork_e (c := false) (by decide) ?_; with_reducible refine fork_ff ?_)
  | (with_reducible refine fork_t (by omega) ?_) | (with_reducible refine fork_f (by omega) ?_)
  | (with_reducible refine fork_d ?_ ?_ <;> intro hc)
  | (with_reducible refine fork_n ?_)
  | (with_reducible refine fork_b ?_ ?_ <;> intro hc)
  | (with_reducible refine SlcG.mk (by omega) ?_)
  | (with_reducible refine MakG.mk (by dsimp only; omega) ?_)
  | (with_reducible refine AppG.mk (by first | omega | (simp only [List.length_append, List.length_set, List.length_replicate, List.length_take, List.length_drop, List.length_cons, List.length_nil, List.length_map]; omega)) (by dsimp only [List.length_cons, List.length_nil]; omega) (by omega) ?_)
  | (with_reducible refine div_g (by omega) (by omega) (by dsimp only [inR]; omega) ?_)
  | (with_reducible refine mod_g (by omega) (by omega) ?_)
  | (with_reducible refine mask_g (m := 4294967296) 32 rfl rfl (by decide) (by omega) ?_)
  | (with_reducible refine shr_g (m := 4294967296) 32 rfl (by decide) (by omega) rfl ?_)
  | (with_reducible refine fz_all (by omega) ?_)
  | (with_reducible refine Stuck.h (A := RetE _ _) ?_) | (with_reducible refine Stuck.h (A := RetM _ _ _ _) ?_) | (with_reducible refine Stuck.h (A := Again _ _ _ _ _ _ _ _) ?_) | (with_reducible refine Stuck.h (A := CallF _ _ _ _ _ _ _) ?_) | (with_reducible refine Stuck.h (A := LoopG _ _ _ _ _ _ _ _) ?_) | (with_reducible refine Stuck.h (A := DrawG _ _ _ _ _ _ _ _) ?_)
  | (with_reducible refine Stuck.h (A := WrapG _ _ _) ?_) | (with_reducible refine Stuck.h (A := DivG _ _ _ _) ?_) | (with_reducible refine Stuck.h (A := ModG _ _ _) ?_) | (with_reducible refine Stuck.h (A := ShlG _ _ _ _) ?_) | (with_reducible refine Stuck.h (A := ShrG _ _ _ _) ?_) | (with_reducible refine Stuck.h (A := BitG _ _ _ _ _) ?_)
  | (with_reducible refine Stuck.h (A := IdxG _ _ _) ?_) | (with_reducible refine Stuck.h (A := IdxL _ _ _) ?_) | (with_reducible refine Stuck.h (A := SlcG _ _ _ _ _) ?_) | (with_reducible refine Stuck.h (A := MakG _ _ _ _) ?_) | (with_reducible refine Stuck.h (A := AppG _ _ _ _ _ _ _) ?_) | (with_reducible refine Stuck.h (A := FzG _ _ _ _) ?_)
  | (with_reducible refine Stuck.h (A := RawG _) ?_) | (with_reducible refine Stuck.h (A := TabG _ _ _ _ _) ?_) | (with_reducible refine Stuck.h (A := ExtF _ _ _ _) ?_) | (with_reducible refine Stuck.h (A := Chk _ _) ?_) | (with_reducible refine Stuck.h (A := False) ?_))
  exact ⟨ret_e rfl⟩
end Go.Proofs.YtbeocnjlepcglaaGreatDoor.Sim
namespace Go.Proofs.YtbeocnjlepcglaaGreatDoor.Sim
open Go.RowKit
set_option linter.unusedVariables false
set_option linter.unusedSimpArgs false
set_option maxRecDepth 10000
set_option maxHeartbeats 8000000
variable {G : List (Nat × List Value)}
theorem tz_lt64 {n : Nat} (h : n ≠ 0) : tz n < 64 * L64 n := by
  have h1 := tz_lt h
  have h2 := L32_L64 n
  omega
theorem y_make {g : List (Nat × List Value)} (hD : (0, debT.map (Value.int .u8)) ∈ g) (n e : Int) (h : L64 n.natAbs ≤ 8192) (he : inR .i64 e) : FC Tryz.prog g 24 [NI n, .val (.int .i64 e)] (· = toldS n e) := by
  dsimp only [inR] at he
  have hp := len64_pos n.natAbs
  have f0 := n_nform (G := g) n h
  have f1 := n_trail hD n.natAbs (by omega)
  have htb : Unit → n ≠ 0 → tz n.natAbs < 524288 := fun _ h0 => by have := tz_lt64 (n := n.natAbs) (by omega); omega
  have hdv : Unit → n.natAbs = n.natAbs / 2 ^ tz n.natAbs * 2 ^ tz n.natAbs := fun _ => by
    by_cases h0 : n = 0
    · rw [h0]; simp
    · exact (odd_div (n := n.natAbs) (by omega)).1
  have lq := L32_mono (Nat.div_le_self n.natAbs (2 ^ tz n.natAbs))
  have lq2 := L32_L64 n.natAbs
  unfold toldS
  obtain ⟨t, ht⟩ : ∃ t, t = tz n.natAbs := ⟨_, rfl⟩
  rw [← ht] at f1 htb hdv lq ⊢
  have f2 : Unit → t < 524288 → FC Tryz.prog g 48 [.ws .u64 (d64 n.natAbs), .val (.int .i64 (t : Int))] (· = natR (n.natAbs / 2 ^ t)) := fun _ hlt => by
    have := n_shr (G := g) n.natAbs (t : Int) h (by dsimp only [inR]; omega)
    rw [shrT_ok (by omega), Int.toNat_natCast] at this
    exact this
  obtain ⟨q, hq⟩ : ∃ q, q = n.natAbs / 2 ^ t := ⟨_, rfl⟩
  rw [← hq] at f2 hdv lq ⊢
  have hx := exact_div (n := n) (q := q) (t := t) (hdv ())
  have hqa : (sg (decide (n < 0)) q).natAbs = q := sg_abs _ _
  rw [hx]
  refine FC.intro (X := XX) tok Tryz.func24 rfl Tryz.ntmps24 (by rw [Tryz.results24]) (by kernel_rfl) rfl ?_; intro F hG hO
  rw [← hG] at f0 f1 f2
  repeat' ((try (conv => whnf)); first
  | ((with_reducible refine cg ?_); refine call_eq (f0) (LpL.refl _) rfl ?_)
  | ((with_reducible refine cg ?_); refine call_eq (f1) (LpL.refl _) rfl ?_)
  | ((with_reducible refine cg ?_); refine call_eq (f2 () (htb () (by omega))) (LpL.refl _) rfl ?_)
  | (with_reducible refine wrap_g (by have := htb () (by omega); dsimp only [inR]; omega) ?_)
  
  | (with_reducible refine Chk.mk' (by first | omega | exact trivial | (simp only [List.length_append, List.length_set, List.length_replicate, List.length_take, List.length_drop, List.length_cons, List.length_nil, List.length_map]; omega)) ?_)
  | (with_reducible refine wrap_g (by dsimp only [inR]; omega) ?_)
  | (with_reducible refine idx_g (by omega) ?_)
  | (with_reducible refine idx_l _ rfl (by decide) ?_)
  | (with_reducible refine BothG.mk ?_ ?_)
  | (with_reducible refine fork_tt ?_) | (with_reducible refine fork_ff ?_)
  | (with_reducible refine fork_e (c := true) (by decide) ?_; with_reducible refine fork_tt ?_) | (with_reducible refine fork_e (c := false) (by decide) ?_; with_reducible refine fork_ff ?_)
  | (with_reducible refine fork_t (by omega) ?_) | (with_reducible refine fork_f (by omega) ?_)
  | (with_reducible refine fork_d ?_ ?_ <;> intro hc)
  | (with_reducible refine fork_n ?_)
  | (with_reducible refine fork_b ?_ ?_ <;> intro hc)
  | (with_reducible refine SlcG.mk (by omega) ?_)
  | (with_reducible refine MakG.mk (by dsimp only; omega) ?_)
  | (with_reducible refine AppG.mk (by first | omega | (simp only [List.length_append, List.length_set, List.length_replicate, List.length_take, List.length_drop, List.length_cons, List.length_nil, List.length_map]; omega)) (by dsimp only [List.length_cons, List.length_nil]; omega) (by omega) ?_)
  | (with_reducible refine div_g (by omega) (by omega) (by dsimp only [inR]; omega) ?_)
  | (with_reducible refine mod_g (by omega) (by omega) ?_)
  | (with_reducible refine mask_g (m := 4294967296) 32 rfl rfl (by decide) (by omega) ?_)
  | (with_reducible refine shr_g (m := 4294967296) 32 rfl (by decide) (by omega) rfl ?_)
  | (with_reducible refine fz_all (by omega) ?_)
  | (with_reducible refine Stuck.h (A := RetE _ _) ?_) | (with_reducible refine Stuck.h (A := RetM _ _ _ _) ?_) | (with_reducible refine Stuck.h (A := Again _ _ _ _ _ _ _ _) ?_) | (with_reducible refine Stuck.h (A := CallF _ _ _ _ _ _ _) ?_) | (with_reducible refine Stuck.h (A := LoopG _ _ _ _ _ _ _ _) ?_) | (with_reducible refine Stuck.h (A := DrawG _ _ _ _ _ _ _ _) ?_)
  | (with_reducible refine Stuck.h (A := WrapG _ _ _) ?_) | (with_reducible refine Stuck.h (A := DivG _ _ _ _) ?_) | (with_reducible refine Stuck.h (A := ModG _ _ _) ?_) | (with_reducible refine Stuck.h (A := ShlG _ _ _ _) ?_) | (with_reducible refine Stuck.h (A := ShrG _ _ _ _) ?_) | (with_reducible refine Stuck.h (A := BitG _ _ _ _ _) ?_)
  | (with_reducible refine Stuck.h (A := IdxG _ _ _) ?_) | (with_reducible refine Stuck.h (A := IdxL _ _ _) ?_) | (with_reducible refine Stuck.h (A := SlcG _ _ _ _ _) ?_) | (with_reducible refine Stuck.h (A := MakG _ _ _ _) ?_) | (with_reducible refine Stuck.h (A := AppG _ _ _ _ _ _ _) ?_) | (with_reducible refine Stuck.h (A := FzG _ _ _ _) ?_)
  | (with_reducible refine Stuck.h (A := RawG _) ?_) | (with_reducible refine Stuck.h (A := TabG _ _ _ _ _) ?_) | (with_reducible refine Stuck.h (A := ExtF _ _ _ _) ?_) | (with_reducible refine Stuck.h (A := Chk _ _) ?_) | (with_reducible refine Stuck.h (A := False) ?_))
  · exact ⟨ret_l _ (lp_dyE 0) (by rw [if_pos (by omega)])⟩
  all_goals
    have ht5 := htb () (by omega)
    have hn0 : n ≠ 0 := by omega
  · exact ⟨ret_l _ (lp_dyE 5) (by rw [if_neg hn0, if_pos (by omega)])⟩
  · exact ⟨ret_l _ (lp_dyE 5) (by by_cases h40 : e < -1099511627776 <;> (repeat (first | rfl | rw [if_neg (by omega)] | rw [if_pos (by omega)])))⟩
  · exact ⟨ret_l _ (lp_dyE 5) (by (repeat (first | rfl | rw [if_neg (by omega)] | rw [if_pos (by omega)])))⟩
  · exact ⟨ret_l _ (lp_dyE 5) (by (repeat (first | rfl | rw [if_neg (by omega)] | rw [if_pos (by omega)])))⟩
  · refine ⟨ret_e ?_⟩
    rw [if_neg hn0, if_neg (by omega), if_neg (by omega), if_neg (by omega), if_neg (by omega), if_neg (by omega)]
    have hq0 : q ≠ 0 := fun h0 => by have := hdv (); rw [h0, Nat.zero_mul] at this; omega
    have hsg : decide (n < 0) = decide (sg (decide (n < 0)) q < 0) := by
      by_cases hn : n < 0
      · rw [decide_eq_true hn]; exact (decide_eq_true (by simp only [sg]; omega)).symm
      · rw [decide_eq_false hn]; exact (decide_eq_false (by simp only [sg]; omega)).symm
    unfold dyR DY
    rw [hqa, ← hsg]
end Go.Proofs.YtbeocnjlepcglaaGreatDoor.Sim
namespace Go.Proofs.YtbeocnjlepcglaaGreatDoor.Sim
open Go.RowKit
set_option linter.unusedVariables false
set_option linter.unusedSimpArgs false
set_option maxRecDepth 10000
set_option maxHeartbeats 8000000
variable {G : List (Nat × List Value)}
theorem y_form {n e : Int} (h : Good n e) : FC Tryz.prog G 26 [DY n e] (· = .val (.bool true)) := by
  obtain ⟨g1, g2, g3, g4, g5⟩ := h
  have hp := len64_pos n.natAbs
  have f0 := n_nform (G := G) n g1
  have f1 := y_nought (G := G) (decide (n < 0)) (d64 n.natAbs) e
  have hr := rd64_0 n.natAbs
  have hb := rd_bd (by decide) (d64_ok n.natAbs).1 0
  refine FC.intro (X := XX) tok Tryz.func26 rfl Tryz.ntmps26 (by rw [Tryz.results26]) (by kernel_rfl) rfl ?_; intro F hG hO
  rw [← hG] at f0 f1
  repeat' ((try (conv => whnf)); first
  | ((with_reducible refine cg ?_); refine call_eq (f0) (LpL.refl _) rfl ?_)
  | ((with_reducible refine cg ?_); refine call_eq (f1) (LpL.refl _) rfl ?_)
  | (with_reducible refine mask_g (m := 2) 1 rfl rfl (by decide) hb ?_)
  
  | (with_reducible refine Chk.mk' (by first | omega | exact trivial | (simp only [List.length_append, List.length_set, List.length_replicate, List.length_take, List.length_drop, List.length_cons, List.length_nil, List.length_map]; omega)) ?_)
  | (with_reducible refine wrap_g (by dsimp only [inR]; omega) ?_)
  | (with_reducible refine idx_g (by omega) ?_)
  | (with_reducible refine idx_l _ rfl (by decide) ?_)
  | (with_reducible refine BothG.mk ?_ ?_)
  | (with_reducible refine fork_tt ?_) | (with_reducible refine fork_ff ?_)
  | (with_reducible refine fork_e (c := true) (by decide) ?_; with_reducible refine fork_tt ?_) | (with_reducible refine fork_e (c := false) (by decide) ?_; with_reducible refine fork_ff ?_)
  | (with_reducible refine fork_t (by omega) ?_) | (with_reducible refine fork_f (by omega) ?_)
  | (with_reducible refine fork_d ?_ ?_ <;> intro hc)
  | (with_reducible refine fork_n ?_)
  | (with_reducible refine fork_b ?_ ?_ <;> intro hc)
  | (with_reducible refine SlcG.mk (by omega) ?_)
  | (with_reducible refine MakG.mk (by dsimp only; omega) ?_)
  | (with_reducible refine AppG.mk (by first | omega | (simp only [List.length_append, List.length_set, List.length_replicate, List.length_take, List.length_drop, List.length_cons, List.length_nil, List.length_map]; omega)) (by dsimp only [List.length_cons, List.length_nil]; omega) (by omega) ?_)
  | (with_reducible refine div_g (by omega) (by omega) (by dsimp only [inR]; omega) ?_)
  | (with_reducible refine mod_g (by omega) (by omega) ?_)
  | (with_reducible refine mask_g (m := 4294967296) 32 rfl rfl (by decide) (by omega) ?_)
  | (with_reducible refine shr_g (m := 4294967296) 32 rfl (by decide) (by omega) rfl ?_)
  | (with_reducible refine fz_all (by omega) ?_)
  | (with_reducible refine Stuck.h (A := RetE _ _) ?_) | (with_reducible refine Stuck.h (A := RetM _ _ _ _) ?_) | (with_reducible refine Stuck.h (A := Again _ _ _ _ _ _ _ _) ?_) | (with_reducible refine Stuck.h (A := CallF _ _ _ _ _ _ _) ?_) | (with_reducible refine Stuck.h (A := LoopG _ _ _ _ _ _ _ _) ?_) | (with_reducible refine Stuck.h (A := DrawG _ _ _ _ _ _ _ _) ?_)
  | (with_reducible refine Stuck.h (A := WrapG _ _ _) ?_) | (with_reducible refine Stuck.h (A := DivG _ _ _ _) ?_) | (with_reducible refine Stuck.h (A := ModG _ _ _) ?_) | (with_reducible refine Stuck.h (A := ShlG _ _ _ _) ?_) | (with_reducible refine Stuck.h (A := ShrG _ _ _ _) ?_) | (with_reducible refine Stuck.h (A := BitG _ _ _ _ _) ?_)
  | (with_reducible refine Stuck.h (A := IdxG _ _ _) ?_) | (with_reducible refine Stuck.h (A := IdxL _ _ _) ?_) | (with_reducible refine Stuck.h (A := SlcG _ _ _ _ _) ?_) | (with_reducible refine Stuck.h (A := MakG _ _ _ _) ?_) | (with_reducible refine Stuck.h (A := AppG _ _ _ _ _ _ _) ?_) | (with_reducible refine Stuck.h (A := FzG _ _ _ _) ?_)
  | (with_reducible refine Stuck.h (A := RawG _) ?_) | (with_reducible refine Stuck.h (A := TabG _ _ _ _ _) ?_) | (with_reducible refine Stuck.h (A := ExtF _ _ _ _) ?_) | (with_reducible refine Stuck.h (A := Chk _ _) ?_) | (with_reducible refine Stuck.h (A := False) ?_))
  · exact ⟨ret_e (bv_eq (decide_eq_true (g4 (by omega))))⟩
  · exact ⟨ret_e (bv_eq (decide_eq_true (by have := g5 (by omega); omega)))⟩
end Go.Proofs.YtbeocnjlepcglaaGreatDoor.Sim
namespace Go.Proofs.YtbeocnjlepcglaaGreatDoor.Sim
open Go.RowKit
set_option linter.unusedVariables false
set_option linter.unusedSimpArgs false
set_option maxRecDepth 10000
set_option maxHeartbeats 8000000
variable {G : List (Nat × List Value)}
theorem told_odd {n e x : Int} (h : Good n e) (h0 : n ≠ 0) (hx : -1099511627776 ≤ x) : toldS n x = if 1048576 < x then dyE 5 else if x < -1048576 then dyE 5 else dyR n x := by
  obtain ⟨g1, g2, g3, g4, g5⟩ := h
  have h1 : tz n.natAbs = 0 := tz_odd (by have := g5 h0; omega)
  have h2 := L32_L64 n.natAbs
  unfold toldS
  rw [if_neg h0, h1, Nat.pow_zero, Nat.div_one]
  by_cases h3 : 1048576 < x
  · rw [if_pos h3, if_pos h3]
  · rw [if_neg h3, if_neg h3, if_neg (by omega), if_neg (by omega)]
    by_cases h4 : x < -1048576
    · rw [if_pos (by omega), if_pos h4]
    · rw [if_neg (by omega), if_neg h4, if_neg (by omega)]; simp
theorem dyneg_eq {n e : Int} {b : Bool} (h : b = decide (-n < 0)) : PV.tup [.agg [.val (.bool b), .ws .u64 (d64 n.natAbs), .val (.int .i64 e)], .val (.int .i64 0)] = dyR (-n) e := by
  subst h; unfold dyR DY; rw [Int.natAbs_neg]
theorem y_noughtg (n e : Int) : FC Tryz.prog G 43 [DY n e] (· = .val (.bool (decide (n = 0)))) := by
  have := y_nought (G := G) (decide (n < 0)) (d64 n.natAbs) e
  have hl := len64_pos n.natAbs
  rw [show decide (((d64 n.natAbs).length : Int) = 0) = decide (n = 0) from decide_eq_decide.2 (by omega)] at this
  exact this
theorem y_twing {n e : Int} (h : Good n e) : FC Tryz.prog G 50 [DY n e] (· = DY n e) := y_twin (G := G) (decide (n < 0)) (d64 n.natAbs) e (Nat.le_trans h.1 (by decide))
theorem y_neg {n e : Int} (h : Good n e) : FC Tryz.prog G 45 [DY n e] (· = dyR (-n) e) := by
  have f1 := y_form (G := G) h
  have f2 := y_twing (G := G) h
  have f3 := y_noughtg (G := G) n e
  refine FC.intro (X := XX) tok Tryz.func45 rfl Tryz.ntmps45 (by rw [Tryz.results45]) (by kernel_rfl) rfl ?_; intro F hG hO
  rw [← hG] at f1 f2 f3
  repeat' ((try (conv => whnf)); first
  | ((with_reducible refine cg ?_); refine call_eq (f1) (LpL.refl _) rfl ?_)
  | ((with_reducible refine cg ?_); refine call_eq (f2) (LpL.refl _) rfl ?_)
  | ((with_reducible refine cg ?_); refine call_eq (f3) (LpL.refl _) rfl ?_)
  
  | (with_reducible refine Chk.mk' (by first | omega | exact trivial | (simp only [List.length_append, List.length_set, List.length_replicate, List.length_take, List.length_drop, List.length_cons, List.length_nil, List.length_map]; omega)) ?_)
  | (with_reducible refine wrap_g (by dsimp only [inR]; omega) ?_)
  | (with_reducible refine idx_g (by omega) ?_)
  | (with_reducible refine idx_l _ rfl (by decide) ?_)
  | (with_reducible refine BothG.mk ?_ ?_)
  | (with_reducible refine fork_tt ?_) | (with_reducible refine fork_ff ?_)
  | (with_reducible refine fork_e (c := true) (by decide) ?_; with_reducible refine fork_tt ?_) | (with_reducible refine fork_e (c := false) (by decide) ?_; with_reducible refine fork_ff ?_)
  | (with_reducible refine fork_t (by omega) ?_) | (with_reducible refine fork_f (by omega) ?_)
  | (with_reducible refine fork_d ?_ ?_ <;> intro hc)
  | (with_reducible refine fork_n ?_)
  | (with_reducible refine fork_b ?_ ?_ <;> intro hc)
  | (with_reducible refine SlcG.mk (by omega) ?_)
  | (with_reducible refine MakG.mk (by dsimp only; omega) ?_)
  | (with_reducible refine AppG.mk (by first | omega | (simp only [List.length_append, List.length_set, List.length_replicate, List.length_take, List.length_drop, List.length_cons, List.length_nil, List.length_map]; omega)) (by dsimp only [List.length_cons, List.length_nil]; omega) (by omega) ?_)
  | (with_reducible refine div_g (by omega) (by omega) (by dsimp only [inR]; omega) ?_)
  | (with_reducible refine mod_g (by omega) (by omega) ?_)
  | (with_reducible refine mask_g (m := 4294967296) 32 rfl rfl (by decide) (by omega) ?_)
  | (with_reducible refine shr_g (m := 4294967296) 32 rfl (by decide) (by omega) rfl ?_)
  | (with_reducible refine fz_all (by omega) ?_)
  | (with_reducible refine Stuck.h (A := RetE _ _) ?_) | (with_reducible refine Stuck.h (A := RetM _ _ _ _) ?_) | (with_reducible refine Stuck.h (A := Again _ _ _ _ _ _ _ _) ?_) | (with_reducible refine Stuck.h (A := CallF _ _ _ _ _ _ _) ?_) | (with_reducible refine Stuck.h (A := LoopG _ _ _ _ _ _ _ _) ?_) | (with_reducible refine Stuck.h (A := DrawG _ _ _ _ _ _ _ _) ?_)
  | (with_reducible refine Stuck.h (A := WrapG _ _ _) ?_) | (with_reducible refine Stuck.h (A := DivG _ _ _ _) ?_) | (with_reducible refine Stuck.h (A := ModG _ _ _) ?_) | (with_reducible refine Stuck.h (A := ShlG _ _ _ _) ?_) | (with_reducible refine Stuck.h (A := ShrG _ _ _ _) ?_) | (with_reducible refine Stuck.h (A := BitG _ _ _ _ _) ?_)
  | (with_reducible refine Stuck.h (A := IdxG _ _ _) ?_) | (with_reducible refine Stuck.h (A := IdxL _ _ _) ?_) | (with_reducible refine Stuck.h (A := SlcG _ _ _ _ _) ?_) | (with_reducible refine Stuck.h (A := MakG _ _ _ _) ?_) | (with_reducible refine Stuck.h (A := AppG _ _ _ _ _ _ _) ?_) | (with_reducible refine Stuck.h (A := FzG _ _ _ _) ?_)
  | (with_reducible refine Stuck.h (A := RawG _) ?_) | (with_reducible refine Stuck.h (A := TabG _ _ _ _ _) ?_) | (with_reducible refine Stuck.h (A := ExtF _ _ _ _) ?_) | (with_reducible refine Stuck.h (A := Chk _ _) ?_) | (with_reducible refine Stuck.h (A := False) ?_))
  all_goals first
    | exact ⟨ret_e (dyneg_eq (decide_eq_false (by omega)).symm)⟩
    | exact ⟨ret_e (dyneg_eq (decide_eq_true (by omega)).symm)⟩
    | exact ⟨ret_e (dyneg_eq (by by_cases h0 : n = 0; (rw [decide_eq_true h0, decide_eq_false (by omega)]; rfl); (rw [decide_eq_false h0, decide_eq_true (by omega)]; rfl)))⟩
theorem y_Top {n e : Int} (h : Good n e) : FC Tryz.prog G 21 [DY n e] (· = if n = 0 then .tup [.val (.int .i64 0), .val (.int .i64 4)] else .tup [.val (.int .i64 (topN n e)), .val (.int .i64 0)]) := by
  have f1 := y_form (G := G) h
  have f2 := y_top (G := G) h
  have f3 := y_noughtg (G := G) n e
  refine FC.intro (X := XX) tok Tryz.func21 rfl Tryz.ntmps21 (by rw [Tryz.results21]) (by kernel_rfl) rfl ?_; intro F hG hO
  rw [← hG] at f1 f2 f3
  repeat' ((try (conv => whnf)); first
  | ((with_reducible refine cg ?_); refine call_eq (f1) (LpL.refl _) rfl ?_)
  | ((with_reducible refine cg ?_); refine call_eq (f2) (LpL.refl _) rfl ?_)
  | ((with_reducible refine cg ?_); refine call_eq (f3) (LpL.refl _) rfl ?_)
  
  | (with_reducible refine Chk.mk' (by first | omega | exact trivial | (simp only [List.length_append, List.length_set, List.length_replicate, List.length_take, List.length_drop, List.length_cons, List.length_nil, List.length_map]; omega)) ?_)
  | (with_reducible refine wrap_g (by dsimp only [inR]; omega) ?_)
  | (with_reducible refine idx_g (by omega) ?_)
  | (with_reducible refine idx_l _ rfl (by decide) ?_)
  | (with_reducible refine BothG.mk ?_ ?_)
  | (with_reducible refine fork_tt ?_) | (with_reducible refine fork_ff ?_)
  | (with_reducible refine fork_e (c := true) (by decide) ?_; with_reducible refine fork_tt ?_) | (with_reducible refine fork_e (c := false) (by decide) ?_; with_reducible refine fork_ff ?_)
  | (with_reducible refine fork_t (by omega) ?_) | (with_reducible refine fork_f (by omega) ?_)
  | (with_reducible refine fork_d ?_ ?_ <;> intro hc)
  | (with_reducible refine fork_n ?_)
  | (with_reducible refine fork_b ?_ ?_ <;> intro hc)
  | (with_reducible refine SlcG.mk (by omega) ?_)
  | (with_reducible refine MakG.mk (by dsimp only; omega) ?_)
  | (with_reducible refine AppG.mk (by first | omega | (simp only [List.length_append, List.length_set, List.length_replicate, List.length_take, List.length_drop, List.length_cons, List.length_nil, List.length_map]; omega)) (by dsimp only [List.length_cons, List.length_nil]; omega) (by omega) ?_)
  | (with_reducible refine div_g (by omega) (by omega) (by dsimp only [inR]; omega) ?_)
  | (with_reducible refine mod_g (by omega) (by omega) ?_)
  | (with_reducible refine mask_g (m := 4294967296) 32 rfl rfl (by decide) (by omega) ?_)
  | (with_reducible refine shr_g (m := 4294967296) 32 rfl (by decide) (by omega) rfl ?_)
  | (with_reducible refine fz_all (by omega) ?_)
  | (with_reducible refine Stuck.h (A := RetE _ _) ?_) | (with_reducible refine Stuck.h (A := RetM _ _ _ _) ?_) | (with_reducible refine Stuck.h (A := Again _ _ _ _ _ _ _ _) ?_) | (with_reducible refine Stuck.h (A := CallF _ _ _ _ _ _ _) ?_) | (with_reducible refine Stuck.h (A := LoopG _ _ _ _ _ _ _ _) ?_) | (with_reducible refine Stuck.h (A := DrawG _ _ _ _ _ _ _ _) ?_)
  | (with_reducible refine Stuck.h (A := WrapG _ _ _) ?_) | (with_reducible refine Stuck.h (A := DivG _ _ _ _) ?_) | (with_reducible refine Stuck.h (A := ModG _ _ _) ?_) | (with_reducible refine Stuck.h (A := ShlG _ _ _ _) ?_) | (with_reducible refine Stuck.h (A := ShrG _ _ _ _) ?_) | (with_reducible refine Stuck.h (A := BitG _ _ _ _ _) ?_)
  | (with_reducible refine Stuck.h (A := IdxG _ _ _) ?_) | (with_reducible refine Stuck.h (A := IdxL _ _ _) ?_) | (with_reducible refine Stuck.h (A := SlcG _ _ _ _ _) ?_) | (with_reducible refine Stuck.h (A := MakG _ _ _ _) ?_) | (with_reducible refine Stuck.h (A := AppG _ _ _ _ _ _ _) ?_) | (with_reducible refine Stuck.h (A := FzG _ _ _ _) ?_)
  | (with_reducible refine Stuck.h (A := RawG _) ?_) | (with_reducible refine Stuck.h (A := TabG _ _ _ _ _) ?_) | (with_reducible refine Stuck.h (A := ExtF _ _ _ _) ?_) | (with_reducible refine Stuck.h (A := Chk _ _) ?_) | (with_reducible refine Stuck.h (A := False) ?_))
  · exact ⟨ret_e (by rw [if_pos hc])⟩
  · exact ⟨ret_e (by rw [if_neg hc])⟩
theorem y_scale {n e : Int} (k : Int) (h : Good n e) (hk : inR .i64 k) : FC Tryz.prog G 28 [DY n e, .val (.int .i64 k)] (· = scaleS n e k) := by
  have f1 := y_form (G := G) h
  have f2 := y_twing (G := G) h
  have f3 := y_noughtg (G := G) n e
  have ht := fun h0 => told_odd (x := e + k) h h0
  have e1 := h.2.1
  have e2 := h.2.2.1
  dsimp only [inR] at hk
  unfold scaleS
  refine FC.intro (X := XX) tok Tryz.func28 rfl Tryz.ntmps28 (by rw [Tryz.results28]) (by kernel_rfl) rfl ?_; intro F hG hO
  rw [← hG] at f1 f2 f3
  repeat' ((try (conv => whnf)); first
  | ((with_reducible refine cg ?_); refine call_eq (f1) (LpL.refl _) rfl ?_)
  | ((with_reducible refine cg ?_); refine call_eq (f2) (LpL.refl _) rfl ?_)
  | ((with_reducible refine cg ?_); refine call_eq (f3) (LpL.refl _) rfl ?_)
  
  | (with_reducible refine Chk.mk' (by first | omega | exact trivial | (simp only [List.length_append, List.length_set, List.length_replicate, List.length_take, List.length_drop, List.length_cons, List.length_nil, List.length_map]; omega)) ?_)
  | (with_reducible refine wrap_g (by dsimp only [inR]; omega) ?_)
  | (with_reducible refine idx_g (by omega) ?_)
  | (with_reducible refine idx_l _ rfl (by decide) ?_)
  | (with_reducible refine BothG.mk ?_ ?_)
  | (with_reducible refine fork_tt ?_) | (with_reducible refine fork_ff ?_)
  | (with_reducible refine fork_e (c := true) (by decide) ?_; with_reducible refine fork_tt ?_) | (with_reducible refine fork_e (c := false) (by decide) ?_; with_reducible refine fork_ff ?_)
  | (with_reducible refine fork_t (by omega) ?_) | (with_reducible refine fork_f (by omega) ?_)
  | (with_reducible refine fork_d ?_ ?_ <;> intro hc)
  | (with_reducible refine fork_n ?_)
  | (with_reducible refine fork_b ?_ ?_ <;> intro hc)
  | (with_reducible refine SlcG.mk (by omega) ?_)
  | (with_reducible refine MakG.mk (by dsimp only; omega) ?_)
  | (with_reducible refine AppG.mk (by first | omega | (simp only [List.length_append, List.length_set, List.length_replicate, List.length_take, List.length_drop, List.length_cons, List.length_nil, List.length_map]; omega)) (by dsimp only [List.length_cons, List.length_nil]; omega) (by omega) ?_)
  | (with_reducible refine div_g (by omega) (by omega) (by dsimp only [inR]; omega) ?_)
  | (with_reducible refine mod_g (by omega) (by omega) ?_)
  | (with_reducible refine mask_g (m := 4294967296) 32 rfl rfl (by decide) (by omega) ?_)
  | (with_reducible refine shr_g (m := 4294967296) 32 rfl (by decide) (by omega) rfl ?_)
  | (with_reducible refine fz_all (by omega) ?_)
  | (with_reducible refine Stuck.h (A := RetE _ _) ?_) | (with_reducible refine Stuck.h (A := RetM _ _ _ _) ?_) | (with_reducible refine Stuck.h (A := Again _ _ _ _ _ _ _ _) ?_) | (with_reducible refine Stuck.h (A := CallF _ _ _ _ _ _ _) ?_) | (with_reducible refine Stuck.h (A := LoopG _ _ _ _ _ _ _ _) ?_) | (with_reducible refine Stuck.h (A := DrawG _ _ _ _ _ _ _ _) ?_)
  | (with_reducible refine Stuck.h (A := WrapG _ _ _) ?_) | (with_reducible refine Stuck.h (A := DivG _ _ _ _) ?_) | (with_reducible refine Stuck.h (A := ModG _ _ _) ?_) | (with_reducible refine Stuck.h (A := ShlG _ _ _ _) ?_) | (with_reducible refine Stuck.h (A := ShrG _ _ _ _) ?_) | (with_reducible refine Stuck.h (A := BitG _ _ _ _ _) ?_)
  | (with_reducible refine Stuck.h (A := IdxG _ _ _) ?_) | (with_reducible refine Stuck.h (A := IdxL _ _ _) ?_) | (with_reducible refine Stuck.h (A := SlcG _ _ _ _ _) ?_) | (with_reducible refine Stuck.h (A := MakG _ _ _ _) ?_) | (with_reducible refine Stuck.h (A := AppG _ _ _ _ _ _ _) ?_) | (with_reducible refine Stuck.h (A := FzG _ _ _ _) ?_)
  | (with_reducible refine Stuck.h (A := RawG _) ?_) | (with_reducible refine Stuck.h (A := TabG _ _ _ _ _) ?_) | (with_reducible refine Stuck.h (A := ExtF _ _ _ _) ?_) | (with_reducible refine Stuck.h (A := Chk _ _) ?_) | (with_reducible refine Stuck.h (A := False) ?_))
  all_goals first
    | (refine ⟨ret_l _ (lp_dyE 0) ?_⟩; rw [if_pos (by omega)])
    | (refine ⟨ret_l _ (lp_dyE 5) ?_⟩; rw [if_neg (by omega), if_pos (by omega)])
    | (refine ⟨ret_l _ (lp_dyE 5) ?_⟩; rw [if_neg (by omega), if_neg (by omega), if_pos (by omega)])
    | (refine ⟨ret_l _ (lp_dyE 5) ?_⟩; rw [if_neg (by omega), if_neg (by omega), if_neg (by omega), ht (by omega) (by omega), if_pos (by omega)])
    | (refine ⟨ret_l _ (lp_dyE 5) ?_⟩; rw [if_neg (by omega), if_neg (by omega), if_neg (by omega), ht (by omega) (by omega), if_neg (by omega), if_pos (by omega)])
    | (refine ⟨ret_e ?_⟩; rw [if_neg (by omega), if_neg (by omega), if_neg (by omega), ht (by omega) (by omega), if_neg (by omega), if_neg (by omega)]; rfl)
def sizeS (n e m f : Int) : Int := if topN n e < topN m f then -1 else if topN m f < topN n e then 1 else cmpN (n.natAbs * 2 ^ (e - min e f).toNat) (m.natAbs * 2 ^ (f - min e f).toNat)
theorem sizeS_bd (n e m f : Int) : -1 ≤ sizeS n e m f ∧ sizeS n e m f ≤ 1 := by
  unfold sizeS cmpN
  by_cases h1 : topN n e < topN m f
  · rw [if_pos h1]; decide
  · rw [if_neg h1]
    by_cases h2 : topN m f < topN n e
    · rw [if_pos h2]; decide
    · rw [if_neg h2]
      by_cases h3 : n.natAbs * 2 ^ (e - min e f).toNat < m.natAbs * 2 ^ (f - min e f).toNat
      · rw [if_pos h3]; decide
      · rw [if_neg h3]
        split <;> decide
theorem y_size {n e m f : Int} (h : Good n e) (g : Good m f) (hn : n ≠ 0) (hm : m ≠ 0) : FC Tryz.prog G 77 [DY n e, DY m f] (· = .val (.int .i64 (sizeS n e m f))) := by
  have f1 := y_top (G := G) h
  have f2 := y_top (G := G) g
  have e1 := h.2.1
  have e2 := h.2.2.1
  have e3 := g.2.1
  have e4 := g.2.2.1
  have b1 := h.bl
  have b2 := g.bl
  have t1 := topN_bd h
  have t2 := topN_bd g
  have s1 := n_shl (G := G) n.natAbs (e - min e f) h.1 (by dsimp only [inR]; omega)
  have s2 := n_shl (G := G) m.natAbs (f - min e f) g.1 (by dsimp only [inR]; omega)
  have k1 := bl_mul_pow n.natAbs (e - min e f).toNat (by omega)
  have k2 := bl_mul_pow m.natAbs (f - min e f).toNat (by omega)
  unfold sizeS
  have hd1 : topN n e = e + (bl n.natAbs : Int) - 1 := rfl
  have hd2 : topN m f = f + (bl m.natAbs : Int) - 1 := rfl
  have q1 : topN n e = topN m f → shlT n.natAbs (e - min e f) = natR (n.natAbs * 2 ^ (e - min e f).toNat) ∧ L64 (n.natAbs * 2 ^ (e - min e f).toNat) ≤ 8192 := fun hh => by
    have hl : L64 (n.natAbs * 2 ^ (e - min e f).toNat) ≤ 8192 := by rw [L64_bl, k1]; omega
    exact ⟨by rw [shlT_ok (by omega) (by omega) (by omega), natT_ok hl], hl⟩
  have q2 : topN n e = topN m f → shlT m.natAbs (f - min e f) = natR (m.natAbs * 2 ^ (f - min e f).toNat) ∧ L64 (m.natAbs * 2 ^ (f - min e f).toNat) ≤ 8192 := fun hh => by
    have hl : L64 (m.natAbs * 2 ^ (f - min e f).toNat) ≤ 8192 := by rw [L64_bl, k2]; omega
    exact ⟨by rw [shlT_ok (by omega) (by omega) (by omega), natT_ok hl], hl⟩
  by_cases hq : topN n e = topN m f
  · obtain ⟨q11, q12⟩ := q1 hq
    obtain ⟨q21, q22⟩ := q2 hq
    rw [q11] at s1
    rw [q21] at s2
    have f5 := n_cmp (G := G) (n.natAbs * 2 ^ (e - min e f).toNat) (m.natAbs * 2 ^ (f - min e f).toNat) (by omega) (by omega)
    rw [if_neg (by omega), if_neg (by omega)]
    obtain ⟨x, hx⟩ : ∃ x, x = n.natAbs * 2 ^ (e - min e f).toNat := ⟨_, rfl⟩
    obtain ⟨y, hy⟩ : ∃ y, y = m.natAbs * 2 ^ (f - min e f).toNat := ⟨_, rfl⟩
    rw [← hx] at s1 f5 ⊢
    rw [← hy] at s2 f5 ⊢
    clear q1 q2 q11 q21 k1 k2 hd1 hd2 hx hy
    refine FC.intro (X := XX) tok Tryz.func77 rfl Tryz.ntmps77 (by rw [Tryz.results77]) (by kernel_rfl) rfl ?_; intro F hG hO
    rw [← hG] at f1 f2 f5 s1 s2
    repeat' ((try (conv => whnf)); first
  | ((with_reducible refine cg ?_); refine call_eq (f1) (LpL.refl _) rfl ?_)
  | ((with_reducible refine cg ?_); refine call_eq (f2) (LpL.refl _) rfl ?_)
  | ((with_reducible refine cg ?_); refine call_eq (s1) (LpL.refl _) rfl ?_)
  | ((with_reducible refine cg ?_); refine call_eq (s2) (LpL.refl _) rfl ?_)
  | ((with_reducible refine cg ?_); refine call_eq (f5) (LpL.refl _) rfl ?_)
  
  | (with_reducible refine draw_g (id := 1) [[0, 2, 1, 3, 4, 5]] tok mixed (by kernel_rfl) ?_)
  | (with_reducible refine Chk.mk' (by first | omega | exact trivial | (simp only [List.length_append, List.length_set, List.length_replicate, List.length_take, List.length_drop, List.length_cons, List.length_nil, List.length_map]; omega)) ?_)
  | (with_reducible refine wrap_g (by dsimp only [inR]; omega) ?_)
  | (with_reducible refine idx_g (by omega) ?_)
  | (with_reducible refine idx_l _ rfl (by decide) ?_)
  | (with_reducible refine BothG.mk ?_ ?_)
  | (with_reducible refine fork_tt ?_) | (with_reducible refine fork_ff ?_)
  | (with_reducible refine fork_e (c := true) (by decide) ?_; with_reducible refine fork_tt ?_) | (with_reducible refine fork_e (c := false) (by decide) ?_; with_reducible refine fork_ff ?_)
  | (with_reducible refine fork_t (by omega) ?_) | (with_reducible refine fork_f (by omega) ?_)
  | (with_reducible refine fork_d ?_ ?_ <;> intro hc)
  | (with_reducible refine fork_n ?_)
  | (with_reducible refine fork_b ?_ ?_ <;> intro hc)
  | (with_reducible refine SlcG.mk (by omega) ?_)
  | (with_reducible refine MakG.mk (by dsimp only; omega) ?_)
  | (with_reducible refine AppG.mk (by first | omega | (simp only [List.length_append, List.length_set, List.length_replicate, List.length_take, List.length_drop, List.length_cons, List.length_nil, List.length_map]; omega)) (by dsimp only [List.length_cons, List.length_nil]; omega) (by omega) ?_)
  | (with_reducible refine div_g (by omega) (by omega) (by dsimp only [inR]; omega) ?_)
  | (with_reducible refine mod_g (by omega) (by omega) ?_)
  | (with_reducible refine mask_g (m := 4294967296) 32 rfl rfl (by decide) (by omega) ?_)
  | (with_reducible refine shr_g (m := 4294967296) 32 rfl (by decide) (by omega) rfl ?_)
  | (with_reducible refine fz_all (by omega) ?_)
  | (with_reducible refine Stuck.h (A := RetE _ _) ?_) | (with_reducible refine Stuck.h (A := RetM _ _ _ _) ?_) | (with_reducible refine Stuck.h (A := Again _ _ _ _ _ _ _ _) ?_) | (with_reducible refine Stuck.h (A := CallF _ _ _ _ _ _ _) ?_) | (with_reducible refine Stuck.h (A := LoopG _ _ _ _ _ _ _ _) ?_) | (with_reducible refine Stuck.h (A := DrawG _ _ _ _ _ _ _ _) ?_)
  | (with_reducible refine Stuck.h (A := WrapG _ _ _) ?_) | (with_reducible refine Stuck.h (A := DivG _ _ _ _) ?_) | (with_reducible refine Stuck.h (A := ModG _ _ _) ?_) | (with_reducible refine Stuck.h (A := ShlG _ _ _ _) ?_) | (with_reducible refine Stuck.h (A := ShrG _ _ _ _) ?_) | (with_reducible refine Stuck.h (A := BitG _ _ _ _ _) ?_)
  | (with_reducible refine Stuck.h (A := IdxG _ _ _) ?_) | (with_reducible refine Stuck.h (A := IdxL _ _ _) ?_) | (with_reducible refine Stuck.h (A := SlcG _ _ _ _ _) ?_) | (with_reducible refine Stuck.h (A := MakG _ _ _ _) ?_) | (with_reducible refine Stuck.h (A := AppG _ _ _ _ _ _ _) ?_) | (with_reducible refine Stuck.h (A := FzG _ _ _ _) ?_)
  | (with_reducible refine Stuck.h (A := RawG _) ?_) | (with_reducible refine Stuck.h (A := TabG _ _ _ _ _) ?_) | (with_reducible refine Stuck.h (A := ExtF _ _ _ _) ?_) | (with_reducible refine Stuck.h (A := Chk _ _) ?_) | (with_reducible refine Stuck.h (A := False) ?_))
    exact ⟨ret_e rfl⟩
  · clear q1 q2 k1 k2 hd1 hd2
    refine FC.intro (X := XX) tok Tryz.func77 rfl Tryz.ntmps77 (by rw [Tryz.results77]) (by kernel_rfl) rfl ?_; intro F hG hO
    rw [← hG] at f1 f2
    repeat' ((try (conv => whnf)); first
  | ((with_reducible refine cg ?_); refine call_eq (f1) (LpL.refl _) rfl ?_)
  | ((with_reducible refine cg ?_); refine call_eq (f2) (LpL.refl _) rfl ?_)
  
  | (with_reducible refine draw_g (id := 1) [[0, 2, 1, 3, 4, 5]] tok mixed (by kernel_rfl) ?_)
  | (with_reducible refine Chk.mk' (by first | omega | exact trivial | (simp only [List.length_append, List.length_set, List.length_replicate, List.length_take, List.length_drop, List.length_cons, List.length_nil, List.length_map]; omega)) ?_)
  | (with_reducible refine wrap_g (by dsimp only [inR]; omega) ?_)
  | (with_reducible refine idx_g (by omega) ?_)
  | (with_reducible refine idx_l _ rfl (by decide) ?_)
  | (with_reducible refine BothG.mk ?_ ?_)
  | (with_reducible refine fork_tt ?_) | (with_reducible refine fork_ff ?_)
  | (with_reducible refine fork_e (c := true) (by decide) ?_; with_reducible refine fork_tt ?_) | (with_reducible refine fork_e (c := false) (by decide) ?_; with_reducible refine fork_ff ?_)
  | (with_reducible refine fork_t (by omega) ?_) | (with_reducible refine fork_f (by omega) ?_)
  | (with_reducible refine fork_d ?_ ?_ <;> intro hc)
  | (with_reducible refine fork_n ?_)
  | (with_reducible refine fork_b ?_ ?_ <;> intro hc)
  | (with_reducible refine SlcG.mk (by omega) ?_)
  | (with_reducible refine MakG.mk (by dsimp only; omega) ?_)
  | (with_reducible refine AppG.mk (by first | omega | (simp only [List.length_append, List.length_set, List.length_replicate, List.length_take, List.length_drop, List.length_cons, List.length_nil, List.length_map]; omega)) (by dsimp only [List.length_cons, List.length_nil]; omega) (by omega) ?_)
  | (with_reducible refine div_g (by omega) (by omega) (by dsimp only [inR]; omega) ?_)
  | (with_reducible refine mod_g (by omega) (by omega) ?_)
  | (with_reducible refine mask_g (m := 4294967296) 32 rfl rfl (by decide) (by omega) ?_)
  | (with_reducible refine shr_g (m := 4294967296) 32 rfl (by decide) (by omega) rfl ?_)
  | (with_reducible refine fz_all (by omega) ?_)
  | (with_reducible refine Stuck.h (A := RetE _ _) ?_) | (with_reducible refine Stuck.h (A := RetM _ _ _ _) ?_) | (with_reducible refine Stuck.h (A := Again _ _ _ _ _ _ _ _) ?_) | (with_reducible refine Stuck.h (A := CallF _ _ _ _ _ _ _) ?_) | (with_reducible refine Stuck.h (A := LoopG _ _ _ _ _ _ _ _) ?_) | (with_reducible refine Stuck.h (A := DrawG _ _ _ _ _ _ _ _) ?_)
  | (with_reducible refine Stuck.h (A := WrapG _ _ _) ?_) | (with_reducible refine Stuck.h (A := DivG _ _ _ _) ?_) | (with_reducible refine Stuck.h (A := ModG _ _ _) ?_) | (with_reducible refine Stuck.h (A := ShlG _ _ _ _) ?_) | (with_reducible refine Stuck.h (A := ShrG _ _ _ _) ?_) | (with_reducible refine Stuck.h (A := BitG _ _ _ _ _) ?_)
  | (with_reducible refine Stuck.h (A := IdxG _ _ _) ?_) | (with_reducible refine Stuck.h (A := IdxL _ _ _) ?_) | (with_reducible refine Stuck.h (A := SlcG _ _ _ _ _) ?_) | (with_reducible refine Stuck.h (A := MakG _ _ _ _) ?_) | (with_reducible refine Stuck.h (A := AppG _ _ _ _ _ _ _) ?_) | (with_reducible refine Stuck.h (A := FzG _ _ _ _) ?_)
  | (with_reducible refine Stuck.h (A := RawG _) ?_) | (with_reducible refine Stuck.h (A := TabG _ _ _ _ _) ?_) | (with_reducible refine Stuck.h (A := ExtF _ _ _ _) ?_) | (with_reducible refine Stuck.h (A := Chk _ _) ?_) | (with_reducible refine Stuck.h (A := False) ?_))
    · exact ⟨ret_e (by rw [if_pos hc])⟩
    · exact ⟨ret_e (by rw [if_neg (by omega), if_pos (by omega)])⟩
end Go.Proofs.YtbeocnjlepcglaaGreatDoor.Sim
