/-
  What the statement DyadicCutsCardSaid leans on, part 10: the logic of walks, digits, contracts of the functions, the plain law. Conditions stand in each theorem.
-/
import Derived.Test.YtbeocnjlepcglaaGreatDoorPkDyadicCutsCardSaidI
namespace Go.Proofs.YtbeocnjlepcglaaGreatDoor.Sim
open Go.RowKit
set_option linter.unusedVariables false
set_option linter.unusedSimpArgs false
set_option maxRecDepth 10000
set_option maxHeartbeats 8000000
variable {G : List (Nat × List Value)}
def moreB (up b s : Bool) : Bool := match up with
  | true => !b && s
  | false => b && s
def wayV (up : Bool) : Int := match up with
  | true => 1
  | false => 0
theorem n_more (up b o s : Bool) (h : Int) : FC Tryz.prog G 174 [.val (.int .i64 (wayV up)), .val (.bool b), .val (.bool o), .val (.bool s), .val (.int .i64 h)] (· = .val (.bool (moreB up b s))) := by
  cases up <;> cases b
  all_goals
    refine FC.intro (X := XX) tok Tryz.func174 rfl Tryz.ntmps174 (by rw [Tryz.results174]) (by kernel_rfl) rfl ?_; intro F hG hO
    repeat' ((try (conv => whnf)); first
  
  | (with_reducible refine Chk.mk' (by first | omega | exact trivial | (simp only [List.length_append, List.length_set, List.length_replicate, List.length_take, List.length_drop, List.length_cons, List.length_nil, List.length_map]; omega)) ?_)
  | (with_reducible refine wrap_g (by dsimp only [inR]; omega) ?_)
  | (with_reducible refine idx_g (by omega) ?_)
  | (with_reducible refine idx_l _ rfl (by decide) ?_)
  | (with_reducible refine BothG.mk ?_ ?_)
  | (with_reducible refine fork_tt ?_) | (with_reducible refine fork_ff ?_)
  | (with_reducible refine fork_e (c := true) (by decide) ?_; with_reducible refine fork_tt ?_) | (with_reducible refine fork_e (c := false) (by decide) ?_; with_reducible refine fork_ff ?_)
  | (with_reducible refine fork_t (by omega) ?_) | (with_reducible refine fork_f (by omega) ?_)
  | (with_reducible refine fork_d ?_ ?_ <;> intro hc)
  | (with_reducible refine fork_n ?_)
  | (with_reducible refine fork_b ?_ ?_ <;> intro hc)
  | (with_reducible refine SlcG.mk (by omega) ?_)
  | (with_reducible refine MakG.mk (by dsimp only; omega) ?_)
  | (with_reducible refine AppG.mk (by first | omega | (simp only [List.length_append, List.length_set, List.length_replicate, List.length_take, List.length_drop, List.length_cons, List.length_nil, List.length_map]; omega)) (by dsimp only [List.length_cons, List.length_nil]; omega) (by omega) ?_)
  | (with_reducible refine div_g (by omega) (by omega) (by dsimp only [inR]; omega) ?_)
  | (with_reducible refine mod_g (by omega) (by omega) ?_)
  | (with_reducible refine mask_g (m := 4294967296) 32 rfl rfl (by decide) (by omega) ?_)
  | (with_reducible refine shr_g (m := 4294967296) 32 rfl (by decide) (by omega) rfl ?_)
  | (with_reducible refine fz_all (by omega) ?_)
  | (with_reducible refine Stuck.h (A := RetE _ _) ?_) | (with_reducible refine Stuck.h (A := RetM _ _ _ _) ?_) | (with_reducible refine Stuck.h (A := Again _ _ _ _ _ _ _ _) ?_) | (with_reducible refine Stuck.h (A := CallF _ _ _ _ _ _ _) ?_) | (with_reducible refine Stuck.h (A := LoopG _ _ _ _ _ _ _ _) ?_) | (with_reducible refine Stuck.h (A := DrawG _ _ _ _ _ _ _ _) ?_)
  | (with_reducible refine Stuck.h (A := WrapG _ _ _) ?_) | (with_reducible refine Stuck.h (A := DivG _ _ _ _) ?_) | (with_reducible refine Stuck.h (A := ModG _ _ _) ?_) | (with_reducible refine Stuck.h (A := ShlG _ _ _ _) ?_) | (with_reducible refine Stuck.h (A := ShrG _ _ _ _) ?_) | (with_reducible refine Stuck.h (A := BitG _ _ _ _ _) ?_)
  | (with_reducible refine Stuck.h (A := IdxG _ _ _) ?_) | (with_reducible refine Stuck.h (A := IdxL _ _ _) ?_) | (with_reducible refine Stuck.h (A := SlcG _ _ _ _ _) ?_) | (with_reducible refine Stuck.h (A := MakG _ _ _ _) ?_) | (with_reducible refine Stuck.h (A := AppG _ _ _ _ _ _ _) ?_) | (with_reducible refine Stuck.h (A := FzG _ _ _ _) ?_)
  | (with_reducible refine Stuck.h (A := RawG _) ?_) | (with_reducible refine Stuck.h (A := TabG _ _ _ _ _) ?_) | (with_reducible refine Stuck.h (A := ExtF _ _ _ _) ?_) | (with_reducible refine Stuck.h (A := Chk _ _) ?_) | (with_reducible refine Stuck.h (A := False) ?_))
    exact ⟨ret_e rfl⟩
theorem n_made (up b : Bool) (Q : Nat) (s : Bool) (h : Int) (hQ : L64 Q ≤ 8192) (hQ1 : s = true → L64 (Q + 1) ≤ 8192) : FC Tryz.prog G 166 [.val (.int .i64 (wayV up)), .val (.bool b), .ws .u64 (d64 Q), .val (.bool s), .val (.int .i64 h)] (· = numR (sg b (if moreB up b s = true then Q + 1 else Q))) := by
  have f1 := n_bit (G := G) Q 0 (by omega) (by dsimp only [inR]; omega)
  obtain ⟨o, ho⟩ : ∃ o, o = decide (0 ≤ (0 : Int) ∧ Q / 2 ^ (Int.toNat 0) % 2 = 1) := ⟨_, rfl⟩
  rw [← ho] at f1
  clear ho
  have f2 := n_more (G := G) up b o s h
  have f3 := n_word (G := G) 1 (by decide)
  have f4 := n_ntold (G := G) b Q
  obtain ⟨r, hr⟩ : ∃ r, r = moreB up b s := ⟨_, rfl⟩
  rw [← hr] at f2 ⊢
  have hrs : r = true → s = true := fun h => by rw [h] at hr; cases up <;> cases b <;> cases s <;> first | rfl | exact absurd hr (by decide)
  cases r
  · rw [if_neg (by decide)]
    clear hQ1 hrs hr
    refine FC.intro (X := XX) tok Tryz.func166 rfl Tryz.ntmps166 (by rw [Tryz.results166]) (by kernel_rfl) rfl ?_; intro F hG hO
    rw [← hG] at f1 f2 f3 f4
    repeat' ((try (conv => whnf)); first
  | ((with_reducible refine cg ?_); refine call_eq (f1) (LpL.refl _) rfl ?_)
  | ((with_reducible refine cg ?_); refine call_eq (f2) (LpL.refl _) rfl ?_)
  | ((with_reducible refine cg ?_); refine call_eq (f4) (LpL.refl _) rfl ?_)
  
  | (with_reducible refine Chk.mk' (by first | omega | exact trivial | (simp only [List.length_append, List.length_set, List.length_replicate, List.length_take, List.length_drop, List.length_cons, List.length_nil, List.length_map]; omega)) ?_)
  | (with_reducible refine wrap_g (by dsimp only [inR]; omega) ?_)
  | (with_reducible refine idx_g (by omega) ?_)
  | (with_reducible refine idx_l _ rfl (by decide) ?_)
  | (with_reducible refine BothG.mk ?_ ?_)
  | (with_reducible refine fork_tt ?_) | (with_reducible refine fork_ff ?_)
  | (with_reducible refine fork_e (c := true) (by decide) ?_; with_reducible refine fork_tt ?_) | (with_reducible refine fork_e (c := false) (by decide) ?_; with_reducible refine fork_ff ?_)
  | (with_reducible refine fork_t (by omega) ?_) | (with_reducible refine fork_f (by omega) ?_)
  | (with_reducible refine fork_d ?_ ?_ <;> intro hc)
  | (with_reducible refine fork_n ?_)
  | (with_reducible refine fork_b ?_ ?_ <;> intro hc)
  | (with_reducible refine SlcG.mk (by omega) ?_)
  | (with_reducible refine MakG.mk (by dsimp only; omega) ?_)
  | (with_reducible refine AppG.mk (by first | omega | (simp only [List.length_append, List.length_set, List.length_replicate, List.length_take, List.length_drop, List.length_cons, List.length_nil, List.length_map]; omega)) (by dsimp only [List.length_cons, List.length_nil]; omega) (by omega) ?_)
  | (with_reducible refine div_g (by omega) (by omega) (by dsimp only [inR]; omega) ?_)
  | (with_reducible refine mod_g (by omega) (by omega) ?_)
  | (with_reducible refine mask_g (m := 4294967296) 32 rfl rfl (by decide) (by omega) ?_)
  | (with_reducible refine shr_g (m := 4294967296) 32 rfl (by decide) (by omega) rfl ?_)
  | (with_reducible refine fz_all (by omega) ?_)
  | (with_reducible refine Stuck.h (A := RetE _ _) ?_) | (with_reducible refine Stuck.h (A := RetM _ _ _ _) ?_) | (with_reducible refine Stuck.h (A := Again _ _ _ _ _ _ _ _) ?_) | (with_reducible refine Stuck.h (A := CallF _ _ _ _ _ _ _) ?_) | (with_reducible refine Stuck.h (A := LoopG _ _ _ _ _ _ _ _) ?_) | (with_reducible refine Stuck.h (A := DrawG _ _ _ _ _ _ _ _) ?_)
  | (with_reducible refine Stuck.h (A := WrapG _ _ _) ?_) | (with_reducible refine Stuck.h (A := DivG _ _ _ _) ?_) | (with_reducible refine Stuck.h (A := ModG _ _ _) ?_) | (with_reducible refine Stuck.h (A := ShlG _ _ _ _) ?_) | (with_reducible refine Stuck.h (A := ShrG _ _ _ _) ?_) | (with_reducible refine Stuck.h (A := BitG _ _ _ _ _) ?_)
  | (with_reducible refine Stuck.h (A := IdxG _ _ _) ?_) | (with_reducible refine Stuck.h (A := IdxL _ _ _) ?_) | (with_reducible refine Stuck.h (A := SlcG _ _ _ _ _) ?_) | (with_reducible refine Stuck.h (A := MakG _ _ _ _) ?_) | (with_reducible refine Stuck.h (A := AppG _ _ _ _ _ _ _) ?_) | (with_reducible refine Stuck.h (A := FzG _ _ _ _) ?_)
  | (with_reducible refine Stuck.h (A := RawG _) ?_) | (with_reducible refine Stuck.h (A := TabG _ _ _ _ _) ?_) | (with_reducible refine Stuck.h (A := ExtF _ _ _ _) ?_) | (with_reducible refine Stuck.h (A := Chk _ _) ?_) | (with_reducible refine Stuck.h (A := False) ?_))
    exact ⟨ret_e rfl⟩
  · rw [if_pos rfl]
    have hq := hQ1 (hrs rfl)
    have l1 : L64 1 ≤ 8192 := Nat.le_trans (L64_le (n := 1) (by decide)) (by decide)
    have f5 := n_add (G := G) Q 1 hQ l1
    rw [natT_ok hq] at f5
    have f6 := n_ntold (G := G) b (Q + 1)
    clear hQ1 hrs hr
    refine FC.intro (X := XX) tok Tryz.func166 rfl Tryz.ntmps166 (by rw [Tryz.results166]) (by kernel_rfl) rfl ?_; intro F hG hO
    rw [← hG] at f1 f2 f3 f5 f6
    repeat' ((try (conv => whnf)); first
  | ((with_reducible refine cg ?_); refine call_eq (f1) (LpL.refl _) rfl ?_)
  | ((with_reducible refine cg ?_); refine call_eq (f2) (LpL.refl _) rfl ?_)
  | ((with_reducible refine cg ?_); refine call_eq (f3) (LpL.refl _) rfl ?_)
  | ((with_reducible refine cg ?_); refine call_eq (f5) (LpL.refl _) rfl ?_)
  | ((with_reducible refine cg ?_); refine call_eq (f6) (LpL.refl _) rfl ?_)
  
  | (with_reducible refine Chk.mk' (by first | omega | exact trivial | (simp only [List.length_append, List.length_set, List.length_replicate, List.length_take, List.length_drop, List.length_cons, List.length_nil, List.length_map]; omega)) ?_)
  | (with_reducible refine wrap_g (by dsimp only [inR]; omega) ?_)
  | (with_reducible refine idx_g (by omega) ?_)
  | (with_reducible refine idx_l _ rfl (by decide) ?_)
  | (with_reducible refine BothG.mk ?_ ?_)
  | (with_reducible refine fork_tt ?_) | (with_reducible refine fork_ff ?_)
  | (with_reducible refine fork_e (c := true) (by decide) ?_; with_reducible refine fork_tt ?_) | (with_reducible refine fork_e (c := false) (by decide) ?_; with_reducible refine fork_ff ?_)
  | (with_reducible refine fork_t (by omega) ?_) | (with_reducible refine fork_f (by omega) ?_)
  | (with_reducible refine fork_d ?_ ?_ <;> intro hc)
  | (with_reducible refine fork_n ?_)
  | (with_reducible refine fork_b ?_ ?_ <;> intro hc)
  | (with_reducible refine SlcG.mk (by omega) ?_)
  | (with_reducible refine MakG.mk (by dsimp only; omega) ?_)
  | (with_reducible refine AppG.mk (by first | omega | (simp only [List.length_append, List.length_set, List.length_replicate, List.length_take, List.length_drop, List.length_cons, List.length_nil, List.length_map]; omega)) (by dsimp only [List.length_cons, List.length_nil]; omega) (by omega) ?_)
  | (with_reducible refine div_g (by omega) (by omega) (by dsimp only [inR]; omega) ?_)
  | (with_reducible refine mod_g (by omega) (by omega) ?_)
  | (with_reducible refine mask_g (m := 4294967296) 32 rfl rfl (by decide) (by omega) ?_)
  | (with_reducible refine shr_g (m := 4294967296) 32 rfl (by decide) (by omega) rfl ?_)
  | (with_reducible refine fz_all (by omega) ?_)
  | (with_reducible refine Stuck.h (A := RetE _ _) ?_) | (with_reducible refine Stuck.h (A := RetM _ _ _ _) ?_) | (with_reducible refine Stuck.h (A := Again _ _ _ _ _ _ _ _) ?_) | (with_reducible refine Stuck.h (A := CallF _ _ _ _ _ _ _) ?_) | (with_reducible refine Stuck.h (A := LoopG _ _ _ _ _ _ _ _) ?_) | (with_reducible refine Stuck.h (A := DrawG _ _ _ _ _ _ _ _) ?_)
  | (with_reducible refine Stuck.h (A := WrapG _ _ _) ?_) | (with_reducible refine Stuck.h (A := DivG _ _ _ _) ?_) | (with_reducible refine Stuck.h (A := ModG _ _ _) ?_) | (with_reducible refine Stuck.h (A := ShlG _ _ _ _) ?_) | (with_reducible refine Stuck.h (A := ShrG _ _ _ _) ?_) | (with_reducible refine Stuck.h (A := BitG _ _ _ _ _) ?_)
  | (with_reducible refine Stuck.h (A := IdxG _ _ _) ?_) | (with_reducible refine Stuck.h (A := IdxL _ _ _) ?_) | (with_reducible refine Stuck.h (A := SlcG _ _ _ _ _) ?_) | (with_reducible refine Stuck.h (A := MakG _ _ _ _) ?_) | (with_reducible refine Stuck.h (A := AppG _ _ _ _ _ _ _) ?_) | (with_reducible refine Stuck.h (A := FzG _ _ _ _) ?_)
  | (with_reducible refine Stuck.h (A := RawG _) ?_) | (with_reducible refine Stuck.h (A := TabG _ _ _ _ _) ?_) | (with_reducible refine Stuck.h (A := ExtF _ _ _ _) ?_) | (with_reducible refine Stuck.h (A := Chk _ _) ?_) | (with_reducible refine Stuck.h (A := False) ?_))
    exact ⟨ret_e rfl⟩
theorem tz_lt_iff {X k : Nat} (h : X ≠ 0) : tz X < k ↔ X % 2 ^ k ≠ 0 := by
  obtain ⟨m, h1, h2⟩ := tz_ok h
  obtain ⟨t, ht⟩ : ∃ t, t = tz X := ⟨_, rfl⟩
  rw [← ht] at h1 ⊢
  constructor
  · intro hlt h0
    obtain ⟨j, hj⟩ : ∃ j, k = t + (j + 1) := ⟨k - t - 1, by omega⟩
    have hd : 2 ^ k ∣ X := Nat.dvd_of_mod_eq_zero h0
    obtain ⟨q, hq⟩ := hd
    rw [hj, Nat.pow_add, h1] at hq
    have h3 : m = 2 ^ (j + 1) * q := by
      have h4 : m * 2 ^ t = 2 ^ (j + 1) * q * 2 ^ t := by rw [hq, Nat.mul_assoc, Nat.mul_comm]
      exact Nat.eq_of_mul_eq_mul_right (Nat.pow_pos (by decide)) h4
    rw [Nat.pow_succ] at h3
    have : m % 2 = 0 := by rw [h3, Nat.mul_right_comm, Nat.mul_mod_left]
    omega
  · intro hne
    rcases Nat.lt_or_ge t k with h3 | h3
    · exact h3
    · exfalso
      apply hne
      rw [h1, show t = (t - k) + k by omega, Nat.pow_add, ← Nat.mul_assoc, Nat.mul_mod_left]
theorem shr_way (up : Bool) (n : Int) (k : Nat) (s : Bool) (hs : s = decide (n.natAbs % 2 ^ k ≠ 0)) : sg (decide (n < 0)) (if moreB up (decide (n < 0)) s = true then n.natAbs / 2 ^ k + 1 else n.natAbs / 2 ^ k) = wholeS n (k : Int) up := by
  unfold wholeS
  rw [Int.toNat_natCast]
  have hP0 : 0 < 2 ^ k := Nat.pow_pos (by decide)
  have hPi : (2 : Int) ^ k = ((2 ^ k : Nat) : Int) := by simp
  obtain ⟨d1, d2⟩ := nat_dm n.natAbs (2 ^ k) hP0
  rw [hPi]
  obtain ⟨P, hP⟩ : ∃ P, P = 2 ^ k := ⟨_, rfl⟩
  rw [← hP] at hs hP0 d1 d2 ⊢
  obtain ⟨q, hq⟩ : ∃ q, q = n.natAbs / P := ⟨_, rfl⟩
  obtain ⟨r, hr⟩ : ∃ r, r = n.natAbs % P := ⟨_, rfl⟩
  rw [← hq] at d1 ⊢
  rw [← hr] at d1 d2 hs
  by_cases hn : n < 0 <;> by_cases h0 : r = 0
  · rw [decide_eq_true hn]
    rw [decide_eq_false (by omega)] at hs
    subst hs
    cases up
    · exact (div_of (a := n) (b := (P : Int)) (q := -(q : Int)) (r := r) (by omega) (by rw [Int.mul_neg]; omega) (by omega) (by omega)).1.symm
    · show -(q : Int) = -((-n) / (P : Int))
      rw [(div_of (a := -n) (b := (P : Int)) (q := (q : Int)) (r := r) (by omega) (by omega) (by omega) (by omega)).1]
  · rw [decide_eq_true hn]
    rw [decide_eq_true (by omega)] at hs
    subst hs
    cases up
    · exact (div_of (a := n) (b := (P : Int)) (q := -((q + 1 : Nat) : Int)) (r := (P : Int) - r) (by omega) (by rw [Int.mul_neg, Int.natCast_add, Int.mul_add]; omega) (by omega) (by omega)).1.symm
    · show -(q : Int) = -((-n) / (P : Int))
      rw [(div_of (a := -n) (b := (P : Int)) (q := (q : Int)) (r := r) (by omega) (by omega) (by omega) (by omega)).1]
  · rw [decide_eq_false hn]
    rw [decide_eq_false (by omega)] at hs
    subst hs
    cases up
    · exact (div_of (a := n) (b := (P : Int)) (q := (q : Int)) (r := r) (by omega) (by omega) (by omega) (by omega)).1.symm
    · show (q : Int) = -((-n) / (P : Int))
      rw [(div_of (a := -n) (b := (P : Int)) (q := -(q : Int)) (r := r) (by omega) (by rw [Int.mul_neg]; omega) (by omega) (by omega)).1, Int.neg_neg]
  · rw [decide_eq_false hn]
    rw [decide_eq_true (by omega)] at hs
    subst hs
    cases up
    · exact (div_of (a := n) (b := (P : Int)) (q := (q : Int)) (r := r) (by omega) (by omega) (by omega) (by omega)).1.symm
    · show ((q + 1 : Nat) : Int) = -((-n) / (P : Int))
      rw [(div_of (a := -n) (b := (P : Int)) (q := -((q + 1 : Nat) : Int)) (r := (P : Int) - r) (by omega) (by rw [Int.mul_neg, Int.natCast_add, Int.mul_add]; omega) (by omega) (by omega)).1, Int.neg_neg]
end Go.Proofs.YtbeocnjlepcglaaGreatDoor.Sim
namespace Go.Proofs.YtbeocnjlepcglaaGreatDoor.Sim
open Go.RowKit
set_option linter.unusedVariables false
set_option linter.unusedSimpArgs false
set_option maxRecDepth 10000
set_option maxHeartbeats 8000000
variable {G : List (Nat × List Value)}
theorem shr_one {X k : Nat} (h0 : X ≠ 0) (hk : tz X < k) : X / 2 ^ k + 1 ≤ X := by
  have h1 : 2 ^ 1 ≤ 2 ^ k := Nat.pow_le_pow_right (by decide) (by omega)
  have h2 : X / 2 ^ k ≤ X / 2 ^ 1 := Nat.div_le_div_left h1 (by decide)
  rw [Nat.pow_one] at h2
  omega
theorem n_wshr {g : List (Nat × List Value)} (hD : (0, debT.map (Value.int .u8)) ∈ g) (up : Bool) (n k : Int) (h : L64 n.natAbs ≤ 8192) (hk : inR .i64 k) (hk0 : 0 ≤ k) : FC Tryz.prog g 152 [.val (.int .i64 (wayV up)), NI n, .val (.int .i64 k)] (· = numR (wholeS n k up)) := by
  have hk1 := hk
  dsimp only [inR] at hk
  have hp := len64_pos n.natAbs
  have f0 := n_nform (G := g) n h
  have f1 := n_shr (G := g) n.natAbs k h hk1
  rw [shrT_ok (by omega)] at f1
  have f2 := n_trail hD n.natAbs (by omega)
  have f3 := n_bit (G := g) n.natAbs (k - 1) (by omega) (by dsimp only [inR]; omega)
  have hQ : L64 (n.natAbs / 2 ^ k.toNat) ≤ 8192 := Nat.le_trans (lenB_mono (by decide) (Nat.div_le_self _ _)) h
  have hw0 : Unit → n.natAbs = 0 → sg (decide (n < 0)) (if moreB up (decide (n < 0)) false = true then n.natAbs / 2 ^ k.toNat + 1 else n.natAbs / 2 ^ k.toNat) = wholeS n ((k.toNat : Nat) : Int) up := fun _ h0 => shr_way up n k.toNat false (decide_eq_false (by rw [h0]; simp)).symm
  have hw1 : Unit → n.natAbs ≠ 0 → sg (decide (n < 0)) (if moreB up (decide (n < 0)) (decide ((tz n.natAbs : Int) < k)) = true then n.natAbs / 2 ^ k.toNat + 1 else n.natAbs / 2 ^ k.toNat) = wholeS n ((k.toNat : Nat) : Int) up := fun _ h0 => shr_way up n k.toNat (decide ((tz n.natAbs : Int) < k)) (decide_eq_decide.2 (by rw [← tz_lt_iff h0]; omega))
  rw [show ((k.toNat : Nat) : Int) = k by omega] at hw0 hw1
  have f4 := fun b s c hs => n_made (G := g) up b (n.natAbs / 2 ^ k.toNat) s c hQ hs
  have hs1 : Unit → n.natAbs ≠ 0 → decide ((tz n.natAbs : Int) < k) = true → L64 (n.natAbs / 2 ^ k.toNat + 1) ≤ 8192 := fun _ h0 hd => Nat.le_trans (lenB_mono (by decide) (shr_one h0 (by have := of_decide_eq_true hd; omega))) h
  have hbo : PV.val (.int .i64 (wayV up)) = PV.val (.int .i64 (wayV up)) := rfl
  obtain ⟨w, hw⟩ : ∃ w, w = wayV up := ⟨_, rfl⟩
  rw [← hw] at f4 ⊢
  refine FC.intro (X := XX) tok Tryz.func152 rfl Tryz.ntmps152 (by rw [Tryz.results152]) (by kernel_rfl) rfl ?_; intro F hG hO
  rw [← hG] at f0 f1 f2 f3 f4
  repeat' ((try (conv => whnf)); first
  | ((with_reducible refine cg ?_); refine call_eq (f0) (LpL.refl _) rfl ?_)
  | ((with_reducible refine cg ?_); refine call_eq (f1) (LpL.refl _) rfl ?_)
  | ((with_reducible refine cg ?_); refine call_eq (f2) (LpL.refl _) rfl ?_)
  | ((with_reducible refine cg ?_); refine call_eq (f3) (LpL.refl _) rfl ?_)
  | ((with_reducible refine cg ?_); refine call_eq (f4 _ _ _ (by first | exact hs1 () (by omega) | (intro hx; cases hx))) (LpL.refl _) rfl ?_)
  
  | (with_reducible refine Chk.mk' (by first | omega | exact trivial | (simp only [List.length_append, List.length_set, List.length_replicate, List.length_take, List.length_drop, List.length_cons, List.length_nil, List.length_map]; omega)) ?_)
  | (with_reducible refine wrap_g (by dsimp only [inR]; omega) ?_)
  | (with_reducible refine idx_g (by omega) ?_)
  | (with_reducible refine idx_l _ rfl (by decide) ?_)
  | (with_reducible refine BothG.mk ?_ ?_)
  | (with_reducible refine fork_tt ?_) | (with_reducible refine fork_ff ?_)
  | (with_reducible refine fork_e (c := true) (by decide) ?_; with_reducible refine fork_tt ?_) | (with_reducible refine fork_e (c := false) (by decide) ?_; with_reducible refine fork_ff ?_)
  | (with_reducible refine fork_t (by omega) ?_) | (with_reducible refine fork_f (by omega) ?_)
  | (with_reducible refine fork_d ?_ ?_ <;> intro hc)
  | (with_reducible refine fork_n ?_)
  | (with_reducible refine fork_b ?_ ?_ <;> intro hc)
  | (with_reducible refine SlcG.mk (by omega) ?_)
  | (with_reducible refine MakG.mk (by dsimp only; omega) ?_)
  | (with_reducible refine AppG.mk (by first | omega | (simp only [List.length_append, List.length_set, List.length_replicate, List.length_take, List.length_drop, List.length_cons, List.length_nil, List.length_map]; omega)) (by dsimp only [List.length_cons, List.length_nil]; omega) (by omega) ?_)
  | (with_reducible refine div_g (by omega) (by omega) (by dsimp only [inR]; omega) ?_)
  | (with_reducible refine mod_g (by omega) (by omega) ?_)
  | (with_reducible refine mask_g (m := 4294967296) 32 rfl rfl (by decide) (by omega) ?_)
  | (with_reducible refine shr_g (m := 4294967296) 32 rfl (by decide) (by omega) rfl ?_)
  | (with_reducible refine fz_all (by omega) ?_)
  | (with_reducible refine Stuck.h (A := RetE _ _) ?_) | (with_reducible refine Stuck.h (A := RetM _ _ _ _) ?_) | (with_reducible refine Stuck.h (A := Again _ _ _ _ _ _ _ _) ?_) | (with_reducible refine Stuck.h (A := CallF _ _ _ _ _ _ _) ?_) | (with_reducible refine Stuck.h (A := LoopG _ _ _ _ _ _ _ _) ?_) | (with_reducible refine Stuck.h (A := DrawG _ _ _ _ _ _ _ _) ?_)
  | (with_reducible refine Stuck.h (A := WrapG _ _ _) ?_) | (with_reducible refine Stuck.h (A := DivG _ _ _ _) ?_) | (with_reducible refine Stuck.h (A := ModG _ _ _) ?_) | (with_reducible refine Stuck.h (A := ShlG _ _ _ _) ?_) | (with_reducible refine Stuck.h (A := ShrG _ _ _ _) ?_) | (with_reducible refine Stuck.h (A := BitG _ _ _ _ _) ?_)
  | (with_reducible refine Stuck.h (A := IdxG _ _ _) ?_) | (with_reducible refine Stuck.h (A := IdxL _ _ _) ?_) | (with_reducible refine Stuck.h (A := SlcG _ _ _ _ _) ?_) | (with_reducible refine Stuck.h (A := MakG _ _ _ _) ?_) | (with_reducible refine Stuck.h (A := AppG _ _ _ _ _ _ _) ?_) | (with_reducible refine Stuck.h (A := FzG _ _ _ _) ?_)
  | (with_reducible refine Stuck.h (A := RawG _) ?_) | (with_reducible refine Stuck.h (A := TabG _ _ _ _ _) ?_) | (with_reducible refine Stuck.h (A := ExtF _ _ _ _) ?_) | (with_reducible refine Stuck.h (A := Chk _ _) ?_) | (with_reducible refine Stuck.h (A := False) ?_))
  all_goals first
    | exact ⟨ret_e (numR_eq (hw1 () (by omega)))⟩
    | exact ⟨ret_e (numR_eq (hw0 () (by omega)))⟩
theorem n_floorshr {g : List (Nat × List Value)} (hD : (0, debT.map (Value.int .u8)) ∈ g) (n k : Int) (h : L64 n.natAbs ≤ 8192) (hk : inR .i64 k) (hk0 : 0 ≤ k) : FC Tryz.prog g 129 [NI n, .val (.int .i64 k)] (· = numR (wholeS n k false)) := by
  have f1 := n_wshr hD false n k h hk hk0
  refine FC.intro (X := XX) tok Tryz.func129 rfl Tryz.ntmps129 (by rw [Tryz.results129]) (by kernel_rfl) rfl ?_; intro F hG hO
  rw [← hG] at f1
  repeat' ((try (conv => whnf)); first
  | ((with_reducible refine cg ?_); refine call_eq (f1) (LpL.refl _) rfl ?_)
  
  | (with_reducible refine Chk.mk' (by first | omega | exact trivial | (simp only [List.length_append, List.length_set, List.length_replicate, List.length_take, List.length_drop, List.length_cons, List.length_nil, List.length_map]; omega)) ?_)
  | (with_reducible refine wrap_g (by dsimp only [inR]; omega) ?_)
  | (with_reducible refine idx_g (by omega) ?_)
  | (with_reducible refine idx_l _ rfl (by decide) ?_)
  | (with_reducible refine BothG.mk ?_ ?_)
  | (with_reducible refine fork_tt ?_) | (with_reducible refine fork_ff ?_)
  | (with_reducible refine fork_e (c := true) (by decide) ?_; with_reducible refine fork_tt ?_) | (with_reducible refine fork_e (c := false) (by decide) ?_; with_reducible refine fork_ff ?_)
  | (with_reducible refine fork_t (by omega) ?_) | (with_reducible refine fork_f (by omega) ?_)
  | (with_reducible refine fork_d ?_ ?_ <;> intro hc)
  | (with_reducible refine fork_n ?_)
  | (with_reducible refine fork_b ?_ ?_ <;> intro hc)
  | (with_reducible refine SlcG.mk (by omega) ?_)
  | (with_reducible refine MakG.mk (by dsimp only; omega) ?_)
  | (with_reducible refine AppG.mk (by first | omega | (simp only [List.length_append, List.length_set, List.length_replicate, List.length_take, List.length_drop, List.length_cons, List.length_nil, List.length_map]; omega)) (by dsimp only [List.length_cons, List.length_nil]; omega) (by omega) ?_)
  | (with_reducible refine div_g (by omega) (by omega) (by dsimp only [inR]; omega) ?_)
  | (with_reducible refine mod_g (by omega) (by omega) ?_)
  | (with_reducible refine mask_g (m := 4294967296) 32 rfl rfl (by decide) (by omega) ?_)
  | (with_reducible refine shr_g (m := 4294967296) 32 rfl (by decide) (by omega) rfl ?_)
  | (with_reducible refine fz_all (by omega) ?_)
  | (with_reducible refine Stuck.h (A := RetE _ _) ?_) | (with_reducible refine Stuck.h (A := RetM _ _ _ _) ?_) | (with_reducible refine Stuck.h (A := Again _ _ _ _ _ _ _ _) ?_) | (with_reducible refine Stuck.h (A := CallF _ _ _ _ _ _ _) ?_) | (with_reducible refine Stuck.h (A := LoopG _ _ _ _ _ _ _ _) ?_) | (with_reducible refine Stuck.h (A := DrawG _ _ _ _ _ _ _ _) ?_)
  | (with_reducible refine Stuck.h (A := WrapG _ _ _) ?_) | (with_reducible refine Stuck.h (A := DivG _ _ _ _) ?_) | (with_reducible refine Stuck.h (A := ModG _ _ _) ?_) | (with_reducible refine Stuck.h (A := ShlG _ _ _ _) ?_) | (with_reducible refine Stuck.h (A := ShrG _ _ _ _) ?_) | (with_reducible refine Stuck.h (A := BitG _ _ _ _ _) ?_)
  | (with_reducible refine Stuck.h (A := IdxG _ _ _) ?_) | (with_reducible refine Stuck.h (A := IdxL _ _ _) ?_) | (with_reducible refine Stuck.h (A := SlcG _ _ _ _ _) ?_) | (with_reducible refine Stuck.h (A := MakG _ _ _ _) ?_) | (with_reducible refine Stuck.h (A := AppG _ _ _ _ _ _ _) ?_) | (with_reducible refine Stuck.h (A := FzG _ _ _ _) ?_)
  | (with_reducible refine Stuck.h (A := RawG _) ?_) | (with_reducible refine Stuck.h (A := TabG _ _ _ _ _) ?_) | (with_reducible refine Stuck.h (A := ExtF _ _ _ _) ?_) | (with_reducible refine Stuck.h (A := Chk _ _) ?_) | (with_reducible refine Stuck.h (A := False) ?_))
  exact ⟨ret_e rfl⟩
theorem n_ceilshr {g : List (Nat × List Value)} (hD : (0, debT.map (Value.int .u8)) ∈ g) (n k : Int) (h : L64 n.natAbs ≤ 8192) (hk : inR .i64 k) (hk0 : 0 ≤ k) : FC Tryz.prog g 128 [NI n, .val (.int .i64 k)] (· = numR (wholeS n k true)) := by
  have f1 := n_wshr hD true n k h hk hk0
  refine FC.intro (X := XX) tok Tryz.func128 rfl Tryz.ntmps128 (by rw [Tryz.results128]) (by kernel_rfl) rfl ?_; intro F hG hO
  rw [← hG] at f1
  repeat' ((try (conv => whnf)); first
  | ((with_reducible refine cg ?_); refine call_eq (f1) (LpL.refl _) rfl ?_)
  
  | (with_reducible refine Chk.mk' (by first | omega | exact trivial | (simp only [List.length_append, List.length_set, List.length_replicate, List.length_take, List.length_drop, List.length_cons, List.length_nil, List.length_map]; omega)) ?_)
  | (with_reducible refine wrap_g (by dsimp only [inR]; omega) ?_)
  | (with_reducible refine idx_g (by omega) ?_)
  | (with_reducible refine idx_l _ rfl (by decide) ?_)
  | (with_reducible refine BothG.mk ?_ ?_)
  | (with_reducible refine fork_tt ?_) | (with_reducible refine fork_ff ?_)
  | (with_reducible refine fork_e (c := true) (by decide) ?_; with_reducible refine fork_tt ?_) | (with_reducible refine fork_e (c := false) (by decide) ?_; with_reducible refine fork_ff ?_)
  | (with_reducible refine fork_t (by omega) ?_) | (with_reducible refine fork_f (by omega) ?_)
  | (with_reducible refine fork_d ?_ ?_ <;> intro hc)
  | (with_reducible refine fork_n ?_)
  | (with_reducible refine fork_b ?_ ?_ <;> intro hc)
  | (with_reducible refine SlcG.mk (by omega) ?_)
  | (with_reducible refine MakG.mk (by dsimp only; omega) ?_)
  | (with_reducible refine AppG.mk (by first | omega | (simp only [List.length_append, List.length_set, List.length_replicate, List.length_take, List.length_drop, List.length_cons, List.length_nil, List.length_map]; omega)) (by dsimp only [List.length_cons, List.length_nil]; omega) (by omega) ?_)
  | (with_reducible refine div_g (by omega) (by omega) (by dsimp only [inR]; omega) ?_)
  | (with_reducible refine mod_g (by omega) (by omega) ?_)
  | (with_reducible refine mask_g (m := 4294967296) 32 rfl rfl (by decide) (by omega) ?_)
  | (with_reducible refine shr_g (m := 4294967296) 32 rfl (by decide) (by omega) rfl ?_)
  | (with_reducible refine fz_all (by omega) ?_)
  | (with_reducible refine Stuck.h (A := RetE _ _) ?_) | (with_reducible refine Stuck.h (A := RetM _ _ _ _) ?_) | (with_reducible refine Stuck.h (A := Again _ _ _ _ _ _ _ _) ?_) | (with_reducible refine Stuck.h (A := CallF _ _ _ _ _ _ _) ?_) | (with_reducible refine Stuck.h (A := LoopG _ _ _ _ _ _ _ _) ?_) | (with_reducible refine Stuck.h (A := DrawG _ _ _ _ _ _ _ _) ?_)
  | (with_reducible refine Stuck.h (A := WrapG _ _ _) ?_) | (with_reducible refine Stuck.h (A := DivG _ _ _ _) ?_) | (with_reducible refine Stuck.h (A := ModG _ _ _) ?_) | (with_reducible refine Stuck.h (A := ShlG _ _ _ _) ?_) | (with_reducible refine Stuck.h (A := ShrG _ _ _ _) ?_) | (with_reducible refine Stuck.h (A := BitG _ _ _ _ _) ?_)
  | (with_reducible refine Stuck.h (A := IdxG _ _ _) ?_) | (with_reducible refine Stuck.h (A := IdxL _ _ _) ?_) | (with_reducible refine Stuck.h (A := SlcG _ _ _ _ _) ?_) | (with_reducible refine Stuck.h (A := MakG _ _ _ _) ?_) | (with_reducible refine Stuck.h (A := AppG _ _ _ _ _ _ _) ?_) | (with_reducible refine Stuck.h (A := FzG _ _ _ _) ?_)
  | (with_reducible refine Stuck.h (A := RawG _) ?_) | (with_reducible refine Stuck.h (A := TabG _ _ _ _ _) ?_) | (with_reducible refine Stuck.h (A := ExtF _ _ _ _) ?_) | (with_reducible refine Stuck.h (A := Chk _ _) ?_) | (with_reducible refine Stuck.h (A := False) ?_))
  exact ⟨ret_e rfl⟩
end Go.Proofs.YtbeocnjlepcglaaGreatDoor.Sim
namespace Go.Proofs.YtbeocnjlepcglaaGreatDoor.Sim
open Go.RowKit
set_option linter.unusedVariables false
set_option linter.unusedSimpArgs false
set_option maxRecDepth 10000
set_option maxHeartbeats 8000000
variable {G : List (Nat × List Value)}
theorem run_equalIn_nil {P : Program} {t e : TypeId} (ht : P.underlying t = some (.slice e)) (d : Nat) (A : Option Addr) (n c : Nat) (w : World) : (Op.equalIn (d + 1) t (.slice A n c) (.slice none 0 0)).run P w = .ok A.isNone w := by
  cases A <;> simp only [Op.equalIn, Go.Sem.run_bind, run_underlying ht, Result.andThen_ok] <;> rfl
theorem run_eql_nil {P : Program} {t e : TypeId} (ht : P.underlying t = some (.slice e)) (A : Option Addr) (n c : Nat) (w : World) : (Go.binOp .eql t (.slice A n c) (.slice none 0 0)).run P w = .ok (.bool A.isNone) w := by
  simp only [Go.binOp, Op.equal, Op.maxDepth, Go.Sem.run_bind, run_equalIn_nil ht 9999, Result.andThen_ok]
  rfl
theorem run_guard_nil {P : Program} {t : TypeId} {x y : Operand} (A : Option Addr) (n c : Nat) (w : World) : (eqGuard .eql t x y (.slice A n c) (.slice none 0 0)).run P w = .ok () w := rfl
theorem does_eqnil {P : Program} {F : Fr} {o : Oper} {s : St} {K : St → Prop} {t e t' : TypeId} {x y : Operand} {k : IntKind} {l : List Int} (ho : o.op = .binOp .eql t x y t') (hx : pev s x = .ws k l) (hy : pev s y = .nil) (ht : P.underlying t = some (.slice e)) (hd : s.fits o.dst = true) (h1 : l = [] → K (s.put o.dst (.val (.bool true)))) (h2 : K (s.put o.dst (.val (.bool false)))) : Does P F o true s K := by
  intro Q c a w hi
  have rx := pev_rep hi x
  have ry := pev_rep hi y
  rw [hx] at rx
  rw [hy] at ry
  generalize hvx : a.eval x = vx at rx
  generalize hvy : a.eval y = vy at ry
  cases ry
  cases rx with
  | ws g1 g2 g4 =>
    rename_i n cap A
    have hrun : (execOp a.eval o).run P w = .ok (.value (.bool A.isNone)) w := by
      simp only [execOp, ho, hvx, hvy, Go.Sem.run_bind, run_guard_nil, run_eql_nil ht, Result.andThen_ok]
      rfl
    unfold Oper.wp
    rw [hrun]
    cases A with
    | none =>
      have hl : l = [] := by
        cases l with
        | nil => rfl
        | cons z l =>
          obtain ⟨ad, h, _⟩ := g4 0 z rfl
          cases h
      exact ⟨c, _, hi.put hd (.val _), h1 hl, fun _ => Ext.refl w⟩
    | some A => exact ⟨c, _, hi.put hd (.val _), h2, fun _ => Ext.refl w⟩
/-- A literal without parts, as a row of one's own. -/
theorem Does.lit0 {P : Program} {F : Fr} {o : Oper} {N : Nat} {t : Nat → PV} {bx : List (List PV)} {ob : List (Option Row)} {K : St → Prop} {ty e : TypeId} {d : Nat} {k : IntKind} (ho : o.op = .buildSlice ty 0 #[]) (ht : elT P ty = some (e, 1)) (hz : zeroT P e = some [.val (.int k 0)]) (hd : o.dst = some d) (hn : Nat.blt d N = true)
    (h : K ⟨N, upd t d (.arr ob.length 0 0), bx, ob ++ [some (rw_ k e [])]⟩) : Does P F o true ⟨N, t, bx, ob⟩ K := by
  intro R c a w hi
  obtain ⟨hu, hs⟩ := elT_ok ht
  cases hq : P.info? e with
  | none => simp [szT, hq] at hs
  | some i =>
    cases hv : i.zero with
    | none => simp [zeroT, hq, hv] at hz
    | some v =>
      unfold Oper.wp
      have hrun : (execOp a.eval o).run P w = .ok (.value (.slice (some ⟨w.heap.size, 0, none⟩) 0 0)) (w.alloc (.cells #[] e)) := by
        have hs1 : i.size = 1 := by simpa [szT, hq] using hs
        have e0 : ∀ f : Nat → Value, Array.map f (Array.range 0) = #[] := fun f => by simp
        simp [execOp, ho, Instr.buildSlice, run_underlying hu, sizeOf, typeInfo, hq, hs1, newRow, zeroValue, hv, e0, Instr.fill]
      rw [hrun]
      have hn' := hi.newrow (r := rw_ k e []) (us := []) (by simp [rw_, cs_w]) (by simp [rw_, cs_w]; exact .nil)
      refine ⟨_, _, hn'.put (d := o.dst) (p := .arr ob.length 0 0) (by simpa [St.fits, hd] using hn) ?_, by simpa [St.put, hd] using h, fun _ => cell_grow fun j h => heap_alloc_old w _ _ h⟩
      have hol : c.ob.length = ob.length := hi.W.ol
      exact .arr (x := ⟨w.heap.size, 0, 1, e⟩) (by have := idx_new c.ob (⟨w.heap.size, 0, 1, e⟩ : Ob); rw [hol] at this; simpa [rw_] using this) Nat.one_pos (by omega) (fun _ => by simp) (fun _ => by simp)
theorem s_clone (l : List Int) (hl : l.length ≤ 17592186044415) : FC Tryz.prog G 86 [.ws .u64 l] (· = .ws .u64 l) := by
  refine FC.intro (X := XX) tok Tryz.func86 rfl Tryz.ntmps86 (by rw [Tryz.results86]) (by kernel_rfl) rfl ?_; intro F hG hO
  repeat' ((try (conv => whnf)); first
  | (refine RawG.mk ?_; refine Sem.does rfl (does_eqnil rfl rfl rfl (show Tryz.prog.underlying 22 = some (.slice 44) by kernel_rfl) rfl ?_ ?_))
  | (intro hnil)
  | (refine AppG.mk rfl (by dsimp only; omega) (by rw [hO]; exact Nat.zero_le _) ?_)
  | (refine RawG.mk ?_; refine Sem.does rfl (Does.lit0 (k := .u64) rfl (show elT Tryz.prog 22 = some (44, 1) by kernel_rfl) (show zeroT Tryz.prog 44 = some [.val (.int .u64 0)] by kernel_rfl) rfl rfl ?_))
  
  | (with_reducible refine Chk.mk' (by first | omega | exact trivial | (simp only [List.length_append, List.length_set, List.length_replicate, List.length_take, List.length_drop, List.length_cons, List.length_nil, List.length_map]; omega)) ?_)
  | (with_reducible refine wrap_g (by dsimp only [inR]; omega) ?_)
  | (with_reducible refine idx_g (by omega) ?_)
  | (with_reducible refine idx_l _ rfl (by decide) ?_)
  | (with_reducible refine BothG.mk ?_ ?_)
  | (with_reducible refine fork_tt ?_) | (with_reducible refine fork_ff ?_)
  | (with_reducible refine fork_e (c := true) (by decide) ?_; with_reducible refine fork_tt ?_) | (with_reducible refine fork_e (c := false) (by decide) ?_; with_reducible refine fork_ff ?_)
  | (with_reducible refine fork_t (by omega) ?_) | (with_reducible refine fork_f (by omega) ?_)
  | (with_reducible refine fork_d ?_ ?_ <;> intro hc)
  | (with_reducible refine fork_n ?_)
  | (with_reducible refine fork_b ?_ ?_ <;> intro hc)
  | (with_reducible refine SlcG.mk (by omega) ?_)
  | (with_reducible refine MakG.mk (by dsimp only; omega) ?_)
  | (with_reducible refine AppG.mk (by first | omega | (simp only [List.length_append, List.length_set, List.length_replicate, List.length_take, List.length_drop, List.length_cons, List.length_nil, List.length_map]; omega)) (by dsimp only [List.length_cons, List.length_nil]; omega) (by omega) ?_)
  | (with_reducible refine div_g (by omega) (by omega) (by dsimp only [inR]; omega) ?_)
  | (with_reducible refine mod_g (by omega) (by omega) ?_)
  | (with_reducible refine mask_g (m := 4294967296) 32 rfl rfl (by decide) (by omega) ?_)
  | (with_reducible refine shr_g (m := 4294967296) 32 rfl (by decide) (by omega) rfl ?_)
  | (with_reducible refine fz_all (by omega) ?_)
  | (with_reducible refine Stuck.h (A := RetE _ _) ?_) | (with_reducible refine Stuck.h (A := RetM _ _ _ _) ?_) | (with_reducible refine Stuck.h (A := Again _ _ _ _ _ _ _ _) ?_) | (with_reducible refine Stuck.h (A := CallF _ _ _ _ _ _ _) ?_) | (with_reducible refine Stuck.h (A := LoopG _ _ _ _ _ _ _ _) ?_) | (with_reducible refine Stuck.h (A := DrawG _ _ _ _ _ _ _ _) ?_)
  | (with_reducible refine Stuck.h (A := WrapG _ _ _) ?_) | (with_reducible refine Stuck.h (A := DivG _ _ _ _) ?_) | (with_reducible refine Stuck.h (A := ModG _ _ _) ?_) | (with_reducible refine Stuck.h (A := ShlG _ _ _ _) ?_) | (with_reducible refine Stuck.h (A := ShrG _ _ _ _) ?_) | (with_reducible refine Stuck.h (A := BitG _ _ _ _ _) ?_)
  | (with_reducible refine Stuck.h (A := IdxG _ _ _) ?_) | (with_reducible refine Stuck.h (A := IdxL _ _ _) ?_) | (with_reducible refine Stuck.h (A := SlcG _ _ _ _ _) ?_) | (with_reducible refine Stuck.h (A := MakG _ _ _ _) ?_) | (with_reducible refine Stuck.h (A := AppG _ _ _ _ _ _ _) ?_) | (with_reducible refine Stuck.h (A := FzG _ _ _ _) ?_)
  | (with_reducible refine Stuck.h (A := RawG _) ?_) | (with_reducible refine Stuck.h (A := TabG _ _ _ _ _) ?_) | (with_reducible refine Stuck.h (A := ExtF _ _ _ _) ?_) | (with_reducible refine Stuck.h (A := Chk _ _) ?_) | (with_reducible refine Stuck.h (A := False) ?_))
  · exact ⟨ret_l _ (.nil .u64) (by rw [hnil])⟩
  · exact ⟨fz_all (by simp) (ret_e (by simp))⟩
end Go.Proofs.YtbeocnjlepcglaaGreatDoor.Sim
namespace Go.Proofs.YtbeocnjlepcglaaGreatDoor.Sim
open Go.RowKit
set_option linter.unusedVariables false
set_option linter.unusedSimpArgs false
set_option maxRecDepth 10000
set_option maxHeartbeats 8000000
variable {G : List (Nat × List Value)}
theorem y_nought (b : Bool) (l : List Int) (e : Int) : FC Tryz.prog G 43 [Dy b l e] (· = .val (.bool (decide ((l.length : Int) = 0)))) := by
  refine FC.intro (X := XX) tok Tryz.func43 rfl Tryz.ntmps43 (by rw [Tryz.results43]) (by kernel_rfl) rfl ?_; intro F hG hO
  repeat' ((try (conv => whnf)); first
  
  | (with_reducible refine Chk.mk' (by first | omega | exact trivial | (simp only [List.length_append, List.length_set, List.length_replicate, List.length_take, List.length_drop, List.length_cons, List.length_nil, List.length_map]; omega)) ?_)
  | (with_reducible refine wrap_g (by dsimp only [inR]; omega) ?_)
  | (with_reducible refine idx_g (by omega) ?_)
  | (with_reducible refine idx_l _ rfl (by decide) ?_)
  | (with_reducible refine BothG.mk ?_ ?_)
  | (with_reducible refine fork_tt ?_) | (with_reducible refine fork_ff ?_)
  | (with_reducible refine fork_e (c := true) (by decide) ?_; with_reducible refine fork_tt ?_) | (with_reducible refine fork_e (c := false) (by decide) ?_; with_reducible refine fork_ff ?_)
  | (with_reducible refine fork_t (by omega) ?_) | (with_reducible refine fork_f (by omega) ?_)
  | (with_reducible refine fork_d ?_ ?_ <;> intro hc)
  | (with_reducible refine fork_n ?_)
  | (with_reducible refine fork_b ?_ ?_ <;> intro hc)
  | (with_reducible refine SlcG.mk (by omega) ?_)
  | (with_reducible refine MakG.mk (by dsimp only; omega) ?_)
  | (with_reducible refine AppG.mk (by first | omega | (simp only [List.length_append, List.length_set, List.length_replicate, List.length_take, List.length_drop, List.length_cons, List.length_nil, List.length_map]; omega)) (by dsimp only [List.length_cons, List.length_nil]; omega) (by omega) ?_)
  | (with_reducible refine div_g (by omega) (by omega) (by dsimp only [inR]; omega) ?_)
  | (with_reducible refine mod_g (by omega) (by omega) ?_)
  | (with_reducible refine mask_g (m := 4294967296) 32 rfl rfl (by decide) (by omega) ?_)
  | (with_reducible refine shr_g (m := 4294967296) 32 rfl (by decide) (by omega) rfl ?_)
  | (with_reducible refine fz_all (by omega) ?_)
  | (with_reducible refine Stuck.h (A := RetE _ _) ?_) | (with_reducible refine Stuck.h (A := RetM _ _ _ _) ?_) | (with_reducible refine Stuck.h (A := Again _ _ _ _ _ _ _ _) ?_) | (with_reducible refine Stuck.h (A := CallF _ _ _ _ _ _ _) ?_) | (with_reducible refine Stuck.h (A := LoopG _ _ _ _ _ _ _ _) ?_) | (with_reducible refine Stuck.h (A := DrawG _ _ _ _ _ _ _ _) ?_)
  | (with_reducible refine Stuck.h (A := WrapG _ _ _) ?_) | (with_reducible refine Stuck.h (A := DivG _ _ _ _) ?_) | (with_reducible refine Stuck.h (A := ModG _ _ _) ?_) | (with_reducible refine Stuck.h (A := ShlG _ _ _ _) ?_) | (with_reducible refine Stuck.h (A := ShrG _ _ _ _) ?_) | (with_reducible refine Stuck.h (A := BitG _ _ _ _ _) ?_)
  | (with_reducible refine Stuck.h (A := IdxG _ _ _) ?_) | (with_reducible refine Stuck.h (A := IdxL _ _ _) ?_) | (with_reducible refine Stuck.h (A := SlcG _ _ _ _ _) ?_) | (with_reducible refine Stuck.h (A := MakG _ _ _ _) ?_) | (with_reducible refine Stuck.h (A := AppG _ _ _ _ _ _ _) ?_) | (with_reducible refine Stuck.h (A := FzG _ _ _ _) ?_)
  | (with_reducible refine Stuck.h (A := RawG _) ?_) | (with_reducible refine Stuck.h (A := TabG _ _ _ _ _) ?_) | (with_reducible refine Stuck.h (A := ExtF _ _ _ _) ?_) | (with_reducible refine Stuck.h (A := Chk _ _) ?_) | (with_reducible refine Stuck.h (A := False) ?_))
  exact ⟨ret_e rfl⟩
theorem y_twin (b : Bool) (l : List Int) (e : Int) (h : l.length ≤ 17592186044415) : FC Tryz.prog G 50 [Dy b l e] (· = Dy b l e) := by
  have f1 := s_clone (G := G) l h
  refine FC.intro (X := XX) tok Tryz.func50 rfl Tryz.ntmps50 (by rw [Tryz.results50]) (by kernel_rfl) rfl ?_; intro F hG hO
  rw [← hG] at f1
  repeat' ((try (conv => whnf)); first
  | ((with_reducible refine cg ?_); refine call_eq (f1) (LpL.refl _) rfl ?_)
  
  | (with_reducible refine Chk.mk' (by first | omega | exact trivial | (simp only [List.length_append, List.length_set, List.length_replicate, List.length_take, List.length_drop, List.length_cons, List.length_nil, List.length_map]; omega)) ?_)
  | (with_reducible refine wrap_g (by dsimp only [inR]; omega) ?_)
  | (with_reducible refine idx_g (by omega) ?_)
  | (with_reducible refine idx_l _ rfl (by decide) ?_)
  | (with_reducible refine BothG.mk ?_ ?_)
  | (with_reducible refine fork_tt ?_) | (with_reducible refine fork_ff ?_)
  | (with_reducible refine fork_e (c := true) (by decide) ?_; with_reducible refine fork_tt ?_) | (with_reducible refine fork_e (c := false) (by decide) ?_; with_reducible refine fork_ff ?_)
  | (with_reducible refine fork_t (by omega) ?_) | (with_reducible refine fork_f (by omega) ?_)
  | (with_reducible refine fork_d ?_ ?_ <;> intro hc)
  | (with_reducible refine fork_n ?_)
  | (with_reducible refine fork_b ?_ ?_ <;> intro hc)
  | (with_reducible refine SlcG.mk (by omega) ?_)
  | (with_reducible refine MakG.mk (by dsimp only; omega) ?_)
  | (with_reducible refine AppG.mk (by first | omega | (simp only [List.length_append, List.length_set, List.length_replicate, List.length_take, List.length_drop, List.length_cons, List.length_nil, List.length_map]; omega)) (by dsimp only [List.length_cons, List.length_nil]; omega) (by omega) ?_)
  | (with_reducible refine div_g (by omega) (by omega) (by dsimp only [inR]; omega) ?_)
  | (with_reducible refine mod_g (by omega) (by omega) ?_)
  | (with_reducible refine mask_g (m := 4294967296) 32 rfl rfl (by decide) (by omega) ?_)
  | (with_reducible refine shr_g (m := 4294967296) 32 rfl (by decide) (by omega) rfl ?_)
  | (with_reducible refine fz_all (by omega) ?_)
  | (with_reducible refine Stuck.h (A := RetE _ _) ?_) | (with_reducible refine Stuck.h (A := RetM _ _ _ _) ?_) | (with_reducible refine Stuck.h (A := Again _ _ _ _ _ _ _ _) ?_) | (with_reducible refine Stuck.h (A := CallF _ _ _ _ _ _ _) ?_) | (with_reducible refine Stuck.h (A := LoopG _ _ _ _ _ _ _ _) ?_) | (with_reducible refine Stuck.h (A := DrawG _ _ _ _ _ _ _ _) ?_)
  | (with_reducible refine Stuck.h (A := WrapG _ _ _) ?_) | (with_reducible refine Stuck.h (A := DivG _ _ _ _) ?_) | (with_reducible refine Stuck.h (A := ModG _ _ _) ?_) | (with_reducible refine Stuck.h (A := ShlG _ _ _ _) ?_) | (with_reducible refine Stuck.h (A := ShrG _ _ _ _) ?_) | (with_reducible refine Stuck.h (A := BitG _ _ _ _ _) ?_)
  | (with_reducible refine Stuck.h (A := IdxG _ _ _) ?_) | (with_reducible refine Stuck.h (A := IdxL _ _ _) ?_) | (with_reducible refine Stuck.h (A := SlcG _ _ _ _ _) ?_) | (with_reducible refine Stuck.h (A := MakG _ _ _ _) ?_) | (with_reducible refine Stuck.h (A := AppG _ _ _ _ _ _ _) ?_) | (with_reducible refine Stuck.h (A := FzG _ _ _ _) ?_)
  | (with_reducible refine Stuck.h (A := RawG _) ?_) | (with_reducible refine Stuck.h (A := TabG _ _ _ _ _) ?_) | (with_reducible refine Stuck.h (A := ExtF _ _ _ _) ?_) | (with_reducible refine Stuck.h (A := Chk _ _) ?_) | (with_reducible refine Stuck.h (A := False) ?_))
  exact ⟨ret_e rfl⟩
theorem y_top {n e : Int} (h : Good n e) : FC Tryz.prog G 44 [DY n e] (· = .val (.int .i64 (topN n e))) := by
  have h2 := h.bl
  obtain ⟨g1, g2, g3, g4, g5⟩ := h
  have f1 := n_bits (G := G) n.natAbs (by omega)
  refine FC.intro (X := XX) tok Tryz.func44 rfl Tryz.ntmps44 (by rw [Tryz.results44]) (by kernel_rfl) rfl ?_; intro F hG hO
  rw [← hG] at f1
  repeat' ((try (conv => whnf)); first
  | ((with_reducible refine cg ?_); refine call_eq (f1) (LpL.refl _) rfl ?_)
  
  | (with_reducible refine draw_g (id := 1) [[0, 1, 2, 3, 4, 5, 6, 7, 8]] tok mixed (by kernel_rfl) ?_)
  | (with_reducible refine Chk.mk' (by first | omega | exact trivial | (simp only [List.length_append, List.length_set, List.length_replicate, List.length_take, List.length_drop, List.length_cons, List.length_nil, List.length_map]; omega)) ?_)
  | (with_reducible refine wrap_g (by dsimp only [inR]; omega) ?_)
  | (with_reducible refine idx_g (by omega) ?_)
  | (with_reducible refine idx_l _ rfl (by decide) ?_)
  | (with_reducible refine BothG.mk ?_ ?_)
  | (with_reducible refine fork_tt ?_) | (with_reducible refine fork_ff ?_)
  | (with_reducible refine fork_e (c := true) (by decide) ?_; with_reducible refine fork_tt ?_) | (with_reducible refine fork_e (c := false) (by decide) ?_; with_reducible refine fork_ff ?_)
  | (with_reducible refine fork_t (by omega) ?_) | (with_reducible refine fork_f (by omega) ?_)
  | (with_reducible refine fork_d ?_ ?_ <;> intro hc)
  | (with_reducible refine fork_n ?_)
  | (with_reducible refine fork_b ?_ ?_ <;> intro hc)
  | (with_reducible refine SlcG.mk (by omega) ?_)
  | (with_reducible refine MakG.mk (by dsimp only; omega) ?_)
  | (with_reducible refine AppG.mk (by first | omega | (simp only [List.length_append, List.length_set, List.length_replicate, List.length_take, List.length_drop, List.length_cons, List.length_nil, List.length_map]; omega)) (by dsimp only [List.length_cons, List.length_nil]; omega) (by omega) ?_)
  | (with_reducible refine div_g (by omega) (by omega) (by dsimp only [inR]; omega) ?_)
  | (with_reducible refine mod_g (by omega) (by omega) ?_)
  | (with_reducible refine mask_g (m := 4294967296) 32 rfl rfl (by decide) (by omega) ?_)
  | (with_reducible refine shr_g (m := 4294967296) 32 rfl (by decide) (by omega) rfl ?_)
  | (with_reducible refine fz_all (by omega) ?_)
  | (with_reducible refine Stuck.h (A := RetE _ _) ?_) | (with_reducible refine Stuck.h (A := RetM _ _ _ _) ?_) | (with_reducible refine Stuck.h (A := Again _ _ _ _ _ _ _ _) ?_) | (with_reducible refine Stuck.h (A := CallF _ _ _ _ _ _ _) ?_) | (with_reducible refine Stuck.h (A := LoopG _ _ _ _ _ _ _ _) ?_) | (with_reducible refine Stuck.h (A := DrawG _ _ _ _ _ _ _ _) ?_)
  | (with_reducible refine Stuck.h (A := WrapG _ _ _) ?_) | (with_reducible refine Stuck.h (A := DivG _ _ _ _) ?_) | (with_reducible refine Stuck.h (A := ModG _ _ _) ?_) | (with_reducible refine Stuck.h (A := ShlG _ _ _ _) ?_) | (with_reducible refine Stuck.h (A := ShrG _ _ _ _) ?_) | (with_reducible refine Stuck.h (A := BitG _ _ _ _ _) ?_)
  | (with_reducible refine Stuck.h (A := IdxG _ _ _) ?_) | (with_reducible refine Stuck.h (A := IdxL _ _ _) ?_) | (with_reducible refine Stuck.h (A := SlcG _ _ _ _ _) ?_) | (with_reducible refine Stuck.h (A := MakG _ _ _ _) ?_) | (with_reducible refine Stuck.h (A := AppG _ _ _ _ _ _ _) ?_) | (with_reducible refine Stuck.h (A := FzG _ _ _ _) ?_)
  | (with_reducible refine Stuck.h (A := RawG _) ?_) | (with_reducible refine Stuck.h (A := TabG _ _ _ _ _) ?_) | (with_reducible refine Stuck.h (A := ExtF _ _ _ _) ?_) | (with_reducible refine Stuck.h (A := Chk _ _) ?_) | (with_reducible refine Stuck.h (A := False) ?_))
  exact ⟨ret_e rfl⟩
end Go.Proofs.YtbeocnjlepcglaaGreatDoor.Sim
namespace Go.Proofs.YtbeocnjlepcglaaGreatDoor.Sim
open Go.RowKit
set_option linter.unusedVariables false
set_option linter.unusedSimpArgs false
set_option maxRecDepth 10000
set_option maxHeartbeats 8000000
variable {G : List (Nat × List Value)}
theorem tz_lt64 {n : Nat} (h : n ≠ 0) : tz n < 64 * L64 n := by
  have h1 := tz_lt h
  have h2 := L32_L64 n
  omega
theorem y_make {g : List (Nat × List Value)} (hD : (0, debT.map (Value.int .u8)) ∈ g) (n e : Int) (h : L64 n.natAbs ≤ 8192) (he : inR .i64 e) : FC Tryz.prog g 24 [NI n, .val (.int .i64 e)] (· = toldS n e) := by
  dsimp only [inR] at he
  have hp := len64_pos n.natAbs
  have f0 := n_nform (G := g) n h
  have f1 := n_trail hD n.natAbs (by omega)
  have htb : Unit → n ≠ 0 → tz n.natAbs < 524288 := fun _ h0 => by have := tz_lt64 (n := n.natAbs) (by omega); omega
  have hdv : Unit → n.natAbs = n.natAbs / 2 ^ tz n.natAbs * 2 ^ tz n.natAbs := fun _ => by
    by_cases h0 : n = 0
    · rw [h0]; simp
    · exact (odd_div (n := n.natAbs) (by omega)).1
  have lq := L32_mono (Nat.div_le_self n.natAbs (2 ^ tz n.natAbs))
  have lq2 := L32_L64 n.natAbs
  unfold toldS
  obtain ⟨t, ht⟩ : ∃ t, t = tz n.natAbs := ⟨_, rfl⟩
  rw [← ht] at f1 htb hdv lq ⊢
  have f2 : Unit → t < 524288 → FC Tryz.prog g 48 [.ws .u64 (d64 n.natAbs), .val (.int .i64 (t : Int))] (· = natR (n.natAbs / 2 ^ t)) := fun _ hlt => by
    have := n_shr (G := g) n.natAbs (t : Int) h (by dsimp only [inR]; omega)
    rw [shrT_ok (by omega), Int.toNat_natCast] at this
    exact this
  obtain ⟨q, hq⟩ : ∃ q, q = n.natAbs / 2 ^ t := ⟨_, rfl⟩
  rw [← hq] at f2 hdv lq ⊢
  have hx := exact_div (n := n) (q := q) (t := t) (hdv ())
  have hqa : (sg (decide (n < 0)) q).natAbs = q := sg_abs _ _
  rw [hx]
  refine FC.intro (X := XX) tok Tryz.func24 rfl Tryz.ntmps24 (by rw [Tryz.results24]) (by kernel_rfl) rfl ?_; intro F hG hO
  rw [← hG] at f0 f1 f2
  repeat' ((try (conv => whnf)); first
  | ((with_reducible refine cg ?_); refine call_eq (f0) (LpL.refl _) rfl ?_)
  | ((with_reducible refine cg ?_); refine call_eq (f1) (LpL.refl _) rfl ?_)
  | ((with_reducible refine cg ?_); refine call_eq (f2 () (htb () (by omega))) (LpL.refl _) rfl ?_)
  | (with_reducible refine wrap_g (by have := htb () (by omega); dsimp only [inR]; omega) ?_)
  
  | (with_reducible refine Chk.mk' (by first | omega | exact trivial | (simp only [List.length_append, List.length_set, List.length_replicate, List.length_take, List.length_drop, List.length_cons, List.length_nil, List.length_map]; omega)) ?_)
  | (with_reducible refine wrap_g (by dsimp only [inR]; omega) ?_)
  | (with_reducible refine idx_g (by omega) ?_)
  | (with_reducible refine idx_l _ rfl (by decide) ?_)
  | (with_reducible refine BothG.mk ?_ ?_)
  | (with_reducible refine fork_tt ?_) | (with_reducible refine fork_ff ?_)
  | (with_reducible refine fork_e (c := true) (by decide) ?_; with_reducible refine fork_tt ?_) | (with_reducible refine fork_e (c := false) (by decide) ?_; with_reducible refine fork_ff ?_)
  | (with_reducible refine fork_t (by omega) ?_) | (with_reducible refine fork_f (by omega) ?_)
  | (with_reducible refine fork_d ?_ ?_ <;> intro hc)
  | (with_reducible refine fork_n ?_)
  | (with_reducible refine fork_b ?_ ?_ <;> intro hc)
  | (with_reducible refine SlcG.mk (by omega) ?_)
  | (with_reducible refine MakG.mk (by dsimp only; omega) ?_)
  | (with_reducible refine AppG.mk (by first | omega | (simp only [List.length_append, List.length_set, List.length_replicate, List.length_take, List.length_drop, List.length_cons, List.length_nil, List.length_map]; omega)) (by dsimp only [List.length_cons, List.length_nil]; omega) (by omega) ?_)
  | (with_reducible refine div_g (by omega) (by omega) (by dsimp only [inR]; omega) ?_)
  | (with_reducible refine mod_g (by omega) (by omega) ?_)
  | (with_reducible refine mask_g (m := 4294967296) 32 rfl rfl (by decide) (by omega) ?_)
  | (with_reducible refine shr_g (m := 4294967296) 32 rfl (by decide) (by omega) rfl ?_)
  | (with_reducible refine fz_all (by omega) ?_)
  | (with_reducible refine Stuck.h (A := RetE _ _) ?_) | (with_reducible refine Stuck.h (A := RetM _ _ _ _) ?_) | (with_reducible refine Stuck.h (A := Again _ _ _ _ _ _ _ _) ?_) | (with_reducible refine Stuck.h (A := CallF _ _ _ _ _ _ _) ?_) | (with_reducible refine Stuck.h (A := LoopG _ _ _ _ _ _ _ _) ?_) | (with_reducible refine Stuck.h (A := DrawG _ _ _ _ _ _ _ _) ?_)
  | (with_reducible refine Stuck.h (A := WrapG _ _ _) ?_) | (with_reducible refine Stuck.h (A := DivG _ _ _ _) ?_) | (with_reducible refine Stuck.h (A := ModG _ _ _) ?_) | (with_reducible refine Stuck.h (A := ShlG _ _ _ _) ?_) | (with_reducible refine Stuck.h (A := ShrG _ _ _ _) ?_) | (with_reducible refine Stuck.h (A := BitG _ _ _ _ _) ?_)
  | (with_reducible refine Stuck.h (A := IdxG _ _ _) ?_) | (with_reducible refine Stuck.h (A := IdxL _ _ _) ?_) | (with_reducible refine Stuck.h (A := SlcG _ _ _ _ _) ?_) | (with_reducible refine Stuck.h (A := MakG _ _ _ _) ?_) | (with_reducible refine Stuck.h (A := AppG _ _ _ _ _ _ _) ?_) | (with_reducible refine Stuck.h (A := FzG _ _ _ _) ?_)
  | (with_reducible refine Stuck.h (A := RawG _) ?_) | (with_reducible refine Stuck.h (A := TabG _ _ _ _ _) ?_) | (with_reducible refine Stuck.h (A := ExtF _ _ _ _) ?_) | (with_reducible refine Stuck.h (A := Chk _ _) ?_) | (with_reducible refine Stuck.h (A := False) ?_))
  · exact ⟨ret_l _ (lp_dyE 0) (by rw [if_pos (by omega)])⟩
  all_goals
    have ht5 := htb () (by omega)
    have hn0 : n ≠ 0 := by omega
  · exact ⟨ret_l _ (lp_dyE 5) (by rw [if_neg hn0, if_pos (by omega)])⟩
  · exact ⟨ret_l _ (lp_dyE 5) (by by_cases h40 : e < -1099511627776 <;> (repeat (first | rfl | rw [if_neg (by omega)] | rw [if_pos (by omega)])))⟩
  · exact ⟨ret_l _ (lp_dyE 5) (by (repeat (first | rfl | rw [if_neg (by omega)] | rw [if_pos (by omega)])))⟩
  · exact ⟨ret_l _ (lp_dyE 5) (by (repeat (first | rfl | rw [if_neg (by omega)] | rw [if_pos (by omega)])))⟩
  · refine ⟨ret_e ?_⟩
    rw [if_neg hn0, if_neg (by omega), if_neg (by omega), if_neg (by omega), if_neg (by omega), if_neg (by omega)]
    have hq0 : q ≠ 0 := fun h0 => by have := hdv (); rw [h0, Nat.zero_mul] at this; omega
    have hsg : decide (n < 0) = decide (sg (decide (n < 0)) q < 0) := by
      by_cases hn : n < 0
      · rw [decide_eq_true hn]; exact (decide_eq_true (by simp only [sg]; omega)).symm
      · rw [decide_eq_false hn]; exact (decide_eq_false (by simp only [sg]; omega)).symm
    unfold dyR DY
    rw [hqa, ← hsg]
end Go.Proofs.YtbeocnjlepcglaaGreatDoor.Sim
namespace Go.Proofs.YtbeocnjlepcglaaGreatDoor.Sim
open Go.RowKit
set_option linter.unusedVariables false
set_option linter.unusedSimpArgs false
set_option maxRecDepth 10000
set_option maxHeartbeats 8000000
variable {G : List (Nat × List Value)}
theorem y_form {n e : Int} (h : Good n e) : FC Tryz.prog G 26 [DY n e] (· = .val (.bool true)) := by
  obtain ⟨g1, g2, g3, g4, g5⟩ := h
  have hp := len64_pos n.natAbs
  have f0 := n_nform (G := G) n g1
  have f1 := y_nought (G := G) (decide (n < 0)) (d64 n.natAbs) e
  have hr := rd64_0 n.natAbs
  have hb := rd_bd (by decide) (d64_ok n.natAbs).1 0
  refine FC.intro (X := XX) tok Tryz.func26 rfl Tryz.ntmps26 (by rw [Tryz.results26]) (by kernel_rfl) rfl ?_; intro F hG hO
  rw [← hG] at f0 f1
  repeat' ((try (conv => whnf)); first
  | ((with_reducible refine cg ?_); refine call_eq (f0) (LpL.refl _) rfl ?_)
  | ((with_reducible refine cg ?_); refine call_eq (f1) (LpL.refl _) rfl ?_)
  | (with_reducible refine mask_g (m := 2) 1 rfl rfl (by decide) hb ?_)
  
  | (with_reducible refine Chk.mk' (by first | omega | exact trivial | (simp only [List.length_append, List.length_set, List.length_replicate, List.length_take, List.length_drop, List.length_cons, List.length_nil, List.length_map]; omega)) ?_)
  | (with_reducible refine wrap_g (by dsimp only [inR]; omega) ?_)
  | (with_reducible refine idx_g (by omega) ?_)
  | (with_reducible refine idx_l _ rfl (by decide) ?_)
  | (with_reducible refine BothG.mk ?_ ?_)
  | (with_reducible refine fork_tt ?_) | (with_reducible refine fork_ff ?_)
  | (with_reducible refine fork_e (c := true) (by decide) ?_; with_reducible refine fork_tt ?_) | (with_reducible refine fork_e (c := false) (by decide) ?_; with_reducible refine fork_ff ?_)
  | (with_reducible refine fork_t (by omega) ?_) | (with_reducible refine fork_f (by omega) ?_)
  | (with_reducible refine fork_d ?_ ?_ <;> intro hc)
  | (with_reducible refine fork_n ?_)
  | (with_reducible refine fork_b ?_ ?_ <;> intro hc)
  | (with_reducible refine SlcG.mk (by omega) ?_)
  | (with_reducible refine MakG.mk (by dsimp only; omega) ?_)
  | (with_reducible refine AppG.mk (by first | omega | (simp only [List.length_append, List.length_set, List.length_replicate, List.length_take, List.length_drop, List.length_cons, List.length_nil, List.length_map]; omega)) (by dsimp only [List.length_cons, List.length_nil]; omega) (by omega) ?_)
  | (with_reducible refine div_g (by omega) (by omega) (by dsimp only [inR]; omega) ?_)
  | (with_reducible refine mod_g (by omega) (by omega) ?_)
  | (with_reducible refine mask_g (m := 4294967296) 32 rfl rfl (by decide) (by omega) ?_)
  | (with_reducible refine shr_g (m := 4294967296) 32 rfl (by decide) (by omega) rfl ?_)
  | (with_reducible refine fz_all (by omega) ?_)
  | (with_reducible refine Stuck.h (A := RetE _ _) ?_) | (with_reducible refine Stuck.h (A := RetM _ _ _ _) ?_) | (with_reducible refine Stuck.h (A := Again _ _ _ _ _ _ _ _) ?_) | (with_reducible refine Stuck.h (A := CallF _ _ _ _ _ _ _) ?_) | (with_reducible refine Stuck.h (A := LoopG _ _ _ _ _ _ _ _) ?_) | (with_reducible refine Stuck.h (A := DrawG _ _ _ _ _ _ _ _) ?_)
  | (with_reducible refine Stuck.h (A := WrapG _ _ _) ?_) | (with_reducible refine Stuck.h (A := DivG _ _ _ _) ?_) | (with_reducible refine Stuck.h (A := ModG _ _ _) ?_) | (with_reducible refine Stuck.h (A := ShlG _ _ _ _) ?_) | (with_reducible refine Stuck.h (A := ShrG _ _ _ _) ?_) | (with_reducible refine Stuck.h (A := BitG _ _ _ _ _) ?_)
  | (with_reducible refine Stuck.h (A := IdxG _ _ _) ?_) | (with_reducible refine Stuck.h (A := IdxL _ _ _) ?_) | (with_reducible refine Stuck.h (A := SlcG _ _ _ _ _) ?_) | (with_reducible refine Stuck.h (A := MakG _ _ _ _) ?_) | (with_reducible refine Stuck.h (A := AppG _ _ _ _ _ _ _) ?_) | (with_reducible refine Stuck.h (A := FzG _ _ _ _) ?_)
  | (with_reducible refine Stuck.h (A := RawG _) ?_) | (with_reducible refine Stuck.h (A := TabG _ _ _ _ _) ?_) | (with_reducible refine Stuck.h (A := ExtF _ _ _ _) ?_) | (with_reducible refine Stuck.h (A := Chk _ _) ?_) | (with_reducible refine Stuck.h (A := False) ?_))
  · exact ⟨ret_e (bv_eq (decide_eq_true (g4 (by omega))))⟩
  · exact ⟨ret_e (bv_eq (decide_eq_true (by have := g5 (by omega); omega)))⟩
end Go.Proofs.YtbeocnjlepcglaaGreatDoor.Sim
namespace Go.Proofs.YtbeocnjlepcglaaGreatDoor.Sim
open Go.RowKit
set_option linter.unusedVariables false
set_option linter.unusedSimpArgs false
set_option maxRecDepth 10000
set_option maxHeartbeats 8000000
variable {G : List (Nat × List Value)}
theorem y_noughtg (n e : Int) : FC Tryz.prog G 43 [DY n e] (· = .val (.bool (decide (n = 0)))) := by
  have := y_nought (G := G) (decide (n < 0)) (d64 n.natAbs) e
  have hl := len64_pos n.natAbs
  rw [show decide (((d64 n.natAbs).length : Int) = 0) = decide (n = 0) from decide_eq_decide.2 (by omega)] at this
  exact this
theorem y_twing {n e : Int} (h : Good n e) : FC Tryz.prog G 50 [DY n e] (· = DY n e) := y_twin (G := G) (decide (n < 0)) (d64 n.natAbs) e (Nat.le_trans h.1 (by decide))
def sizeS (n e m f : Int) : Int := if topN n e < topN m f then -1 else if topN m f < topN n e then 1 else cmpN (n.natAbs * 2 ^ (e - min e f).toNat) (m.natAbs * 2 ^ (f - min e f).toNat)
theorem sizeS_bd (n e m f : Int) : -1 ≤ sizeS n e m f ∧ sizeS n e m f ≤ 1 := by
  unfold sizeS cmpN
  by_cases h1 : topN n e < topN m f
  · rw [if_pos h1]; decide
  · rw [if_neg h1]
    by_cases h2 : topN m f < topN n e
    · rw [if_pos h2]; decide
    · rw [if_neg h2]
      by_cases h3 : n.natAbs * 2 ^ (e - min e f).toNat < m.natAbs * 2 ^ (f - min e f).toNat
      · rw [if_pos h3]; decide
      · rw [if_neg h3]
        split <;> decide
theorem y_size {n e m f : Int} (h : Good n e) (g : Good m f) (hn : n ≠ 0) (hm : m ≠ 0) : FC Tryz.prog G 77 [DY n e, DY m f] (· = .val (.int .i64 (sizeS n e m f))) := by
  have f1 := y_top (G := G) h
  have f2 := y_top (G := G) g
  have e1 := h.2.1
  have e2 := h.2.2.1
  have e3 := g.2.1
  have e4 := g.2.2.1
  have b1 := h.bl
  have b2 := g.bl
  have t1 := topN_bd h
  have t2 := topN_bd g
  have s1 := n_shl (G := G) n.natAbs (e - min e f) h.1 (by dsimp only [inR]; omega)
  have s2 := n_shl (G := G) m.natAbs (f - min e f) g.1 (by dsimp only [inR]; omega)
  have k1 := bl_mul_pow n.natAbs (e - min e f).toNat (by omega)
  have k2 := bl_mul_pow m.natAbs (f - min e f).toNat (by omega)
  unfold sizeS
  have hd1 : topN n e = e + (bl n.natAbs : Int) - 1 := rfl
  have hd2 : topN m f = f + (bl m.natAbs : Int) - 1 := rfl
  have q1 : topN n e = topN m f → shlT n.natAbs (e - min e f) = natR (n.natAbs * 2 ^ (e - min e f).toNat) ∧ L64 (n.natAbs * 2 ^ (e - min e f).toNat) ≤ 8192 := fun hh => by
    have hl : L64 (n.natAbs * 2 ^ (e - min e f).toNat) ≤ 8192 := by rw [L64_bl, k1]; omega
    exact ⟨by rw [shlT_ok (by omega) (by omega) (by omega), natT_ok hl], hl⟩
  have q2 : topN n e = topN m f → shlT m.natAbs (f - min e f) = natR (m.natAbs * 2 ^ (f - min e f).toNat) ∧ L64 (m.natAbs * 2 ^ (f - min e f).toNat) ≤ 8192 := fun hh => by
    have hl : L64 (m.natAbs * 2 ^ (f - min e f).toNat) ≤ 8192 := by rw [L64_bl, k2]; omega
    exact ⟨by rw [shlT_ok (by omega) (by omega) (by omega), natT_ok hl], hl⟩
  by_cases hq : topN n e = topN m f
  · obtain ⟨q11, q12⟩ := q1 hq
    obtain ⟨q21, q22⟩ := q2 hq
    rw [q11] at s1
    rw [q21] at s2
    have f5 := n_cmp (G := G) (n.natAbs * 2 ^ (e - min e f).toNat) (m.natAbs * 2 ^ (f - min e f).toNat) (by omega) (by omega)
    rw [if_neg (by omega), if_neg (by omega)]
    obtain ⟨x, hx⟩ : ∃ x, x = n.natAbs * 2 ^ (e - min e f).toNat := ⟨_, rfl⟩
    obtain ⟨y, hy⟩ : ∃ y, y = m.natAbs * 2 ^ (f - min e f).toNat := ⟨_, rfl⟩
    rw [← hx] at s1 f5 ⊢
    rw [← hy] at s2 f5 ⊢
    clear q1 q2 q11 q21 k1 k2 hd1 hd2 hx hy
    refine FC.intro (X := XX) tok Tryz.func77 rfl Tryz.ntmps77 (by rw [Tryz.results77]) (by kernel_rfl) rfl ?_; intro F hG hO
    rw [← hG] at f1 f2 f5 s1 s2
    repeat' ((try (conv => whnf)); first
  | ((with_reducible refine cg ?_); refine call_eq (f1) (LpL.refl _) rfl ?_)
  | ((with_reducible refine cg ?_); refine call_eq (f2) (LpL.refl _) rfl ?_)
  | ((with_reducible refine cg ?_); refine call_eq (s1) (LpL.refl _) rfl ?_)
  | ((with_reducible refine cg ?_); refine call_eq (s2) (LpL.refl _) rfl ?_)
  | ((with_reducible refine cg ?_); refine call_eq (f5) (LpL.refl _) rfl ?_)
  
  | (with_reducible refine draw_g (id := 1) [[0, 2, 1, 3, 4, 5]] tok mixed (by kernel_rfl) ?_)
  | (with_reducible refine Chk.mk' (by first | omega | exact trivial | (simp only [List.length_append, List.length_set, List.length_replicate, List.length_take, List.length_drop, List.length_cons, List.length_nil, List.length_map]; omega)) ?_)
  | (with_reducible refine wrap_g (by dsimp only [inR]; omega) ?_)
  | (with_reducible refine idx_g (by omega) ?_)
  | (with_reducible refine idx_l _ rfl (by decide) ?_)
  | (with_reducible refine BothG.mk ?_ ?_)
  | (with_reducible refine fork_tt ?_) | (with_reducible refine fork_ff ?_)
  | (with_reducible refine fork_e (c := true) (by decide) ?_; with_reducible refine fork_tt ?_) | (with_reducible refine fork_e (c := false) (by decide) ?_; with_reducible refine fork_ff ?_)
  | (with_reducible refine fork_t (by omega) ?_) | (with_reducible refine fork_f (by omega) ?_)
  | (with_reducible refine fork_d ?_ ?_ <;> intro hc)
  | (with_reducible refine fork_n ?_)
  | (with_reducible refine fork_b ?_ ?_ <;> intro hc)
  | (with_reducible refine SlcG.mk (by omega) ?_)
  | (with_reducible refine MakG.mk (by dsimp only; omega) ?_)
  | (with_reducible refine AppG.mk (by first | omega | (simp only [List.length_append, List.length_set, List.length_replicate, List.length_take, List.length_drop, List.length_cons, List.length_nil, List.length_map]; omega)) (by dsimp only [List.length_cons, List.length_nil]; omega) (by omega) ?_)
  | (with_reducible refine div_g (by omega) (by omega) (by dsimp only [inR]; omega) ?_)
  | (with_reducible refine mod_g (by omega) (by omega) ?_)
  | (with_reducible refine mask_g (m := 4294967296) 32 rfl rfl (by decide) (by omega) ?_)
  | (with_reducible refine shr_g (m := 4294967296) 32 rfl (by decide) (by omega) rfl ?_)
  | (with_reducible refine fz_all (by omega) ?_)
  | (with_reducible refine Stuck.h (A := RetE _ _) ?_) | (with_reducible refine Stuck.h (A := RetM _ _ _ _) ?_) | (with_reducible refine Stuck.h (A := Again _ _ _ _ _ _ _ _) ?_) | (with_reducible refine Stuck.h (A := CallF _ _ _ _ _ _ _) ?_) | (with_reducible refine Stuck.h (A := LoopG _ _ _ _ _ _ _ _) ?_) | (with_reducible refine Stuck.h (A := DrawG _ _ _ _ _ _ _ _) ?_)
  | (with_reducible refine Stuck.h (A := WrapG _ _ _) ?_) | (with_reducible refine Stuck.h (A := DivG _ _ _ _) ?_) | (with_reducible refine Stuck.h (A := ModG _ _ _) ?_) | (with_reducible refine Stuck.h (A := ShlG _ _ _ _) ?_) | (with_reducible refine Stuck.h (A := ShrG _ _ _ _) ?_) | (with_reducible refine Stuck.h (A := BitG _ _ _ _ _) ?_)
  | (with_reducible refine Stuck.h (A := IdxG _ _ _) ?_) | (with_reducible refine Stuck.h (A := IdxL _ _ _) ?_) | (with_reducible refine Stuck.h (A := SlcG _ _ _ _ _) ?_) | (with_reducible refine Stuck.h (A := MakG _ _ _ _) ?_) | (with_reducible refine Stuck.h (A := AppG _ _ _ _ _ _ _) ?_) | (with_reducible refine Stuck.h (A := FzG _ _ _ _) ?_)
  | (with_reducible refine Stuck.h (A := RawG _) ?_) | (with_reducible refine Stuck.h (A := TabG _ _ _ _ _) ?_) | (with_reducible refine Stuck.h (A := ExtF _ _ _ _) ?_) | (with_reducible refine Stuck.h (A := Chk _ _) ?_) | (with_reducible refine Stuck.h (A := False) ?_))
    exact ⟨ret_e rfl⟩
  · clear q1 q2 k1 k2 hd1 hd2
    refine FC.intro (X := XX) tok Tryz.func77 rfl Tryz.ntmps77 (by rw [Tryz.results77]) (by kernel_rfl) rfl ?_; intro F hG hO
    rw [← hG] at f1 f2
    repeat' ((try (conv => whnf)); first
  | ((with_reducible refine cg ?_); refine call_eq (f1) (LpL.refl _) rfl ?_)
  | ((with_reducible refine cg ?_); refine call_eq (f2) (LpL.refl _) rfl ?_)
  
  | (with_reducible refine draw_g (id := 1) [[0, 2, 1, 3, 4, 5]] tok mixed (by kernel_rfl) ?_)
  | (with_reducible refine Chk.mk' (by first | omega | exact trivial | (simp only [List.length_append, List.length_set, List.length_replicate, List.length_take, List.length_drop, List.length_cons, List.length_nil, List.length_map]; omega)) ?_)
  | (with_reducible refine wrap_g (by dsimp only [inR]; omega) ?_)
  | (with_reducible refine idx_g (by omega) ?_)
  | (with_reducible refine idx_l _ rfl (by decide) ?_)
  | (with_reducible refine BothG.mk ?_ ?_)
  | (with_reducible refine fork_tt ?_) | (with_reducible refine fork_ff ?_)
  | (with_reducible refine fork_e (c := true) (by decide) ?_; with_reducible refine fork_tt ?_) | (with_reducible refine fork_e (c := false) (by decide) ?_; with_reducible refine fork_ff ?_)
  | (with_reducible refine fork_t (by omega) ?_) | (with_reducible refine fork_f (by omega) ?_)
  | (with_reducible refine fork_d ?_ ?_ <;> intro hc)
  | (with_reducible refine fork_n ?_)
  | (with_reducible refine fork_b ?_ ?_ <;> intro hc)
  | (with_reducible refine SlcG.mk (by omega) ?_)
  | (with_reducible refine MakG.mk (by dsimp only; omega) ?_)
  | (with_reducible refine AppG.mk (by first | omega | (simp only [List.length_append, List.length_set, List.length_replicate, List.length_take, List.length_drop, List.length_cons, List.length_nil, List.length_map]; omega)) (by dsimp only [List.length_cons, List.length_nil]; omega) (by omega) ?_)
  | (with_reducible refine div_g (by omega) (by omega) (by dsimp only [inR]; omega) ?_)
  | (with_reducible refine mod_g (by omega) (by omega) ?_)
  | (with_reducible refine mask_g (m := 4294967296) 32 rfl rfl (by decide) (by omega) ?_)
  | (with_reducible refine shr_g (m := 4294967296) 32 rfl (by decide) (by omega) rfl ?_)
  | (with_reducible refine fz_all (by omega) ?_)
  | (with_reducible refine Stuck.h (A := RetE _ _) ?_) | (with_reducible refine Stuck.h (A := RetM _ _ _ _) ?_) | (with_reducible refine Stuck.h (A := Again _ _ _ _ _ _ _ _) ?_) | (with_reducible refine Stuck.h (A := CallF _ _ _ _ _ _ _) ?_) | (with_reducible refine Stuck.h (A := LoopG _ _ _ _ _ _ _ _) ?_) | (with_reducible refine Stuck.h (A := DrawG _ _ _ _ _ _ _ _) ?_)
  | (with_reducible refine Stuck.h (A := WrapG _ _ _) ?_) | (with_reducible refine Stuck.h (A := DivG _ _ _ _) ?_) | (with_reducible refine Stuck.h (A := ModG _ _ _) ?_) | (with_reducible refine Stuck.h (A := ShlG _ _ _ _) ?_) | (with_reducible refine Stuck.h (A := ShrG _ _ _ _) ?_) | (with_reducible refine Stuck.h (A := BitG _ _ _ _ _) ?_)
  | (with_reducible refine Stuck.h (A := IdxG _ _ _) ?_) | (with_reducible refine Stuck.h (A := IdxL _ _ _) ?_) | (with_reducible refine Stuck.h (A := SlcG _ _ _ _ _) ?_) | (with_reducible refine Stuck.h (A := MakG _ _ _ _) ?_) | (with_reducible refine Stuck.h (A := AppG _ _ _ _ _ _ _) ?_) | (with_reducible refine Stuck.h (A := FzG _ _ _ _) ?_)
  | (with_reducible refine Stuck.h (A := RawG _) ?_) | (with_reducible refine Stuck.h (A := TabG _ _ _ _ _) ?_) | (with_reducible refine Stuck.h (A := ExtF _ _ _ _) ?_) | (with_reducible refine Stuck.h (A := Chk _ _) ?_) | (with_reducible refine Stuck.h (A := False) ?_))
    · exact ⟨ret_e (by rw [if_pos hc])⟩
    · exact ⟨ret_e (by rw [if_neg (by omega), if_pos (by omega)])⟩
end Go.Proofs.YtbeocnjlepcglaaGreatDoor.Sim
namespace Go.Proofs.YtbeocnjlepcglaaGreatDoor.Sim
open Go.RowKit
set_option linter.unusedVariables false
set_option linter.unusedSimpArgs false
set_option maxRecDepth 10000
set_option maxHeartbeats 8000000
variable {G : List (Nat × List Value)}
theorem sub_sign (x y : Nat) : ((x : Int) - y).sign = cmpN x y := by
  unfold cmpN
  split
  · exact Int.sign_eq_neg_one_of_neg (by omega)
  · split
    · rw [show (x : Int) - y = 0 by omega]; rfl
    · exact Int.sign_eq_one_of_pos (by omega)
theorem cmp_size {n e m f : Int} (hn : n.sign ≠ 0) (h : n.sign = m.sign) : cmpS n e m f = n.sign * sizeS n e m f := by
  unfold cmpS sizeS
  rw [if_neg (by rintro (h1 | h1); exact h1 h; exact hn h1)]
  by_cases h1 : topN n e < topN m f
  · rw [if_pos (by omega), if_pos h1, show (topN n e - topN m f).sign = -1 from Int.sign_eq_neg_one_of_neg (by omega)]
  · by_cases h2 : topN m f < topN n e
    · rw [if_pos (by omega), if_neg h1, if_pos h2, show (topN n e - topN m f).sign = 1 from Int.sign_eq_one_of_pos (by omega)]
    · rw [if_neg (by omega), if_neg h1, if_neg h2, ← sub_sign]
      have e1 := Int.sign_mul_natAbs n
      have e2 := Int.sign_mul_natAbs m
      have e3 : n * 2 ^ (e - min e f).toNat - m * 2 ^ (f - min e f).toNat = n.sign * (((n.natAbs * 2 ^ (e - min e f).toNat : Nat) : Int) - ((m.natAbs * 2 ^ (f - min e f).toNat : Nat) : Int)) := by
        conv => lhs; rw [← e1, ← e2, ← h]
        rw [Int.mul_sub, Int.natCast_mul, Int.natCast_mul, Int.mul_assoc, Int.mul_assoc]
        simp
      rw [e3, Int.sign_mul, Int.sign_sign]
theorem cmp_ne {n e m f : Int} (h : n.sign ≠ m.sign) : cmpS n e m f = (n.sign - m.sign).sign := by unfold cmpS; rw [if_pos (.inl h)]
theorem cmp_z {n e m f : Int} (h : n.sign = m.sign) (h0 : n.sign = 0) : cmpS n e m f = 0 := by unfold cmpS; rw [if_pos (.inr h0), ← h, h0]; rfl
theorem sign_z {n : Int} (h : n.sign ≠ 0) : n ≠ 0 := fun h0 => h (by rw [h0]; rfl)
theorem y_cmp {n e m f : Int} (h : Good n e) (g : Good m f) : FC Tryz.prog G 38 [DY n e, DY m f] (· = .tup [.val (.int .i64 (cmpS n e m f)), .val (.int .i64 0)]) := by
  have f1 := y_form (G := G) h
  have f2 := y_form (G := G) g
  have f3 := n_sign (G := G) n h.1
  have f4 := n_sign (G := G) m g.1
  have s1 := sign_bd n
  have s2 := sign_bd m
  have f5 : Unit → n.sign = m.sign → n.sign ≠ 0 → FC Tryz.prog G 77 [DY n e, DY m f] (· = .val (.int .i64 (sizeS n e m f))) := fun _ h1 h2 => y_size (G := G) h g (sign_z h2) (sign_z (by rw [← h1]; exact h2))
  have c1 := fun (_ : Unit) => cmp_ne (n := n) (e := e) (m := m) (f := f)
  have c2 := fun (_ : Unit) => cmp_z (n := n) (e := e) (m := m) (f := f)
  have c3 := fun (_ : Unit) => cmp_size (n := n) (e := e) (m := m) (f := f)
  have c4 := sizeS_bd n e m f
  obtain ⟨z, hz⟩ : ∃ z, z = sizeS n e m f := ⟨_, rfl⟩
  rw [← hz] at f5 c3 c4
  have c5 : Unit → -1 ≤ n.sign * z ∧ n.sign * z ≤ 1 := fun _ => by
    rcases (by omega : n.sign = -1 ∨ n.sign = 0 ∨ n.sign = 1) with h1 | h1 | h1 <;> rw [h1] <;> omega
  refine FC.intro (X := XX) tok Tryz.func38 rfl Tryz.ntmps38 (by rw [Tryz.results38]) (by kernel_rfl) rfl ?_; intro F hG hO
  rw [← hG] at f1 f2 f3 f4 f5
  repeat' ((try (conv => whnf)); first
  | ((with_reducible refine cg ?_); refine call_eq (f1) (LpL.refl _) rfl ?_)
  | ((with_reducible refine cg ?_); refine call_eq (f2) (LpL.refl _) rfl ?_)
  | ((with_reducible refine cg ?_); refine call_eq (f3) (LpL.refl _) rfl ?_)
  | ((with_reducible refine cg ?_); refine call_eq (f4) (LpL.refl _) rfl ?_)
  | ((with_reducible refine cg ?_); refine call_eq (f5 () (by omega) (by omega)) (LpL.refl _) rfl ?_)
  | (with_reducible refine wrap_g (by have := c5 (); dsimp only [inR]; omega) ?_)
  
  | (with_reducible refine draw_g (id := 3) [[0, 1, 3, 4, 2, 5, 6, 7]] tok mixed (by kernel_rfl) ?_)
  | (with_reducible refine Chk.mk' (by first | omega | exact trivial | (simp only [List.length_append, List.length_set, List.length_replicate, List.length_take, List.length_drop, List.length_cons, List.length_nil, List.length_map]; omega)) ?_)
  | (with_reducible refine wrap_g (by dsimp only [inR]; omega) ?_)
  | (with_reducible refine idx_g (by omega) ?_)
  | (with_reducible refine idx_l _ rfl (by decide) ?_)
  | (with_reducible refine BothG.mk ?_ ?_)
  | (with_reducible refine fork_tt ?_) | (with_reducible refine fork_ff ?_)
  | (with_reducible refine fork_e (c := true) (by decide) ?_; with_reducible refine fork_tt ?_) | (with_reducible refine fork_e (c := false) (by decide) ?_; with_reducible refine fork_ff ?_)
  | (with_reducible refine fork_t (by omega) ?_) | (with_reducible refine fork_f (by omega) ?_)
  | (with_reducible refine fork_d ?_ ?_ <;> intro hc)
  | (with_reducible refine fork_n ?_)
  | (with_reducible refine fork_b ?_ ?_ <;> intro hc)
  | (with_reducible refine SlcG.mk (by omega) ?_)
  | (with_reducible refine MakG.mk (by dsimp only; omega) ?_)
  | (with_reducible refine AppG.mk (by first | omega | (simp only [List.length_append, List.length_set, List.length_replicate, List.length_take, List.length_drop, List.length_cons, List.length_nil, List.length_map]; omega)) (by dsimp only [List.length_cons, List.length_nil]; omega) (by omega) ?_)
  | (with_reducible refine div_g (by omega) (by omega) (by dsimp only [inR]; omega) ?_)
  | (with_reducible refine mod_g (by omega) (by omega) ?_)
  | (with_reducible refine mask_g (m := 4294967296) 32 rfl rfl (by decide) (by omega) ?_)
  | (with_reducible refine shr_g (m := 4294967296) 32 rfl (by decide) (by omega) rfl ?_)
  | (with_reducible refine fz_all (by omega) ?_)
  | (with_reducible refine Stuck.h (A := RetE _ _) ?_) | (with_reducible refine Stuck.h (A := RetM _ _ _ _) ?_) | (with_reducible refine Stuck.h (A := Again _ _ _ _ _ _ _ _) ?_) | (with_reducible refine Stuck.h (A := CallF _ _ _ _ _ _ _) ?_) | (with_reducible refine Stuck.h (A := LoopG _ _ _ _ _ _ _ _) ?_) | (with_reducible refine Stuck.h (A := DrawG _ _ _ _ _ _ _ _) ?_)
  | (with_reducible refine Stuck.h (A := WrapG _ _ _) ?_) | (with_reducible refine Stuck.h (A := DivG _ _ _ _) ?_) | (with_reducible refine Stuck.h (A := ModG _ _ _) ?_) | (with_reducible refine Stuck.h (A := ShlG _ _ _ _) ?_) | (with_reducible refine Stuck.h (A := ShrG _ _ _ _) ?_) | (with_reducible refine Stuck.h (A := BitG _ _ _ _ _) ?_)
  | (with_reducible refine Stuck.h (A := IdxG _ _ _) ?_) | (with_reducible refine Stuck.h (A := IdxL _ _ _) ?_) | (with_reducible refine Stuck.h (A := SlcG _ _ _ _ _) ?_) | (with_reducible refine Stuck.h (A := MakG _ _ _ _) ?_) | (with_reducible refine Stuck.h (A := AppG _ _ _ _ _ _ _) ?_) | (with_reducible refine Stuck.h (A := FzG _ _ _ _) ?_)
  | (with_reducible refine Stuck.h (A := RawG _) ?_) | (with_reducible refine Stuck.h (A := TabG _ _ _ _ _) ?_) | (with_reducible refine Stuck.h (A := ExtF _ _ _ _) ?_) | (with_reducible refine Stuck.h (A := Chk _ _) ?_) | (with_reducible refine Stuck.h (A := False) ?_))
  · exact ⟨ret_e (by rw [c1 () (by omega), Int.sign_eq_neg_one_of_neg (by omega)])⟩
  · exact ⟨ret_e (by rw [c1 () (by omega), Int.sign_eq_one_of_pos (by omega)])⟩
  · exact ⟨ret_e (by rw [c2 () (by omega) (by omega)])⟩
  · exact ⟨ret_e (by rw [c3 () (by omega) (by omega)])⟩
theorem shlC_pos {X : Nat} {k : Int} (h : ¬ k < 0) (h0 : X ≠ 0) : shlC X k = if 524288 - (bl X : Int) < k then 5 else 0 := by unfold shlC; rw [if_neg h, if_neg h0]
theorem nshl_form (n k : Int) : ∃ r, nshlS n k = .tup [NI r, .val (.int .i64 (shlC n.natAbs k))] := by
  unfold nshlS
  split
  · rename_i h; rw [h]; exact ⟨_, rfl⟩
  · exact ⟨0, rfl⟩
theorem nshl_no {n k : Int} (h : ¬ k < 0) (h0 : n ≠ 0) (h1 : 524288 < k + (bl n.natAbs : Int)) : nshlS n k = numE 5 := by
  unfold nshlS
  have hc : shlC n.natAbs k = 5 := by rw [shlC_pos h (by omega), if_pos (by omega)]
  rw [hc, if_neg (by decide)]
theorem nshl_ok {n k : Int} (h : ¬ k < 0) (h0 : n ≠ 0) (h1 : k + (bl n.natAbs : Int) ≤ 524288) : nshlS n k = numR (n * 2 ^ k.toNat) ∧ L64 (n * 2 ^ k.toNat).natAbs ≤ 8192 := by
  unfold nshlS
  have hc : shlC n.natAbs k = 0 := by rw [shlC_pos h (by omega), if_neg (by omega)]
  rw [hc, if_pos rfl]
  refine ⟨rfl, ?_⟩
  rw [Int.natAbs_mul, Int.natAbs_pow, show Int.natAbs 2 = 2 from rfl, L64_bl, bl_mul_pow n.natAbs k.toNat (by omega)]
  omega
theorem y_add {g : List (Nat × List Value)} (hD : (0, debT.map (Value.int .u8)) ∈ g) {n e m f : Int} (h : Good n e) (k : Good m f) : FC Tryz.prog g 37 [DY n e, DY m f] (· = addS n e m f) := by
  have f1 := y_form (G := g) h
  have f2 := y_form (G := g) k
  have f3 := y_noughtg (G := g) n e
  have f4 := y_noughtg (G := g) m f
  have f5 := y_twing (G := g) h
  have f6 := y_twing (G := g) k
  have e1 := h.2.1
  have e2 := h.2.2.1
  have e3 := k.2.1
  have e4 := k.2.2.1
  have s1 := n_nshl (G := g) n (e - min e f) h.1 (by dsimp only [inR]; omega)
  have s2 := n_nshl (G := g) m (f - min e f) k.1 (by dsimp only [inR]; omega)
  have hd1 : topN n e = e + (bl n.natAbs : Int) - 1 := rfl
  have hd2 : topN m f = f + (bl m.natAbs : Int) - 1 := rfl
  unfold addS
  by_cases hn : n = 0
  · rw [if_pos hn]
    clear s1 s2 hd1 hd2
    refine FC.intro (X := XX) tok Tryz.func37 rfl Tryz.ntmps37 (by rw [Tryz.results37]) (by kernel_rfl) rfl ?_; intro F hG hO
    rw [← hG] at f1 f2 f3 f6
    repeat' ((try (conv => whnf)); first
  | ((with_reducible refine cg ?_); refine call_eq (f1) (LpL.refl _) rfl ?_)
  | ((with_reducible refine cg ?_); refine call_eq (f2) (LpL.refl _) rfl ?_)
  | ((with_reducible refine cg ?_); refine call_eq (f3) (LpL.refl _) rfl ?_)
  | ((with_reducible refine cg ?_); refine call_eq (f6) (LpL.refl _) rfl ?_)
  
  | (with_reducible refine Chk.mk' (by first | omega | exact trivial | (simp only [List.length_append, List.length_set, List.length_replicate, List.length_take, List.length_drop, List.length_cons, List.length_nil, List.length_map]; omega)) ?_)
  | (with_reducible refine wrap_g (by dsimp only [inR]; omega) ?_)
  | (with_reducible refine idx_g (by omega) ?_)
  | (with_reducible refine idx_l _ rfl (by decide) ?_)
  | (with_reducible refine BothG.mk ?_ ?_)
  | (with_reducible refine fork_tt ?_) | (with_reducible refine fork_ff ?_)
  | (with_reducible refine fork_e (c := true) (by decide) ?_; with_reducible refine fork_tt ?_) | (with_reducible refine fork_e (c := false) (by decide) ?_; with_reducible refine fork_ff ?_)
  | (with_reducible refine fork_t (by omega) ?_) | (with_reducible refine fork_f (by omega) ?_)
  | (with_reducible refine fork_d ?_ ?_ <;> intro hc)
  | (with_reducible refine fork_n ?_)
  | (with_reducible refine fork_b ?_ ?_ <;> intro hc)
  | (with_reducible refine SlcG.mk (by omega) ?_)
  | (with_reducible refine MakG.mk (by dsimp only; omega) ?_)
  | (with_reducible refine AppG.mk (by first | omega | (simp only [List.length_append, List.length_set, List.length_replicate, List.length_take, List.length_drop, List.length_cons, List.length_nil, List.length_map]; omega)) (by dsimp only [List.length_cons, List.length_nil]; omega) (by omega) ?_)
  | (with_reducible refine div_g (by omega) (by omega) (by dsimp only [inR]; omega) ?_)
  | (with_reducible refine mod_g (by omega) (by omega) ?_)
  | (with_reducible refine mask_g (m := 4294967296) 32 rfl rfl (by decide) (by omega) ?_)
  | (with_reducible refine shr_g (m := 4294967296) 32 rfl (by decide) (by omega) rfl ?_)
  | (with_reducible refine fz_all (by omega) ?_)
  | (with_reducible refine Stuck.h (A := RetE _ _) ?_) | (with_reducible refine Stuck.h (A := RetM _ _ _ _) ?_) | (with_reducible refine Stuck.h (A := Again _ _ _ _ _ _ _ _) ?_) | (with_reducible refine Stuck.h (A := CallF _ _ _ _ _ _ _) ?_) | (with_reducible refine Stuck.h (A := LoopG _ _ _ _ _ _ _ _) ?_) | (with_reducible refine Stuck.h (A := DrawG _ _ _ _ _ _ _ _) ?_)
  | (with_reducible refine Stuck.h (A := WrapG _ _ _) ?_) | (with_reducible refine Stuck.h (A := DivG _ _ _ _) ?_) | (with_reducible refine Stuck.h (A := ModG _ _ _) ?_) | (with_reducible refine Stuck.h (A := ShlG _ _ _ _) ?_) | (with_reducible refine Stuck.h (A := ShrG _ _ _ _) ?_) | (with_reducible refine Stuck.h (A := BitG _ _ _ _ _) ?_)
  | (with_reducible refine Stuck.h (A := IdxG _ _ _) ?_) | (with_reducible refine Stuck.h (A := IdxL _ _ _) ?_) | (with_reducible refine Stuck.h (A := SlcG _ _ _ _ _) ?_) | (with_reducible refine Stuck.h (A := MakG _ _ _ _) ?_) | (with_reducible refine Stuck.h (A := AppG _ _ _ _ _ _ _) ?_) | (with_reducible refine Stuck.h (A := FzG _ _ _ _) ?_)
  | (with_reducible refine Stuck.h (A := RawG _) ?_) | (with_reducible refine Stuck.h (A := TabG _ _ _ _ _) ?_) | (with_reducible refine Stuck.h (A := ExtF _ _ _ _) ?_) | (with_reducible refine Stuck.h (A := Chk _ _) ?_) | (with_reducible refine Stuck.h (A := False) ?_))
    exact ⟨ret_e rfl⟩
  rw [if_neg hn]
  by_cases hm : m = 0
  · rw [if_pos hm]
    clear s1 s2 hd1 hd2
    refine FC.intro (X := XX) tok Tryz.func37 rfl Tryz.ntmps37 (by rw [Tryz.results37]) (by kernel_rfl) rfl ?_; intro F hG hO
    rw [← hG] at f1 f2 f3 f4 f5
    repeat' ((try (conv => whnf)); first
  | ((with_reducible refine cg ?_); refine call_eq (f1) (LpL.refl _) rfl ?_)
  | ((with_reducible refine cg ?_); refine call_eq (f2) (LpL.refl _) rfl ?_)
  | ((with_reducible refine cg ?_); refine call_eq (f3) (LpL.refl _) rfl ?_)
  | ((with_reducible refine cg ?_); refine call_eq (f4) (LpL.refl _) rfl ?_)
  | ((with_reducible refine cg ?_); refine call_eq (f5) (LpL.refl _) rfl ?_)
  
  | (with_reducible refine Chk.mk' (by first | omega | exact trivial | (simp only [List.length_append, List.length_set, List.length_replicate, List.length_take, List.length_drop, List.length_cons, List.length_nil, List.length_map]; omega)) ?_)
  | (with_reducible refine wrap_g (by dsimp only [inR]; omega) ?_)
  | (with_reducible refine idx_g (by omega) ?_)
  | (with_reducible refine idx_l _ rfl (by decide) ?_)
  | (with_reducible refine BothG.mk ?_ ?_)
  | (with_reducible refine fork_tt ?_) | (with_reducible refine fork_ff ?_)
  | (with_reducible refine fork_e (c := true) (by decide) ?_; with_reducible refine fork_tt ?_) | (with_reducible refine fork_e (c := false) (by decide) ?_; with_reducible refine fork_ff ?_)
  | (with_reducible refine fork_t (by omega) ?_) | (with_reducible refine fork_f (by omega) ?_)
  | (with_reducible refine fork_d ?_ ?_ <;> intro hc)
  | (with_reducible refine fork_n ?_)
  | (with_reducible refine fork_b ?_ ?_ <;> intro hc)
  | (with_reducible refine SlcG.mk (by omega) ?_)
  | (with_reducible refine MakG.mk (by dsimp only; omega) ?_)
  | (with_reducible refine AppG.mk (by first | omega | (simp only [List.length_append, List.length_set, List.length_replicate, List.length_take, List.length_drop, List.length_cons, List.length_nil, List.length_map]; omega)) (by dsimp only [List.length_cons, List.length_nil]; omega) (by omega) ?_)
  | (with_reducible refine div_g (by omega) (by omega) (by dsimp only [inR]; omega) ?_)
  | (with_reducible refine mod_g (by omega) (by omega) ?_)
  | (with_reducible refine mask_g (m := 4294967296) 32 rfl rfl (by decide) (by omega) ?_)
  | (with_reducible refine shr_g (m := 4294967296) 32 rfl (by decide) (by omega) rfl ?_)
  | (with_reducible refine fz_all (by omega) ?_)
  | (with_reducible refine Stuck.h (A := RetE _ _) ?_) | (with_reducible refine Stuck.h (A := RetM _ _ _ _) ?_) | (with_reducible refine Stuck.h (A := Again _ _ _ _ _ _ _ _) ?_) | (with_reducible refine Stuck.h (A := CallF _ _ _ _ _ _ _) ?_) | (with_reducible refine Stuck.h (A := LoopG _ _ _ _ _ _ _ _) ?_) | (with_reducible refine Stuck.h (A := DrawG _ _ _ _ _ _ _ _) ?_)
  | (with_reducible refine Stuck.h (A := WrapG _ _ _) ?_) | (with_reducible refine Stuck.h (A := DivG _ _ _ _) ?_) | (with_reducible refine Stuck.h (A := ModG _ _ _) ?_) | (with_reducible refine Stuck.h (A := ShlG _ _ _ _) ?_) | (with_reducible refine Stuck.h (A := ShrG _ _ _ _) ?_) | (with_reducible refine Stuck.h (A := BitG _ _ _ _ _) ?_)
  | (with_reducible refine Stuck.h (A := IdxG _ _ _) ?_) | (with_reducible refine Stuck.h (A := IdxL _ _ _) ?_) | (with_reducible refine Stuck.h (A := SlcG _ _ _ _ _) ?_) | (with_reducible refine Stuck.h (A := MakG _ _ _ _) ?_) | (with_reducible refine Stuck.h (A := AppG _ _ _ _ _ _ _) ?_) | (with_reducible refine Stuck.h (A := FzG _ _ _ _) ?_)
  | (with_reducible refine Stuck.h (A := RawG _) ?_) | (with_reducible refine Stuck.h (A := TabG _ _ _ _ _) ?_) | (with_reducible refine Stuck.h (A := ExtF _ _ _ _) ?_) | (with_reducible refine Stuck.h (A := Chk _ _) ?_) | (with_reducible refine Stuck.h (A := False) ?_))
    exact ⟨ret_e rfl⟩
  rw [if_neg hm]
  by_cases hA : 524288 < (e - min e f) + (bl n.natAbs : Int)
  · rw [if_pos (.inl (by omega))]
    rw [nshl_no (by omega) hn hA] at s1
    obtain ⟨r2, hr2⟩ := nshl_form m (f - min e f)
    rw [hr2] at s2
    obtain ⟨c2, hc2⟩ : ∃ c, c = shlC m.natAbs (f - min e f) := ⟨_, rfl⟩
    rw [← hc2] at s2
    clear hd1 hd2 hr2 hc2
    refine FC.intro (X := XX) tok Tryz.func37 rfl Tryz.ntmps37 (by rw [Tryz.results37]) (by kernel_rfl) rfl ?_; intro F hG hO
    rw [← hG] at f1 f2 f3 f4 s1 s2
    repeat' ((try (conv => whnf)); first
  | ((with_reducible refine cg ?_); refine call_eq (f1) (LpL.refl _) rfl ?_)
  | ((with_reducible refine cg ?_); refine call_eq (f2) (LpL.refl _) rfl ?_)
  | ((with_reducible refine cg ?_); refine call_eq (f3) (LpL.refl _) rfl ?_)
  | ((with_reducible refine cg ?_); refine call_eq (f4) (LpL.refl _) rfl ?_)
  | ((with_reducible refine cg ?_); refine call_eq (s1) (LpL.refl _) rfl ?_)
  | ((with_reducible refine cg ?_); refine call_eq (s2) (LpL.refl _) rfl ?_)
  
  | (with_reducible refine Chk.mk' (by first | omega | exact trivial | (simp only [List.length_append, List.length_set, List.length_replicate, List.length_take, List.length_drop, List.length_cons, List.length_nil, List.length_map]; omega)) ?_)
  | (with_reducible refine wrap_g (by dsimp only [inR]; omega) ?_)
  | (with_reducible refine idx_g (by omega) ?_)
  | (with_reducible refine idx_l _ rfl (by decide) ?_)
  | (with_reducible refine BothG.mk ?_ ?_)
  | (with_reducible refine fork_tt ?_) | (with_reducible refine fork_ff ?_)
  | (with_reducible refine fork_e (c := true) (by decide) ?_; with_reducible refine fork_tt ?_) | (with_reducible refine fork_e (c := false) (by decide) ?_; with_reducible refine fork_ff ?_)
  | (with_reducible refine fork_t (by omega) ?_) | (with_reducible refine fork_f (by omega) ?_)
  | (with_reducible refine fork_d ?_ ?_ <;> intro hc)
  | (with_reducible refine fork_n ?_)
  | (with_reducible refine fork_b ?_ ?_ <;> intro hc)
  | (with_reducible refine SlcG.mk (by omega) ?_)
  | (with_reducible refine MakG.mk (by dsimp only; omega) ?_)
  | (with_reducible refine AppG.mk (by first | omega | (simp only [List.length_append, List.length_set, List.length_replicate, List.length_take, List.length_drop, List.length_cons, List.length_nil, List.length_map]; omega)) (by dsimp only [List.length_cons, List.length_nil]; omega) (by omega) ?_)
  | (with_reducible refine div_g (by omega) (by omega) (by dsimp only [inR]; omega) ?_)
  | (with_reducible refine mod_g (by omega) (by omega) ?_)
  | (with_reducible refine mask_g (m := 4294967296) 32 rfl rfl (by decide) (by omega) ?_)
  | (with_reducible refine shr_g (m := 4294967296) 32 rfl (by decide) (by omega) rfl ?_)
  | (with_reducible refine fz_all (by omega) ?_)
  | (with_reducible refine Stuck.h (A := RetE _ _) ?_) | (with_reducible refine Stuck.h (A := RetM _ _ _ _) ?_) | (with_reducible refine Stuck.h (A := Again _ _ _ _ _ _ _ _) ?_) | (with_reducible refine Stuck.h (A := CallF _ _ _ _ _ _ _) ?_) | (with_reducible refine Stuck.h (A := LoopG _ _ _ _ _ _ _ _) ?_) | (with_reducible refine Stuck.h (A := DrawG _ _ _ _ _ _ _ _) ?_)
  | (with_reducible refine Stuck.h (A := WrapG _ _ _) ?_) | (with_reducible refine Stuck.h (A := DivG _ _ _ _) ?_) | (with_reducible refine Stuck.h (A := ModG _ _ _) ?_) | (with_reducible refine Stuck.h (A := ShlG _ _ _ _) ?_) | (with_reducible refine Stuck.h (A := ShrG _ _ _ _) ?_) | (with_reducible refine Stuck.h (A := BitG _ _ _ _ _) ?_)
  | (with_reducible refine Stuck.h (A := IdxG _ _ _) ?_) | (with_reducible refine Stuck.h (A := IdxL _ _ _) ?_) | (with_reducible refine Stuck.h (A := SlcG _ _ _ _ _) ?_) | (with_reducible refine Stuck.h (A := MakG _ _ _ _) ?_) | (with_reducible refine Stuck.h (A := AppG _ _ _ _ _ _ _) ?_) | (with_reducible refine Stuck.h (A := FzG _ _ _ _) ?_)
  | (with_reducible refine Stuck.h (A := RawG _) ?_) | (with_reducible refine Stuck.h (A := TabG _ _ _ _ _) ?_) | (with_reducible refine Stuck.h (A := ExtF _ _ _ _) ?_) | (with_reducible refine Stuck.h (A := Chk _ _) ?_) | (with_reducible refine Stuck.h (A := False) ?_))
    exact ⟨ret_l _ (lp_dyE 5) rfl⟩
  obtain ⟨q1, l1⟩ := nshl_ok (n := n) (k := e - min e f) (by omega) hn (by omega)
  rw [q1] at s1
  by_cases hB : 524288 < (f - min e f) + (bl m.natAbs : Int)
  · rw [if_pos (.inr (by omega))]
    rw [nshl_no (by omega) hm hB] at s2
    obtain ⟨x, hx⟩ : ∃ x, x = n * 2 ^ (e - min e f).toNat := ⟨_, rfl⟩
    rw [← hx] at s1
    clear hd1 hd2
    refine FC.intro (X := XX) tok Tryz.func37 rfl Tryz.ntmps37 (by rw [Tryz.results37]) (by kernel_rfl) rfl ?_; intro F hG hO
    rw [← hG] at f1 f2 f3 f4 s1 s2
    repeat' ((try (conv => whnf)); first
  | ((with_reducible refine cg ?_); refine call_eq (f1) (LpL.refl _) rfl ?_)
  | ((with_reducible refine cg ?_); refine call_eq (f2) (LpL.refl _) rfl ?_)
  | ((with_reducible refine cg ?_); refine call_eq (f3) (LpL.refl _) rfl ?_)
  | ((with_reducible refine cg ?_); refine call_eq (f4) (LpL.refl _) rfl ?_)
  | ((with_reducible refine cg ?_); refine call_eq (s1) (LpL.refl _) rfl ?_)
  | ((with_reducible refine cg ?_); refine call_eq (s2) (LpL.refl _) rfl ?_)
  
  | (with_reducible refine Chk.mk' (by first | omega | exact trivial | (simp only [List.length_append, List.length_set, List.length_replicate, List.length_take, List.length_drop, List.length_cons, List.length_nil, List.length_map]; omega)) ?_)
  | (with_reducible refine wrap_g (by dsimp only [inR]; omega) ?_)
  | (with_reducible refine idx_g (by omega) ?_)
  | (with_reducible refine idx_l _ rfl (by decide) ?_)
  | (with_reducible refine BothG.mk ?_ ?_)
  | (with_reducible refine fork_tt ?_) | (with_reducible refine fork_ff ?_)
  | (with_reducible refine fork_e (c := true) (by decide) ?_; with_reducible refine fork_tt ?_) | (with_reducible refine fork_e (c := false) (by decide) ?_; with_reducible refine fork_ff ?_)
  | (with_reducible refine fork_t (by omega) ?_) | (with_reducible refine fork_f (by omega) ?_)
  | (with_reducible refine fork_d ?_ ?_ <;> intro hc)
  | (with_reducible refine fork_n ?_)
  | (with_reducible refine fork_b ?_ ?_ <;> intro hc)
  | (with_reducible refine SlcG.mk (by omega) ?_)
  | (with_reducible refine MakG.mk (by dsimp only; omega) ?_)
  | (with_reducible refine AppG.mk (by first | omega | (simp only [List.length_append, List.length_set, List.length_replicate, List.length_take, List.length_drop, List.length_cons, List.length_nil, List.length_map]; omega)) (by dsimp only [List.length_cons, List.length_nil]; omega) (by omega) ?_)
  | (with_reducible refine div_g (by omega) (by omega) (by dsimp only [inR]; omega) ?_)
  | (with_reducible refine mod_g (by omega) (by omega) ?_)
  | (with_reducible refine mask_g (m := 4294967296) 32 rfl rfl (by decide) (by omega) ?_)
  | (with_reducible refine shr_g (m := 4294967296) 32 rfl (by decide) (by omega) rfl ?_)
  | (with_reducible refine fz_all (by omega) ?_)
  | (with_reducible refine Stuck.h (A := RetE _ _) ?_) | (with_reducible refine Stuck.h (A := RetM _ _ _ _) ?_) | (with_reducible refine Stuck.h (A := Again _ _ _ _ _ _ _ _) ?_) | (with_reducible refine Stuck.h (A := CallF _ _ _ _ _ _ _) ?_) | (with_reducible refine Stuck.h (A := LoopG _ _ _ _ _ _ _ _) ?_) | (with_reducible refine Stuck.h (A := DrawG _ _ _ _ _ _ _ _) ?_)
  | (with_reducible refine Stuck.h (A := WrapG _ _ _) ?_) | (with_reducible refine Stuck.h (A := DivG _ _ _ _) ?_) | (with_reducible refine Stuck.h (A := ModG _ _ _) ?_) | (with_reducible refine Stuck.h (A := ShlG _ _ _ _) ?_) | (with_reducible refine Stuck.h (A := ShrG _ _ _ _) ?_) | (with_reducible refine Stuck.h (A := BitG _ _ _ _ _) ?_)
  | (with_reducible refine Stuck.h (A := IdxG _ _ _) ?_) | (with_reducible refine Stuck.h (A := IdxL _ _ _) ?_) | (with_reducible refine Stuck.h (A := SlcG _ _ _ _ _) ?_) | (with_reducible refine Stuck.h (A := MakG _ _ _ _) ?_) | (with_reducible refine Stuck.h (A := AppG _ _ _ _ _ _ _) ?_) | (with_reducible refine Stuck.h (A := FzG _ _ _ _) ?_)
  | (with_reducible refine Stuck.h (A := RawG _) ?_) | (with_reducible refine Stuck.h (A := TabG _ _ _ _ _) ?_) | (with_reducible refine Stuck.h (A := ExtF _ _ _ _) ?_) | (with_reducible refine Stuck.h (A := Chk _ _) ?_) | (with_reducible refine Stuck.h (A := False) ?_))
    exact ⟨ret_l _ (lp_dyE 5) rfl⟩
  obtain ⟨q2, l2⟩ := nshl_ok (n := m) (k := f - min e f) (by omega) hm (by omega)
  rw [q2] at s2
  rw [if_neg (by omega)]
  have s3 := n_nadd (G := g) _ _ l1 l2
  obtain ⟨x, hx⟩ : ∃ x, x = n * 2 ^ (e - min e f).toNat := ⟨_, rfl⟩
  obtain ⟨y, hy⟩ : ∃ y, y = m * 2 ^ (f - min e f).toNat := ⟨_, rfl⟩
  rw [← hx] at s1 s3 ⊢
  rw [← hy] at s2 s3 ⊢
  clear hx hy q1 q2 l1 l2 hd1 hd2
  obtain ⟨s, hs⟩ : ∃ s, s = x + y := ⟨_, rfl⟩
  unfold naddS at s3
  rw [← hs] at s3 ⊢
  have hL := L64_bl s.natAbs
  by_cases hC : 8192 < L64 s.natAbs
  · rw [if_pos (by omega)]
    rw [if_pos hC] at s3
    refine FC.intro (X := XX) tok Tryz.func37 rfl Tryz.ntmps37 (by rw [Tryz.results37]) (by kernel_rfl) rfl ?_; intro F hG hO
    rw [← hG] at f1 f2 f3 f4 s1 s2 s3
    repeat' ((try (conv => whnf)); first
  | ((with_reducible refine cg ?_); refine call_eq (f1) (LpL.refl _) rfl ?_)
  | ((with_reducible refine cg ?_); refine call_eq (f2) (LpL.refl _) rfl ?_)
  | ((with_reducible refine cg ?_); refine call_eq (f3) (LpL.refl _) rfl ?_)
  | ((with_reducible refine cg ?_); refine call_eq (f4) (LpL.refl _) rfl ?_)
  | ((with_reducible refine cg ?_); refine call_eq (s1) (LpL.refl _) rfl ?_)
  | ((with_reducible refine cg ?_); refine call_eq (s2) (LpL.refl _) rfl ?_)
  | ((with_reducible refine cg ?_); refine call_eq (s3) (LpL.refl _) rfl ?_)
  
  | (with_reducible refine Chk.mk' (by first | omega | exact trivial | (simp only [List.length_append, List.length_set, List.length_replicate, List.length_take, List.length_drop, List.length_cons, List.length_nil, List.length_map]; omega)) ?_)
  | (with_reducible refine wrap_g (by dsimp only [inR]; omega) ?_)
  | (with_reducible refine idx_g (by omega) ?_)
  | (with_reducible refine idx_l _ rfl (by decide) ?_)
  | (with_reducible refine BothG.mk ?_ ?_)
  | (with_reducible refine fork_tt ?_) | (with_reducible refine fork_ff ?_)
  | (with_reducible refine fork_e (c := true) (by decide) ?_; with_reducible refine fork_tt ?_) | (with_reducible refine fork_e (c := false) (by decide) ?_; with_reducible refine fork_ff ?_)
  | (with_reducible refine fork_t (by omega) ?_) | (with_reducible refine fork_f (by omega) ?_)
  | (with_reducible refine fork_d ?_ ?_ <;> intro hc)
  | (with_reducible refine fork_n ?_)
  | (with_reducible refine fork_b ?_ ?_ <;> intro hc)
  | (with_reducible refine SlcG.mk (by omega) ?_)
  | (with_reducible refine MakG.mk (by dsimp only; omega) ?_)
  | (with_reducible refine AppG.mk (by first | omega | (simp only [List.length_append, List.length_set, List.length_replicate, List.length_take, List.length_drop, List.length_cons, List.length_nil, List.length_map]; omega)) (by dsimp only [List.length_cons, List.length_nil]; omega) (by omega) ?_)
  | (with_reducible refine div_g (by omega) (by omega) (by dsimp only [inR]; omega) ?_)
  | (with_reducible refine mod_g (by omega) (by omega) ?_)
  | (with_reducible refine mask_g (m := 4294967296) 32 rfl rfl (by decide) (by omega) ?_)
  | (with_reducible refine shr_g (m := 4294967296) 32 rfl (by decide) (by omega) rfl ?_)
  | (with_reducible refine fz_all (by omega) ?_)
  | (with_reducible refine Stuck.h (A := RetE _ _) ?_) | (with_reducible refine Stuck.h (A := RetM _ _ _ _) ?_) | (with_reducible refine Stuck.h (A := Again _ _ _ _ _ _ _ _) ?_) | (with_reducible refine Stuck.h (A := CallF _ _ _ _ _ _ _) ?_) | (with_reducible refine Stuck.h (A := LoopG _ _ _ _ _ _ _ _) ?_) | (with_reducible refine Stuck.h (A := DrawG _ _ _ _ _ _ _ _) ?_)
  | (with_reducible refine Stuck.h (A := WrapG _ _ _) ?_) | (with_reducible refine Stuck.h (A := DivG _ _ _ _) ?_) | (with_reducible refine Stuck.h (A := ModG _ _ _) ?_) | (with_reducible refine Stuck.h (A := ShlG _ _ _ _) ?_) | (with_reducible refine Stuck.h (A := ShrG _ _ _ _) ?_) | (with_reducible refine Stuck.h (A := BitG _ _ _ _ _) ?_)
  | (with_reducible refine Stuck.h (A := IdxG _ _ _) ?_) | (with_reducible refine Stuck.h (A := IdxL _ _ _) ?_) | (with_reducible refine Stuck.h (A := SlcG _ _ _ _ _) ?_) | (with_reducible refine Stuck.h (A := MakG _ _ _ _) ?_) | (with_reducible refine Stuck.h (A := AppG _ _ _ _ _ _ _) ?_) | (with_reducible refine Stuck.h (A := FzG _ _ _ _) ?_)
  | (with_reducible refine Stuck.h (A := RawG _) ?_) | (with_reducible refine Stuck.h (A := TabG _ _ _ _ _) ?_) | (with_reducible refine Stuck.h (A := ExtF _ _ _ _) ?_) | (with_reducible refine Stuck.h (A := Chk _ _) ?_) | (with_reducible refine Stuck.h (A := False) ?_))
    exact ⟨ret_l _ (lp_dyE 5) rfl⟩
  · rw [if_neg (by omega)]
    rw [if_neg hC] at s3
    have s4 := y_make hD s (min e f) (by omega) (by dsimp only [inR]; omega)
    obtain ⟨u, v, c, hr, hgd, hcc⟩ := told_form s (min e f)
    rw [hr] at s4 ⊢
    refine FC.intro (X := XX) tok Tryz.func37 rfl Tryz.ntmps37 (by rw [Tryz.results37]) (by kernel_rfl) rfl ?_; intro F hG hO
    rw [← hG] at f1 f2 f3 f4 s1 s2 s3 s4
    repeat' ((try (conv => whnf)); first
  | ((with_reducible refine cg ?_); refine call_eq (f1) (LpL.refl _) rfl ?_)
  | ((with_reducible refine cg ?_); refine call_eq (f2) (LpL.refl _) rfl ?_)
  | ((with_reducible refine cg ?_); refine call_eq (f3) (LpL.refl _) rfl ?_)
  | ((with_reducible refine cg ?_); refine call_eq (f4) (LpL.refl _) rfl ?_)
  | ((with_reducible refine cg ?_); refine call_eq (s1) (LpL.refl _) rfl ?_)
  | ((with_reducible refine cg ?_); refine call_eq (s2) (LpL.refl _) rfl ?_)
  | ((with_reducible refine cg ?_); refine call_eq (s3) (LpL.refl _) rfl ?_)
  | ((with_reducible refine cg ?_); refine call_eq (s4) (LpL.refl _) rfl ?_)
  
  | (with_reducible refine Chk.mk' (by first | omega | exact trivial | (simp only [List.length_append, List.length_set, List.length_replicate, List.length_take, List.length_drop, List.length_cons, List.length_nil, List.length_map]; omega)) ?_)
  | (with_reducible refine wrap_g (by dsimp only [inR]; omega) ?_)
  | (with_reducible refine idx_g (by omega) ?_)
  | (with_reducible refine idx_l _ rfl (by decide) ?_)
  | (with_reducible refine BothG.mk ?_ ?_)
  | (with_reducible refine fork_tt ?_) | (with_reducible refine fork_ff ?_)
  | (with_reducible refine fork_e (c := true) (by decide) ?_; with_reducible refine fork_tt ?_) | (with_reducible refine fork_e (c := false) (by decide) ?_; with_reducible refine fork_ff ?_)
  | (with_reducible refine fork_t (by omega) ?_) | (with_reducible refine fork_f (by omega) ?_)
  | (with_reducible refine fork_d ?_ ?_ <;> intro hc)
  | (with_reducible refine fork_n ?_)
  | (with_reducible refine fork_b ?_ ?_ <;> intro hc)
  | (with_reducible refine SlcG.mk (by omega) ?_)
  | (with_reducible refine MakG.mk (by dsimp only; omega) ?_)
  | (with_reducible refine AppG.mk (by first | omega | (simp only [List.length_append, List.length_set, List.length_replicate, List.length_take, List.length_drop, List.length_cons, List.length_nil, List.length_map]; omega)) (by dsimp only [List.length_cons, List.length_nil]; omega) (by omega) ?_)
  | (with_reducible refine div_g (by omega) (by omega) (by dsimp only [inR]; omega) ?_)
  | (with_reducible refine mod_g (by omega) (by omega) ?_)
  | (with_reducible refine mask_g (m := 4294967296) 32 rfl rfl (by decide) (by omega) ?_)
  | (with_reducible refine shr_g (m := 4294967296) 32 rfl (by decide) (by omega) rfl ?_)
  | (with_reducible refine fz_all (by omega) ?_)
  | (with_reducible refine Stuck.h (A := RetE _ _) ?_) | (with_reducible refine Stuck.h (A := RetM _ _ _ _) ?_) | (with_reducible refine Stuck.h (A := Again _ _ _ _ _ _ _ _) ?_) | (with_reducible refine Stuck.h (A := CallF _ _ _ _ _ _ _) ?_) | (with_reducible refine Stuck.h (A := LoopG _ _ _ _ _ _ _ _) ?_) | (with_reducible refine Stuck.h (A := DrawG _ _ _ _ _ _ _ _) ?_)
  | (with_reducible refine Stuck.h (A := WrapG _ _ _) ?_) | (with_reducible refine Stuck.h (A := DivG _ _ _ _) ?_) | (with_reducible refine Stuck.h (A := ModG _ _ _) ?_) | (with_reducible refine Stuck.h (A := ShlG _ _ _ _) ?_) | (with_reducible refine Stuck.h (A := ShrG _ _ _ _) ?_) | (with_reducible refine Stuck.h (A := BitG _ _ _ _ _) ?_)
  | (with_reducible refine Stuck.h (A := IdxG _ _ _) ?_) | (with_reducible refine Stuck.h (A := IdxL _ _ _) ?_) | (with_reducible refine Stuck.h (A := SlcG _ _ _ _ _) ?_) | (with_reducible refine Stuck.h (A := MakG _ _ _ _) ?_) | (with_reducible refine Stuck.h (A := AppG _ _ _ _ _ _ _) ?_) | (with_reducible refine Stuck.h (A := FzG _ _ _ _) ?_)
  | (with_reducible refine Stuck.h (A := RawG _) ?_) | (with_reducible refine Stuck.h (A := TabG _ _ _ _ _) ?_) | (with_reducible refine Stuck.h (A := ExtF _ _ _ _) ?_) | (with_reducible refine Stuck.h (A := Chk _ _) ?_) | (with_reducible refine Stuck.h (A := False) ?_))
    exact ⟨ret_e rfl⟩
end Go.Proofs.YtbeocnjlepcglaaGreatDoor.Sim
namespace Go.Proofs.YtbeocnjlepcglaaGreatDoor.Sim
open Go.RowKit
set_option linter.unusedVariables false
set_option linter.unusedSimpArgs false
set_option maxRecDepth 10000
set_option maxHeartbeats 8000000
variable {G : List (Nat × List Value)}
theorem ediv_abs (n P : Int) (hP : 0 < P) : (n / P).natAbs ≤ n.natAbs := by
  obtain ⟨q, hq⟩ : ∃ q, q = n / P := ⟨_, rfl⟩
  have h1 := Int.mul_ediv_add_emod n P
  have h2 := Int.emod_nonneg n (show P ≠ 0 by omega)
  have h3 := Int.emod_lt_of_pos n hP
  rw [← hq] at h1 ⊢
  rcases Int.lt_or_le q 0 with h | h
  · have h4 : 0 ≤ (P - 1) * (-1 - q) := Int.mul_nonneg (by omega) (by omega)
    have h5 : (P - 1) * (-1 - q) = -P - P * q + 1 + q := by
      rw [Int.sub_mul, Int.mul_sub, Int.one_mul]; omega
    omega
  · have h4 : 0 ≤ (P - 1) * q := Int.mul_nonneg (by omega) h
    have h5 : (P - 1) * q = P * q - q := by rw [Int.sub_mul, Int.one_mul]
    omega
theorem wholeS_abs (n k : Int) (up : Bool) : (wholeS n k up).natAbs ≤ n.natAbs := by
  have hP : (0 : Int) < 2 ^ k.toNat := Int.pow_pos (by decide)
  cases up
  · exact ediv_abs n _ hP
  · show (-((-n) / 2 ^ k.toNat)).natAbs ≤ _
    have := ediv_abs (-n) _ hP
    rw [Int.natAbs_neg] at this ⊢
    exact this
def bigS (n : Int) (up : Bool) : Int := match up with
  | true => if 0 < n then 1 else 0
  | false => if n < 0 then -1 else 0
theorem wholeS_big {n k : Int} (up : Bool) (h : (bl n.natAbs : Int) ≤ k) : wholeS n k up = bigS n up := by
  have h1 : n.natAbs < 2 ^ k.toNat := Nat.lt_of_lt_of_le (lt_bl _) (Nat.pow_le_pow_right (by decide) (by omega))
  have hP : (2 : Int) ^ k.toNat = ((2 ^ k.toNat : Nat) : Int) := by simp
  unfold wholeS bigS
  rw [hP]
  obtain ⟨P, hP⟩ : ∃ P, P = 2 ^ k.toNat := ⟨_, rfl⟩
  rw [← hP] at h1 ⊢
  cases up
  · show n / (P : Int) = if n < 0 then -1 else 0
    split
    · exact (div_of (a := n) (b := (P : Int)) (q := -1) (r := P + n) (by omega) (by omega) (by omega) (by omega)).1
    · exact (div_of (a := n) (b := (P : Int)) (q := 0) (r := n) (by omega) (by omega) (by omega) (by omega)).1
  · show -((-n) / (P : Int)) = if 0 < n then 1 else 0
    split
    · rw [(div_of (a := -n) (b := (P : Int)) (q := -1) (r := P - n) (by omega) (by omega) (by omega) (by omega)).1]; rfl
    · rw [(div_of (a := -n) (b := (P : Int)) (q := 0) (r := -n) (by omega) (by omega) (by omega) (by omega)).1]; rfl
theorem wholeS_L64 (n k : Int) (up : Bool) (h : L64 n.natAbs ≤ 8192) : L64 (wholeS n k up).natAbs ≤ 8192 := Nat.le_trans (lenB_mono (by decide) (wholeS_abs n k up)) h
theorem y_cut {g : List (Nat × List Value)} (hD : (0, debT.map (Value.int .u8)) ∈ g) (n k : Int) (up : Bool) (h : L64 n.natAbs ≤ 8192) (hk : inR .i64 k) (hk0 : 0 ≤ k) : FC Tryz.prog g 87 [NI n, .val (.int .i64 k), .val (.bool up)] (· = NI (wholeS n k up)) := by
  cases up
  · have f1 := n_floorshr hD n k h hk hk0
    refine FC.intro (X := XX) tok Tryz.func87 rfl Tryz.ntmps87 (by rw [Tryz.results87]) (by kernel_rfl) rfl ?_; intro F hG hO
    rw [← hG] at f1
    repeat' ((try (conv => whnf)); first
  | ((with_reducible refine cg ?_); refine call_eq (f1) (LpL.refl _) rfl ?_)
  
  | (with_reducible refine Chk.mk' (by first | omega | exact trivial | (simp only [List.length_append, List.length_set, List.length_replicate, List.length_take, List.length_drop, List.length_cons, List.length_nil, List.length_map]; omega)) ?_)
  | (with_reducible refine wrap_g (by dsimp only [inR]; omega) ?_)
  | (with_reducible refine idx_g (by omega) ?_)
  | (with_reducible refine idx_l _ rfl (by decide) ?_)
  | (with_reducible refine BothG.mk ?_ ?_)
  | (with_reducible refine fork_tt ?_) | (with_reducible refine fork_ff ?_)
  | (with_reducible refine fork_e (c := true) (by decide) ?_; with_reducible refine fork_tt ?_) | (with_reducible refine fork_e (c := false) (by decide) ?_; with_reducible refine fork_ff ?_)
  | (with_reducible refine fork_t (by omega) ?_) | (with_reducible refine fork_f (by omega) ?_)
  | (with_reducible refine fork_d ?_ ?_ <;> intro hc)
  | (with_reducible refine fork_n ?_)
  | (with_reducible refine fork_b ?_ ?_ <;> intro hc)
  | (with_reducible refine SlcG.mk (by omega) ?_)
  | (with_reducible refine MakG.mk (by dsimp only; omega) ?_)
  | (with_reducible refine AppG.mk (by first | omega | (simp only [List.length_append, List.length_set, List.length_replicate, List.length_take, List.length_drop, List.length_cons, List.length_nil, List.length_map]; omega)) (by dsimp only [List.length_cons, List.length_nil]; omega) (by omega) ?_)
  | (with_reducible refine div_g (by omega) (by omega) (by dsimp only [inR]; omega) ?_)
  | (with_reducible refine mod_g (by omega) (by omega) ?_)
  | (with_reducible refine mask_g (m := 4294967296) 32 rfl rfl (by decide) (by omega) ?_)
  | (with_reducible refine shr_g (m := 4294967296) 32 rfl (by decide) (by omega) rfl ?_)
  | (with_reducible refine fz_all (by omega) ?_)
  | (with_reducible refine Stuck.h (A := RetE _ _) ?_) | (with_reducible refine Stuck.h (A := RetM _ _ _ _) ?_) | (with_reducible refine Stuck.h (A := Again _ _ _ _ _ _ _ _) ?_) | (with_reducible refine Stuck.h (A := CallF _ _ _ _ _ _ _) ?_) | (with_reducible refine Stuck.h (A := LoopG _ _ _ _ _ _ _ _) ?_) | (with_reducible refine Stuck.h (A := DrawG _ _ _ _ _ _ _ _) ?_)
  | (with_reducible refine Stuck.h (A := WrapG _ _ _) ?_) | (with_reducible refine Stuck.h (A := DivG _ _ _ _) ?_) | (with_reducible refine Stuck.h (A := ModG _ _ _) ?_) | (with_reducible refine Stuck.h (A := ShlG _ _ _ _) ?_) | (with_reducible refine Stuck.h (A := ShrG _ _ _ _) ?_) | (with_reducible refine Stuck.h (A := BitG _ _ _ _ _) ?_)
  | (with_reducible refine Stuck.h (A := IdxG _ _ _) ?_) | (with_reducible refine Stuck.h (A := IdxL _ _ _) ?_) | (with_reducible refine Stuck.h (A := SlcG _ _ _ _ _) ?_) | (with_reducible refine Stuck.h (A := MakG _ _ _ _) ?_) | (with_reducible refine Stuck.h (A := AppG _ _ _ _ _ _ _) ?_) | (with_reducible refine Stuck.h (A := FzG _ _ _ _) ?_)
  | (with_reducible refine Stuck.h (A := RawG _) ?_) | (with_reducible refine Stuck.h (A := TabG _ _ _ _ _) ?_) | (with_reducible refine Stuck.h (A := ExtF _ _ _ _) ?_) | (with_reducible refine Stuck.h (A := Chk _ _) ?_) | (with_reducible refine Stuck.h (A := False) ?_))
    exact ⟨ret_e rfl⟩
  · have f1 := n_ceilshr hD n k h hk hk0
    refine FC.intro (X := XX) tok Tryz.func87 rfl Tryz.ntmps87 (by rw [Tryz.results87]) (by kernel_rfl) rfl ?_; intro F hG hO
    rw [← hG] at f1
    repeat' ((try (conv => whnf)); first
  | ((with_reducible refine cg ?_); refine call_eq (f1) (LpL.refl _) rfl ?_)
  
  | (with_reducible refine Chk.mk' (by first | omega | exact trivial | (simp only [List.length_append, List.length_set, List.length_replicate, List.length_take, List.length_drop, List.length_cons, List.length_nil, List.length_map]; omega)) ?_)
  | (with_reducible refine wrap_g (by dsimp only [inR]; omega) ?_)
  | (with_reducible refine idx_g (by omega) ?_)
  | (with_reducible refine idx_l _ rfl (by decide) ?_)
  | (with_reducible refine BothG.mk ?_ ?_)
  | (with_reducible refine fork_tt ?_) | (with_reducible refine fork_ff ?_)
  | (with_reducible refine fork_e (c := true) (by decide) ?_; with_reducible refine fork_tt ?_) | (with_reducible refine fork_e (c := false) (by decide) ?_; with_reducible refine fork_ff ?_)
  | (with_reducible refine fork_t (by omega) ?_) | (with_reducible refine fork_f (by omega) ?_)
  | (with_reducible refine fork_d ?_ ?_ <;> intro hc)
  | (with_reducible refine fork_n ?_)
  | (with_reducible refine fork_b ?_ ?_ <;> intro hc)
  | (with_reducible refine SlcG.mk (by omega) ?_)
  | (with_reducible refine MakG.mk (by dsimp only; omega) ?_)
  | (with_reducible refine AppG.mk (by first | omega | (simp only [List.length_append, List.length_set, List.length_replicate, List.length_take, List.length_drop, List.length_cons, List.length_nil, List.length_map]; omega)) (by dsimp only [List.length_cons, List.length_nil]; omega) (by omega) ?_)
  | (with_reducible refine div_g (by omega) (by omega) (by dsimp only [inR]; omega) ?_)
  | (with_reducible refine mod_g (by omega) (by omega) ?_)
  | (with_reducible refine mask_g (m := 4294967296) 32 rfl rfl (by decide) (by omega) ?_)
  | (with_reducible refine shr_g (m := 4294967296) 32 rfl (by decide) (by omega) rfl ?_)
  | (with_reducible refine fz_all (by omega) ?_)
  | (with_reducible refine Stuck.h (A := RetE _ _) ?_) | (with_reducible refine Stuck.h (A := RetM _ _ _ _) ?_) | (with_reducible refine Stuck.h (A := Again _ _ _ _ _ _ _ _) ?_) | (with_reducible refine Stuck.h (A := CallF _ _ _ _ _ _ _) ?_) | (with_reducible refine Stuck.h (A := LoopG _ _ _ _ _ _ _ _) ?_) | (with_reducible refine Stuck.h (A := DrawG _ _ _ _ _ _ _ _) ?_)
  | (with_reducible refine Stuck.h (A := WrapG _ _ _) ?_) | (with_reducible refine Stuck.h (A := DivG _ _ _ _) ?_) | (with_reducible refine Stuck.h (A := ModG _ _ _) ?_) | (with_reducible refine Stuck.h (A := ShlG _ _ _ _) ?_) | (with_reducible refine Stuck.h (A := ShrG _ _ _ _) ?_) | (with_reducible refine Stuck.h (A := BitG _ _ _ _ _) ?_)
  | (with_reducible refine Stuck.h (A := IdxG _ _ _) ?_) | (with_reducible refine Stuck.h (A := IdxL _ _ _) ?_) | (with_reducible refine Stuck.h (A := SlcG _ _ _ _ _) ?_) | (with_reducible refine Stuck.h (A := MakG _ _ _ _) ?_) | (with_reducible refine Stuck.h (A := AppG _ _ _ _ _ _ _) ?_) | (with_reducible refine Stuck.h (A := FzG _ _ _ _) ?_)
  | (with_reducible refine Stuck.h (A := RawG _) ?_) | (with_reducible refine Stuck.h (A := TabG _ _ _ _ _) ?_) | (with_reducible refine Stuck.h (A := ExtF _ _ _ _) ?_) | (with_reducible refine Stuck.h (A := Chk _ _) ?_) | (with_reducible refine Stuck.h (A := False) ?_))
    exact ⟨ret_e rfl⟩
theorem y_short {g : List (Nat × List Value)} (hD : (0, debT.map (Value.int .u8)) ∈ g) (n e p : Int) (up : Bool) (h : L64 n.natAbs ≤ 8192) (he : -1099511627776 ≤ e ∧ e ≤ 1099511627776) (hp : 0 ≤ p ∧ p ≤ 1099511627776) : FC Tryz.prog g 71 [NI n, .val (.int .i64 e), .val (.int .i64 p), .val (.bool up)] (· = cutS n e p up) := by
  have hb := bl_L64 n.natAbs
  have f0 := n_bits (G := g) n.natAbs (by omega)
  unfold cutS
  have hw := wholeS_L64 n ((bl n.natAbs : Int) - p) up h
  have f3 := fun hk => y_cut hD n ((bl n.natAbs : Int) - p) up h (by dsimp only [inR]; omega) hk
  obtain ⟨b, hbb⟩ : ∃ b, b = bl n.natAbs := ⟨_, rfl⟩
  rw [← hbb] at hb f0 hw f3 ⊢
  have f1 := y_make hD n e h (by dsimp only [inR]; omega)
  have f2 := y_make hD (wholeS n ((b : Int) - p) up) (e + ((b : Int) - p)) hw (by dsimp only [inR]; omega)
  obtain ⟨x, y, c, hr, hgd, hcc⟩ := told_form n e
  obtain ⟨x2, y2, c2, hr2, hgd2, hcc2⟩ := told_form (wholeS n ((b : Int) - p) up) (e + ((b : Int) - p))
  rw [hr] at f1 ⊢
  rw [hr2] at f2 ⊢
  obtain ⟨v, hv⟩ : ∃ v, v = wholeS n ((b : Int) - p) up := ⟨_, rfl⟩
  rw [← hv] at f2 f3
  refine FC.intro (X := XX) tok Tryz.func71 rfl Tryz.ntmps71 (by rw [Tryz.results71]) (by kernel_rfl) rfl ?_; intro F hG hO
  rw [← hG] at f0 f1 f2 f3
  repeat' ((try (conv => whnf)); first
  | ((with_reducible refine cg ?_); refine call_eq (f0) (LpL.refl _) rfl ?_)
  | ((with_reducible refine cg ?_); refine call_eq (f1) (LpL.refl _) rfl ?_)
  | ((with_reducible refine cg ?_); refine call_eq (f3 (by omega)) (LpL.refl _) rfl ?_)
  | ((with_reducible refine cg ?_); refine call_eq (f2) (LpL.refl _) rfl ?_)
  
  | (with_reducible refine Chk.mk' (by first | omega | exact trivial | (simp only [List.length_append, List.length_set, List.length_replicate, List.length_take, List.length_drop, List.length_cons, List.length_nil, List.length_map]; omega)) ?_)
  | (with_reducible refine wrap_g (by dsimp only [inR]; omega) ?_)
  | (with_reducible refine idx_g (by omega) ?_)
  | (with_reducible refine idx_l _ rfl (by decide) ?_)
  | (with_reducible refine BothG.mk ?_ ?_)
  | (with_reducible refine fork_tt ?_) | (with_reducible refine fork_ff ?_)
  | (with_reducible refine fork_e (c := true) (by decide) ?_; with_reducible refine fork_tt ?_) | (with_reducible refine fork_e (c := false) (by decide) ?_; with_reducible refine fork_ff ?_)
  | (with_reducible refine fork_t (by omega) ?_) | (with_reducible refine fork_f (by omega) ?_)
  | (with_reducible refine fork_d ?_ ?_ <;> intro hc)
  | (with_reducible refine fork_n ?_)
  | (with_reducible refine fork_b ?_ ?_ <;> intro hc)
  | (with_reducible refine SlcG.mk (by omega) ?_)
  | (with_reducible refine MakG.mk (by dsimp only; omega) ?_)
  | (with_reducible refine AppG.mk (by first | omega | (simp only [List.length_append, List.length_set, List.length_replicate, List.length_take, List.length_drop, List.length_cons, List.length_nil, List.length_map]; omega)) (by dsimp only [List.length_cons, List.length_nil]; omega) (by omega) ?_)
  | (with_reducible refine div_g (by omega) (by omega) (by dsimp only [inR]; omega) ?_)
  | (with_reducible refine mod_g (by omega) (by omega) ?_)
  | (with_reducible refine mask_g (m := 4294967296) 32 rfl rfl (by decide) (by omega) ?_)
  | (with_reducible refine shr_g (m := 4294967296) 32 rfl (by decide) (by omega) rfl ?_)
  | (with_reducible refine fz_all (by omega) ?_)
  | (with_reducible refine Stuck.h (A := RetE _ _) ?_) | (with_reducible refine Stuck.h (A := RetM _ _ _ _) ?_) | (with_reducible refine Stuck.h (A := Again _ _ _ _ _ _ _ _) ?_) | (with_reducible refine Stuck.h (A := CallF _ _ _ _ _ _ _) ?_) | (with_reducible refine Stuck.h (A := LoopG _ _ _ _ _ _ _ _) ?_) | (with_reducible refine Stuck.h (A := DrawG _ _ _ _ _ _ _ _) ?_)
  | (with_reducible refine Stuck.h (A := WrapG _ _ _) ?_) | (with_reducible refine Stuck.h (A := DivG _ _ _ _) ?_) | (with_reducible refine Stuck.h (A := ModG _ _ _) ?_) | (with_reducible refine Stuck.h (A := ShlG _ _ _ _) ?_) | (with_reducible refine Stuck.h (A := ShrG _ _ _ _) ?_) | (with_reducible refine Stuck.h (A := BitG _ _ _ _ _) ?_)
  | (with_reducible refine Stuck.h (A := IdxG _ _ _) ?_) | (with_reducible refine Stuck.h (A := IdxL _ _ _) ?_) | (with_reducible refine Stuck.h (A := SlcG _ _ _ _ _) ?_) | (with_reducible refine Stuck.h (A := MakG _ _ _ _) ?_) | (with_reducible refine Stuck.h (A := AppG _ _ _ _ _ _ _) ?_) | (with_reducible refine Stuck.h (A := FzG _ _ _ _) ?_)
  | (with_reducible refine Stuck.h (A := RawG _) ?_) | (with_reducible refine Stuck.h (A := TabG _ _ _ _ _) ?_) | (with_reducible refine Stuck.h (A := ExtF _ _ _ _) ?_) | (with_reducible refine Stuck.h (A := Chk _ _) ?_) | (with_reducible refine Stuck.h (A := False) ?_))
  · exact ⟨ret_e (by rw [if_pos (by omega)]; rfl)⟩
  · exact ⟨ret_e (by rw [if_neg (by omega)]; rfl)⟩
theorem y_precise (p : Int) : FC Tryz.prog G 65 [.val (.int .i64 p)] (· = .val (.bool (decide (1 ≤ p) && decide (p ≤ 70000)))) := by
  refine FC.intro (X := XX) tok Tryz.func65 rfl Tryz.ntmps65 (by rw [Tryz.results65]) (by kernel_rfl) rfl ?_; intro F hG hO
  repeat' ((try (conv => whnf)); first
  
  | (with_reducible refine Chk.mk' (by first | omega | exact trivial | (simp only [List.length_append, List.length_set, List.length_replicate, List.length_take, List.length_drop, List.length_cons, List.length_nil, List.length_map]; omega)) ?_)
  | (with_reducible refine wrap_g (by dsimp only [inR]; omega) ?_)
  | (with_reducible refine idx_g (by omega) ?_)
  | (with_reducible refine idx_l _ rfl (by decide) ?_)
  | (with_reducible refine BothG.mk ?_ ?_)
  | (with_reducible refine fork_tt ?_) | (with_reducible refine fork_ff ?_)
  | (with_reducible refine fork_e (c := true) (by decide) ?_; with_reducible refine fork_tt ?_) | (with_reducible refine fork_e (c := false) (by decide) ?_; with_reducible refine fork_ff ?_)
  | (with_reducible refine fork_t (by omega) ?_) | (with_reducible refine fork_f (by omega) ?_)
  | (with_reducible refine fork_d ?_ ?_ <;> intro hc)
  | (with_reducible refine fork_n ?_)
  | (with_reducible refine fork_b ?_ ?_ <;> intro hc)
  | (with_reducible refine SlcG.mk (by omega) ?_)
  | (with_reducible refine MakG.mk (by dsimp only; omega) ?_)
  | (with_reducible refine AppG.mk (by first | omega | (simp only [List.length_append, List.length_set, List.length_replicate, List.length_take, List.length_drop, List.length_cons, List.length_nil, List.length_map]; omega)) (by dsimp only [List.length_cons, List.length_nil]; omega) (by omega) ?_)
  | (with_reducible refine div_g (by omega) (by omega) (by dsimp only [inR]; omega) ?_)
  | (with_reducible refine mod_g (by omega) (by omega) ?_)
  | (with_reducible refine mask_g (m := 4294967296) 32 rfl rfl (by decide) (by omega) ?_)
  | (with_reducible refine shr_g (m := 4294967296) 32 rfl (by decide) (by omega) rfl ?_)
  | (with_reducible refine fz_all (by omega) ?_)
  | (with_reducible refine Stuck.h (A := RetE _ _) ?_) | (with_reducible refine Stuck.h (A := RetM _ _ _ _) ?_) | (with_reducible refine Stuck.h (A := Again _ _ _ _ _ _ _ _) ?_) | (with_reducible refine Stuck.h (A := CallF _ _ _ _ _ _ _) ?_) | (with_reducible refine Stuck.h (A := LoopG _ _ _ _ _ _ _ _) ?_) | (with_reducible refine Stuck.h (A := DrawG _ _ _ _ _ _ _ _) ?_)
  | (with_reducible refine Stuck.h (A := WrapG _ _ _) ?_) | (with_reducible refine Stuck.h (A := DivG _ _ _ _) ?_) | (with_reducible refine Stuck.h (A := ModG _ _ _) ?_) | (with_reducible refine Stuck.h (A := ShlG _ _ _ _) ?_) | (with_reducible refine Stuck.h (A := ShrG _ _ _ _) ?_) | (with_reducible refine Stuck.h (A := BitG _ _ _ _ _) ?_)
  | (with_reducible refine Stuck.h (A := IdxG _ _ _) ?_) | (with_reducible refine Stuck.h (A := IdxL _ _ _) ?_) | (with_reducible refine Stuck.h (A := SlcG _ _ _ _ _) ?_) | (with_reducible refine Stuck.h (A := MakG _ _ _ _) ?_) | (with_reducible refine Stuck.h (A := AppG _ _ _ _ _ _ _) ?_) | (with_reducible refine Stuck.h (A := FzG _ _ _ _) ?_)
  | (with_reducible refine Stuck.h (A := RawG _) ?_) | (with_reducible refine Stuck.h (A := TabG _ _ _ _ _) ?_) | (with_reducible refine Stuck.h (A := ExtF _ _ _ _) ?_) | (with_reducible refine Stuck.h (A := Chk _ _) ?_) | (with_reducible refine Stuck.h (A := False) ?_))
  · exact ⟨ret_e (bv_eq (by rw [decide_eq_true hc]; rfl))⟩
  · exact ⟨ret_e (bv_eq (by rw [decide_eq_false hc]; rfl))⟩
theorem y_next {g : List (Nat × List Value)} (hD : (0, debT.map (Value.int .u8)) ∈ g) {n e : Int} (p : Int) (up : Bool) (h : Good n e) : FC Tryz.prog g 51 [DY n e, .val (.int .i64 p), .val (.bool up)] (· = cutsS n e p up) := by
  have e1 := h.2.1
  have e2 := h.2.2.1
  have f0 := y_precise (G := g) p
  have f1 := y_form (G := g) h
  unfold cutsS
  by_cases hp : 1 ≤ p ∧ p ≤ 70000
  · rw [if_neg (by omega), if_neg (by omega)]
    rw [decide_eq_true hp.1, decide_eq_true hp.2] at f0
    have f2 := y_short hD n e p up h.1 (by omega) (by omega)
    obtain ⟨x, y, c, hr, hgd⟩ := cut_form n e p up
    rw [hr] at f2 ⊢
    refine FC.intro (X := XX) tok Tryz.func51 rfl Tryz.ntmps51 (by rw [Tryz.results51]) (by kernel_rfl) rfl ?_; intro F hG hO
    rw [← hG] at f0 f1 f2
    repeat' ((try (conv => whnf)); first
  | ((with_reducible refine cg ?_); refine call_eq (f0) (LpL.refl _) rfl ?_)
  | ((with_reducible refine cg ?_); refine call_eq (f1) (LpL.refl _) rfl ?_)
  | ((with_reducible refine cg ?_); refine call_eq (f2) (LpL.refl _) rfl ?_)
  
  | (with_reducible refine Chk.mk' (by first | omega | exact trivial | (simp only [List.length_append, List.length_set, List.length_replicate, List.length_take, List.length_drop, List.length_cons, List.length_nil, List.length_map]; omega)) ?_)
  | (with_reducible refine wrap_g (by dsimp only [inR]; omega) ?_)
  | (with_reducible refine idx_g (by omega) ?_)
  | (with_reducible refine idx_l _ rfl (by decide) ?_)
  | (with_reducible refine BothG.mk ?_ ?_)
  | (with_reducible refine fork_tt ?_) | (with_reducible refine fork_ff ?_)
  | (with_reducible refine fork_e (c := true) (by decide) ?_; with_reducible refine fork_tt ?_) | (with_reducible refine fork_e (c := false) (by decide) ?_; with_reducible refine fork_ff ?_)
  | (with_reducible refine fork_t (by omega) ?_) | (with_reducible refine fork_f (by omega) ?_)
  | (with_reducible refine fork_d ?_ ?_ <;> intro hc)
  | (with_reducible refine fork_n ?_)
  | (with_reducible refine fork_b ?_ ?_ <;> intro hc)
  | (with_reducible refine SlcG.mk (by omega) ?_)
  | (with_reducible refine MakG.mk (by dsimp only; omega) ?_)
  | (with_reducible refine AppG.mk (by first | omega | (simp only [List.length_append, List.length_set, List.length_replicate, List.length_take, List.length_drop, List.length_cons, List.length_nil, List.length_map]; omega)) (by dsimp only [List.length_cons, List.length_nil]; omega) (by omega) ?_)
  | (with_reducible refine div_g (by omega) (by omega) (by dsimp only [inR]; omega) ?_)
  | (with_reducible refine mod_g (by omega) (by omega) ?_)
  | (with_reducible refine mask_g (m := 4294967296) 32 rfl rfl (by decide) (by omega) ?_)
  | (with_reducible refine shr_g (m := 4294967296) 32 rfl (by decide) (by omega) rfl ?_)
  | (with_reducible refine fz_all (by omega) ?_)
  | (with_reducible refine Stuck.h (A := RetE _ _) ?_) | (with_reducible refine Stuck.h (A := RetM _ _ _ _) ?_) | (with_reducible refine Stuck.h (A := Again _ _ _ _ _ _ _ _) ?_) | (with_reducible refine Stuck.h (A := CallF _ _ _ _ _ _ _) ?_) | (with_reducible refine Stuck.h (A := LoopG _ _ _ _ _ _ _ _) ?_) | (with_reducible refine Stuck.h (A := DrawG _ _ _ _ _ _ _ _) ?_)
  | (with_reducible refine Stuck.h (A := WrapG _ _ _) ?_) | (with_reducible refine Stuck.h (A := DivG _ _ _ _) ?_) | (with_reducible refine Stuck.h (A := ModG _ _ _) ?_) | (with_reducible refine Stuck.h (A := ShlG _ _ _ _) ?_) | (with_reducible refine Stuck.h (A := ShrG _ _ _ _) ?_) | (with_reducible refine Stuck.h (A := BitG _ _ _ _ _) ?_)
  | (with_reducible refine Stuck.h (A := IdxG _ _ _) ?_) | (with_reducible refine Stuck.h (A := IdxL _ _ _) ?_) | (with_reducible refine Stuck.h (A := SlcG _ _ _ _ _) ?_) | (with_reducible refine Stuck.h (A := MakG _ _ _ _) ?_) | (with_reducible refine Stuck.h (A := AppG _ _ _ _ _ _ _) ?_) | (with_reducible refine Stuck.h (A := FzG _ _ _ _) ?_)
  | (with_reducible refine Stuck.h (A := RawG _) ?_) | (with_reducible refine Stuck.h (A := TabG _ _ _ _ _) ?_) | (with_reducible refine Stuck.h (A := ExtF _ _ _ _) ?_) | (with_reducible refine Stuck.h (A := Chk _ _) ?_) | (with_reducible refine Stuck.h (A := False) ?_))
    exact ⟨ret_e rfl⟩
  · have hb : (decide (1 ≤ p) && decide (p ≤ 70000)) = false := by
      by_cases h1 : 1 ≤ p
      · rw [decide_eq_false (show ¬ p ≤ 70000 by omega)]; simp
      · rw [decide_eq_false h1]; rfl
    rw [hb] at f0
    refine FC.intro (X := XX) tok Tryz.func51 rfl Tryz.ntmps51 (by rw [Tryz.results51]) (by kernel_rfl) rfl ?_; intro F hG hO
    rw [← hG] at f0
    repeat' ((try (conv => whnf)); first
  | ((with_reducible refine cg ?_); refine call_eq (f0) (LpL.refl _) rfl ?_)
  
  | (with_reducible refine Chk.mk' (by first | omega | exact trivial | (simp only [List.length_append, List.length_set, List.length_replicate, List.length_take, List.length_drop, List.length_cons, List.length_nil, List.length_map]; omega)) ?_)
  | (with_reducible refine wrap_g (by dsimp only [inR]; omega) ?_)
  | (with_reducible refine idx_g (by omega) ?_)
  | (with_reducible refine idx_l _ rfl (by decide) ?_)
  | (with_reducible refine BothG.mk ?_ ?_)
  | (with_reducible refine fork_tt ?_) | (with_reducible refine fork_ff ?_)
  | (with_reducible refine fork_e (c := true) (by decide) ?_; with_reducible refine fork_tt ?_) | (with_reducible refine fork_e (c := false) (by decide) ?_; with_reducible refine fork_ff ?_)
  | (with_reducible refine fork_t (by omega) ?_) | (with_reducible refine fork_f (by omega) ?_)
  | (with_reducible refine fork_d ?_ ?_ <;> intro hc)
  | (with_reducible refine fork_n ?_)
  | (with_reducible refine fork_b ?_ ?_ <;> intro hc)
  | (with_reducible refine SlcG.mk (by omega) ?_)
  | (with_reducible refine MakG.mk (by dsimp only; omega) ?_)
  | (with_reducible refine AppG.mk (by first | omega | (simp only [List.length_append, List.length_set, List.length_replicate, List.length_take, List.length_drop, List.length_cons, List.length_nil, List.length_map]; omega)) (by dsimp only [List.length_cons, List.length_nil]; omega) (by omega) ?_)
  | (with_reducible refine div_g (by omega) (by omega) (by dsimp only [inR]; omega) ?_)
  | (with_reducible refine mod_g (by omega) (by omega) ?_)
  | (with_reducible refine mask_g (m := 4294967296) 32 rfl rfl (by decide) (by omega) ?_)
  | (with_reducible refine shr_g (m := 4294967296) 32 rfl (by decide) (by omega) rfl ?_)
  | (with_reducible refine fz_all (by omega) ?_)
  | (with_reducible refine Stuck.h (A := RetE _ _) ?_) | (with_reducible refine Stuck.h (A := RetM _ _ _ _) ?_) | (with_reducible refine Stuck.h (A := Again _ _ _ _ _ _ _ _) ?_) | (with_reducible refine Stuck.h (A := CallF _ _ _ _ _ _ _) ?_) | (with_reducible refine Stuck.h (A := LoopG _ _ _ _ _ _ _ _) ?_) | (with_reducible refine Stuck.h (A := DrawG _ _ _ _ _ _ _ _) ?_)
  | (with_reducible refine Stuck.h (A := WrapG _ _ _) ?_) | (with_reducible refine Stuck.h (A := DivG _ _ _ _) ?_) | (with_reducible refine Stuck.h (A := ModG _ _ _) ?_) | (with_reducible refine Stuck.h (A := ShlG _ _ _ _) ?_) | (with_reducible refine Stuck.h (A := ShrG _ _ _ _) ?_) | (with_reducible refine Stuck.h (A := BitG _ _ _ _ _) ?_)
  | (with_reducible refine Stuck.h (A := IdxG _ _ _) ?_) | (with_reducible refine Stuck.h (A := IdxL _ _ _) ?_) | (with_reducible refine Stuck.h (A := SlcG _ _ _ _ _) ?_) | (with_reducible refine Stuck.h (A := MakG _ _ _ _) ?_) | (with_reducible refine Stuck.h (A := AppG _ _ _ _ _ _ _) ?_) | (with_reducible refine Stuck.h (A := FzG _ _ _ _) ?_)
  | (with_reducible refine Stuck.h (A := RawG _) ?_) | (with_reducible refine Stuck.h (A := TabG _ _ _ _ _) ?_) | (with_reducible refine Stuck.h (A := ExtF _ _ _ _) ?_) | (with_reducible refine Stuck.h (A := Chk _ _) ?_) | (with_reducible refine Stuck.h (A := False) ?_))
    refine ⟨ret_l _ (lp_dyE 1) ?_⟩
    by_cases h1 : p < 1
    · rw [if_pos h1]
    · rw [if_neg h1, if_pos (by omega)]
theorem y_down {g : List (Nat × List Value)} (hD : (0, debT.map (Value.int .u8)) ∈ g) {n e : Int} (p : Int) (h : Good n e) : FC Tryz.prog g 29 [DY n e, .val (.int .i64 p)] (· = cutsS n e p false) := by
  obtain ⟨x, y, c, hr, hgd⟩ := cuts_form n e p false
  have f1 := y_next hD p false h
  rw [hr] at f1 ⊢
  refine FC.intro (X := XX) tok Tryz.func29 rfl Tryz.ntmps29 (by rw [Tryz.results29]) (by kernel_rfl) rfl ?_; intro F hG hO
  rw [← hG] at f1
  repeat' ((try (conv => whnf)); first
  | ((with_reducible refine cg ?_); refine call_eq (f1) (LpL.refl _) rfl ?_)
  
  | (with_reducible refine Chk.mk' (by first | omega | exact trivial | (simp only [List.length_append, List.length_set, List.length_replicate, List.length_take, List.length_drop, List.length_cons, List.length_nil, List.length_map]; omega)) ?_)
  | (with_reducible refine wrap_g (by dsimp only [inR]; omega) ?_)
  | (with_reducible refine idx_g (by omega) ?_)
  | (with_reducible refine idx_l _ rfl (by decide) ?_)
  | (with_reducible refine BothG.mk ?_ ?_)
  | (with_reducible refine fork_tt ?_) | (with_reducible refine fork_ff ?_)
  | (with_reducible refine fork_e (c := true) (by decide) ?_; with_reducible refine fork_tt ?_) | (with_reducible refine fork_e (c := false) (by decide) ?_; with_reducible refine fork_ff ?_)
  | (with_reducible refine fork_t (by omega) ?_) | (with_reducible refine fork_f (by omega) ?_)
  | (with_reducible refine fork_d ?_ ?_ <;> intro hc)
  | (with_reducible refine fork_n ?_)
  | (with_reducible refine fork_b ?_ ?_ <;> intro hc)
  | (with_reducible refine SlcG.mk (by omega) ?_)
  | (with_reducible refine MakG.mk (by dsimp only; omega) ?_)
  | (with_reducible refine AppG.mk (by first | omega | (simp only [List.length_append, List.length_set, List.length_replicate, List.length_take, List.length_drop, List.length_cons, List.length_nil, List.length_map]; omega)) (by dsimp only [List.length_cons, List.length_nil]; omega) (by omega) ?_)
  | (with_reducible refine div_g (by omega) (by omega) (by dsimp only [inR]; omega) ?_)
  | (with_reducible refine mod_g (by omega) (by omega) ?_)
  | (with_reducible refine mask_g (m := 4294967296) 32 rfl rfl (by decide) (by omega) ?_)
  | (with_reducible refine shr_g (m := 4294967296) 32 rfl (by decide) (by omega) rfl ?_)
  | (with_reducible refine fz_all (by omega) ?_)
  | (with_reducible refine Stuck.h (A := RetE _ _) ?_) | (with_reducible refine Stuck.h (A := RetM _ _ _ _) ?_) | (with_reducible refine Stuck.h (A := Again _ _ _ _ _ _ _ _) ?_) | (with_reducible refine Stuck.h (A := CallF _ _ _ _ _ _ _) ?_) | (with_reducible refine Stuck.h (A := LoopG _ _ _ _ _ _ _ _) ?_) | (with_reducible refine Stuck.h (A := DrawG _ _ _ _ _ _ _ _) ?_)
  | (with_reducible refine Stuck.h (A := WrapG _ _ _) ?_) | (with_reducible refine Stuck.h (A := DivG _ _ _ _) ?_) | (with_reducible refine Stuck.h (A := ModG _ _ _) ?_) | (with_reducible refine Stuck.h (A := ShlG _ _ _ _) ?_) | (with_reducible refine Stuck.h (A := ShrG _ _ _ _) ?_) | (with_reducible refine Stuck.h (A := BitG _ _ _ _ _) ?_)
  | (with_reducible refine Stuck.h (A := IdxG _ _ _) ?_) | (with_reducible refine Stuck.h (A := IdxL _ _ _) ?_) | (with_reducible refine Stuck.h (A := SlcG _ _ _ _ _) ?_) | (with_reducible refine Stuck.h (A := MakG _ _ _ _) ?_) | (with_reducible refine Stuck.h (A := AppG _ _ _ _ _ _ _) ?_) | (with_reducible refine Stuck.h (A := FzG _ _ _ _) ?_)
  | (with_reducible refine Stuck.h (A := RawG _) ?_) | (with_reducible refine Stuck.h (A := TabG _ _ _ _ _) ?_) | (with_reducible refine Stuck.h (A := ExtF _ _ _ _) ?_) | (with_reducible refine Stuck.h (A := Chk _ _) ?_) | (with_reducible refine Stuck.h (A := False) ?_))
  exact ⟨ret_e rfl⟩
theorem y_up {g : List (Nat × List Value)} (hD : (0, debT.map (Value.int .u8)) ∈ g) {n e : Int} (p : Int) (h : Good n e) : FC Tryz.prog g 41 [DY n e, .val (.int .i64 p)] (· = cutsS n e p true) := by
  obtain ⟨x, y, c, hr, hgd⟩ := cuts_form n e p true
  have f1 := y_next hD p true h
  rw [hr] at f1 ⊢
  refine FC.intro (X := XX) tok Tryz.func41 rfl Tryz.ntmps41 (by rw [Tryz.results41]) (by kernel_rfl) rfl ?_; intro F hG hO
  rw [← hG] at f1
  repeat' ((try (conv => whnf)); first
  | ((with_reducible refine cg ?_); refine call_eq (f1) (LpL.refl _) rfl ?_)
  
  | (with_reducible refine Chk.mk' (by first | omega | exact trivial | (simp only [List.length_append, List.length_set, List.length_replicate, List.length_take, List.length_drop, List.length_cons, List.length_nil, List.length_map]; omega)) ?_)
  | (with_reducible refine wrap_g (by dsimp only [inR]; omega) ?_)
  | (with_reducible refine idx_g (by omega) ?_)
  | (with_reducible refine idx_l _ rfl (by decide) ?_)
  | (with_reducible refine BothG.mk ?_ ?_)
  | (with_reducible refine fork_tt ?_) | (with_reducible refine fork_ff ?_)
  | (with_reducible refine fork_e (c := true) (by decide) ?_; with_reducible refine fork_tt ?_) | (with_reducible refine fork_e (c := false) (by decide) ?_; with_reducible refine fork_ff ?_)
  | (with_reducible refine fork_t (by omega) ?_) | (with_reducible refine fork_f (by omega) ?_)
  | (with_reducible refine fork_d ?_ ?_ <;> intro hc)
  | (with_reducible refine fork_n ?_)
  | (with_reducible refine fork_b ?_ ?_ <;> intro hc)
  | (with_reducible refine SlcG.mk (by omega) ?_)
  | (with_reducible refine MakG.mk (by dsimp only; omega) ?_)
  | (with_reducible refine AppG.mk (by first | omega | (simp only [List.length_append, List.length_set, List.length_replicate, List.length_take, List.length_drop, List.length_cons, List.length_nil, List.length_map]; omega)) (by dsimp only [List.length_cons, List.length_nil]; omega) (by omega) ?_)
  | (with_reducible refine div_g (by omega) (by omega) (by dsimp only [inR]; omega) ?_)
  | (with_reducible refine mod_g (by omega) (by omega) ?_)
  | (with_reducible refine mask_g (m := 4294967296) 32 rfl rfl (by decide) (by omega) ?_)
  | (with_reducible refine shr_g (m := 4294967296) 32 rfl (by decide) (by omega) rfl ?_)
  | (with_reducible refine fz_all (by omega) ?_)
  | (with_reducible refine Stuck.h (A := RetE _ _) ?_) | (with_reducible refine Stuck.h (A := RetM _ _ _ _) ?_) | (with_reducible refine Stuck.h (A := Again _ _ _ _ _ _ _ _) ?_) | (with_reducible refine Stuck.h (A := CallF _ _ _ _ _ _ _) ?_) | (with_reducible refine Stuck.h (A := LoopG _ _ _ _ _ _ _ _) ?_) | (with_reducible refine Stuck.h (A := DrawG _ _ _ _ _ _ _ _) ?_)
  | (with_reducible refine Stuck.h (A := WrapG _ _ _) ?_) | (with_reducible refine Stuck.h (A := DivG _ _ _ _) ?_) | (with_reducible refine Stuck.h (A := ModG _ _ _) ?_) | (with_reducible refine Stuck.h (A := ShlG _ _ _ _) ?_) | (with_reducible refine Stuck.h (A := ShrG _ _ _ _) ?_) | (with_reducible refine Stuck.h (A := BitG _ _ _ _ _) ?_)
  | (with_reducible refine Stuck.h (A := IdxG _ _ _) ?_) | (with_reducible refine Stuck.h (A := IdxL _ _ _) ?_) | (with_reducible refine Stuck.h (A := SlcG _ _ _ _ _) ?_) | (with_reducible refine Stuck.h (A := MakG _ _ _ _) ?_) | (with_reducible refine Stuck.h (A := AppG _ _ _ _ _ _ _) ?_) | (with_reducible refine Stuck.h (A := FzG _ _ _ _) ?_)
  | (with_reducible refine Stuck.h (A := RawG _) ?_) | (with_reducible refine Stuck.h (A := TabG _ _ _ _ _) ?_) | (with_reducible refine Stuck.h (A := ExtF _ _ _ _) ?_) | (with_reducible refine Stuck.h (A := Chk _ _) ?_) | (with_reducible refine Stuck.h (A := False) ?_))
  exact ⟨ret_e rfl⟩
theorem y_grid {g : List (Nat × List Value)} (hD : (0, debT.map (Value.int .u8)) ∈ g) {n e : Int} (k : Int) (up : Bool) (h : Good n e) (hk : inR .i64 k) : FC Tryz.prog g 52 [DY n e, .val (.int .i64 k), .val (.bool up)] (· = gridS n e k up) := by
  have hk' := hk
  dsimp only [inR] at hk
  have e1 := h.2.1
  have e2 := h.2.2.1
  have hb := h.bl
  have f1 := y_form (G := g) h
  have f2 := y_noughtg (G := g) n e
  have f3 := y_twing (G := g) h
  have f4 := n_bits (G := g) n.natAbs (by have := h.1; omega)
  unfold gridS
  have hw := wholeS_L64 n (min k 4194304 - e) up h.1
  have f5 : Unit → e < k → k < e + ((bl n.natAbs : Int) + 1) → FC Tryz.prog g 87 [NI n, .val (.int .i64 (k - e)), .val (.bool up)] (· = NI (wholeS n (min k 4194304 - e) up)) := fun _ h1 h2 => by
    have := y_cut hD n (k - e) up h.1 (by dsimp only [inR]; omega) (by omega)
    rw [show min k 4194304 = k by omega]
    exact this
  have f6 : Unit → e + ((bl n.natAbs : Int) + 1) ≤ k → FC Tryz.prog g 87 [NI n, .val (.int .i64 ((bl n.natAbs : Int) + 1)), .val (.bool up)] (· = NI (wholeS n (min k 4194304 - e) up)) := fun _ h1 => by
    have := y_cut hD n ((bl n.natAbs : Int) + 1) up h.1 (by dsimp only [inR]; omega) (by omega)
    rw [wholeS_big up (by omega)] at this
    rw [wholeS_big up (by omega)]
    exact this
  obtain ⟨v, hv⟩ : ∃ v, v = wholeS n (min k 4194304 - e) up := ⟨_, rfl⟩
  rw [← hv] at f5 f6 hw ⊢
  have f7 := y_make hD v k hw hk'
  obtain ⟨x, y, c, hr, hgd, hcc⟩ := told_form v k
  rw [hr] at f7 ⊢
  refine FC.intro (X := XX) tok Tryz.func52 rfl Tryz.ntmps52 (by rw [Tryz.results52]) (by kernel_rfl) rfl ?_; intro F hG hO
  rw [← hG] at f1 f2 f3 f4 f5 f6 f7
  repeat' ((try (conv => whnf)); first
  | ((with_reducible refine cg ?_); refine call_eq (f1) (LpL.refl _) rfl ?_)
  | ((with_reducible refine cg ?_); refine call_eq (f2) (LpL.refl _) rfl ?_)
  | ((with_reducible refine cg ?_); refine call_eq (f3) (LpL.refl _) rfl ?_)
  | ((with_reducible refine cg ?_); refine call_eq (f4) (LpL.refl _) rfl ?_)
  | ((with_reducible refine cg ?_); refine call_eq (f5 () (by omega) (by omega)) (LpL.refl _) rfl ?_)
  | ((with_reducible refine cg ?_); refine call_eq (f6 () (by omega)) (LpL.refl _) rfl ?_)
  | ((with_reducible refine cg ?_); refine call_eq (f7) (LpL.refl _) rfl ?_)
  
  | (with_reducible refine Chk.mk' (by first | omega | exact trivial | (simp only [List.length_append, List.length_set, List.length_replicate, List.length_take, List.length_drop, List.length_cons, List.length_nil, List.length_map]; omega)) ?_)
  | (with_reducible refine wrap_g (by dsimp only [inR]; omega) ?_)
  | (with_reducible refine idx_g (by omega) ?_)
  | (with_reducible refine idx_l _ rfl (by decide) ?_)
  | (with_reducible refine BothG.mk ?_ ?_)
  | (with_reducible refine fork_tt ?_) | (with_reducible refine fork_ff ?_)
  | (with_reducible refine fork_e (c := true) (by decide) ?_; with_reducible refine fork_tt ?_) | (with_reducible refine fork_e (c := false) (by decide) ?_; with_reducible refine fork_ff ?_)
  | (with_reducible refine fork_t (by omega) ?_) | (with_reducible refine fork_f (by omega) ?_)
  | (with_reducible refine fork_d ?_ ?_ <;> intro hc)
  | (with_reducible refine fork_n ?_)
  | (with_reducible refine fork_b ?_ ?_ <;> intro hc)
  | (with_reducible refine SlcG.mk (by omega) ?_)
  | (with_reducible refine MakG.mk (by dsimp only; omega) ?_)
  | (with_reducible refine AppG.mk (by first | omega | (simp only [List.length_append, List.length_set, List.length_replicate, List.length_take, List.length_drop, List.length_cons, List.length_nil, List.length_map]; omega)) (by dsimp only [List.length_cons, List.length_nil]; omega) (by omega) ?_)
  | (with_reducible refine div_g (by omega) (by omega) (by dsimp only [inR]; omega) ?_)
  | (with_reducible refine mod_g (by omega) (by omega) ?_)
  | (with_reducible refine mask_g (m := 4294967296) 32 rfl rfl (by decide) (by omega) ?_)
  | (with_reducible refine shr_g (m := 4294967296) 32 rfl (by decide) (by omega) rfl ?_)
  | (with_reducible refine fz_all (by omega) ?_)
  | (with_reducible refine Stuck.h (A := RetE _ _) ?_) | (with_reducible refine Stuck.h (A := RetM _ _ _ _) ?_) | (with_reducible refine Stuck.h (A := Again _ _ _ _ _ _ _ _) ?_) | (with_reducible refine Stuck.h (A := CallF _ _ _ _ _ _ _) ?_) | (with_reducible refine Stuck.h (A := LoopG _ _ _ _ _ _ _ _) ?_) | (with_reducible refine Stuck.h (A := DrawG _ _ _ _ _ _ _ _) ?_)
  | (with_reducible refine Stuck.h (A := WrapG _ _ _) ?_) | (with_reducible refine Stuck.h (A := DivG _ _ _ _) ?_) | (with_reducible refine Stuck.h (A := ModG _ _ _) ?_) | (with_reducible refine Stuck.h (A := ShlG _ _ _ _) ?_) | (with_reducible refine Stuck.h (A := ShrG _ _ _ _) ?_) | (with_reducible refine Stuck.h (A := BitG _ _ _ _ _) ?_)
  | (with_reducible refine Stuck.h (A := IdxG _ _ _) ?_) | (with_reducible refine Stuck.h (A := IdxL _ _ _) ?_) | (with_reducible refine Stuck.h (A := SlcG _ _ _ _ _) ?_) | (with_reducible refine Stuck.h (A := MakG _ _ _ _) ?_) | (with_reducible refine Stuck.h (A := AppG _ _ _ _ _ _ _) ?_) | (with_reducible refine Stuck.h (A := FzG _ _ _ _) ?_)
  | (with_reducible refine Stuck.h (A := RawG _) ?_) | (with_reducible refine Stuck.h (A := TabG _ _ _ _ _) ?_) | (with_reducible refine Stuck.h (A := ExtF _ _ _ _) ?_) | (with_reducible refine Stuck.h (A := Chk _ _) ?_) | (with_reducible refine Stuck.h (A := False) ?_))
  all_goals first
    | (refine ⟨ret_e ?_⟩; rw [if_pos (by omega)]; rfl)
    | (refine ⟨ret_e ?_⟩; rw [if_neg (by omega), if_pos (by omega)]; rfl)
    | (refine ⟨ret_e ?_⟩; rw [if_neg (by omega), if_neg (by omega)]; rfl)
theorem y_downat {g : List (Nat × List Value)} (hD : (0, debT.map (Value.int .u8)) ∈ g) {n e : Int} (k : Int) (h : Good n e) (hk : inR .i64 k) : FC Tryz.prog g 107 [DY n e, .val (.int .i64 k)] (· = gridS n e k false) := by
  obtain ⟨x, y, c, hr, hgd⟩ := grid_form k false h
  have f1 := y_grid hD k false h hk
  rw [hr] at f1 ⊢
  refine FC.intro (X := XX) tok Tryz.func107 rfl Tryz.ntmps107 (by rw [Tryz.results107]) (by kernel_rfl) rfl ?_; intro F hG hO
  rw [← hG] at f1
  repeat' ((try (conv => whnf)); first
  | ((with_reducible refine cg ?_); refine call_eq (f1) (LpL.refl _) rfl ?_)
  
  | (with_reducible refine Chk.mk' (by first | omega | exact trivial | (simp only [List.length_append, List.length_set, List.length_replicate, List.length_take, List.length_drop, List.length_cons, List.length_nil, List.length_map]; omega)) ?_)
  | (with_reducible refine wrap_g (by dsimp only [inR]; omega) ?_)
  | (with_reducible refine idx_g (by omega) ?_)
  | (with_reducible refine idx_l _ rfl (by decide) ?_)
  | (with_reducible refine BothG.mk ?_ ?_)
  | (with_reducible refine fork_tt ?_) | (with_reducible refine fork_ff ?_)
  | (with_reducible refine fork_e (c := true) (by decide) ?_; with_reducible refine fork_tt ?_) | (with_reducible refine fork_e (c := false) (by decide) ?_; with_reducible refine fork_ff ?_)
  | (with_reducible refine fork_t (by omega) ?_) | (with_reducible refine fork_f (by omega) ?_)
  | (with_reducible refine fork_d ?_ ?_ <;> intro hc)
  | (with_reducible refine fork_n ?_)
  | (with_reducible refine fork_b ?_ ?_ <;> intro hc)
  | (with_reducible refine SlcG.mk (by omega) ?_)
  | (with_reducible refine MakG.mk (by dsimp only; omega) ?_)
  | (with_reducible refine AppG.mk (by first | omega | (simp only [List.length_append, List.length_set, List.length_replicate, List.length_take, List.length_drop, List.length_cons, List.length_nil, List.length_map]; omega)) (by dsimp only [List.length_cons, List.length_nil]; omega) (by omega) ?_)
  | (with_reducible refine div_g (by omega) (by omega) (by dsimp only [inR]; omega) ?_)
  | (with_reducible refine mod_g (by omega) (by omega) ?_)
  | (with_reducible refine mask_g (m := 4294967296) 32 rfl rfl (by decide) (by omega) ?_)
  | (with_reducible refine shr_g (m := 4294967296) 32 rfl (by decide) (by omega) rfl ?_)
  | (with_reducible refine fz_all (by omega) ?_)
  | (with_reducible refine Stuck.h (A := RetE _ _) ?_) | (with_reducible refine Stuck.h (A := RetM _ _ _ _) ?_) | (with_reducible refine Stuck.h (A := Again _ _ _ _ _ _ _ _) ?_) | (with_reducible refine Stuck.h (A := CallF _ _ _ _ _ _ _) ?_) | (with_reducible refine Stuck.h (A := LoopG _ _ _ _ _ _ _ _) ?_) | (with_reducible refine Stuck.h (A := DrawG _ _ _ _ _ _ _ _) ?_)
  | (with_reducible refine Stuck.h (A := WrapG _ _ _) ?_) | (with_reducible refine Stuck.h (A := DivG _ _ _ _) ?_) | (with_reducible refine Stuck.h (A := ModG _ _ _) ?_) | (with_reducible refine Stuck.h (A := ShlG _ _ _ _) ?_) | (with_reducible refine Stuck.h (A := ShrG _ _ _ _) ?_) | (with_reducible refine Stuck.h (A := BitG _ _ _ _ _) ?_)
  | (with_reducible refine Stuck.h (A := IdxG _ _ _) ?_) | (with_reducible refine Stuck.h (A := IdxL _ _ _) ?_) | (with_reducible refine Stuck.h (A := SlcG _ _ _ _ _) ?_) | (with_reducible refine Stuck.h (A := MakG _ _ _ _) ?_) | (with_reducible refine Stuck.h (A := AppG _ _ _ _ _ _ _) ?_) | (with_reducible refine Stuck.h (A := FzG _ _ _ _) ?_)
  | (with_reducible refine Stuck.h (A := RawG _) ?_) | (with_reducible refine Stuck.h (A := TabG _ _ _ _ _) ?_) | (with_reducible refine Stuck.h (A := ExtF _ _ _ _) ?_) | (with_reducible refine Stuck.h (A := Chk _ _) ?_) | (with_reducible refine Stuck.h (A := False) ?_))
  exact ⟨ret_e rfl⟩
theorem y_upat {g : List (Nat × List Value)} (hD : (0, debT.map (Value.int .u8)) ∈ g) {n e : Int} (k : Int) (h : Good n e) (hk : inR .i64 k) : FC Tryz.prog g 30 [DY n e, .val (.int .i64 k)] (· = gridS n e k true) := by
  obtain ⟨x, y, c, hr, hgd⟩ := grid_form k true h
  have f1 := y_grid hD k true h hk
  rw [hr] at f1 ⊢
  refine FC.intro (X := XX) tok Tryz.func30 rfl Tryz.ntmps30 (by rw [Tryz.results30]) (by kernel_rfl) rfl ?_; intro F hG hO
  rw [← hG] at f1
  repeat' ((try (conv => whnf)); first
  | ((with_reducible refine cg ?_); refine call_eq (f1) (LpL.refl _) rfl ?_)
  
  | (with_reducible refine Chk.mk' (by first | omega | exact trivial | (simp only [List.length_append, List.length_set, List.length_replicate, List.length_take, List.length_drop, List.length_cons, List.length_nil, List.length_map]; omega)) ?_)
  | (with_reducible refine wrap_g (by dsimp only [inR]; omega) ?_)
  | (with_reducible refine idx_g (by omega) ?_)
  | (with_reducible refine idx_l _ rfl (by decide) ?_)
  | (with_reducible refine BothG.mk ?_ ?_)
  | (with_reducible refine fork_tt ?_) | (with_reducible refine fork_ff ?_)
  | (with_reducible refine fork_e (c := true) (by decide) ?_; with_reducible refine fork_tt ?_) | (with_reducible refine fork_e (c := false) (by decide) ?_; with_reducible refine fork_ff ?_)
  | (with_reducible refine fork_t (by omega) ?_) | (with_reducible refine fork_f (by omega) ?_)
  | (with_reducible refine fork_d ?_ ?_ <;> intro hc)
  | (with_reducible refine fork_n ?_)
  | (with_reducible refine fork_b ?_ ?_ <;> intro hc)
  | (with_reducible refine SlcG.mk (by omega) ?_)
  | (with_reducible refine MakG.mk (by dsimp only; omega) ?_)
  | (with_reducible refine AppG.mk (by first | omega | (simp only [List.length_append, List.length_set, List.length_replicate, List.length_take, List.length_drop, List.length_cons, List.length_nil, List.length_map]; omega)) (by dsimp only [List.length_cons, List.length_nil]; omega) (by omega) ?_)
  | (with_reducible refine div_g (by omega) (by omega) (by dsimp only [inR]; omega) ?_)
  | (with_reducible refine mod_g (by omega) (by omega) ?_)
  | (with_reducible refine mask_g (m := 4294967296) 32 rfl rfl (by decide) (by omega) ?_)
  | (with_reducible refine shr_g (m := 4294967296) 32 rfl (by decide) (by omega) rfl ?_)
  | (with_reducible refine fz_all (by omega) ?_)
  | (with_reducible refine Stuck.h (A := RetE _ _) ?_) | (with_reducible refine Stuck.h (A := RetM _ _ _ _) ?_) | (with_reducible refine Stuck.h (A := Again _ _ _ _ _ _ _ _) ?_) | (with_reducible refine Stuck.h (A := CallF _ _ _ _ _ _ _) ?_) | (with_reducible refine Stuck.h (A := LoopG _ _ _ _ _ _ _ _) ?_) | (with_reducible refine Stuck.h (A := DrawG _ _ _ _ _ _ _ _) ?_)
  | (with_reducible refine Stuck.h (A := WrapG _ _ _) ?_) | (with_reducible refine Stuck.h (A := DivG _ _ _ _) ?_) | (with_reducible refine Stuck.h (A := ModG _ _ _) ?_) | (with_reducible refine Stuck.h (A := ShlG _ _ _ _) ?_) | (with_reducible refine Stuck.h (A := ShrG _ _ _ _) ?_) | (with_reducible refine Stuck.h (A := BitG _ _ _ _ _) ?_)
  | (with_reducible refine Stuck.h (A := IdxG _ _ _) ?_) | (with_reducible refine Stuck.h (A := IdxL _ _ _) ?_) | (with_reducible refine Stuck.h (A := SlcG _ _ _ _ _) ?_) | (with_reducible refine Stuck.h (A := MakG _ _ _ _) ?_) | (with_reducible refine Stuck.h (A := AppG _ _ _ _ _ _ _) ?_) | (with_reducible refine Stuck.h (A := FzG _ _ _ _) ?_)
  | (with_reducible refine Stuck.h (A := RawG _) ?_) | (with_reducible refine Stuck.h (A := TabG _ _ _ _ _) ?_) | (with_reducible refine Stuck.h (A := ExtF _ _ _ _) ?_) | (with_reducible refine Stuck.h (A := Chk _ _) ?_) | (with_reducible refine Stuck.h (A := False) ?_))
  exact ⟨ret_e rfl⟩
theorem y_of {g : List (Nat × List Value)} (hD : (0, debT.map (Value.int .u8)) ∈ g) (n : Int) (h : inR .i64 n) : FC Tryz.prog g 39 [.val (.int .i64 n)] (· = ofS n) := by
  have f1 := n_of (G := g) n h
  dsimp only [inR] at h
  have hL : LZ n ≤ 2 := L32_le (show n.natAbs < 2 ^ (32 * 2) by omega)
  have hL6 : L64 n.natAbs ≤ 8192 := Nat.le_trans (L64_le (n := 1) (show n.natAbs < 2 ^ (64 * 1) by omega)) (by decide)
  have f2 := y_make hD n 0 hL6 (by dsimp only [inR]; omega)
  rw [told_of n hL] at f2
  unfold ofS at f2 ⊢
  refine FC.intro (X := XX) tok Tryz.func39 rfl Tryz.ntmps39 (by rw [Tryz.results39]) (by kernel_rfl) rfl ?_; intro F hG hO
  rw [← hG] at f1 f2
  repeat' ((try (conv => whnf)); first
  | ((with_reducible refine cg ?_); refine call_eq (f1) (LpL.refl _) rfl ?_)
  | ((with_reducible refine cg ?_); refine call_eq (f2) (LpL.refl _) rfl ?_)
  
  | (with_reducible refine Chk.mk' (by first | omega | exact trivial | (simp only [List.length_append, List.length_set, List.length_replicate, List.length_take, List.length_drop, List.length_cons, List.length_nil, List.length_map]; omega)) ?_)
  | (with_reducible refine wrap_g (by dsimp only [inR]; omega) ?_)
  | (with_reducible refine idx_g (by omega) ?_)
  | (with_reducible refine idx_l _ rfl (by decide) ?_)
  | (with_reducible refine BothG.mk ?_ ?_)
  | (with_reducible refine fork_tt ?_) | (with_reducible refine fork_ff ?_)
  | (with_reducible refine fork_e (c := true) (by decide) ?_; with_reducible refine fork_tt ?_) | (with_reducible refine fork_e (c := false) (by decide) ?_; with_reducible refine fork_ff ?_)
  | (with_reducible refine fork_t (by omega) ?_) | (with_reducible refine fork_f (by omega) ?_)
  | (with_reducible refine fork_d ?_ ?_ <;> intro hc)
  | (with_reducible refine fork_n ?_)
  | (with_reducible refine fork_b ?_ ?_ <;> intro hc)
  | (with_reducible refine SlcG.mk (by omega) ?_)
  | (with_reducible refine MakG.mk (by dsimp only; omega) ?_)
  | (with_reducible refine AppG.mk (by first | omega | (simp only [List.length_append, List.length_set, List.length_replicate, List.length_take, List.length_drop, List.length_cons, List.length_nil, List.length_map]; omega)) (by dsimp only [List.length_cons, List.length_nil]; omega) (by omega) ?_)
  | (with_reducible refine div_g (by omega) (by omega) (by dsimp only [inR]; omega) ?_)
  | (with_reducible refine mod_g (by omega) (by omega) ?_)
  | (with_reducible refine mask_g (m := 4294967296) 32 rfl rfl (by decide) (by omega) ?_)
  | (with_reducible refine shr_g (m := 4294967296) 32 rfl (by decide) (by omega) rfl ?_)
  | (with_reducible refine fz_all (by omega) ?_)
  | (with_reducible refine Stuck.h (A := RetE _ _) ?_) | (with_reducible refine Stuck.h (A := RetM _ _ _ _) ?_) | (with_reducible refine Stuck.h (A := Again _ _ _ _ _ _ _ _) ?_) | (with_reducible refine Stuck.h (A := CallF _ _ _ _ _ _ _) ?_) | (with_reducible refine Stuck.h (A := LoopG _ _ _ _ _ _ _ _) ?_) | (with_reducible refine Stuck.h (A := DrawG _ _ _ _ _ _ _ _) ?_)
  | (with_reducible refine Stuck.h (A := WrapG _ _ _) ?_) | (with_reducible refine Stuck.h (A := DivG _ _ _ _) ?_) | (with_reducible refine Stuck.h (A := ModG _ _ _) ?_) | (with_reducible refine Stuck.h (A := ShlG _ _ _ _) ?_) | (with_reducible refine Stuck.h (A := ShrG _ _ _ _) ?_) | (with_reducible refine Stuck.h (A := BitG _ _ _ _ _) ?_)
  | (with_reducible refine Stuck.h (A := IdxG _ _ _) ?_) | (with_reducible refine Stuck.h (A := IdxL _ _ _) ?_) | (with_reducible refine Stuck.h (A := SlcG _ _ _ _ _) ?_) | (with_reducible refine Stuck.h (A := MakG _ _ _ _) ?_) | (with_reducible refine Stuck.h (A := AppG _ _ _ _ _ _ _) ?_) | (with_reducible refine Stuck.h (A := FzG _ _ _ _) ?_)
  | (with_reducible refine Stuck.h (A := RawG _) ?_) | (with_reducible refine Stuck.h (A := TabG _ _ _ _ _) ?_) | (with_reducible refine Stuck.h (A := ExtF _ _ _ _) ?_) | (with_reducible refine Stuck.h (A := Chk _ _) ?_) | (with_reducible refine Stuck.h (A := False) ?_))
  exact ⟨ret_e rfl⟩
end Go.Proofs.YtbeocnjlepcglaaGreatDoor.Sim
namespace Go.Proofs.YtbeocnjlepcglaaGreatDoor.Sim
open Go.RowKit
set_option linter.unusedVariables false
set_option linter.unusedSimpArgs false
set_option maxRecDepth 10000
set_option maxHeartbeats 8000000
variable {G : List (Nat × List Value)}
def niF (b : Bool) (l : List Int) : Bool := formL l && !(b && decide (l.length = 0))
theorem n_nformX (b : Bool) (l : List Int) : FC Tryz.prog G 46 [.agg [.val (.bool b), .ws .u64 l]] (· = .val (.bool (niF b l))) := by
  have f1 := n_form (G := G) l
  unfold niF
  obtain ⟨x, hx⟩ : ∃ x, x = formL l := ⟨_, rfl⟩
  rw [← hx] at f1 ⊢
  clear hx
  cases x
  · refine FC.intro (X := XX) tok Tryz.func46 rfl Tryz.ntmps46 (by rw [Tryz.results46]) (by kernel_rfl) rfl ?_; intro F hG hO
    rw [← hG] at f1
    repeat' ((try (conv => whnf)); first
  | ((with_reducible refine cg ?_); refine call_eq (f1) (LpL.refl _) rfl ?_)
  
  | (with_reducible refine Chk.mk' (by first | omega | exact trivial | (simp only [List.length_append, List.length_set, List.length_replicate, List.length_take, List.length_drop, List.length_cons, List.length_nil, List.length_map]; omega)) ?_)
  | (with_reducible refine wrap_g (by dsimp only [inR]; omega) ?_)
  | (with_reducible refine idx_g (by omega) ?_)
  | (with_reducible refine idx_l _ rfl (by decide) ?_)
  | (with_reducible refine BothG.mk ?_ ?_)
  | (with_reducible refine fork_tt ?_) | (with_reducible refine fork_ff ?_)
  | (with_reducible refine fork_e (c := true) (by decide) ?_; with_reducible refine fork_tt ?_) | (with_reducible refine fork_e (c := false) (by decide) ?_; with_reducible refine fork_ff ?_)
  | (with_reducible refine fork_t (by omega) ?_) | (with_reducible refine fork_f (by omega) ?_)
  | (with_reducible refine fork_d ?_ ?_ <;> intro hc)
  | (with_reducible refine fork_n ?_)
  | (with_reducible refine fork_b ?_ ?_ <;> intro hc)
  | (with_reducible refine SlcG.mk (by omega) ?_)
  | (with_reducible refine MakG.mk (by dsimp only; omega) ?_)
  | (with_reducible refine AppG.mk (by first | omega | (simp only [List.length_append, List.length_set, List.length_replicate, List.length_take, List.length_drop, List.length_cons, List.length_nil, List.length_map]; omega)) (by dsimp only [List.length_cons, List.length_nil]; omega) (by omega) ?_)
  | (with_reducible refine div_g (by omega) (by omega) (by dsimp only [inR]; omega) ?_)
  | (with_reducible refine mod_g (by omega) (by omega) ?_)
  | (with_reducible refine mask_g (m := 4294967296) 32 rfl rfl (by decide) (by omega) ?_)
  | (with_reducible refine shr_g (m := 4294967296) 32 rfl (by decide) (by omega) rfl ?_)
  | (with_reducible refine fz_all (by omega) ?_)
  | (with_reducible refine Stuck.h (A := RetE _ _) ?_) | (with_reducible refine Stuck.h (A := RetM _ _ _ _) ?_) | (with_reducible refine Stuck.h (A := Again _ _ _ _ _ _ _ _) ?_) | (with_reducible refine Stuck.h (A := CallF _ _ _ _ _ _ _) ?_) | (with_reducible refine Stuck.h (A := LoopG _ _ _ _ _ _ _ _) ?_) | (with_reducible refine Stuck.h (A := DrawG _ _ _ _ _ _ _ _) ?_)
  | (with_reducible refine Stuck.h (A := WrapG _ _ _) ?_) | (with_reducible refine Stuck.h (A := DivG _ _ _ _) ?_) | (with_reducible refine Stuck.h (A := ModG _ _ _) ?_) | (with_reducible refine Stuck.h (A := ShlG _ _ _ _) ?_) | (with_reducible refine Stuck.h (A := ShrG _ _ _ _) ?_) | (with_reducible refine Stuck.h (A := BitG _ _ _ _ _) ?_)
  | (with_reducible refine Stuck.h (A := IdxG _ _ _) ?_) | (with_reducible refine Stuck.h (A := IdxL _ _ _) ?_) | (with_reducible refine Stuck.h (A := SlcG _ _ _ _ _) ?_) | (with_reducible refine Stuck.h (A := MakG _ _ _ _) ?_) | (with_reducible refine Stuck.h (A := AppG _ _ _ _ _ _ _) ?_) | (with_reducible refine Stuck.h (A := FzG _ _ _ _) ?_)
  | (with_reducible refine Stuck.h (A := RawG _) ?_) | (with_reducible refine Stuck.h (A := TabG _ _ _ _ _) ?_) | (with_reducible refine Stuck.h (A := ExtF _ _ _ _) ?_) | (with_reducible refine Stuck.h (A := Chk _ _) ?_) | (with_reducible refine Stuck.h (A := False) ?_))
    exact ⟨ret_e rfl⟩
  · cases b
    · refine FC.intro (X := XX) tok Tryz.func46 rfl Tryz.ntmps46 (by rw [Tryz.results46]) (by kernel_rfl) rfl ?_; intro F hG hO
      rw [← hG] at f1
      repeat' ((try (conv => whnf)); first
  | ((with_reducible refine cg ?_); refine call_eq (f1) (LpL.refl _) rfl ?_)
  
  | (with_reducible refine Chk.mk' (by first | omega | exact trivial | (simp only [List.length_append, List.length_set, List.length_replicate, List.length_take, List.length_drop, List.length_cons, List.length_nil, List.length_map]; omega)) ?_)
  | (with_reducible refine wrap_g (by dsimp only [inR]; omega) ?_)
  | (with_reducible refine idx_g (by omega) ?_)
  | (with_reducible refine idx_l _ rfl (by decide) ?_)
  | (with_reducible refine BothG.mk ?_ ?_)
  | (with_reducible refine fork_tt ?_) | (with_reducible refine fork_ff ?_)
  | (with_reducible refine fork_e (c := true) (by decide) ?_; with_reducible refine fork_tt ?_) | (with_reducible refine fork_e (c := false) (by decide) ?_; with_reducible refine fork_ff ?_)
  | (with_reducible refine fork_t (by omega) ?_) | (with_reducible refine fork_f (by omega) ?_)
  | (with_reducible refine fork_d ?_ ?_ <;> intro hc)
  | (with_reducible refine fork_n ?_)
  | (with_reducible refine fork_b ?_ ?_ <;> intro hc)
  | (with_reducible refine SlcG.mk (by omega) ?_)
  | (with_reducible refine MakG.mk (by dsimp only; omega) ?_)
  | (with_reducible refine AppG.mk (by first | omega | (simp only [List.length_append, List.length_set, List.length_replicate, List.length_take, List.length_drop, List.length_cons, List.length_nil, List.length_map]; omega)) (by dsimp only [List.length_cons, List.length_nil]; omega) (by omega) ?_)
  | (with_reducible refine div_g (by omega) (by omega) (by dsimp only [inR]; omega) ?_)
  | (with_reducible refine mod_g (by omega) (by omega) ?_)
  | (with_reducible refine mask_g (m := 4294967296) 32 rfl rfl (by decide) (by omega) ?_)
  | (with_reducible refine shr_g (m := 4294967296) 32 rfl (by decide) (by omega) rfl ?_)
  | (with_reducible refine fz_all (by omega) ?_)
  | (with_reducible refine Stuck.h (A := RetE _ _) ?_) | (with_reducible refine Stuck.h (A := RetM _ _ _ _) ?_) | (with_reducible refine Stuck.h (A := Again _ _ _ _ _ _ _ _) ?_) | (with_reducible refine Stuck.h (A := CallF _ _ _ _ _ _ _) ?_) | (with_reducible refine Stuck.h (A := LoopG _ _ _ _ _ _ _ _) ?_) | (with_reducible refine Stuck.h (A := DrawG _ _ _ _ _ _ _ _) ?_)
  | (with_reducible refine Stuck.h (A := WrapG _ _ _) ?_) | (with_reducible refine Stuck.h (A := DivG _ _ _ _) ?_) | (with_reducible refine Stuck.h (A := ModG _ _ _) ?_) | (with_reducible refine Stuck.h (A := ShlG _ _ _ _) ?_) | (with_reducible refine Stuck.h (A := ShrG _ _ _ _) ?_) | (with_reducible refine Stuck.h (A := BitG _ _ _ _ _) ?_)
  | (with_reducible refine Stuck.h (A := IdxG _ _ _) ?_) | (with_reducible refine Stuck.h (A := IdxL _ _ _) ?_) | (with_reducible refine Stuck.h (A := SlcG _ _ _ _ _) ?_) | (with_reducible refine Stuck.h (A := MakG _ _ _ _) ?_) | (with_reducible refine Stuck.h (A := AppG _ _ _ _ _ _ _) ?_) | (with_reducible refine Stuck.h (A := FzG _ _ _ _) ?_)
  | (with_reducible refine Stuck.h (A := RawG _) ?_) | (with_reducible refine Stuck.h (A := TabG _ _ _ _ _) ?_) | (with_reducible refine Stuck.h (A := ExtF _ _ _ _) ?_) | (with_reducible refine Stuck.h (A := Chk _ _) ?_) | (with_reducible refine Stuck.h (A := False) ?_))
      all_goals exact ⟨ret_e rfl⟩
    · refine FC.intro (X := XX) tok Tryz.func46 rfl Tryz.ntmps46 (by rw [Tryz.results46]) (by kernel_rfl) rfl ?_; intro F hG hO
      rw [← hG] at f1
      repeat' ((try (conv => whnf)); first
  | ((with_reducible refine cg ?_); refine call_eq (f1) (LpL.refl _) rfl ?_)
  
  | (with_reducible refine Chk.mk' (by first | omega | exact trivial | (simp only [List.length_append, List.length_set, List.length_replicate, List.length_take, List.length_drop, List.length_cons, List.length_nil, List.length_map]; omega)) ?_)
  | (with_reducible refine wrap_g (by dsimp only [inR]; omega) ?_)
  | (with_reducible refine idx_g (by omega) ?_)
  | (with_reducible refine idx_l _ rfl (by decide) ?_)
  | (with_reducible refine BothG.mk ?_ ?_)
  | (with_reducible refine fork_tt ?_) | (with_reducible refine fork_ff ?_)
  | (with_reducible refine fork_e (c := true) (by decide) ?_; with_reducible refine fork_tt ?_) | (with_reducible refine fork_e (c := false) (by decide) ?_; with_reducible refine fork_ff ?_)
  | (with_reducible refine fork_t (by omega) ?_) | (with_reducible refine fork_f (by omega) ?_)
  | (with_reducible refine fork_d ?_ ?_ <;> intro hc)
  | (with_reducible refine fork_n ?_)
  | (with_reducible refine fork_b ?_ ?_ <;> intro hc)
  | (with_reducible refine SlcG.mk (by omega) ?_)
  | (with_reducible refine MakG.mk (by dsimp only; omega) ?_)
  | (with_reducible refine AppG.mk (by first | omega | (simp only [List.length_append, List.length_set, List.length_replicate, List.length_take, List.length_drop, List.length_cons, List.length_nil, List.length_map]; omega)) (by dsimp only [List.length_cons, List.length_nil]; omega) (by omega) ?_)
  | (with_reducible refine div_g (by omega) (by omega) (by dsimp only [inR]; omega) ?_)
  | (with_reducible refine mod_g (by omega) (by omega) ?_)
  | (with_reducible refine mask_g (m := 4294967296) 32 rfl rfl (by decide) (by omega) ?_)
  | (with_reducible refine shr_g (m := 4294967296) 32 rfl (by decide) (by omega) rfl ?_)
  | (with_reducible refine fz_all (by omega) ?_)
  | (with_reducible refine Stuck.h (A := RetE _ _) ?_) | (with_reducible refine Stuck.h (A := RetM _ _ _ _) ?_) | (with_reducible refine Stuck.h (A := Again _ _ _ _ _ _ _ _) ?_) | (with_reducible refine Stuck.h (A := CallF _ _ _ _ _ _ _) ?_) | (with_reducible refine Stuck.h (A := LoopG _ _ _ _ _ _ _ _) ?_) | (with_reducible refine Stuck.h (A := DrawG _ _ _ _ _ _ _ _) ?_)
  | (with_reducible refine Stuck.h (A := WrapG _ _ _) ?_) | (with_reducible refine Stuck.h (A := DivG _ _ _ _) ?_) | (with_reducible refine Stuck.h (A := ModG _ _ _) ?_) | (with_reducible refine Stuck.h (A := ShlG _ _ _ _) ?_) | (with_reducible refine Stuck.h (A := ShrG _ _ _ _) ?_) | (with_reducible refine Stuck.h (A := BitG _ _ _ _ _) ?_)
  | (with_reducible refine Stuck.h (A := IdxG _ _ _) ?_) | (with_reducible refine Stuck.h (A := IdxL _ _ _) ?_) | (with_reducible refine Stuck.h (A := SlcG _ _ _ _ _) ?_) | (with_reducible refine Stuck.h (A := MakG _ _ _ _) ?_) | (with_reducible refine Stuck.h (A := AppG _ _ _ _ _ _ _) ?_) | (with_reducible refine Stuck.h (A := FzG _ _ _ _) ?_)
  | (with_reducible refine Stuck.h (A := RawG _) ?_) | (with_reducible refine Stuck.h (A := TabG _ _ _ _ _) ?_) | (with_reducible refine Stuck.h (A := ExtF _ _ _ _) ?_) | (with_reducible refine Stuck.h (A := Chk _ _) ?_) | (with_reducible refine Stuck.h (A := False) ?_))
      all_goals first
        | exact ⟨ret_e (bv_eq (by rw [decide_eq_true (show l.length = 0 by omega)]; rfl))⟩
        | exact ⟨ret_e (bv_eq (by rw [decide_eq_false (show ¬ l.length = 0 by omega)]; rfl))⟩
        | exact ⟨ret_e (bv_eq (by by_cases h : l.length = 0 <;> simp [h]))⟩
        | exact ⟨ret_e (bv_eq (by by_cases h : l.length = 0; (simp [h]); (rw [decide_eq_false h, decide_eq_true (show (0 : Int) < (l.length : Int) by omega)]; rfl)))⟩
theorem y_formX (b : Bool) (l : List Int) (e : Int) (ok : okD 18446744073709551616 l) : FC Tryz.prog G 26 [Dy b l e] (· = .val (.bool (dyF b l e))) := by
  have f0 := n_nformX (G := G) b l
  have f1 := y_nought (G := G) b l e
  have hb := rd_bd (by decide) ok 0
  have hd : dyF b l e = (niF b l && decide (-1048576 ≤ e) && decide (e ≤ 1048576) && (if l.length = 0 then decide (e = 0) else decide (rd l 0 % 2 = 1))) := by
    unfold dyF niF
    by_cases h0 : l.length = 0
    · rw [if_pos h0, if_pos h0, decide_eq_true h0, Bool.and_true]
      cases formL l <;> cases b <;> cases decide (-1048576 ≤ e) <;> cases decide (e ≤ 1048576) <;> rfl
    · rw [if_neg h0, if_neg h0, decide_eq_false h0, Bool.and_false, Bool.not_false, Bool.and_true]
  rw [hd]
  obtain ⟨x, hx⟩ : ∃ x, x = niF b l := ⟨_, rfl⟩
  rw [← hx] at f0 ⊢
  clear hx hd
  cases x
  · refine FC.intro (X := XX) tok Tryz.func26 rfl Tryz.ntmps26 (by rw [Tryz.results26]) (by kernel_rfl) rfl ?_; intro F hG hO
    rw [← hG] at f0
    repeat' ((try (conv => whnf)); first
  | ((with_reducible refine cg ?_); refine call_eq (f0) (LpL.refl _) rfl ?_)
  
  | (with_reducible refine Chk.mk' (by first | omega | exact trivial | (simp only [List.length_append, List.length_set, List.length_replicate, List.length_take, List.length_drop, List.length_cons, List.length_nil, List.length_map]; omega)) ?_)
  | (with_reducible refine wrap_g (by dsimp only [inR]; omega) ?_)
  | (with_reducible refine idx_g (by omega) ?_)
  | (with_reducible refine idx_l _ rfl (by decide) ?_)
  | (with_reducible refine BothG.mk ?_ ?_)
  | (with_reducible refine fork_tt ?_) | (with_reducible refine fork_ff ?_)
  | (with_reducible refine fork_e (c := true) (by decide) ?_; with_reducible refine fork_tt ?_) | (with_reducible refine fork_e (c := false) (by decide) ?_; with_reducible refine fork_ff ?_)
  | (with_reducible refine fork_t (by omega) ?_) | (with_reducible refine fork_f (by omega) ?_)
  | (with_reducible refine fork_d ?_ ?_ <;> intro hc)
  | (with_reducible refine fork_n ?_)
  | (with_reducible refine fork_b ?_ ?_ <;> intro hc)
  | (with_reducible refine SlcG.mk (by omega) ?_)
  | (with_reducible refine MakG.mk (by dsimp only; omega) ?_)
  | (with_reducible refine AppG.mk (by first | omega | (simp only [List.length_append, List.length_set, List.length_replicate, List.length_take, List.length_drop, List.length_cons, List.length_nil, List.length_map]; omega)) (by dsimp only [List.length_cons, List.length_nil]; omega) (by omega) ?_)
  | (with_reducible refine div_g (by omega) (by omega) (by dsimp only [inR]; omega) ?_)
  | (with_reducible refine mod_g (by omega) (by omega) ?_)
  | (with_reducible refine mask_g (m := 4294967296) 32 rfl rfl (by decide) (by omega) ?_)
  | (with_reducible refine shr_g (m := 4294967296) 32 rfl (by decide) (by omega) rfl ?_)
  | (with_reducible refine fz_all (by omega) ?_)
  | (with_reducible refine Stuck.h (A := RetE _ _) ?_) | (with_reducible refine Stuck.h (A := RetM _ _ _ _) ?_) | (with_reducible refine Stuck.h (A := Again _ _ _ _ _ _ _ _) ?_) | (with_reducible refine Stuck.h (A := CallF _ _ _ _ _ _ _) ?_) | (with_reducible refine Stuck.h (A := LoopG _ _ _ _ _ _ _ _) ?_) | (with_reducible refine Stuck.h (A := DrawG _ _ _ _ _ _ _ _) ?_)
  | (with_reducible refine Stuck.h (A := WrapG _ _ _) ?_) | (with_reducible refine Stuck.h (A := DivG _ _ _ _) ?_) | (with_reducible refine Stuck.h (A := ModG _ _ _) ?_) | (with_reducible refine Stuck.h (A := ShlG _ _ _ _) ?_) | (with_reducible refine Stuck.h (A := ShrG _ _ _ _) ?_) | (with_reducible refine Stuck.h (A := BitG _ _ _ _ _) ?_)
  | (with_reducible refine Stuck.h (A := IdxG _ _ _) ?_) | (with_reducible refine Stuck.h (A := IdxL _ _ _) ?_) | (with_reducible refine Stuck.h (A := SlcG _ _ _ _ _) ?_) | (with_reducible refine Stuck.h (A := MakG _ _ _ _) ?_) | (with_reducible refine Stuck.h (A := AppG _ _ _ _ _ _ _) ?_) | (with_reducible refine Stuck.h (A := FzG _ _ _ _) ?_)
  | (with_reducible refine Stuck.h (A := RawG _) ?_) | (with_reducible refine Stuck.h (A := TabG _ _ _ _ _) ?_) | (with_reducible refine Stuck.h (A := ExtF _ _ _ _) ?_) | (with_reducible refine Stuck.h (A := Chk _ _) ?_) | (with_reducible refine Stuck.h (A := False) ?_))
    exact ⟨ret_e rfl⟩
  refine FC.intro (X := XX) tok Tryz.func26 rfl Tryz.ntmps26 (by rw [Tryz.results26]) (by kernel_rfl) rfl ?_; intro F hG hO
  rw [← hG] at f0 f1
  repeat' ((try (conv => whnf)); first
  | ((with_reducible refine cg ?_); refine call_eq (f0) (LpL.refl _) rfl ?_)
  | ((with_reducible refine cg ?_); refine call_eq (f1) (LpL.refl _) rfl ?_)
  | (with_reducible refine mask_g (m := 2) 1 rfl rfl (by decide) hb ?_)
  
  | (with_reducible refine Chk.mk' (by first | omega | exact trivial | (simp only [List.length_append, List.length_set, List.length_replicate, List.length_take, List.length_drop, List.length_cons, List.length_nil, List.length_map]; omega)) ?_)
  | (with_reducible refine wrap_g (by dsimp only [inR]; omega) ?_)
  | (with_reducible refine idx_g (by omega) ?_)
  | (with_reducible refine idx_l _ rfl (by decide) ?_)
  | (with_reducible refine BothG.mk ?_ ?_)
  | (with_reducible refine fork_tt ?_) | (with_reducible refine fork_ff ?_)
  | (with_reducible refine fork_e (c := true) (by decide) ?_; with_reducible refine fork_tt ?_) | (with_reducible refine fork_e (c := false) (by decide) ?_; with_reducible refine fork_ff ?_)
  | (with_reducible refine fork_t (by omega) ?_) | (with_reducible refine fork_f (by omega) ?_)
  | (with_reducible refine fork_d ?_ ?_ <;> intro hc)
  | (with_reducible refine fork_n ?_)
  | (with_reducible refine fork_b ?_ ?_ <;> intro hc)
  | (with_reducible refine SlcG.mk (by omega) ?_)
  | (with_reducible refine MakG.mk (by dsimp only; omega) ?_)
  | (with_reducible refine AppG.mk (by first | omega | (simp only [List.length_append, List.length_set, List.length_replicate, List.length_take, List.length_drop, List.length_cons, List.length_nil, List.length_map]; omega)) (by dsimp only [List.length_cons, List.length_nil]; omega) (by omega) ?_)
  | (with_reducible refine div_g (by omega) (by omega) (by dsimp only [inR]; omega) ?_)
  | (with_reducible refine mod_g (by omega) (by omega) ?_)
  | (with_reducible refine mask_g (m := 4294967296) 32 rfl rfl (by decide) (by omega) ?_)
  | (with_reducible refine shr_g (m := 4294967296) 32 rfl (by decide) (by omega) rfl ?_)
  | (with_reducible refine fz_all (by omega) ?_)
  | (with_reducible refine Stuck.h (A := RetE _ _) ?_) | (with_reducible refine Stuck.h (A := RetM _ _ _ _) ?_) | (with_reducible refine Stuck.h (A := Again _ _ _ _ _ _ _ _) ?_) | (with_reducible refine Stuck.h (A := CallF _ _ _ _ _ _ _) ?_) | (with_reducible refine Stuck.h (A := LoopG _ _ _ _ _ _ _ _) ?_) | (with_reducible refine Stuck.h (A := DrawG _ _ _ _ _ _ _ _) ?_)
  | (with_reducible refine Stuck.h (A := WrapG _ _ _) ?_) | (with_reducible refine Stuck.h (A := DivG _ _ _ _) ?_) | (with_reducible refine Stuck.h (A := ModG _ _ _) ?_) | (with_reducible refine Stuck.h (A := ShlG _ _ _ _) ?_) | (with_reducible refine Stuck.h (A := ShrG _ _ _ _) ?_) | (with_reducible refine Stuck.h (A := BitG _ _ _ _ _) ?_)
  | (with_reducible refine Stuck.h (A := IdxG _ _ _) ?_) | (with_reducible refine Stuck.h (A := IdxL _ _ _) ?_) | (with_reducible refine Stuck.h (A := SlcG _ _ _ _ _) ?_) | (with_reducible refine Stuck.h (A := MakG _ _ _ _) ?_) | (with_reducible refine Stuck.h (A := AppG _ _ _ _ _ _ _) ?_) | (with_reducible refine Stuck.h (A := FzG _ _ _ _) ?_)
  | (with_reducible refine Stuck.h (A := RawG _) ?_) | (with_reducible refine Stuck.h (A := TabG _ _ _ _ _) ?_) | (with_reducible refine Stuck.h (A := ExtF _ _ _ _) ?_) | (with_reducible refine Stuck.h (A := Chk _ _) ?_) | (with_reducible refine Stuck.h (A := False) ?_))
  all_goals (refine ⟨ret_e (bv_eq ?_)⟩)
  all_goals first
    | (rw [decide_eq_false (show ¬ -1048576 ≤ e by omega)]; rfl)
    | (rw [decide_eq_true (show -1048576 ≤ e by omega), decide_eq_false (show ¬ e ≤ 1048576 by omega)]; rfl)
    | (rw [decide_eq_true (show -1048576 ≤ e by omega), decide_eq_true (show e ≤ 1048576 by omega), if_pos (show l.length = 0 by omega)]; rfl)
    | (rw [decide_eq_true (show -1048576 ≤ e by omega), decide_eq_true (show e ≤ 1048576 by omega), if_neg (show ¬ l.length = 0 by omega)]; rfl)
end Go.Proofs.YtbeocnjlepcglaaGreatDoor.Sim
namespace Go.Proofs.YtbeocnjlepcglaaGreatDoor.Sim
open Go.RowKit
set_option linter.unusedVariables false
set_option linter.unusedSimpArgs false
set_option maxRecDepth 10000
set_option maxHeartbeats 8000000
variable {G : List (Nat × List Value)}
theorem y_formN (b : Bool) (l : List Int) (e : Int) (ok : okD 18446744073709551616 l) (h : dyF b l e = false) : FC Tryz.prog G 26 [Dy b l e] (· = .val (.bool false)) := by
  have := y_formX (G := G) b l e ok
  rw [h] at this
  exact this
theorem r_formN (b : Bool) (l : List Int) (e : Int) (ok : okD 18446744073709551616 l) (h : dyF b l e = false) : FC Tryz.prog G 36 [Dy b l e] (· = .val (.bool false)) := by
  have := r_docform (G := G) b l e (rd_bd (by decide) ok 0)
  rw [h] at this
  exact this
theorem y_gridX (b : Bool) (l : List Int) (e : Int) (ok : okD 18446744073709551616 l) (h : dyF b l e = false) (k : Int) (up : Bool) : FC Tryz.prog G 52 [Dy b l e, .val (.int .i64 k), .val (.bool up)] (· = dyE 2) := by
  have f0 := y_formN (G := G) b l e ok h
  refine FC.intro (X := XX) tok Tryz.func52 rfl Tryz.ntmps52 (by rw [Tryz.results52]) (by kernel_rfl) rfl ?_; intro F hG hO
  rw [← hG] at f0
  repeat' ((try (conv => whnf)); first
  | ((with_reducible refine cg ?_); refine call_eq (f0) (LpL.refl _) rfl ?_)
  
  | (with_reducible refine Chk.mk' (by first | omega | exact trivial | (simp only [List.length_append, List.length_set, List.length_replicate, List.length_take, List.length_drop, List.length_cons, List.length_nil, List.length_map]; omega)) ?_)
  | (with_reducible refine wrap_g (by dsimp only [inR]; omega) ?_)
  | (with_reducible refine idx_g (by omega) ?_)
  | (with_reducible refine idx_l _ rfl (by decide) ?_)
  | (with_reducible refine BothG.mk ?_ ?_)
  | (with_reducible refine fork_tt ?_) | (with_reducible refine fork_ff ?_)
  | (with_reducible refine fork_e (c := true) (by decide) ?_; with_reducible refine fork_tt ?_) | (with_reducible refine fork_e (c := false) (by decide) ?_; with_reducible refine fork_ff ?_)
  | (with_reducible refine fork_t (by omega) ?_) | (with_reducible refine fork_f (by omega) ?_)
  | (with_reducible refine fork_d ?_ ?_ <;> intro hc)
  | (with_reducible refine fork_n ?_)
  | (with_reducible refine fork_b ?_ ?_ <;> intro hc)
  | (with_reducible refine SlcG.mk (by omega) ?_)
  | (with_reducible refine MakG.mk (by dsimp only; omega) ?_)
  | (with_reducible refine AppG.mk (by first | omega | (simp only [List.length_append, List.length_set, List.length_replicate, List.length_take, List.length_drop, List.length_cons, List.length_nil, List.length_map]; omega)) (by dsimp only [List.length_cons, List.length_nil]; omega) (by omega) ?_)
  | (with_reducible refine div_g (by omega) (by omega) (by dsimp only [inR]; omega) ?_)
  | (with_reducible refine mod_g (by omega) (by omega) ?_)
  | (with_reducible refine mask_g (m := 4294967296) 32 rfl rfl (by decide) (by omega) ?_)
  | (with_reducible refine shr_g (m := 4294967296) 32 rfl (by decide) (by omega) rfl ?_)
  | (with_reducible refine fz_all (by omega) ?_)
  | (with_reducible refine Stuck.h (A := RetE _ _) ?_) | (with_reducible refine Stuck.h (A := RetM _ _ _ _) ?_) | (with_reducible refine Stuck.h (A := Again _ _ _ _ _ _ _ _) ?_) | (with_reducible refine Stuck.h (A := CallF _ _ _ _ _ _ _) ?_) | (with_reducible refine Stuck.h (A := LoopG _ _ _ _ _ _ _ _) ?_) | (with_reducible refine Stuck.h (A := DrawG _ _ _ _ _ _ _ _) ?_)
  | (with_reducible refine Stuck.h (A := WrapG _ _ _) ?_) | (with_reducible refine Stuck.h (A := DivG _ _ _ _) ?_) | (with_reducible refine Stuck.h (A := ModG _ _ _) ?_) | (with_reducible refine Stuck.h (A := ShlG _ _ _ _) ?_) | (with_reducible refine Stuck.h (A := ShrG _ _ _ _) ?_) | (with_reducible refine Stuck.h (A := BitG _ _ _ _ _) ?_)
  | (with_reducible refine Stuck.h (A := IdxG _ _ _) ?_) | (with_reducible refine Stuck.h (A := IdxL _ _ _) ?_) | (with_reducible refine Stuck.h (A := SlcG _ _ _ _ _) ?_) | (with_reducible refine Stuck.h (A := MakG _ _ _ _) ?_) | (with_reducible refine Stuck.h (A := AppG _ _ _ _ _ _ _) ?_) | (with_reducible refine Stuck.h (A := FzG _ _ _ _) ?_)
  | (with_reducible refine Stuck.h (A := RawG _) ?_) | (with_reducible refine Stuck.h (A := TabG _ _ _ _ _) ?_) | (with_reducible refine Stuck.h (A := ExtF _ _ _ _) ?_) | (with_reducible refine Stuck.h (A := Chk _ _) ?_) | (with_reducible refine Stuck.h (A := False) ?_))
  exact ⟨ret_l _ (lp_dyE 2) rfl⟩
theorem r_gridX (b : Bool) (l : List Int) (e : Int) (ok : okD 18446744073709551616 l) (h : dyF b l e = false) (k : Int) (up : Bool) : FC Tryz.prog G 139 [Dy b l e, .val (.int .i64 k), .val (.bool up)] (· = dyE 2) := by
  have f0 := r_formN (G := G) b l e ok h
  refine FC.intro (X := XX) tok Tryz.func139 rfl Tryz.ntmps139 (by rw [Tryz.results139]) (by kernel_rfl) rfl ?_; intro F hG hO
  rw [← hG] at f0
  repeat' ((try (conv => whnf)); first
  | ((with_reducible refine cg ?_); refine call_eq (f0) (LpL.refl _) rfl ?_)
  
  | (with_reducible refine Chk.mk' (by first | omega | exact trivial | (simp only [List.length_append, List.length_set, List.length_replicate, List.length_take, List.length_drop, List.length_cons, List.length_nil, List.length_map]; omega)) ?_)
  | (with_reducible refine wrap_g (by dsimp only [inR]; omega) ?_)
  | (with_reducible refine idx_g (by omega) ?_)
  | (with_reducible refine idx_l _ rfl (by decide) ?_)
  | (with_reducible refine BothG.mk ?_ ?_)
  | (with_reducible refine fork_tt ?_) | (with_reducible refine fork_ff ?_)
  | (with_reducible refine fork_e (c := true) (by decide) ?_; with_reducible refine fork_tt ?_) | (with_reducible refine fork_e (c := false) (by decide) ?_; with_reducible refine fork_ff ?_)
  | (with_reducible refine fork_t (by omega) ?_) | (with_reducible refine fork_f (by omega) ?_)
  | (with_reducible refine fork_d ?_ ?_ <;> intro hc)
  | (with_reducible refine fork_n ?_)
  | (with_reducible refine fork_b ?_ ?_ <;> intro hc)
  | (with_reducible refine SlcG.mk (by omega) ?_)
  | (with_reducible refine MakG.mk (by dsimp only; omega) ?_)
  | (with_reducible refine AppG.mk (by first | omega | (simp only [List.length_append, List.length_set, List.length_replicate, List.length_take, List.length_drop, List.length_cons, List.length_nil, List.length_map]; omega)) (by dsimp only [List.length_cons, List.length_nil]; omega) (by omega) ?_)
  | (with_reducible refine div_g (by omega) (by omega) (by dsimp only [inR]; omega) ?_)
  | (with_reducible refine mod_g (by omega) (by omega) ?_)
  | (with_reducible refine mask_g (m := 4294967296) 32 rfl rfl (by decide) (by omega) ?_)
  | (with_reducible refine shr_g (m := 4294967296) 32 rfl (by decide) (by omega) rfl ?_)
  | (with_reducible refine fz_all (by omega) ?_)
  | (with_reducible refine Stuck.h (A := RetE _ _) ?_) | (with_reducible refine Stuck.h (A := RetM _ _ _ _) ?_) | (with_reducible refine Stuck.h (A := Again _ _ _ _ _ _ _ _) ?_) | (with_reducible refine Stuck.h (A := CallF _ _ _ _ _ _ _) ?_) | (with_reducible refine Stuck.h (A := LoopG _ _ _ _ _ _ _ _) ?_) | (with_reducible refine Stuck.h (A := DrawG _ _ _ _ _ _ _ _) ?_)
  | (with_reducible refine Stuck.h (A := WrapG _ _ _) ?_) | (with_reducible refine Stuck.h (A := DivG _ _ _ _) ?_) | (with_reducible refine Stuck.h (A := ModG _ _ _) ?_) | (with_reducible refine Stuck.h (A := ShlG _ _ _ _) ?_) | (with_reducible refine Stuck.h (A := ShrG _ _ _ _) ?_) | (with_reducible refine Stuck.h (A := BitG _ _ _ _ _) ?_)
  | (with_reducible refine Stuck.h (A := IdxG _ _ _) ?_) | (with_reducible refine Stuck.h (A := IdxL _ _ _) ?_) | (with_reducible refine Stuck.h (A := SlcG _ _ _ _ _) ?_) | (with_reducible refine Stuck.h (A := MakG _ _ _ _) ?_) | (with_reducible refine Stuck.h (A := AppG _ _ _ _ _ _ _) ?_) | (with_reducible refine Stuck.h (A := FzG _ _ _ _) ?_)
  | (with_reducible refine Stuck.h (A := RawG _) ?_) | (with_reducible refine Stuck.h (A := TabG _ _ _ _ _) ?_) | (with_reducible refine Stuck.h (A := ExtF _ _ _ _) ?_) | (with_reducible refine Stuck.h (A := Chk _ _) ?_) | (with_reducible refine Stuck.h (A := False) ?_))
  exact ⟨ret_l _ (lp_dyE 2) rfl⟩
theorem y_downatX (b : Bool) (l : List Int) (e : Int) (ok : okD 18446744073709551616 l) (h : dyF b l e = false) (k : Int) : FC Tryz.prog G 107 [Dy b l e, .val (.int .i64 k)] (· = dyE 2) := by
  have f0 := y_gridX (G := G) b l e ok h k false
  refine FC.intro (X := XX) tok Tryz.func107 rfl Tryz.ntmps107 (by rw [Tryz.results107]) (by kernel_rfl) rfl ?_; intro F hG hO
  rw [← hG] at f0
  repeat' ((try (conv => whnf)); first
  | ((with_reducible refine cg ?_); refine call_eq (f0) (LpL.refl _) rfl ?_)
  
  | (with_reducible refine Chk.mk' (by first | omega | exact trivial | (simp only [List.length_append, List.length_set, List.length_replicate, List.length_take, List.length_drop, List.length_cons, List.length_nil, List.length_map]; omega)) ?_)
  | (with_reducible refine wrap_g (by dsimp only [inR]; omega) ?_)
  | (with_reducible refine idx_g (by omega) ?_)
  | (with_reducible refine idx_l _ rfl (by decide) ?_)
  | (with_reducible refine BothG.mk ?_ ?_)
  | (with_reducible refine fork_tt ?_) | (with_reducible refine fork_ff ?_)
  | (with_reducible refine fork_e (c := true) (by decide) ?_; with_reducible refine fork_tt ?_) | (with_reducible refine fork_e (c := false) (by decide) ?_; with_reducible refine fork_ff ?_)
  | (with_reducible refine fork_t (by omega) ?_) | (with_reducible refine fork_f (by omega) ?_)
  | (with_reducible refine fork_d ?_ ?_ <;> intro hc)
  | (with_reducible refine fork_n ?_)
  | (with_reducible refine fork_b ?_ ?_ <;> intro hc)
  | (with_reducible refine SlcG.mk (by omega) ?_)
  | (with_reducible refine MakG.mk (by dsimp only; omega) ?_)
  | (with_reducible refine AppG.mk (by first | omega | (simp only [List.length_append, List.length_set, List.length_replicate, List.length_take, List.length_drop, List.length_cons, List.length_nil, List.length_map]; omega)) (by dsimp only [List.length_cons, List.length_nil]; omega) (by omega) ?_)
  | (with_reducible refine div_g (by omega) (by omega) (by dsimp only [inR]; omega) ?_)
  | (with_reducible refine mod_g (by omega) (by omega) ?_)
  | (with_reducible refine mask_g (m := 4294967296) 32 rfl rfl (by decide) (by omega) ?_)
  | (with_reducible refine shr_g (m := 4294967296) 32 rfl (by decide) (by omega) rfl ?_)
  | (with_reducible refine fz_all (by omega) ?_)
  | (with_reducible refine Stuck.h (A := RetE _ _) ?_) | (with_reducible refine Stuck.h (A := RetM _ _ _ _) ?_) | (with_reducible refine Stuck.h (A := Again _ _ _ _ _ _ _ _) ?_) | (with_reducible refine Stuck.h (A := CallF _ _ _ _ _ _ _) ?_) | (with_reducible refine Stuck.h (A := LoopG _ _ _ _ _ _ _ _) ?_) | (with_reducible refine Stuck.h (A := DrawG _ _ _ _ _ _ _ _) ?_)
  | (with_reducible refine Stuck.h (A := WrapG _ _ _) ?_) | (with_reducible refine Stuck.h (A := DivG _ _ _ _) ?_) | (with_reducible refine Stuck.h (A := ModG _ _ _) ?_) | (with_reducible refine Stuck.h (A := ShlG _ _ _ _) ?_) | (with_reducible refine Stuck.h (A := ShrG _ _ _ _) ?_) | (with_reducible refine Stuck.h (A := BitG _ _ _ _ _) ?_)
  | (with_reducible refine Stuck.h (A := IdxG _ _ _) ?_) | (with_reducible refine Stuck.h (A := IdxL _ _ _) ?_) | (with_reducible refine Stuck.h (A := SlcG _ _ _ _ _) ?_) | (with_reducible refine Stuck.h (A := MakG _ _ _ _) ?_) | (with_reducible refine Stuck.h (A := AppG _ _ _ _ _ _ _) ?_) | (with_reducible refine Stuck.h (A := FzG _ _ _ _) ?_)
  | (with_reducible refine Stuck.h (A := RawG _) ?_) | (with_reducible refine Stuck.h (A := TabG _ _ _ _ _) ?_) | (with_reducible refine Stuck.h (A := ExtF _ _ _ _) ?_) | (with_reducible refine Stuck.h (A := Chk _ _) ?_) | (with_reducible refine Stuck.h (A := False) ?_))
  exact ⟨ret_e rfl⟩
theorem y_upatX (b : Bool) (l : List Int) (e : Int) (ok : okD 18446744073709551616 l) (h : dyF b l e = false) (k : Int) : FC Tryz.prog G 30 [Dy b l e, .val (.int .i64 k)] (· = dyE 2) := by
  have f0 := y_gridX (G := G) b l e ok h k true
  refine FC.intro (X := XX) tok Tryz.func30 rfl Tryz.ntmps30 (by rw [Tryz.results30]) (by kernel_rfl) rfl ?_; intro F hG hO
  rw [← hG] at f0
  repeat' ((try (conv => whnf)); first
  | ((with_reducible refine cg ?_); refine call_eq (f0) (LpL.refl _) rfl ?_)
  
  | (with_reducible refine Chk.mk' (by first | omega | exact trivial | (simp only [List.length_append, List.length_set, List.length_replicate, List.length_take, List.length_drop, List.length_cons, List.length_nil, List.length_map]; omega)) ?_)
  | (with_reducible refine wrap_g (by dsimp only [inR]; omega) ?_)
  | (with_reducible refine idx_g (by omega) ?_)
  | (with_reducible refine idx_l _ rfl (by decide) ?_)
  | (with_reducible refine BothG.mk ?_ ?_)
  | (with_reducible refine fork_tt ?_) | (with_reducible refine fork_ff ?_)
  | (with_reducible refine fork_e (c := true) (by decide) ?_; with_reducible refine fork_tt ?_) | (with_reducible refine fork_e (c := false) (by decide) ?_; with_reducible refine fork_ff ?_)
  | (with_reducible refine fork_t (by omega) ?_) | (with_reducible refine fork_f (by omega) ?_)
  | (with_reducible refine fork_d ?_ ?_ <;> intro hc)
  | (with_reducible refine fork_n ?_)
  | (with_reducible refine fork_b ?_ ?_ <;> intro hc)
  | (with_reducible refine SlcG.mk (by omega) ?_)
  | (with_reducible refine MakG.mk (by dsimp only; omega) ?_)
  | (with_reducible refine AppG.mk (by first | omega | (simp only [List.length_append, List.length_set, List.length_replicate, List.length_take, List.length_drop, List.length_cons, List.length_nil, List.length_map]; omega)) (by dsimp only [List.length_cons, List.length_nil]; omega) (by omega) ?_)
  | (with_reducible refine div_g (by omega) (by omega) (by dsimp only [inR]; omega) ?_)
  | (with_reducible refine mod_g (by omega) (by omega) ?_)
  | (with_reducible refine mask_g (m := 4294967296) 32 rfl rfl (by decide) (by omega) ?_)
  | (with_reducible refine shr_g (m := 4294967296) 32 rfl (by decide) (by omega) rfl ?_)
  | (with_reducible refine fz_all (by omega) ?_)
  | (with_reducible refine Stuck.h (A := RetE _ _) ?_) | (with_reducible refine Stuck.h (A := RetM _ _ _ _) ?_) | (with_reducible refine Stuck.h (A := Again _ _ _ _ _ _ _ _) ?_) | (with_reducible refine Stuck.h (A := CallF _ _ _ _ _ _ _) ?_) | (with_reducible refine Stuck.h (A := LoopG _ _ _ _ _ _ _ _) ?_) | (with_reducible refine Stuck.h (A := DrawG _ _ _ _ _ _ _ _) ?_)
  | (with_reducible refine Stuck.h (A := WrapG _ _ _) ?_) | (with_reducible refine Stuck.h (A := DivG _ _ _ _) ?_) | (with_reducible refine Stuck.h (A := ModG _ _ _) ?_) | (with_reducible refine Stuck.h (A := ShlG _ _ _ _) ?_) | (with_reducible refine Stuck.h (A := ShrG _ _ _ _) ?_) | (with_reducible refine Stuck.h (A := BitG _ _ _ _ _) ?_)
  | (with_reducible refine Stuck.h (A := IdxG _ _ _) ?_) | (with_reducible refine Stuck.h (A := IdxL _ _ _) ?_) | (with_reducible refine Stuck.h (A := SlcG _ _ _ _ _) ?_) | (with_reducible refine Stuck.h (A := MakG _ _ _ _) ?_) | (with_reducible refine Stuck.h (A := AppG _ _ _ _ _ _ _) ?_) | (with_reducible refine Stuck.h (A := FzG _ _ _ _) ?_)
  | (with_reducible refine Stuck.h (A := RawG _) ?_) | (with_reducible refine Stuck.h (A := TabG _ _ _ _ _) ?_) | (with_reducible refine Stuck.h (A := ExtF _ _ _ _) ?_) | (with_reducible refine Stuck.h (A := Chk _ _) ?_) | (with_reducible refine Stuck.h (A := False) ?_))
  exact ⟨ret_e rfl⟩
theorem r_docdownatX (b : Bool) (l : List Int) (e : Int) (ok : okD 18446744073709551616 l) (h : dyF b l e = false) (k : Int) : FC Tryz.prog G 101 [Dy b l e, .val (.int .i64 k)] (· = dyE 2) := by
  have f0 := r_gridX (G := G) b l e ok h k false
  refine FC.intro (X := XX) tok Tryz.func101 rfl Tryz.ntmps101 (by rw [Tryz.results101]) (by kernel_rfl) rfl ?_; intro F hG hO
  rw [← hG] at f0
  repeat' ((try (conv => whnf)); first
  | ((with_reducible refine cg ?_); refine call_eq (f0) (LpL.refl _) rfl ?_)
  
  | (with_reducible refine Chk.mk' (by first | omega | exact trivial | (simp only [List.length_append, List.length_set, List.length_replicate, List.length_take, List.length_drop, List.length_cons, List.length_nil, List.length_map]; omega)) ?_)
  | (with_reducible refine wrap_g (by dsimp only [inR]; omega) ?_)
  | (with_reducible refine idx_g (by omega) ?_)
  | (with_reducible refine idx_l _ rfl (by decide) ?_)
  | (with_reducible refine BothG.mk ?_ ?_)
  | (with_reducible refine fork_tt ?_) | (with_reducible refine fork_ff ?_)
  | (with_reducible refine fork_e (c := true) (by decide) ?_; with_reducible refine fork_tt ?_) | (with_reducible refine fork_e (c := false) (by decide) ?_; with_reducible refine fork_ff ?_)
  | (with_reducible refine fork_t (by omega) ?_) | (with_reducible refine fork_f (by omega) ?_)
  | (with_reducible refine fork_d ?_ ?_ <;> intro hc)
  | (with_reducible refine fork_n ?_)
  | (with_reducible refine fork_b ?_ ?_ <;> intro hc)
  | (with_reducible refine SlcG.mk (by omega) ?_)
  | (with_reducible refine MakG.mk (by dsimp only; omega) ?_)
  | (with_reducible refine AppG.mk (by first | omega | (simp only [List.length_append, List.length_set, List.length_replicate, List.length_take, List.length_drop, List.length_cons, List.length_nil, List.length_map]; omega)) (by dsimp only [List.length_cons, List.length_nil]; omega) (by omega) ?_)
  | (with_reducible refine div_g (by omega) (by omega) (by dsimp only [inR]; omega) ?_)
  | (with_reducible refine mod_g (by omega) (by omega) ?_)
  | (with_reducible refine mask_g (m := 4294967296) 32 rfl rfl (by decide) (by omega) ?_)
  | (with_reducible refine shr_g (m := 4294967296) 32 rfl (by decide) (by omega) rfl ?_)
  | (with_reducible refine fz_all (by omega) ?_)
  | (with_reducible refine Stuck.h (A := RetE _ _) ?_) | (with_reducible refine Stuck.h (A := RetM _ _ _ _) ?_) | (with_reducible refine Stuck.h (A := Again _ _ _ _ _ _ _ _) ?_) | (with_reducible refine Stuck.h (A := CallF _ _ _ _ _ _ _) ?_) | (with_reducible refine Stuck.h (A := LoopG _ _ _ _ _ _ _ _) ?_) | (with_reducible refine Stuck.h (A := DrawG _ _ _ _ _ _ _ _) ?_)
  | (with_reducible refine Stuck.h (A := WrapG _ _ _) ?_) | (with_reducible refine Stuck.h (A := DivG _ _ _ _) ?_) | (with_reducible refine Stuck.h (A := ModG _ _ _) ?_) | (with_reducible refine Stuck.h (A := ShlG _ _ _ _) ?_) | (with_reducible refine Stuck.h (A := ShrG _ _ _ _) ?_) | (with_reducible refine Stuck.h (A := BitG _ _ _ _ _) ?_)
  | (with_reducible refine Stuck.h (A := IdxG _ _ _) ?_) | (with_reducible refine Stuck.h (A := IdxL _ _ _) ?_) | (with_reducible refine Stuck.h (A := SlcG _ _ _ _ _) ?_) | (with_reducible refine Stuck.h (A := MakG _ _ _ _) ?_) | (with_reducible refine Stuck.h (A := AppG _ _ _ _ _ _ _) ?_) | (with_reducible refine Stuck.h (A := FzG _ _ _ _) ?_)
  | (with_reducible refine Stuck.h (A := RawG _) ?_) | (with_reducible refine Stuck.h (A := TabG _ _ _ _ _) ?_) | (with_reducible refine Stuck.h (A := ExtF _ _ _ _) ?_) | (with_reducible refine Stuck.h (A := Chk _ _) ?_) | (with_reducible refine Stuck.h (A := False) ?_))
  exact ⟨ret_e rfl⟩
theorem r_docupatX (b : Bool) (l : List Int) (e : Int) (ok : okD 18446744073709551616 l) (h : dyF b l e = false) (k : Int) : FC Tryz.prog G 102 [Dy b l e, .val (.int .i64 k)] (· = dyE 2) := by
  have f0 := r_gridX (G := G) b l e ok h k true
  refine FC.intro (X := XX) tok Tryz.func102 rfl Tryz.ntmps102 (by rw [Tryz.results102]) (by kernel_rfl) rfl ?_; intro F hG hO
  rw [← hG] at f0
  repeat' ((try (conv => whnf)); first
  | ((with_reducible refine cg ?_); refine call_eq (f0) (LpL.refl _) rfl ?_)
  
  | (with_reducible refine Chk.mk' (by first | omega | exact trivial | (simp only [List.length_append, List.length_set, List.length_replicate, List.length_take, List.length_drop, List.length_cons, List.length_nil, List.length_map]; omega)) ?_)
  | (with_reducible refine wrap_g (by dsimp only [inR]; omega) ?_)
  | (with_reducible refine idx_g (by omega) ?_)
  | (with_reducible refine idx_l _ rfl (by decide) ?_)
  | (with_reducible refine BothG.mk ?_ ?_)
  | (with_reducible refine fork_tt ?_) | (with_reducible refine fork_ff ?_)
  | (with_reducible refine fork_e (c := true) (by decide) ?_; with_reducible refine fork_tt ?_) | (with_reducible refine fork_e (c := false) (by decide) ?_; with_reducible refine fork_ff ?_)
  | (with_reducible refine fork_t (by omega) ?_) | (with_reducible refine fork_f (by omega) ?_)
  | (with_reducible refine fork_d ?_ ?_ <;> intro hc)
  | (with_reducible refine fork_n ?_)
  | (with_reducible refine fork_b ?_ ?_ <;> intro hc)
  | (with_reducible refine SlcG.mk (by omega) ?_)
  | (with_reducible refine MakG.mk (by dsimp only; omega) ?_)
  | (with_reducible refine AppG.mk (by first | omega | (simp only [List.length_append, List.length_set, List.length_replicate, List.length_take, List.length_drop, List.length_cons, List.length_nil, List.length_map]; omega)) (by dsimp only [List.length_cons, List.length_nil]; omega) (by omega) ?_)
  | (with_reducible refine div_g (by omega) (by omega) (by dsimp only [inR]; omega) ?_)
  | (with_reducible refine mod_g (by omega) (by omega) ?_)
  | (with_reducible refine mask_g (m := 4294967296) 32 rfl rfl (by decide) (by omega) ?_)
  | (with_reducible refine shr_g (m := 4294967296) 32 rfl (by decide) (by omega) rfl ?_)
  | (with_reducible refine fz_all (by omega) ?_)
  | (with_reducible refine Stuck.h (A := RetE _ _) ?_) | (with_reducible refine Stuck.h (A := RetM _ _ _ _) ?_) | (with_reducible refine Stuck.h (A := Again _ _ _ _ _ _ _ _) ?_) | (with_reducible refine Stuck.h (A := CallF _ _ _ _ _ _ _) ?_) | (with_reducible refine Stuck.h (A := LoopG _ _ _ _ _ _ _ _) ?_) | (with_reducible refine Stuck.h (A := DrawG _ _ _ _ _ _ _ _) ?_)
  | (with_reducible refine Stuck.h (A := WrapG _ _ _) ?_) | (with_reducible refine Stuck.h (A := DivG _ _ _ _) ?_) | (with_reducible refine Stuck.h (A := ModG _ _ _) ?_) | (with_reducible refine Stuck.h (A := ShlG _ _ _ _) ?_) | (with_reducible refine Stuck.h (A := ShrG _ _ _ _) ?_) | (with_reducible refine Stuck.h (A := BitG _ _ _ _ _) ?_)
  | (with_reducible refine Stuck.h (A := IdxG _ _ _) ?_) | (with_reducible refine Stuck.h (A := IdxL _ _ _) ?_) | (with_reducible refine Stuck.h (A := SlcG _ _ _ _ _) ?_) | (with_reducible refine Stuck.h (A := MakG _ _ _ _) ?_) | (with_reducible refine Stuck.h (A := AppG _ _ _ _ _ _ _) ?_) | (with_reducible refine Stuck.h (A := FzG _ _ _ _) ?_)
  | (with_reducible refine Stuck.h (A := RawG _) ?_) | (with_reducible refine Stuck.h (A := TabG _ _ _ _ _) ?_) | (with_reducible refine Stuck.h (A := ExtF _ _ _ _) ?_) | (with_reducible refine Stuck.h (A := Chk _ _) ?_) | (with_reducible refine Stuck.h (A := False) ?_))
  exact ⟨ret_e rfl⟩
def cutsE (p : Int) : PV := if p < 1 then dyE 1 else if 70000 < p then dyE 1 else dyE 2
theorem cutsE_form (p : Int) : ∃ c, cutsE p = dyE c := by
  unfold cutsE
  by_cases h1 : p < 1
  · rw [if_pos h1]; exact ⟨1, rfl⟩
  · rw [if_neg h1]
    by_cases h2 : 70000 < p
    · rw [if_pos h2]; exact ⟨1, rfl⟩
    · rw [if_neg h2]; exact ⟨2, rfl⟩
theorem r_cutsX (b : Bool) (l : List Int) (e : Int) (ok : okD 18446744073709551616 l) (h : dyF b l e = false) (p : Int) (up : Bool) : FC Tryz.prog G 138 [Dy b l e, .val (.int .i64 p), .val (.bool up)] (· = cutsE p) := by
  have f0 := r_formN (G := G) b l e ok h
  refine FC.intro (X := XX) tok Tryz.func138 rfl Tryz.ntmps138 (by rw [Tryz.results138]) (by kernel_rfl) rfl ?_; intro F hG hO
  rw [← hG] at f0
  repeat' ((try (conv => whnf)); first
  | ((with_reducible refine cg ?_); refine call_eq (f0) (LpL.refl _) rfl ?_)
  
  | (with_reducible refine draw_g (id := 5) [[0, 1, 3, 4, 5, 6, 2, 7, 8, 9], [10, 11]] tok mixed (by kernel_rfl) ?_)
  | (with_reducible refine Chk.mk' (by first | omega | exact trivial | (simp only [List.length_append, List.length_set, List.length_replicate, List.length_take, List.length_drop, List.length_cons, List.length_nil, List.length_map]; omega)) ?_)
  | (with_reducible refine wrap_g (by dsimp only [inR]; omega) ?_)
  | (with_reducible refine idx_g (by omega) ?_)
  | (with_reducible refine idx_l _ rfl (by decide) ?_)
  | (with_reducible refine BothG.mk ?_ ?_)
  | (with_reducible refine fork_tt ?_) | (with_reducible refine fork_ff ?_)
  | (with_reducible refine fork_e (c := true) (by decide) ?_; with_reducible refine fork_tt ?_) | (with_reducible refine fork_e (c := false) (by decide) ?_; with_reducible refine fork_ff ?_)
  | (with_reducible refine fork_t (by omega) ?_) | (with_reducible refine fork_f (by omega) ?_)
  | (with_reducible refine fork_d ?_ ?_ <;> intro hc)
  | (with_reducible refine fork_n ?_)
  | (with_reducible refine fork_b ?_ ?_ <;> intro hc)
  | (with_reducible refine SlcG.mk (by omega) ?_)
  | (with_reducible refine MakG.mk (by dsimp only; omega) ?_)
  | (with_reducible refine AppG.mk (by first | omega | (simp only [List.length_append, List.length_set, List.length_replicate, List.length_take, List.length_drop, List.length_cons, List.length_nil, List.length_map]; omega)) (by dsimp only [List.length_cons, List.length_nil]; omega) (by omega) ?_)
  | (with_reducible refine div_g (by omega) (by omega) (by dsimp only [inR]; omega) ?_)
  | (with_reducible refine mod_g (by omega) (by omega) ?_)
  | (with_reducible refine mask_g (m := 4294967296) 32 rfl rfl (by decide) (by omega) ?_)
  | (with_reducible refine shr_g (m := 4294967296) 32 rfl (by decide) (by omega) rfl ?_)
  | (with_reducible refine fz_all (by omega) ?_)
  | (with_reducible refine Stuck.h (A := RetE _ _) ?_) | (with_reducible refine Stuck.h (A := RetM _ _ _ _) ?_) | (with_reducible refine Stuck.h (A := Again _ _ _ _ _ _ _ _) ?_) | (with_reducible refine Stuck.h (A := CallF _ _ _ _ _ _ _) ?_) | (with_reducible refine Stuck.h (A := LoopG _ _ _ _ _ _ _ _) ?_) | (with_reducible refine Stuck.h (A := DrawG _ _ _ _ _ _ _ _) ?_)
  | (with_reducible refine Stuck.h (A := WrapG _ _ _) ?_) | (with_reducible refine Stuck.h (A := DivG _ _ _ _) ?_) | (with_reducible refine Stuck.h (A := ModG _ _ _) ?_) | (with_reducible refine Stuck.h (A := ShlG _ _ _ _) ?_) | (with_reducible refine Stuck.h (A := ShrG _ _ _ _) ?_) | (with_reducible refine Stuck.h (A := BitG _ _ _ _ _) ?_)
  | (with_reducible refine Stuck.h (A := IdxG _ _ _) ?_) | (with_reducible refine Stuck.h (A := IdxL _ _ _) ?_) | (with_reducible refine Stuck.h (A := SlcG _ _ _ _ _) ?_) | (with_reducible refine Stuck.h (A := MakG _ _ _ _) ?_) | (with_reducible refine Stuck.h (A := AppG _ _ _ _ _ _ _) ?_) | (with_reducible refine Stuck.h (A := FzG _ _ _ _) ?_)
  | (with_reducible refine Stuck.h (A := RawG _) ?_) | (with_reducible refine Stuck.h (A := TabG _ _ _ _ _) ?_) | (with_reducible refine Stuck.h (A := ExtF _ _ _ _) ?_) | (with_reducible refine Stuck.h (A := Chk _ _) ?_) | (with_reducible refine Stuck.h (A := False) ?_))
  all_goals first
    | (refine ⟨ret_l _ (lp_dyE 1) ?_⟩; unfold cutsE; rw [if_pos (by omega)])
    | (refine ⟨ret_l _ (lp_dyE 1) ?_⟩; unfold cutsE; rw [if_neg (by omega), if_pos (by omega)])
    | (refine ⟨ret_l _ (lp_dyE 2) ?_⟩; unfold cutsE; rw [if_neg (by omega), if_neg (by omega)])
theorem y_nextX (b : Bool) (l : List Int) (e : Int) (ok : okD 18446744073709551616 l) (h : dyF b l e = false) (p : Int) (up : Bool) : FC Tryz.prog G 51 [Dy b l e, .val (.int .i64 p), .val (.bool up)] (· = cutsE p) := by
  have f0 := y_precise (G := G) p
  have f1 := y_formN (G := G) b l e ok h
  unfold cutsE
  by_cases hp : 1 ≤ p ∧ p ≤ 70000
  · rw [if_neg (by omega), if_neg (by omega)]
    rw [decide_eq_true hp.1, decide_eq_true hp.2] at f0
    refine FC.intro (X := XX) tok Tryz.func51 rfl Tryz.ntmps51 (by rw [Tryz.results51]) (by kernel_rfl) rfl ?_; intro F hG hO
    rw [← hG] at f0 f1
    repeat' ((try (conv => whnf)); first
  | ((with_reducible refine cg ?_); refine call_eq (f0) (LpL.refl _) rfl ?_)
  | ((with_reducible refine cg ?_); refine call_eq (f1) (LpL.refl _) rfl ?_)
  
  | (with_reducible refine Chk.mk' (by first | omega | exact trivial | (simp only [List.length_append, List.length_set, List.length_replicate, List.length_take, List.length_drop, List.length_cons, List.length_nil, List.length_map]; omega)) ?_)
  | (with_reducible refine wrap_g (by dsimp only [inR]; omega) ?_)
  | (with_reducible refine idx_g (by omega) ?_)
  | (with_reducible refine idx_l _ rfl (by decide) ?_)
  | (with_reducible refine BothG.mk ?_ ?_)
  | (with_reducible refine fork_tt ?_) | (with_reducible refine fork_ff ?_)
  | (with_reducible refine fork_e (c := true) (by decide) ?_; with_reducible refine fork_tt ?_) | (with_reducible refine fork_e (c := false) (by decide) ?_; with_reducible refine fork_ff ?_)
  | (with_reducible refine fork_t (by omega) ?_) | (with_reducible refine fork_f (by omega) ?_)
  | (with_reducible refine fork_d ?_ ?_ <;> intro hc)
  | (with_reducible refine fork_n ?_)
  | (with_reducible refine fork_b ?_ ?_ <;> intro hc)
  | (with_reducible refine SlcG.mk (by omega) ?_)
  | (with_reducible refine MakG.mk (by dsimp only; omega) ?_)
  | (with_reducible refine AppG.mk (by first | omega | (simp only [List.length_append, List.length_set, List.length_replicate, List.length_take, List.length_drop, List.length_cons, List.length_nil, List.length_map]; omega)) (by dsimp only [List.length_cons, List.length_nil]; omega) (by omega) ?_)
  | (with_reducible refine div_g (by omega) (by omega) (by dsimp only [inR]; omega) ?_)
  | (with_reducible refine mod_g (by omega) (by omega) ?_)
  | (with_reducible refine mask_g (m := 4294967296) 32 rfl rfl (by decide) (by omega) ?_)
  | (with_reducible refine shr_g (m := 4294967296) 32 rfl (by decide) (by omega) rfl ?_)
  | (with_reducible refine fz_all (by omega) ?_)
  | (with_reducible refine Stuck.h (A := RetE _ _) ?_) | (with_reducible refine Stuck.h (A := RetM _ _ _ _) ?_) | (with_reducible refine Stuck.h (A := Again _ _ _ _ _ _ _ _) ?_) | (with_reducible refine Stuck.h (A := CallF _ _ _ _ _ _ _) ?_) | (with_reducible refine Stuck.h (A := LoopG _ _ _ _ _ _ _ _) ?_) | (with_reducible refine Stuck.h (A := DrawG _ _ _ _ _ _ _ _) ?_)
  | (with_reducible refine Stuck.h (A := WrapG _ _ _) ?_) | (with_reducible refine Stuck.h (A := DivG _ _ _ _) ?_) | (with_reducible refine Stuck.h (A := ModG _ _ _) ?_) | (with_reducible refine Stuck.h (A := ShlG _ _ _ _) ?_) | (with_reducible refine Stuck.h (A := ShrG _ _ _ _) ?_) | (with_reducible refine Stuck.h (A := BitG _ _ _ _ _) ?_)
  | (with_reducible refine Stuck.h (A := IdxG _ _ _) ?_) | (with_reducible refine Stuck.h (A := IdxL _ _ _) ?_) | (with_reducible refine Stuck.h (A := SlcG _ _ _ _ _) ?_) | (with_reducible refine Stuck.h (A := MakG _ _ _ _) ?_) | (with_reducible refine Stuck.h (A := AppG _ _ _ _ _ _ _) ?_) | (with_reducible refine Stuck.h (A := FzG _ _ _ _) ?_)
  | (with_reducible refine Stuck.h (A := RawG _) ?_) | (with_reducible refine Stuck.h (A := TabG _ _ _ _ _) ?_) | (with_reducible refine Stuck.h (A := ExtF _ _ _ _) ?_) | (with_reducible refine Stuck.h (A := Chk _ _) ?_) | (with_reducible refine Stuck.h (A := False) ?_))
    exact ⟨ret_l _ (lp_dyE 2) rfl⟩
  · have hb : (decide (1 ≤ p) && decide (p ≤ 70000)) = false := by
      by_cases h1 : 1 ≤ p
      · rw [decide_eq_false (show ¬ p ≤ 70000 by omega)]; simp
      · rw [decide_eq_false h1]; rfl
    rw [hb] at f0
    refine FC.intro (X := XX) tok Tryz.func51 rfl Tryz.ntmps51 (by rw [Tryz.results51]) (by kernel_rfl) rfl ?_; intro F hG hO
    rw [← hG] at f0
    repeat' ((try (conv => whnf)); first
  | ((with_reducible refine cg ?_); refine call_eq (f0) (LpL.refl _) rfl ?_)
  
  | (with_reducible refine Chk.mk' (by first | omega | exact trivial | (simp only [List.length_append, List.length_set, List.length_replicate, List.length_take, List.length_drop, List.length_cons, List.length_nil, List.length_map]; omega)) ?_)
  | (with_reducible refine wrap_g (by dsimp only [inR]; omega) ?_)
  | (with_reducible refine idx_g (by omega) ?_)
  | (with_reducible refine idx_l _ rfl (by decide) ?_)
  | (with_reducible refine BothG.mk ?_ ?_)
  | (with_reducible refine fork_tt ?_) | (with_reducible refine fork_ff ?_)
  | (with_reducible refine fork_e (c := true) (by decide) ?_; with_reducible refine fork_tt ?_) | (with_reducible refine fork_e (c := false) (by decide) ?_; with_reducible refine fork_ff ?_)
  | (with_reducible refine fork_t (by omega) ?_) | (with_reducible refine fork_f (by omega) ?_)
  | (with_reducible refine fork_d ?_ ?_ <;> intro hc)
  | (with_reducible refine fork_n ?_)
  | (with_reducible refine fork_b ?_ ?_ <;> intro hc)
  | (with_reducible refine SlcG.mk (by omega) ?_)
  | (with_reducible refine MakG.mk (by dsimp only; omega) ?_)
  | (with_reducible refine AppG.mk (by first | omega | (simp only [List.length_append, List.length_set, List.length_replicate, List.length_take, List.length_drop, List.length_cons, List.length_nil, List.length_map]; omega)) (by dsimp only [List.length_cons, List.length_nil]; omega) (by omega) ?_)
  | (with_reducible refine div_g (by omega) (by omega) (by dsimp only [inR]; omega) ?_)
  | (with_reducible refine mod_g (by omega) (by omega) ?_)
  | (with_reducible refine mask_g (m := 4294967296) 32 rfl rfl (by decide) (by omega) ?_)
  | (with_reducible refine shr_g (m := 4294967296) 32 rfl (by decide) (by omega) rfl ?_)
  | (with_reducible refine fz_all (by omega) ?_)
  | (with_reducible refine Stuck.h (A := RetE _ _) ?_) | (with_reducible refine Stuck.h (A := RetM _ _ _ _) ?_) | (with_reducible refine Stuck.h (A := Again _ _ _ _ _ _ _ _) ?_) | (with_reducible refine Stuck.h (A := CallF _ _ _ _ _ _ _) ?_) | (with_reducible refine Stuck.h (A := LoopG _ _ _ _ _ _ _ _) ?_) | (with_reducible refine Stuck.h (A := DrawG _ _ _ _ _ _ _ _) ?_)
  | (with_reducible refine Stuck.h (A := WrapG _ _ _) ?_) | (with_reducible refine Stuck.h (A := DivG _ _ _ _) ?_) | (with_reducible refine Stuck.h (A := ModG _ _ _) ?_) | (with_reducible refine Stuck.h (A := ShlG _ _ _ _) ?_) | (with_reducible refine Stuck.h (A := ShrG _ _ _ _) ?_) | (with_reducible refine Stuck.h (A := BitG _ _ _ _ _) ?_)
  | (with_reducible refine Stuck.h (A := IdxG _ _ _) ?_) | (with_reducible refine Stuck.h (A := IdxL _ _ _) ?_) | (with_reducible refine Stuck.h (A := SlcG _ _ _ _ _) ?_) | (with_reducible refine Stuck.h (A := MakG _ _ _ _) ?_) | (with_reducible refine Stuck.h (A := AppG _ _ _ _ _ _ _) ?_) | (with_reducible refine Stuck.h (A := FzG _ _ _ _) ?_)
  | (with_reducible refine Stuck.h (A := RawG _) ?_) | (with_reducible refine Stuck.h (A := TabG _ _ _ _ _) ?_) | (with_reducible refine Stuck.h (A := ExtF _ _ _ _) ?_) | (with_reducible refine Stuck.h (A := Chk _ _) ?_) | (with_reducible refine Stuck.h (A := False) ?_))
    refine ⟨ret_l _ (lp_dyE 1) ?_⟩
    by_cases h1 : p < 1
    · rw [if_pos h1]
    · rw [if_neg h1, if_pos (by omega)]
theorem y_downX (b : Bool) (l : List Int) (e : Int) (ok : okD 18446744073709551616 l) (h : dyF b l e = false) (p : Int) : FC Tryz.prog G 29 [Dy b l e, .val (.int .i64 p)] (· = cutsE p) := by
  have f0 := y_nextX (G := G) b l e ok h p false
  obtain ⟨c, hc⟩ := cutsE_form p
  rw [hc] at f0 ⊢
  refine FC.intro (X := XX) tok Tryz.func29 rfl Tryz.ntmps29 (by rw [Tryz.results29]) (by kernel_rfl) rfl ?_; intro F hG hO
  rw [← hG] at f0
  repeat' ((try (conv => whnf)); first
  | ((with_reducible refine cg ?_); refine call_eq (f0) (LpL.refl _) rfl ?_)
  
  | (with_reducible refine Chk.mk' (by first | omega | exact trivial | (simp only [List.length_append, List.length_set, List.length_replicate, List.length_take, List.length_drop, List.length_cons, List.length_nil, List.length_map]; omega)) ?_)
  | (with_reducible refine wrap_g (by dsimp only [inR]; omega) ?_)
  | (with_reducible refine idx_g (by omega) ?_)
  | (with_reducible refine idx_l _ rfl (by decide) ?_)
  | (with_reducible refine BothG.mk ?_ ?_)
  | (with_reducible refine fork_tt ?_) | (with_reducible refine fork_ff ?_)
  | (with_reducible refine fork_e (c := true) (by decide) ?_; with_reducible refine fork_tt ?_) | (with_reducible refine fork_e (c := false) (by decide) ?_; with_reducible refine fork_ff ?_)
  | (with_reducible refine fork_t (by omega) ?_) | (with_reducible refine fork_f (by omega) ?_)
  | (with_reducible refine fork_d ?_ ?_ <;> intro hc)
  | (with_reducible refine fork_n ?_)
  | (with_reducible refine fork_b ?_ ?_ <;> intro hc)
  | (with_reducible refine SlcG.mk (by omega) ?_)
  | (with_reducible refine MakG.mk (by dsimp only; omega) ?_)
  | (with_reducible refine AppG.mk (by first | omega | (simp only [List.length_append, List.length_set, List.length_replicate, List.length_take, List.length_drop, List.length_cons, List.length_nil, List.length_map]; omega)) (by dsimp only [List.length_cons, List.length_nil]; omega) (by omega) ?_)
  | (with_reducible refine div_g (by omega) (by omega) (by dsimp only [inR]; omega) ?_)
  | (with_reducible refine mod_g (by omega) (by omega) ?_)
  | (with_reducible refine mask_g (m := 4294967296) 32 rfl rfl (by decide) (by omega) ?_)
  | (with_reducible refine shr_g (m := 4294967296) 32 rfl (by decide) (by omega) rfl ?_)
  | (with_reducible refine fz_all (by omega) ?_)
  | (with_reducible refine Stuck.h (A := RetE _ _) ?_) | (with_reducible refine Stuck.h (A := RetM _ _ _ _) ?_) | (with_reducible refine Stuck.h (A := Again _ _ _ _ _ _ _ _) ?_) | (with_reducible refine Stuck.h (A := CallF _ _ _ _ _ _ _) ?_) | (with_reducible refine Stuck.h (A := LoopG _ _ _ _ _ _ _ _) ?_) | (with_reducible refine Stuck.h (A := DrawG _ _ _ _ _ _ _ _) ?_)
  | (with_reducible refine Stuck.h (A := WrapG _ _ _) ?_) | (with_reducible refine Stuck.h (A := DivG _ _ _ _) ?_) | (with_reducible refine Stuck.h (A := ModG _ _ _) ?_) | (with_reducible refine Stuck.h (A := ShlG _ _ _ _) ?_) | (with_reducible refine Stuck.h (A := ShrG _ _ _ _) ?_) | (with_reducible refine Stuck.h (A := BitG _ _ _ _ _) ?_)
  | (with_reducible refine Stuck.h (A := IdxG _ _ _) ?_) | (with_reducible refine Stuck.h (A := IdxL _ _ _) ?_) | (with_reducible refine Stuck.h (A := SlcG _ _ _ _ _) ?_) | (with_reducible refine Stuck.h (A := MakG _ _ _ _) ?_) | (with_reducible refine Stuck.h (A := AppG _ _ _ _ _ _ _) ?_) | (with_reducible refine Stuck.h (A := FzG _ _ _ _) ?_)
  | (with_reducible refine Stuck.h (A := RawG _) ?_) | (with_reducible refine Stuck.h (A := TabG _ _ _ _ _) ?_) | (with_reducible refine Stuck.h (A := ExtF _ _ _ _) ?_) | (with_reducible refine Stuck.h (A := Chk _ _) ?_) | (with_reducible refine Stuck.h (A := False) ?_))
  exact ⟨ret_e rfl⟩
theorem y_upX (b : Bool) (l : List Int) (e : Int) (ok : okD 18446744073709551616 l) (h : dyF b l e = false) (p : Int) : FC Tryz.prog G 41 [Dy b l e, .val (.int .i64 p)] (· = cutsE p) := by
  have f0 := y_nextX (G := G) b l e ok h p true
  obtain ⟨c, hc⟩ := cutsE_form p
  rw [hc] at f0 ⊢
  refine FC.intro (X := XX) tok Tryz.func41 rfl Tryz.ntmps41 (by rw [Tryz.results41]) (by kernel_rfl) rfl ?_; intro F hG hO
  rw [← hG] at f0
  repeat' ((try (conv => whnf)); first
  | ((with_reducible refine cg ?_); refine call_eq (f0) (LpL.refl _) rfl ?_)
  
  | (with_reducible refine Chk.mk' (by first | omega | exact trivial | (simp only [List.length_append, List.length_set, List.length_replicate, List.length_take, List.length_drop, List.length_cons, List.length_nil, List.length_map]; omega)) ?_)
  | (with_reducible refine wrap_g (by dsimp only [inR]; omega) ?_)
  | (with_reducible refine idx_g (by omega) ?_)
  | (with_reducible refine idx_l _ rfl (by decide) ?_)
  | (with_reducible refine BothG.mk ?_ ?_)
  | (with_reducible refine fork_tt ?_) | (with_reducible refine fork_ff ?_)
  | (with_reducible refine fork_e (c := true) (by decide) ?_; with_reducible refine fork_tt ?_) | (with_reducible refine fork_e (c := false) (by decide) ?_; with_reducible refine fork_ff ?_)
  | (with_reducible refine fork_t (by omega) ?_) | (with_reducible refine fork_f (by omega) ?_)
  | (with_reducible refine fork_d ?_ ?_ <;> intro hc)
  | (with_reducible refine fork_n ?_)
  | (with_reducible refine fork_b ?_ ?_ <;> intro hc)
  | (with_reducible refine SlcG.mk (by omega) ?_)
  | (with_reducible refine MakG.mk (by dsimp only; omega) ?_)
  | (with_reducible refine AppG.mk (by first | omega | (simp only [List.length_append, List.length_set, List.length_replicate, List.length_take, List.length_drop, List.length_cons, List.length_nil, List.length_map]; omega)) (by dsimp only [List.length_cons, List.length_nil]; omega) (by omega) ?_)
  | (with_reducible refine div_g (by omega) (by omega) (by dsimp only [inR]; omega) ?_)
  | (with_reducible refine mod_g (by omega) (by omega) ?_)
  | (with_reducible refine mask_g (m := 4294967296) 32 rfl rfl (by decide) (by omega) ?_)
  | (with_reducible refine shr_g (m := 4294967296) 32 rfl (by decide) (by omega) rfl ?_)
  | (with_reducible refine fz_all (by omega) ?_)
  | (with_reducible refine Stuck.h (A := RetE _ _) ?_) | (with_reducible refine Stuck.h (A := RetM _ _ _ _) ?_) | (with_reducible refine Stuck.h (A := Again _ _ _ _ _ _ _ _) ?_) | (with_reducible refine Stuck.h (A := CallF _ _ _ _ _ _ _) ?_) | (with_reducible refine Stuck.h (A := LoopG _ _ _ _ _ _ _ _) ?_) | (with_reducible refine Stuck.h (A := DrawG _ _ _ _ _ _ _ _) ?_)
  | (with_reducible refine Stuck.h (A := WrapG _ _ _) ?_) | (with_reducible refine Stuck.h (A := DivG _ _ _ _) ?_) | (with_reducible refine Stuck.h (A := ModG _ _ _) ?_) | (with_reducible refine Stuck.h (A := ShlG _ _ _ _) ?_) | (with_reducible refine Stuck.h (A := ShrG _ _ _ _) ?_) | (with_reducible refine Stuck.h (A := BitG _ _ _ _ _) ?_)
  | (with_reducible refine Stuck.h (A := IdxG _ _ _) ?_) | (with_reducible refine Stuck.h (A := IdxL _ _ _) ?_) | (with_reducible refine Stuck.h (A := SlcG _ _ _ _ _) ?_) | (with_reducible refine Stuck.h (A := MakG _ _ _ _) ?_) | (with_reducible refine Stuck.h (A := AppG _ _ _ _ _ _ _) ?_) | (with_reducible refine Stuck.h (A := FzG _ _ _ _) ?_)
  | (with_reducible refine Stuck.h (A := RawG _) ?_) | (with_reducible refine Stuck.h (A := TabG _ _ _ _ _) ?_) | (with_reducible refine Stuck.h (A := ExtF _ _ _ _) ?_) | (with_reducible refine Stuck.h (A := Chk _ _) ?_) | (with_reducible refine Stuck.h (A := False) ?_))
  exact ⟨ret_e rfl⟩
theorem r_docdownX (b : Bool) (l : List Int) (e : Int) (ok : okD 18446744073709551616 l) (h : dyF b l e = false) (p : Int) : FC Tryz.prog G 99 [Dy b l e, .val (.int .i64 p)] (· = cutsE p) := by
  have f0 := r_cutsX (G := G) b l e ok h p false
  obtain ⟨c, hc⟩ := cutsE_form p
  rw [hc] at f0 ⊢
  refine FC.intro (X := XX) tok Tryz.func99 rfl Tryz.ntmps99 (by rw [Tryz.results99]) (by kernel_rfl) rfl ?_; intro F hG hO
  rw [← hG] at f0
  repeat' ((try (conv => whnf)); first
  | ((with_reducible refine cg ?_); refine call_eq (f0) (LpL.refl _) rfl ?_)
  
  | (with_reducible refine Chk.mk' (by first | omega | exact trivial | (simp only [List.length_append, List.length_set, List.length_replicate, List.length_take, List.length_drop, List.length_cons, List.length_nil, List.length_map]; omega)) ?_)
  | (with_reducible refine wrap_g (by dsimp only [inR]; omega) ?_)
  | (with_reducible refine idx_g (by omega) ?_)
  | (with_reducible refine idx_l _ rfl (by decide) ?_)
  | (with_reducible refine BothG.mk ?_ ?_)
  | (with_reducible refine fork_tt ?_) | (with_reducible refine fork_ff ?_)
  | (with_reducible refine fork_e (c := true) (by decide) ?_; with_reducible refine fork_tt ?_) | (with_reducible refine fork_e (c := false) (by decide) ?_; with_reducible refine fork_ff ?_)
  | (with_reducible refine fork_t (by omega) ?_) | (with_reducible refine fork_f (by omega) ?_)
  | (with_reducible refine fork_d ?_ ?_ <;> intro hc)
  | (with_reducible refine fork_n ?_)
  | (with_reducible refine fork_b ?_ ?_ <;> intro hc)
  | (with_reducible refine SlcG.mk (by omega) ?_)
  | (with_reducible refine MakG.mk (by dsimp only; omega) ?_)
  | (with_reducible refine AppG.mk (by first | omega | (simp only [List.length_append, List.length_set, List.length_replicate, List.length_take, List.length_drop, List.length_cons, List.length_nil, List.length_map]; omega)) (by dsimp only [List.length_cons, List.length_nil]; omega) (by omega) ?_)
  | (with_reducible refine div_g (by omega) (by omega) (by dsimp only [inR]; omega) ?_)
  | (with_reducible refine mod_g (by omega) (by omega) ?_)
  | (with_reducible refine mask_g (m := 4294967296) 32 rfl rfl (by decide) (by omega) ?_)
  | (with_reducible refine shr_g (m := 4294967296) 32 rfl (by decide) (by omega) rfl ?_)
  | (with_reducible refine fz_all (by omega) ?_)
  | (with_reducible refine Stuck.h (A := RetE _ _) ?_) | (with_reducible refine Stuck.h (A := RetM _ _ _ _) ?_) | (with_reducible refine Stuck.h (A := Again _ _ _ _ _ _ _ _) ?_) | (with_reducible refine Stuck.h (A := CallF _ _ _ _ _ _ _) ?_) | (with_reducible refine Stuck.h (A := LoopG _ _ _ _ _ _ _ _) ?_) | (with_reducible refine Stuck.h (A := DrawG _ _ _ _ _ _ _ _) ?_)
  | (with_reducible refine Stuck.h (A := WrapG _ _ _) ?_) | (with_reducible refine Stuck.h (A := DivG _ _ _ _) ?_) | (with_reducible refine Stuck.h (A := ModG _ _ _) ?_) | (with_reducible refine Stuck.h (A := ShlG _ _ _ _) ?_) | (with_reducible refine Stuck.h (A := ShrG _ _ _ _) ?_) | (with_reducible refine Stuck.h (A := BitG _ _ _ _ _) ?_)
  | (with_reducible refine Stuck.h (A := IdxG _ _ _) ?_) | (with_reducible refine Stuck.h (A := IdxL _ _ _) ?_) | (with_reducible refine Stuck.h (A := SlcG _ _ _ _ _) ?_) | (with_reducible refine Stuck.h (A := MakG _ _ _ _) ?_) | (with_reducible refine Stuck.h (A := AppG _ _ _ _ _ _ _) ?_) | (with_reducible refine Stuck.h (A := FzG _ _ _ _) ?_)
  | (with_reducible refine Stuck.h (A := RawG _) ?_) | (with_reducible refine Stuck.h (A := TabG _ _ _ _ _) ?_) | (with_reducible refine Stuck.h (A := ExtF _ _ _ _) ?_) | (with_reducible refine Stuck.h (A := Chk _ _) ?_) | (with_reducible refine Stuck.h (A := False) ?_))
  exact ⟨ret_e rfl⟩
theorem r_docupX (b : Bool) (l : List Int) (e : Int) (ok : okD 18446744073709551616 l) (h : dyF b l e = false) (p : Int) : FC Tryz.prog G 100 [Dy b l e, .val (.int .i64 p)] (· = cutsE p) := by
  have f0 := r_cutsX (G := G) b l e ok h p true
  obtain ⟨c, hc⟩ := cutsE_form p
  rw [hc] at f0 ⊢
  refine FC.intro (X := XX) tok Tryz.func100 rfl Tryz.ntmps100 (by rw [Tryz.results100]) (by kernel_rfl) rfl ?_; intro F hG hO
  rw [← hG] at f0
  repeat' ((try (conv => whnf)); first
  | ((with_reducible refine cg ?_); refine call_eq (f0) (LpL.refl _) rfl ?_)
  
  | (with_reducible refine Chk.mk' (by first | omega | exact trivial | (simp only [List.length_append, List.length_set, List.length_replicate, List.length_take, List.length_drop, List.length_cons, List.length_nil, List.length_map]; omega)) ?_)
  | (with_reducible refine wrap_g (by dsimp only [inR]; omega) ?_)
  | (with_reducible refine idx_g (by omega) ?_)
  | (with_reducible refine idx_l _ rfl (by decide) ?_)
  | (with_reducible refine BothG.mk ?_ ?_)
  | (with_reducible refine fork_tt ?_) | (with_reducible refine fork_ff ?_)
  | (with_reducible refine fork_e (c := true) (by decide) ?_; with_reducible refine fork_tt ?_) | (with_reducible refine fork_e (c := false) (by decide) ?_; with_reducible refine fork_ff ?_)
  | (with_reducible refine fork_t (by omega) ?_) | (with_reducible refine fork_f (by omega) ?_)
  | (with_reducible refine fork_d ?_ ?_ <;> intro hc)
  | (with_reducible refine fork_n ?_)
  | (with_reducible refine fork_b ?_ ?_ <;> intro hc)
  | (with_reducible refine SlcG.mk (by omega) ?_)
  | (with_reducible refine MakG.mk (by dsimp only; omega) ?_)
  | (with_reducible refine AppG.mk (by first | omega | (simp only [List.length_append, List.length_set, List.length_replicate, List.length_take, List.length_drop, List.length_cons, List.length_nil, List.length_map]; omega)) (by dsimp only [List.length_cons, List.length_nil]; omega) (by omega) ?_)
  | (with_reducible refine div_g (by omega) (by omega) (by dsimp only [inR]; omega) ?_)
  | (with_reducible refine mod_g (by omega) (by omega) ?_)
  | (with_reducible refine mask_g (m := 4294967296) 32 rfl rfl (by decide) (by omega) ?_)
  | (with_reducible refine shr_g (m := 4294967296) 32 rfl (by decide) (by omega) rfl ?_)
  | (with_reducible refine fz_all (by omega) ?_)
  | (with_reducible refine Stuck.h (A := RetE _ _) ?_) | (with_reducible refine Stuck.h (A := RetM _ _ _ _) ?_) | (with_reducible refine Stuck.h (A := Again _ _ _ _ _ _ _ _) ?_) | (with_reducible refine Stuck.h (A := CallF _ _ _ _ _ _ _) ?_) | (with_reducible refine Stuck.h (A := LoopG _ _ _ _ _ _ _ _) ?_) | (with_reducible refine Stuck.h (A := DrawG _ _ _ _ _ _ _ _) ?_)
  | (with_reducible refine Stuck.h (A := WrapG _ _ _) ?_) | (with_reducible refine Stuck.h (A := DivG _ _ _ _) ?_) | (with_reducible refine Stuck.h (A := ModG _ _ _) ?_) | (with_reducible refine Stuck.h (A := ShlG _ _ _ _) ?_) | (with_reducible refine Stuck.h (A := ShrG _ _ _ _) ?_) | (with_reducible refine Stuck.h (A := BitG _ _ _ _ _) ?_)
  | (with_reducible refine Stuck.h (A := IdxG _ _ _) ?_) | (with_reducible refine Stuck.h (A := IdxL _ _ _) ?_) | (with_reducible refine Stuck.h (A := SlcG _ _ _ _ _) ?_) | (with_reducible refine Stuck.h (A := MakG _ _ _ _) ?_) | (with_reducible refine Stuck.h (A := AppG _ _ _ _ _ _ _) ?_) | (with_reducible refine Stuck.h (A := FzG _ _ _ _) ?_)
  | (with_reducible refine Stuck.h (A := RawG _) ?_) | (with_reducible refine Stuck.h (A := TabG _ _ _ _ _) ?_) | (with_reducible refine Stuck.h (A := ExtF _ _ _ _) ?_) | (with_reducible refine Stuck.h (A := Chk _ _) ?_) | (with_reducible refine Stuck.h (A := False) ?_))
  exact ⟨ret_e rfl⟩
end Go.Proofs.YtbeocnjlepcglaaGreatDoor.Sim
namespace Go.Proofs.YtbeocnjlepcglaaGreatDoor.Sim
open Go.RowKit
set_option linter.unusedVariables false
set_option linter.unusedSimpArgs false
/-- n * 2^e, in parts of 2^-1048576. -/
def VV (n e : Int) : Int := n * 2 ^ (e + 1048576).toNat
theorem p2_pos (k : Nat) : (0 : Int) < 2 ^ k := Int.pow_pos (by decide)
theorem VV_low {n e k : Int} (h : -1048576 ≤ k) (hk : k ≤ e) : VV n e = VV (n * 2 ^ (e - k).toNat) k := by
  unfold VV
  rw [Int.mul_assoc, ← Int.pow_add, show (e - k).toNat + (k + 1048576).toNat = (e + 1048576).toNat by omega]
theorem VV_inj {a b k : Int} (h : VV a k = VV b k) : a = b := by
  unfold VV at h
  exact Int.eq_of_mul_eq_mul_right (by have := p2_pos (k + 1048576).toNat; omega) h
theorem VV_zero (k : Int) : VV 0 k = 0 := by unfold VV; exact Int.zero_mul _
theorem low_exp {s k z w : Int} (hk : -1048576 ≤ k) (g : Good z w) (h0 : z ≠ 0) (h : VV z w = VV s k) : k ≤ w ∧ s = z * 2 ^ (w - k).toNat := by
  have h1 : k ≤ w := by
    rcases Int.lt_or_le w k with h2 | h2
    · exfalso
      rw [VV_low (n := s) g.2.1 (by omega)] at h
      have h3 := VV_inj h
      rw [show (k - w).toNat = (k - w).toNat - 1 + 1 by omega, Int.pow_succ, ← Int.mul_assoc] at h3
      have := g.2.2.2.2 h0
      omega
    · exact h2
  rw [VV_low hk h1] at h
  exact ⟨h1, (VV_inj h).symm⟩
theorem told_eq {s k z w : Int} (hk : -1048576 ≤ k) (g : Good z w) (h : VV z w = VV s k) : toldS s k = dyR z w := by
  by_cases h0 : z = 0
  · subst h0
    rw [VV_zero, ← VV_zero k] at h
    rw [← VV_inj h, g.2.2.2.1 rfl]
    rfl
  · obtain ⟨h1, h2⟩ := low_exp hk g h0 h
    have ho := g.2.2.2.2 h0
    have ha : s.natAbs = z.natAbs * 2 ^ (w - k).toNat := by rw [h2, Int.natAbs_mul, Int.natAbs_pow]; rfl
    have ht : tz s.natAbs = (w - k).toNat := tz_eq ha (by omega)
    have hs0 : s ≠ 0 := by
      intro h3
      rw [h3] at ha
      have : z.natAbs * 2 ^ (w - k).toNat ≠ 0 := Nat.mul_ne_zero (by omega) (Nat.pos_iff_ne_zero.1 (Nat.pow_pos (by decide)))
      omega
    have hq : s.natAbs / 2 ^ (w - k).toNat = z.natAbs := by rw [ha]; exact Nat.mul_div_cancel _ (Nat.pow_pos (by decide))
    have hd : s / 2 ^ (w - k).toNat = z := by rw [h2]; exact Int.mul_ediv_cancel _ (by have := p2_pos (w - k).toNat; omega)
    have hl := L32_L64 z.natAbs
    have g1 := g.1
    have g2 := g.2.1
    have g3 := g.2.2.1
    unfold toldS
    rw [if_neg hs0, ht, hq, hd, if_neg (by omega), if_neg (by omega), if_neg (by omega), if_neg (by omega), if_neg (by omega), show k + (((w - k).toNat : Nat) : Int) = w by omega]
end Go.Proofs.YtbeocnjlepcglaaGreatDoor.Sim
namespace Go.Proofs.YtbeocnjlepcglaaGreatDoor.Sim
open Go.RowKit
set_option linter.unusedVariables false
set_option linter.unusedSimpArgs false
theorem Good.one {k : Int} (h1 : -1048576 ≤ k) (h2 : k ≤ 1048576) : Good 1 k := ⟨Nat.le_trans (L64_le (n := 1) (by decide)) (by decide), h1, h2, fun h => by omega, fun _ => rfl⟩
end Go.Proofs.YtbeocnjlepcglaaGreatDoor.Sim
