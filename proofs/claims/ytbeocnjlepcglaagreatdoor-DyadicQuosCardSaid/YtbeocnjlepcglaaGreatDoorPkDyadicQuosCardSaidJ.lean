/-
  What the statement DyadicQuosCardSaid leans on, part 10: the logic of walks, digits, contracts of the functions, the plain law. Conditions stand in each theorem.
-/
import Derived.Test.YtbeocnjlepcglaaGreatDoorPkDyadicQuosCardSaidI
namespace Go.Proofs.YtbeocnjlepcglaaGreatDoor.Sim
open Go.RowKit
set_option linter.unusedVariables false
set_option linter.unusedSimpArgs false
set_option maxRecDepth 10000
set_option maxHeartbeats 8000000
variable {G : List (Nat × List Value)}
def moreB (up b s : Bool) : Bool := match up with
  | true => !b && s
  | false => b && s
def wayV (up : Bool) : Int := match up with
  | true => 1
  | false => 0
theorem n_more (up b o s : Bool) (h : Int) : FC Tryz.prog G 174 [.val (.int .i64 (wayV up)), .val (.bool b), .val (.bool o), .val (.bool s), .val (.int .i64 h)] (· = .val (.bool (moreB up b s))) := by
  cases up <;> cases b
  all_goals
    refine FC.intro (X := XX) tok Tryz.func174 rfl Tryz.ntmps174 (by rw [Tryz.results174]) (by kernel_rfl) rfl ?_; intro F hG hO
    repeat' ((try (conv => whnf)); first
  
  | (with_reducible refine Chk.mk' (by first | omega | exact trivial | (simp only [List.length_append, List.length_set, List.length_replicate, List.length_take, List.length_drop, List.length_cons, List.length_nil, List.length_map]; omega)) ?_)
  | (with_reducible refine wrap_g (by dsimp only [inR]; omega) ?_)
  | (with_reducible refine idx_g (by omega) ?_)
  | (with_reducible refine idx_l _ rfl (by decide) ?_)
  | (with_reducible refine BothG.mk ?_ ?_)
  | (with_reducible refine fork_tt ?_) | (with_reducible refine fork_ff ?_)
  | (with_reducible refine fork_e (c := true) (by decide) ?_; with_reducible refine fork_tt ?_) | (with_reducible refine fork_e (c := false) (by decide) ?_; with_reducible refine fork_ff ?_)
  | (with_reducible refine fork_t (by omega) ?_) | (with_reducible refine fork_f (by omega) ?_)
  | (with_reducible refine fork_d ?_ ?_ <;> intro hc)
  | (with_reducible refine fork_n ?_)
  | (with_reducible refine fork_b ?_ ?_ <;> intro hc)
  | (with_reducible refine SlcG.mk (by omega) ?_)
  | (with_reducible refine MakG.mk (by dsimp only; omega) ?_)
  | (with_reducible refine AppG.mk (by first | omega | (simp only [List.length_append, List.length_set, List.length_replicate, List.length_take, List.length_drop, List.length_cons, List.length_nil, List.length_map]; omega)) (by dsimp only [List.length_cons, List.length_nil]; omega) (by omega) ?_)
  | (with_reducible refine div_g (by omega) (by omega) (by dsimp only [inR]; omega) ?_)
  | (with_reducible refine mod_g (by omega) (by omega) ?_)
  | (with_reducible refine mask_g (m := 4294967296) 32 rfl rfl (by decide) (by omega) ?_)
  | (with_reducible refine shr_g (m := 4294967296) 32 rfl (by decide) (by omega) rfl ?_)
  | (with_reducible refine fz_all (by omega) ?_)
  | (with_reducible refine Stuck.h (A := RetE _ _) ?_) | (with_reducible refine Stuck.h (A := RetM _ _ _ _) ?_) | (with_reducible refine Stuck.h (A := Again _ _ _ _ _ _ _ _) ?_) | (with_reducible refine Stuck.h (A := CallF _ _ _ _ _ _ _) ?_) | (with_reducible refine Stuck.h (A := LoopG _ _ _ _ _ _ _ _) ?_) | (with_reducible refine Stuck.h (A := DrawG _ _ _ _ _ _ _ _) ?_)
  | (with_reducible refine Stuck.h (A := WrapG _ _ _) ?_) | (with_reducible refine Stuck.h (A := DivG _ _ _ _) ?_) | (with_reducible refine Stuck.h (A := ModG _ _ _) ?_) | (with_reducible refine Stuck.h (A := ShlG _ _ _ _) ?_) | (with_reducible refine Stuck.h (A := ShrG _ _ _ _) ?_) | (with_reducible refine Stuck.h (A := BitG _ _ _ _ _) ?_)
  | (with_reducible refine Stuck.h (A := IdxG _ _ _) ?_) | (with_reducible refine Stuck.h (A := IdxL _ _ _) ?_) | (with_reducible refine Stuck.h (A := SlcG _ _ _ _ _) ?_) | (with_reducible refine Stuck.h (A := MakG _ _ _ _) ?_) | (with_reducible refine Stuck.h (A := AppG _ _ _ _ _ _ _) ?_) | (with_reducible refine Stuck.h (A := FzG _ _ _ _) ?_)
  | (with_reducible refine Stuck.h (A := RawG _) ?_) | (with_reducible refine Stuck.h (A := TabG _ _ _ _ _) ?_) | (with_reducible refine Stuck.h (A := ExtF _ _ _ _) ?_) | (with_reducible refine Stuck.h (A := Chk _ _) ?_) | (with_reducible refine Stuck.h (A := False) ?_))
    exact ⟨ret_e rfl⟩
theorem n_made (up b : Bool) (Q : Nat) (s : Bool) (h : Int) (hQ : L64 Q ≤ 8192) (hQ1 : s = true → L64 (Q + 1) ≤ 8192) : FC Tryz.prog G 166 [.val (.int .i64 (wayV up)), .val (.bool b), .ws .u64 (d64 Q), .val (.bool s), .val (.int .i64 h)] (· = numR (sg b (if moreB up b s = true then Q + 1 else Q))) := by
  have f1 := n_bit (G := G) Q 0 (by omega) (by dsimp only [inR]; omega)
  obtain ⟨o, ho⟩ : ∃ o, o = decide (0 ≤ (0 : Int) ∧ Q / 2 ^ (Int.toNat 0) % 2 = 1) := ⟨_, rfl⟩
  rw [← ho] at f1
  clear ho
  have f2 := n_more (G := G) up b o s h
  have f3 := n_word (G := G) 1 (by decide)
  have f4 := n_ntold (G := G) b Q
  obtain ⟨r, hr⟩ : ∃ r, r = moreB up b s := ⟨_, rfl⟩
  rw [← hr] at f2 ⊢
  have hrs : r = true → s = true := fun h => by rw [h] at hr; cases up <;> cases b <;> cases s <;> first | rfl | exact absurd hr (by decide)
  cases r
  · rw [if_neg (by decide)]
    clear hQ1 hrs hr
    refine FC.intro (X := XX) tok Tryz.func166 rfl Tryz.ntmps166 (by rw [Tryz.results166]) (by kernel_rfl) rfl ?_; intro F hG hO
    rw [← hG] at f1 f2 f3 f4
    repeat' ((try (conv => whnf)); first
  | ((with_reducible refine cg ?_); refine call_eq (f1) (LpL.refl _) rfl ?_)
  | ((with_reducible refine cg ?_); refine call_eq (f2) (LpL.refl _) rfl ?_)
  | ((with_reducible refine cg ?_); refine call_eq (f4) (LpL.refl _) rfl ?_)
  
  | (with_reducible refine Chk.mk' (by first | omega | exact trivial | (simp only [List.length_append, List.length_set, List.length_replicate, List.length_take, List.length_drop, List.length_cons, List.length_nil, List.length_map]; omega)) ?_)
  | (with_reducible refine wrap_g (by dsimp only [inR]; omega) ?_)
  | (with_reducible refine idx_g (by omega) ?_)
  | (with_reducible refine idx_l _ rfl (by decide) ?_)
  | (with_reducible refine BothG.mk ?_ ?_)
  | (with_reducible refine fork_tt ?_) | (with_reducible refine fork_ff ?_)
  | (with_reducible refine fork_e (c := true) (by decide) ?_; with_reducible refine fork_tt ?_) | (with_reducible refine fork_e (c := false) (by decide) ?_; with_reducible refine fork_ff ?_)
  | (with_reducible refine fork_t (by omega) ?_) | (with_reducible refine fork_f (by omega) ?_)
  | (with_reducible refine fork_d ?_ ?_ <;> intro hc)
  | (with_reducible refine fork_n ?_)
  | (with_reducible refine fork_b ?_ ?_ <;> intro hc)
  | (with_reducible refine SlcG.mk (by omega) ?_)
  | (with_reducible refine MakG.mk (by dsimp only; omega) ?_)
  | (with_reducible refine AppG.mk (by first | omega | (simp only [List.length_append, List.length_set, List.length_replicate, List.length_take, List.length_drop, List.length_cons, List.length_nil, List.length_map]; omega)) (by dsimp only [List.length_cons, List.length_nil]; omega) (by omega) ?_)
  | (with_reducible refine div_g (by omega) (by omega) (by dsimp only [inR]; omega) ?_)
  | (with_reducible refine mod_g (by omega) (by omega) ?_)
  | (with_reducible refine mask_g (m := 4294967296) 32 rfl rfl (by decide) (by omega) ?_)
  | (with_reducible refine shr_g (m := 4294967296) 32 rfl (by decide) (by omega) rfl ?_)
  | (with_reducible refine fz_all (by omega) ?_)
  | (with_reducible refine Stuck.h (A := RetE _ _) ?_) | (with_reducible refine Stuck.h (A := RetM _ _ _ _) ?_) | (with_reducible refine Stuck.h (A := Again _ _ _ _ _ _ _ _) ?_) | (with_reducible refine Stuck.h (A := CallF _ _ _ _ _ _ _) ?_) | (with_reducible refine Stuck.h (A := LoopG _ _ _ _ _ _ _ _) ?_) | (with_reducible refine Stuck.h (A := DrawG _ _ _ _ _ _ _ _) ?_)
  | (with_reducible refine Stuck.h (A := WrapG _ _ _) ?_) | (with_reducible refine Stuck.h (A := DivG _ _ _ _) ?_) | (with_reducible refine Stuck.h (A := ModG _ _ _) ?_) | (with_reducible refine Stuck.h (A := ShlG _ _ _ _) ?_) | (with_reducible refine Stuck.h (A := ShrG _ _ _ _) ?_) | (with_reducible refine Stuck.h (A := BitG _ _ _ _ _) ?_)
  | (with_reducible refine Stuck.h (A := IdxG _ _ _) ?_) | (with_reducible refine Stuck.h (A := IdxL _ _ _) ?_) | (with_reducible refine Stuck.h (A := SlcG _ _ _ _ _) ?_) | (with_reducible refine Stuck.h (A := MakG _ _ _ _) ?_) | (with_reducible refine Stuck.h (A := AppG _ _ _ _ _ _ _) ?_) | (with_reducible refine Stuck.h (A := FzG _ _ _ _) ?_)
  | (with_reducible refine Stuck.h (A := RawG _) ?_) | (with_reducible refine Stuck.h (A := TabG _ _ _ _ _) ?_) | (with_reducible refine Stuck.h (A := ExtF _ _ _ _) ?_) | (with_reducible refine Stuck.h (A := Chk _ _) ?_) | (with_reducible refine Stuck.h (A := False) ?_))
    exact ⟨ret_e rfl⟩
  · rw [if_pos rfl]
    have hq := hQ1 (hrs rfl)
    have l1 : L64 1 ≤ 8192 := Nat.le_trans (L64_le (n := 1) (by decide)) (by decide)
    have f5 := n_add (G := G) Q 1 hQ l1
    rw [natT_ok hq] at f5
    have f6 := n_ntold (G := G) b (Q + 1)
    clear hQ1 hrs hr
    refine FC.intro (X := XX) tok Tryz.func166 rfl Tryz.ntmps166 (by rw [Tryz.results166]) (by kernel_rfl) rfl ?_; intro F hG hO
    rw [← hG] at f1 f2 f3 f5 f6
    repeat' ((try (conv => whnf)); first
  | ((with_reducible refine cg ?_); refine call_eq (f1) (LpL.refl _) rfl ?_)
  | ((with_reducible refine cg ?_); refine call_eq (f2) (LpL.refl _) rfl ?_)
  | ((with_reducible refine cg ?_); refine call_eq (f3) (LpL.refl _) rfl ?_)
  | ((with_reducible refine cg ?_); refine call_eq (f5) (LpL.refl _) rfl ?_)
  | ((with_reducible refine cg ?_); refine call_eq (f6) (LpL.refl _) rfl ?_)
  
  | (with_reducible refine Chk.mk' (by first | omega | exact trivial | (simp only [List.length_append, List.length_set, List.length_replicate, List.length_take, List.length_drop, List.length_cons, List.length_nil, List.length_map]; omega)) ?_)
  | (with_reducible refine wrap_g (by dsimp only [inR]; omega) ?_)
  | (with_reducible refine idx_g (by omega) ?_)
  | (with_reducible refine idx_l _ rfl (by decide) ?_)
  | (with_reducible refine BothG.mk ?_ ?_)
  | (with_reducible refine fork_tt ?_) | (with_reducible refine fork_ff ?_)
  | (with_reducible refine fork_e (c := true) (by decide) ?_; with_reducible refine fork_tt ?_) | (with_reducible refine fork_e (c := false) (by decide) ?_; with_reducible refine fork_ff ?_)
  | (with_reducible refine fork_t (by omega) ?_) | (with_reducible refine fork_f (by omega) ?_)
  | (with_reducible refine fork_d ?_ ?_ <;> intro hc)
  | (with_reducible refine fork_n ?_)
  | (with_reducible refine fork_b ?_ ?_ <;> intro hc)
  | (with_reducible refine SlcG.mk (by omega) ?_)
  | (with_reducible refine MakG.mk (by dsimp only; omega) ?_)
  | (with_reducible refine AppG.mk (by first | omega | (simp only [List.length_append, List.length_set, List.length_replicate, List.length_take, List.length_drop, List.length_cons, List.length_nil, List.length_map]; omega)) (by dsimp only [List.length_cons, List.length_nil]; omega) (by omega) ?_)
  | (with_reducible refine div_g (by omega) (by omega) (by dsimp only [inR]; omega) ?_)
  | (with_reducible refine mod_g (by omega) (by omega) ?_)
  | (with_reducible refine mask_g (m := 4294967296) 32 rfl rfl (by decide) (by omega) ?_)
  | (with_reducible refine shr_g (m := 4294967296) 32 rfl (by decide) (by omega) rfl ?_)
  | (with_reducible refine fz_all (by omega) ?_)
  | (with_reducible refine Stuck.h (A := RetE _ _) ?_) | (with_reducible refine Stuck.h (A := RetM _ _ _ _) ?_) | (with_reducible refine Stuck.h (A := Again _ _ _ _ _ _ _ _) ?_) | (with_reducible refine Stuck.h (A := CallF _ _ _ _ _ _ _) ?_) | (with_reducible refine Stuck.h (A := LoopG _ _ _ _ _ _ _ _) ?_) | (with_reducible refine Stuck.h (A := DrawG _ _ _ _ _ _ _ _) ?_)
  | (with_reducible refine Stuck.h (A := WrapG _ _ _) ?_) | (with_reducible refine Stuck.h (A := DivG _ _ _ _) ?_) | (with_reducible refine Stuck.h (A := ModG _ _ _) ?_) | (with_reducible refine Stuck.h (A := ShlG _ _ _ _) ?_) | (with_reducible refine Stuck.h (A := ShrG _ _ _ _) ?_) | (with_reducible refine Stuck.h (A := BitG _ _ _ _ _) ?_)
  | (with_reducible refine Stuck.h (A := IdxG _ _ _) ?_) | (with_reducible refine Stuck.h (A := IdxL _ _ _) ?_) | (with_reducible refine Stuck.h (A := SlcG _ _ _ _ _) ?_) | (with_reducible refine Stuck.h (A := MakG _ _ _ _) ?_) | (with_reducible refine Stuck.h (A := AppG _ _ _ _ _ _ _) ?_) | (with_reducible refine Stuck.h (A := FzG _ _ _ _) ?_)
  | (with_reducible refine Stuck.h (A := RawG _) ?_) | (with_reducible refine Stuck.h (A := TabG _ _ _ _ _) ?_) | (with_reducible refine Stuck.h (A := ExtF _ _ _ _) ?_) | (with_reducible refine Stuck.h (A := Chk _ _) ?_) | (with_reducible refine Stuck.h (A := False) ?_))
    exact ⟨ret_e rfl⟩
theorem tz_lt_iff {X k : Nat} (h : X ≠ 0) : tz X < k ↔ X % 2 ^ k ≠ 0 := by
  obtain ⟨m, h1, h2⟩ := tz_ok h
  obtain ⟨t, ht⟩ : ∃ t, t = tz X := ⟨_, rfl⟩
  rw [← ht] at h1 ⊢
  constructor
  · intro hlt h0
    obtain ⟨j, hj⟩ : ∃ j, k = t + (j + 1) := ⟨k - t - 1, by omega⟩
    have hd : 2 ^ k ∣ X := Nat.dvd_of_mod_eq_zero h0
    obtain ⟨q, hq⟩ := hd
    rw [hj, Nat.pow_add, h1] at hq
    have h3 : m = 2 ^ (j + 1) * q := by
      have h4 : m * 2 ^ t = 2 ^ (j + 1) * q * 2 ^ t := by rw [hq, Nat.mul_assoc, Nat.mul_comm]
      exact Nat.eq_of_mul_eq_mul_right (Nat.pow_pos (by decide)) h4
    rw [Nat.pow_succ] at h3
    have : m % 2 = 0 := by rw [h3, Nat.mul_right_comm, Nat.mul_mod_left]
    omega
  · intro hne
    rcases Nat.lt_or_ge t k with h3 | h3
    · exact h3
    · exfalso
      apply hne
      rw [h1, show t = (t - k) + k by omega, Nat.pow_add, ← Nat.mul_assoc, Nat.mul_mod_left]
theorem shr_way (up : Bool) (n : Int) (k : Nat) (s : Bool) (hs : s = decide (n.natAbs % 2 ^ k ≠ 0)) : sg (decide (n < 0)) (if moreB up (decide (n < 0)) s = true then n.natAbs / 2 ^ k + 1 else n.natAbs / 2 ^ k) = wholeS n (k : Int) up := by
  unfold wholeS
  rw [Int.toNat_natCast]
  have hP0 : 0 < 2 ^ k := Nat.pow_pos (by decide)
  have hPi : (2 : Int) ^ k = ((2 ^ k : Nat) : Int) := by simp
  obtain ⟨d1, d2⟩ := nat_dm n.natAbs (2 ^ k) hP0
  rw [hPi]
  obtain ⟨P, hP⟩ : ∃ P, P = 2 ^ k := ⟨_, rfl⟩
  rw [← hP] at hs hP0 d1 d2 ⊢
  obtain ⟨q, hq⟩ : ∃ q, q = n.natAbs / P := ⟨_, rfl⟩
  obtain ⟨r, hr⟩ : ∃ r, r = n.natAbs % P := ⟨_, rfl⟩
  rw [← hq] at d1 ⊢
  rw [← hr] at d1 d2 hs
  by_cases hn : n < 0 <;> by_cases h0 : r = 0
  · rw [decide_eq_true hn]
    rw [decide_eq_false (by omega)] at hs
    subst hs
    cases up
    · exact (div_of (a := n) (b := (P : Int)) (q := -(q : Int)) (r := r) (by omega) (by rw [Int.mul_neg]; omega) (by omega) (by omega)).1.symm
    · show -(q : Int) = -((-n) / (P : Int))
      rw [(div_of (a := -n) (b := (P : Int)) (q := (q : Int)) (r := r) (by omega) (by omega) (by omega) (by omega)).1]
  · rw [decide_eq_true hn]
    rw [decide_eq_true (by omega)] at hs
    subst hs
    cases up
    · exact (div_of (a := n) (b := (P : Int)) (q := -((q + 1 : Nat) : Int)) (r := (P : Int) - r) (by omega) (by rw [Int.mul_neg, Int.natCast_add, Int.mul_add]; omega) (by omega) (by omega)).1.symm
    · show -(q : Int) = -((-n) / (P : Int))
      rw [(div_of (a := -n) (b := (P : Int)) (q := (q : Int)) (r := r) (by omega) (by omega) (by omega) (by omega)).1]
  · rw [decide_eq_false hn]
    rw [decide_eq_false (by omega)] at hs
    subst hs
    cases up
    · exact (div_of (a := n) (b := (P : Int)) (q := (q : Int)) (r := r) (by omega) (by omega) (by omega) (by omega)).1.symm
    · show (q : Int) = -((-n) / (P : Int))
      rw [(div_of (a := -n) (b := (P : Int)) (q := -(q : Int)) (r := r) (by omega) (by rw [Int.mul_neg]; omega) (by omega) (by omega)).1, Int.neg_neg]
  · rw [decide_eq_false hn]
    rw [decide_eq_true (by omega)] at hs
    subst hs
    cases up
    · exact (div_of (a := n) (b := (P : Int)) (q := (q : Int)) (r := r) (by omega) (by omega) (by omega) (by omega)).1.symm
    · show ((q + 1 : Nat) : Int) = -((-n) / (P : Int))
      rw [(div_of (a := -n) (b := (P : Int)) (q := -((q + 1 : Nat) : Int)) (r := (P : Int) - r) (by omega) (by rw [Int.mul_neg, Int.natCast_add, Int.mul_add]; omega) (by omega) (by omega)).1, Int.neg_neg]
end Go.Proofs.YtbeocnjlepcglaaGreatDoor.Sim
namespace Go.Proofs.YtbeocnjlepcglaaGreatDoor.Sim
open Go.RowKit
set_option linter.unusedVariables false
set_option linter.unusedSimpArgs false
set_option maxRecDepth 10000
set_option maxHeartbeats 8000000
variable {G : List (Nat × List Value)}
theorem shr_one {X k : Nat} (h0 : X ≠ 0) (hk : tz X < k) : X / 2 ^ k + 1 ≤ X := by
  have h1 : 2 ^ 1 ≤ 2 ^ k := Nat.pow_le_pow_right (by decide) (by omega)
  have h2 : X / 2 ^ k ≤ X / 2 ^ 1 := Nat.div_le_div_left h1 (by decide)
  rw [Nat.pow_one] at h2
  omega
theorem n_wshr {g : List (Nat × List Value)} (hD : (0, debT.map (Value.int .u8)) ∈ g) (up : Bool) (n k : Int) (h : L64 n.natAbs ≤ 8192) (hk : inR .i64 k) (hk0 : 0 ≤ k) : FC Tryz.prog g 152 [.val (.int .i64 (wayV up)), NI n, .val (.int .i64 k)] (· = numR (wholeS n k up)) := by
  have hk1 := hk
  dsimp only [inR] at hk
  have hp := len64_pos n.natAbs
  have f0 := n_nform (G := g) n h
  have f1 := n_shr (G := g) n.natAbs k h hk1
  rw [shrT_ok (by omega)] at f1
  have f2 := n_trail hD n.natAbs (by omega)
  have f3 := n_bit (G := g) n.natAbs (k - 1) (by omega) (by dsimp only [inR]; omega)
  have hQ : L64 (n.natAbs / 2 ^ k.toNat) ≤ 8192 := Nat.le_trans (lenB_mono (by decide) (Nat.div_le_self _ _)) h
  have hw0 : Unit → n.natAbs = 0 → sg (decide (n < 0)) (if moreB up (decide (n < 0)) false = true then n.natAbs / 2 ^ k.toNat + 1 else n.natAbs / 2 ^ k.toNat) = wholeS n ((k.toNat : Nat) : Int) up := fun _ h0 => shr_way up n k.toNat false (decide_eq_false (by rw [h0]; simp)).symm
  have hw1 : Unit → n.natAbs ≠ 0 → sg (decide (n < 0)) (if moreB up (decide (n < 0)) (decide ((tz n.natAbs : Int) < k)) = true then n.natAbs / 2 ^ k.toNat + 1 else n.natAbs / 2 ^ k.toNat) = wholeS n ((k.toNat : Nat) : Int) up := fun _ h0 => shr_way up n k.toNat (decide ((tz n.natAbs : Int) < k)) (decide_eq_decide.2 (by rw [← tz_lt_iff h0]; omega))
  rw [show ((k.toNat : Nat) : Int) = k by omega] at hw0 hw1
  have f4 := fun b s c hs => n_made (G := g) up b (n.natAbs / 2 ^ k.toNat) s c hQ hs
  have hs1 : Unit → n.natAbs ≠ 0 → decide ((tz n.natAbs : Int) < k) = true → L64 (n.natAbs / 2 ^ k.toNat + 1) ≤ 8192 := fun _ h0 hd => Nat.le_trans (lenB_mono (by decide) (shr_one h0 (by have := of_decide_eq_true hd; omega))) h
  have hbo : PV.val (.int .i64 (wayV up)) = PV.val (.int .i64 (wayV up)) := rfl
  obtain ⟨w, hw⟩ : ∃ w, w = wayV up := ⟨_, rfl⟩
  rw [← hw] at f4 ⊢
  refine FC.intro (X := XX) tok Tryz.func152 rfl Tryz.ntmps152 (by rw [Tryz.results152]) (by kernel_rfl) rfl ?_; intro F hG hO
  rw [← hG] at f0 f1 f2 f3 f4
  repeat' ((try (conv => whnf)); first
  | ((with_reducible refine cg ?_); refine call_eq (f0) (LpL.refl _) rfl ?_)
  | ((with_reducible refine cg ?_); refine call_eq (f1) (LpL.refl _) rfl ?_)
  | ((with_reducible refine cg ?_); refine call_eq (f2) (LpL.refl _) rfl ?_)
  | ((with_reducible refine cg ?_); refine call_eq (f3) (LpL.refl _) rfl ?_)
  | ((with_reducible refine cg ?_); refine call_eq (f4 _ _ _ (by first | exact hs1 () (by omega) | (intro hx; cases hx))) (LpL.refl _) rfl ?_)
  
  | (with_reducible refine Chk.mk' (by first | omega | exact trivial | (simp only [List.length_append, List.length_set, List.length_replicate, List.length_take, List.length_drop, List.length_cons, List.length_nil, List.length_map]; omega)) ?_)
  | (with_reducible refine wrap_g (by dsimp only [inR]; omega) ?_)
  | (with_reducible refine idx_g (by omega) ?_)
  | (with_reducible refine idx_l _ rfl (by decide) ?_)
  | (with_reducible refine BothG.mk ?_ ?_)
  | (with_reducible refine fork_tt ?_) | (with_reducible refine fork_ff ?_)
  | (with_reducible refine fork_e (c := true) (by decide) ?_; with_reducible refine fork_tt ?_) | (with_reducible refine fork_e (c := false) (by decide) ?_; with_reducible refine fork_ff ?_)
  | (with_reducible refine fork_t (by omega) ?_) | (with_reducible refine fork_f (by omega) ?_)
  | (with_reducible refine fork_d ?_ ?_ <;> intro hc)
  | (with_reducible refine fork_n ?_)
  | (with_reducible refine fork_b ?_ ?_ <;> intro hc)
  | (with_reducible refine SlcG.mk (by omega) ?_)
  | (with_reducible refine MakG.mk (by dsimp only; omega) ?_)
  | (with_reducible refine AppG.mk (by first | omega | (simp only [List.length_append, List.length_set, List.length_replicate, List.length_take, List.length_drop, List.length_cons, List.length_nil, List.length_map]; omega)) (by dsimp only [List.length_cons, List.length_nil]; omega) (by omega) ?_)
  | (with_reducible refine div_g (by omega) (by omega) (by dsimp only [inR]; omega) ?_)
  | (with_reducible refine mod_g (by omega) (by omega) ?_)
  | (with_reducible refine mask_g (m := 4294967296) 32 rfl rfl (by decide) (by omega) ?_)
  | (with_reducible refine shr_g (m := 4294967296) 32 rfl (by decide) (by omega) rfl ?_)
  | (with_reducible refine fz_all (by omega) ?_)
  | (with_reducible refine Stuck.h (A := RetE _ _) ?_) | (with_reducible refine Stuck.h (A := RetM _ _ _ _) ?_) | (with_reducible refine Stuck.h (A := Again _ _ _ _ _ _ _ _) ?_) | (with_reducible refine Stuck.h (A := CallF _ _ _ _ _ _ _) ?_) | (with_reducible refine Stuck.h (A := LoopG _ _ _ _ _ _ _ _) ?_) | (with_reducible refine Stuck.h (A := DrawG _ _ _ _ _ _ _ _) ?_)
  | (with_reducible refine Stuck.h (A := WrapG _ _ _) ?_) | (with_reducible refine Stuck.h (A := DivG _ _ _ _) ?_) | (with_reducible refine Stuck.h (A := ModG _ _ _) ?_) | (with_reducible refine Stuck.h (A := ShlG _ _ _ _) ?_) | (with_reducible refine Stuck.h (A := ShrG _ _ _ _) ?_) | (with_reducible refine Stuck.h (A := BitG _ _ _ _ _) ?_)
  | (with_reducible refine Stuck.h (A := IdxG _ _ _) ?_) | (with_reducible refine Stuck.h (A := IdxL _ _ _) ?_) | (with_reducible refine Stuck.h (A := SlcG _ _ _ _ _) ?_) | (with_reducible refine Stuck.h (A := MakG _ _ _ _) ?_) | (with_reducible refine Stuck.h (A := AppG _ _ _ _ _ _ _) ?_) | (with_reducible refine Stuck.h (A := FzG _ _ _ _) ?_)
  | (with_reducible refine Stuck.h (A := RawG _) ?_) | (with_reducible refine Stuck.h (A := TabG _ _ _ _ _) ?_) | (with_reducible refine Stuck.h (A := ExtF _ _ _ _) ?_) | (with_reducible refine Stuck.h (A := Chk _ _) ?_) | (with_reducible refine Stuck.h (A := False) ?_))
  all_goals first
    | exact ⟨ret_e (numR_eq (hw1 () (by omega)))⟩
    | exact ⟨ret_e (numR_eq (hw0 () (by omega)))⟩
theorem n_floorshr {g : List (Nat × List Value)} (hD : (0, debT.map (Value.int .u8)) ∈ g) (n k : Int) (h : L64 n.natAbs ≤ 8192) (hk : inR .i64 k) (hk0 : 0 ≤ k) : FC Tryz.prog g 129 [NI n, .val (.int .i64 k)] (· = numR (wholeS n k false)) := by
  have f1 := n_wshr hD false n k h hk hk0
  refine FC.intro (X := XX) tok Tryz.func129 rfl Tryz.ntmps129 (by rw [Tryz.results129]) (by kernel_rfl) rfl ?_; intro F hG hO
  rw [← hG] at f1
  repeat' ((try (conv => whnf)); first
  | ((with_reducible refine cg ?_); refine call_eq (f1) (LpL.refl _) rfl ?_)
  
  | (with_reducible refine Chk.mk' (by first | omega | exact trivial | (simp only [List.length_append, List.length_set, List.length_replicate, List.length_take, List.length_drop, List.length_cons, List.length_nil, List.length_map]; omega)) ?_)
  | (with_reducible refine wrap_g (by dsimp only [inR]; omega) ?_)
  | (with_reducible refine idx_g (by omega) ?_)
  | (with_reducible refine idx_l _ rfl (by decide) ?_)
  | (with_reducible refine BothG.mk ?_ ?_)
  | (with_reducible refine fork_tt ?_) | (with_reducible refine fork_ff ?_)
  | (with_reducible refine fork_e (c := true) (by decide) ?_; with_reducible refine fork_tt ?_) | (with_reducible refine fork_e (c := false) (by decide) ?_; with_reducible refine fork_ff ?_)
  | (with_reducible refine fork_t (by omega) ?_) | (with_reducible refine fork_f (by omega) ?_)
  | (with_reducible refine fork_d ?_ ?_ <;> intro hc)
  | (with_reducible refine fork_n ?_)
  | (with_reducible refine fork_b ?_ ?_ <;> intro hc)
  | (with_reducible refine SlcG.mk (by omega) ?_)
  | (with_reducible refine MakG.mk (by dsimp only; omega) ?_)
  | (with_reducible refine AppG.mk (by first | omega | (simp only [List.length_append, List.length_set, List.length_replicate, List.length_take, List.length_drop, List.length_cons, List.length_nil, List.length_map]; omega)) (by dsimp only [List.length_cons, List.length_nil]; omega) (by omega) ?_)
  | (with_reducible refine div_g (by omega) (by omega) (by dsimp only [inR]; omega) ?_)
  | (with_reducible refine mod_g (by omega) (by omega) ?_)
  | (with_reducible refine mask_g (m := 4294967296) 32 rfl rfl (by decide) (by omega) ?_)
  | (with_reducible refine shr_g (m := 4294967296) 32 rfl (by decide) (by omega) rfl ?_)
  | (with_reducible refine fz_all (by omega) ?_)
  | (with_reducible refine Stuck.h (A := RetE _ _) ?_) | (with_reducible refine Stuck.h (A := RetM _ _ _ _) ?_) | (with_reducible refine Stuck.h (A := Again _ _ _ _ _ _ _ _) ?_) | (with_reducible refine Stuck.h (A := CallF _ _ _ _ _ _ _) ?_) | (with_reducible refine Stuck.h (A := LoopG _ _ _ _ _ _ _ _) ?_) | (with_reducible refine Stuck.h (A := DrawG _ _ _ _ _ _ _ _) ?_)
  | (with_reducible refine Stuck.h (A := WrapG _ _ _) ?_) | (with_reducible refine Stuck.h (A := DivG _ _ _ _) ?_) | (with_reducible refine Stuck.h (A := ModG _ _ _) ?_) | (with_reducible refine Stuck.h (A := ShlG _ _ _ _) ?_) | (with_reducible refine Stuck.h (A := ShrG _ _ _ _) ?_) | (with_reducible refine Stuck.h (A := BitG _ _ _ _ _) ?_)
  | (with_reducible refine Stuck.h (A := IdxG _ _ _) ?_) | (with_reducible refine Stuck.h (A := IdxL _ _ _) ?_) | (with_reducible refine Stuck.h (A := SlcG _ _ _ _ _) ?_) | (with_reducible refine Stuck.h (A := MakG _ _ _ _) ?_) | (with_reducible refine Stuck.h (A := AppG _ _ _ _ _ _ _) ?_) | (with_reducible refine Stuck.h (A := FzG _ _ _ _) ?_)
  | (with_reducible refine Stuck.h (A := RawG _) ?_) | (with_reducible refine Stuck.h (A := TabG _ _ _ _ _) ?_) | (with_reducible refine Stuck.h (A := ExtF _ _ _ _) ?_) | (with_reducible refine Stuck.h (A := Chk _ _) ?_) | (with_reducible refine Stuck.h (A := False) ?_))
  exact ⟨ret_e rfl⟩
theorem n_ceilshr {g : List (Nat × List Value)} (hD : (0, debT.map (Value.int .u8)) ∈ g) (n k : Int) (h : L64 n.natAbs ≤ 8192) (hk : inR .i64 k) (hk0 : 0 ≤ k) : FC Tryz.prog g 128 [NI n, .val (.int .i64 k)] (· = numR (wholeS n k true)) := by
  have f1 := n_wshr hD true n k h hk hk0
  refine FC.intro (X := XX) tok Tryz.func128 rfl Tryz.ntmps128 (by rw [Tryz.results128]) (by kernel_rfl) rfl ?_; intro F hG hO
  rw [← hG] at f1
  repeat' ((try (conv => whnf)); first
  | ((with_reducible refine cg ?_); refine call_eq (f1) (LpL.refl _) rfl ?_)
  
  | (with_reducible refine Chk.mk' (by first | omega | exact trivial | (simp only [List.length_append, List.length_set, List.length_replicate, List.length_take, List.length_drop, List.length_cons, List.length_nil, List.length_map]; omega)) ?_)
  | (with_reducible refine wrap_g (by dsimp only [inR]; omega) ?_)
  | (with_reducible refine idx_g (by omega) ?_)
  | (with_reducible refine idx_l _ rfl (by decide) ?_)
  | (with_reducible refine BothG.mk ?_ ?_)
  | (with_reducible refine fork_tt ?_) | (with_reducible refine fork_ff ?_)
  | (with_reducible refine fork_e (c := true) (by decide) ?_; with_reducible refine fork_tt ?_) | (with_reducible refine fork_e (c := false) (by decide) ?_; with_reducible refine fork_ff ?_)
  | (with_reducible refine fork_t (by omega) ?_) | (with_reducible refine fork_f (by omega) ?_)
  | (with_reducible refine fork_d ?_ ?_ <;> intro hc)
  | (with_reducible refine fork_n ?_)
  | (with_reducible refine fork_b ?_ ?_ <;> intro hc)
  | (with_reducible refine SlcG.mk (by omega) ?_)
  | (with_reducible refine MakG.mk (by dsimp only; omega) ?_)
  | (with_reducible refine AppG.mk (by first | omega | (simp only [List.length_append, List.length_set, List.length_replicate, List.length_take, List.length_drop, List.length_cons, List.length_nil, List.length_map]; omega)) (by dsimp only [List.length_cons, List.length_nil]; omega) (by omega) ?_)
  | (with_reducible refine div_g (by omega) (by omega) (by dsimp only [inR]; omega) ?_)
  | (with_reducible refine mod_g (by omega) (by omega) ?_)
  | (with_reducible refine mask_g (m := 4294967296) 32 rfl rfl (by decide) (by omega) ?_)
  | (with_reducible refine shr_g (m := 4294967296) 32 rfl (by decide) (by omega) rfl ?_)
  | (with_reducible refine fz_all (by omega) ?_)
  | (with_reducible refine Stuck.h (A := RetE _ _) ?_) | (with_reducible refine Stuck.h (A := RetM _ _ _ _) ?_) | (with_reducible refine Stuck.h (A := Again _ _ _ _ _ _ _ _) ?_) | (with_reducible refine Stuck.h (A := CallF _ _ _ _ _ _ _) ?_) | (with_reducible refine Stuck.h (A := LoopG _ _ _ _ _ _ _ _) ?_) | (with_reducible refine Stuck.h (A := DrawG _ _ _ _ _ _ _ _) ?_)
  | (with_reducible refine Stuck.h (A := WrapG _ _ _) ?_) | (with_reducible refine Stuck.h (A := DivG _ _ _ _) ?_) | (with_reducible refine Stuck.h (A := ModG _ _ _) ?_) | (with_reducible refine Stuck.h (A := ShlG _ _ _ _) ?_) | (with_reducible refine Stuck.h (A := ShrG _ _ _ _) ?_) | (with_reducible refine Stuck.h (A := BitG _ _ _ _ _) ?_)
  | (with_reducible refine Stuck.h (A := IdxG _ _ _) ?_) | (with_reducible refine Stuck.h (A := IdxL _ _ _) ?_) | (with_reducible refine Stuck.h (A := SlcG _ _ _ _ _) ?_) | (with_reducible refine Stuck.h (A := MakG _ _ _ _) ?_) | (with_reducible refine Stuck.h (A := AppG _ _ _ _ _ _ _) ?_) | (with_reducible refine Stuck.h (A := FzG _ _ _ _) ?_)
  | (with_reducible refine Stuck.h (A := RawG _) ?_) | (with_reducible refine Stuck.h (A := TabG _ _ _ _ _) ?_) | (with_reducible refine Stuck.h (A := ExtF _ _ _ _) ?_) | (with_reducible refine Stuck.h (A := Chk _ _) ?_) | (with_reducible refine Stuck.h (A := False) ?_))
  exact ⟨ret_e rfl⟩
end Go.Proofs.YtbeocnjlepcglaaGreatDoor.Sim
namespace Go.Proofs.YtbeocnjlepcglaaGreatDoor.Sim
open Go.RowKit
set_option linter.unusedVariables false
set_option linter.unusedSimpArgs false
set_option maxRecDepth 10000
set_option maxHeartbeats 8000000
variable {G : List (Nat × List Value)}
end Go.Proofs.YtbeocnjlepcglaaGreatDoor.Sim
namespace Go.Proofs.YtbeocnjlepcglaaGreatDoor.Sim
open Go.RowKit
set_option linter.unusedVariables false
set_option linter.unusedSimpArgs false
set_option maxRecDepth 10000
set_option maxHeartbeats 8000000
variable {G : List (Nat × List Value)}
theorem y_nought (b : Bool) (l : List Int) (e : Int) : FC Tryz.prog G 43 [Dy b l e] (· = .val (.bool (decide ((l.length : Int) = 0)))) := by
  refine FC.intro (X := XX) tok Tryz.func43 rfl Tryz.ntmps43 (by rw [Tryz.results43]) (by kernel_rfl) rfl ?_; intro F hG hO
  repeat' ((try (conv => whnf)); first
  
  | (with_reducible refine Chk.mk' (by first | omega | exact trivial | (simp only [List.length_append, List.length_set, List.length_replicate, List.length_take, List.length_drop, List.length_cons, List.length_nil, List.length_map]; omega)) ?_)
  | (with_reducible refine wrap_g (by dsimp only [inR]; omega) ?_)
  | (with_reducible refine idx_g (by omega) ?_)
  | (with_reducible refine idx_l _ rfl (by decide) ?_)
  | (with_reducible refine BothG.mk ?_ ?_)
  | (with_reducible refine fork_tt ?_) | (with_reducible refine fork_ff ?_)
  | (with_reducible refine fork_e (c := true) (by decide) ?_; with_reducible refine fork_tt ?_) | (with_reducible refine fork_e (c := false) (by decide) ?_; with_reducible refine fork_ff ?_)
  | (with_reducible refine fork_t (by omega) ?_) | (with_reducible refine fork_f (by omega) ?_)
  | (with_reducible refine fork_d ?_ ?_ <;> intro hc)
  | (with_reducible refine fork_n ?_)
  | (with_reducible refine fork_b ?_ ?_ <;> intro hc)
  | (with_reducible refine SlcG.mk (by omega) ?_)
  | (with_reducible refine MakG.mk (by dsimp only; omega) ?_)
  | (with_reducible refine AppG.mk (by first | omega | (simp only [List.length_append, List.length_set, List.length_replicate, List.length_take, List.length_drop, List.length_cons, List.length_nil, List.length_map]; omega)) (by dsimp only [List.length_cons, List.length_nil]; omega) (by omega) ?_)
  | (with_reducible refine div_g (by omega) (by omega) (by dsimp only [inR]; omega) ?_)
  | (with_reducible refine mod_g (by omega) (by omega) ?_)
  | (with_reducible refine mask_g (m := 4294967296) 32 rfl rfl (by decide) (by omega) ?_)
  | (with_reducible refine shr_g (m := 4294967296) 32 rfl (by decide) (by omega) rfl ?_)
  | (with_reducible refine fz_all (by omega) ?_)
  | (with_reducible refine Stuck.h (A := RetE _ _) ?_) | (with_reducible refine Stuck.h (A := RetM _ _ _ _) ?_) | (with_reducible refine Stuck.h (A := Again _ _ _ _ _ _ _ _) ?_) | (with_reducible refine Stuck.h (A := CallF _ _ _ _ _ _ _) ?_) | (with_reducible refine Stuck.h (A := LoopG _ _ _ _ _ _ _ _) ?_) | (with_reducible refine Stuck.h (A := DrawG _ _ _ _ _ _ _ _) ?_)
  | (with_reducible refine Stuck.h (A := WrapG _ _ _) ?_) | (with_reducible refine Stuck.h (A := DivG _ _ _ _) ?_) | (with_reducible refine Stuck.h (A := ModG _ _ _) ?_) | (with_reducible refine Stuck.h (A := ShlG _ _ _ _) ?_) | (with_reducible refine Stuck.h (A := ShrG _ _ _ _) ?_) | (with_reducible refine Stuck.h (A := BitG _ _ _ _ _) ?_)
  | (with_reducible refine Stuck.h (A := IdxG _ _ _) ?_) | (with_reducible refine Stuck.h (A := IdxL _ _ _) ?_) | (with_reducible refine Stuck.h (A := SlcG _ _ _ _ _) ?_) | (with_reducible refine Stuck.h (A := MakG _ _ _ _) ?_) | (with_reducible refine Stuck.h (A := AppG _ _ _ _ _ _ _) ?_) | (with_reducible refine Stuck.h (A := FzG _ _ _ _) ?_)
  | (with_reducible refine Stuck.h (A := RawG _) ?_) | (with_reducible refine Stuck.h (A := TabG _ _ _ _ _) ?_) | (with_reducible refine Stuck.h (A := ExtF _ _ _ _) ?_) | (with_reducible refine Stuck.h (A := Chk _ _) ?_) | (with_reducible refine Stuck.h (A := False) ?_))
  exact ⟨ret_e rfl⟩
end Go.Proofs.YtbeocnjlepcglaaGreatDoor.Sim
namespace Go.Proofs.YtbeocnjlepcglaaGreatDoor.Sim
open Go.RowKit
set_option linter.unusedVariables false
set_option linter.unusedSimpArgs false
set_option maxRecDepth 10000
set_option maxHeartbeats 8000000
variable {G : List (Nat × List Value)}
theorem tz_lt64 {n : Nat} (h : n ≠ 0) : tz n < 64 * L64 n := by
  have h1 := tz_lt h
  have h2 := L32_L64 n
  omega
theorem y_make {g : List (Nat × List Value)} (hD : (0, debT.map (Value.int .u8)) ∈ g) (n e : Int) (h : L64 n.natAbs ≤ 8192) (he : inR .i64 e) : FC Tryz.prog g 24 [NI n, .val (.int .i64 e)] (· = toldS n e) := by
  dsimp only [inR] at he
  have hp := len64_pos n.natAbs
  have f0 := n_nform (G := g) n h
  have f1 := n_trail hD n.natAbs (by omega)
  have htb : Unit → n ≠ 0 → tz n.natAbs < 524288 := fun _ h0 => by have := tz_lt64 (n := n.natAbs) (by omega); omega
  have hdv : Unit → n.natAbs = n.natAbs / 2 ^ tz n.natAbs * 2 ^ tz n.natAbs := fun _ => by
    by_cases h0 : n = 0
    · rw [h0]; simp
    · exact (odd_div (n := n.natAbs) (by omega)).1
  have lq := L32_mono (Nat.div_le_self n.natAbs (2 ^ tz n.natAbs))
  have lq2 := L32_L64 n.natAbs
  unfold toldS
  obtain ⟨t, ht⟩ : ∃ t, t = tz n.natAbs := ⟨_, rfl⟩
  rw [← ht] at f1 htb hdv lq ⊢
  have f2 : Unit → t < 524288 → FC Tryz.prog g 48 [.ws .u64 (d64 n.natAbs), .val (.int .i64 (t : Int))] (· = natR (n.natAbs / 2 ^ t)) := fun _ hlt => by
    have := n_shr (G := g) n.natAbs (t : Int) h (by dsimp only [inR]; omega)
    rw [shrT_ok (by omega), Int.toNat_natCast] at this
    exact this
  obtain ⟨q, hq⟩ : ∃ q, q = n.natAbs / 2 ^ t := ⟨_, rfl⟩
  rw [← hq] at f2 hdv lq ⊢
  have hx := exact_div (n := n) (q := q) (t := t) (hdv ())
  have hqa : (sg (decide (n < 0)) q).natAbs = q := sg_abs _ _
  rw [hx]
  refine FC.intro (X := XX) tok Tryz.func24 rfl Tryz.ntmps24 (by rw [Tryz.results24]) (by kernel_rfl) rfl ?_; intro F hG hO
  rw [← hG] at f0 f1 f2
  repeat' ((try (conv => whnf)); first
  | ((with_reducible refine cg ?_); refine call_eq (f0) (LpL.refl _) rfl ?_)
  | ((with_reducible refine cg ?_); refine call_eq (f1) (LpL.refl _) rfl ?_)
  | ((with_reducible refine cg ?_); refine call_eq (f2 () (htb () (by omega))) (LpL.refl _) rfl ?_)
  | (with_reducible refine wrap_g (by have := htb () (by omega); dsimp only [inR]; omega) ?_)
  
  | (with_reducible refine Chk.mk' (by first | omega | exact trivial | (simp only [List.length_append, List.length_set, List.length_replicate, List.length_take, List.length_drop, List.length_cons, List.length_nil, List.length_map]; omega)) ?_)
  | (with_reducible refine wrap_g (by dsimp only [inR]; omega) ?_)
  | (with_reducible refine idx_g (by omega) ?_)
  | (with_reducible refine idx_l _ rfl (by decide) ?_)
  | (with_reducible refine BothG.mk ?_ ?_)
  | (with_reducible refine fork_tt ?_) | (with_reducible refine fork_ff ?_)
  | (with_reducible refine fork_e (c := true) (by decide) ?_; with_reducible refine fork_tt ?_) | (with_reducible refine fork_e (c := false) (by decide) ?_; with_reducible refine fork_ff ?_)
  | (with_reducible refine fork_t (by omega) ?_) | (with_reducible refine fork_f (by omega) ?_)
  | (with_reducible refine fork_d ?_ ?_ <;> intro hc)
  | (with_reducible refine fork_n ?_)
  | (with_reducible refine fork_b ?_ ?_ <;> intro hc)
  | (with_reducible refine SlcG.mk (by omega) ?_)
  | (with_reducible refine MakG.mk (by dsimp only; omega) ?_)
  | (with_reducible refine AppG.mk (by first | omega | (simp only [List.length_append, List.length_set, List.length_replicate, List.length_take, List.length_drop, List.length_cons, List.length_nil, List.length_map]; omega)) (by dsimp only [List.length_cons, List.length_nil]; omega) (by omega) ?_)
  | (with_reducible refine div_g (by omega) (by omega) (by dsimp only [inR]; omega) ?_)
  | (with_reducible refine mod_g (by omega) (by omega) ?_)
  | (with_reducible refine mask_g (m := 4294967296) 32 rfl rfl (by decide) (by omega) ?_)
  | (with_reducible refine shr_g (m := 4294967296) 32 rfl (by decide) (by omega) rfl ?_)
  | (with_reducible refine fz_all (by omega) ?_)
  | (with_reducible refine Stuck.h (A := RetE _ _) ?_) | (with_reducible refine Stuck.h (A := RetM _ _ _ _) ?_) | (with_reducible refine Stuck.h (A := Again _ _ _ _ _ _ _ _) ?_) | (with_reducible refine Stuck.h (A := CallF _ _ _ _ _ _ _) ?_) | (with_reducible refine Stuck.h (A := LoopG _ _ _ _ _ _ _ _) ?_) | (with_reducible refine Stuck.h (A := DrawG _ _ _ _ _ _ _ _) ?_)
  | (with_reducible refine Stuck.h (A := WrapG _ _ _) ?_) | (with_reducible refine Stuck.h (A := DivG _ _ _ _) ?_) | (with_reducible refine Stuck.h (A := ModG _ _ _) ?_) | (with_reducible refine Stuck.h (A := ShlG _ _ _ _) ?_) | (with_reducible refine Stuck.h (A := ShrG _ _ _ _) ?_) | (with_reducible refine Stuck.h (A := BitG _ _ _ _ _) ?_)
  | (with_reducible refine Stuck.h (A := IdxG _ _ _) ?_) | (with_reducible refine Stuck.h (A := IdxL _ _ _) ?_) | (with_reducible refine Stuck.h (A := SlcG _ _ _ _ _) ?_) | (with_reducible refine Stuck.h (A := MakG _ _ _ _) ?_) | (with_reducible refine Stuck.h (A := AppG _ _ _ _ _ _ _) ?_) | (with_reducible refine Stuck.h (A := FzG _ _ _ _) ?_)
  | (with_reducible refine Stuck.h (A := RawG _) ?_) | (with_reducible refine Stuck.h (A := TabG _ _ _ _ _) ?_) | (with_reducible refine Stuck.h (A := ExtF _ _ _ _) ?_) | (with_reducible refine Stuck.h (A := Chk _ _) ?_) | (with_reducible refine Stuck.h (A := False) ?_))
  · exact ⟨ret_l _ (lp_dyE 0) (by rw [if_pos (by omega)])⟩
  all_goals
    have ht5 := htb () (by omega)
    have hn0 : n ≠ 0 := by omega
  · exact ⟨ret_l _ (lp_dyE 5) (by rw [if_neg hn0, if_pos (by omega)])⟩
  · exact ⟨ret_l _ (lp_dyE 5) (by by_cases h40 : e < -1099511627776 <;> (repeat (first | rfl | rw [if_neg (by omega)] | rw [if_pos (by omega)])))⟩
  · exact ⟨ret_l _ (lp_dyE 5) (by (repeat (first | rfl | rw [if_neg (by omega)] | rw [if_pos (by omega)])))⟩
  · exact ⟨ret_l _ (lp_dyE 5) (by (repeat (first | rfl | rw [if_neg (by omega)] | rw [if_pos (by omega)])))⟩
  · refine ⟨ret_e ?_⟩
    rw [if_neg hn0, if_neg (by omega), if_neg (by omega), if_neg (by omega), if_neg (by omega), if_neg (by omega)]
    have hq0 : q ≠ 0 := fun h0 => by have := hdv (); rw [h0, Nat.zero_mul] at this; omega
    have hsg : decide (n < 0) = decide (sg (decide (n < 0)) q < 0) := by
      by_cases hn : n < 0
      · rw [decide_eq_true hn]; exact (decide_eq_true (by simp only [sg]; omega)).symm
      · rw [decide_eq_false hn]; exact (decide_eq_false (by simp only [sg]; omega)).symm
    unfold dyR DY
    rw [hqa, ← hsg]
end Go.Proofs.YtbeocnjlepcglaaGreatDoor.Sim
namespace Go.Proofs.YtbeocnjlepcglaaGreatDoor.Sim
open Go.RowKit
set_option linter.unusedVariables false
set_option linter.unusedSimpArgs false
set_option maxRecDepth 10000
set_option maxHeartbeats 8000000
variable {G : List (Nat × List Value)}
theorem y_form {n e : Int} (h : Good n e) : FC Tryz.prog G 26 [DY n e] (· = .val (.bool true)) := by
  obtain ⟨g1, g2, g3, g4, g5⟩ := h
  have hp := len64_pos n.natAbs
  have f0 := n_nform (G := G) n g1
  have f1 := y_nought (G := G) (decide (n < 0)) (d64 n.natAbs) e
  have hr := rd64_0 n.natAbs
  have hb := rd_bd (by decide) (d64_ok n.natAbs).1 0
  refine FC.intro (X := XX) tok Tryz.func26 rfl Tryz.ntmps26 (by rw [Tryz.results26]) (by kernel_rfl) rfl ?_; intro F hG hO
  rw [← hG] at f0 f1
  repeat' ((try (conv => whnf)); first
  | ((with_reducible refine cg ?_); refine call_eq (f0) (LpL.refl _) rfl ?_)
  | ((with_reducible refine cg ?_); refine call_eq (f1) (LpL.refl _) rfl ?_)
  | (with_reducible refine mask_g (m := 2) 1 rfl rfl (by decide) hb ?_)
  
  | (with_reducible refine Chk.mk' (by first | omega | exact trivial | (simp only [List.length_append, List.length_set, List.length_replicate, List.length_take, List.length_drop, List.length_cons, List.length_nil, List.length_map]; omega)) ?_)
  | (with_reducible refine wrap_g (by dsimp only [inR]; omega) ?_)
  | (with_reducible refine idx_g (by omega) ?_)
  | (with_reducible refine idx_l _ rfl (by decide) ?_)
  | (with_reducible refine BothG.mk ?_ ?_)
  | (with_reducible refine fork_tt ?_) | (with_reducible refine fork_ff ?_)
  | (with_reducible refine fork_e (c := true) (by decide) ?_; with_reducible refine fork_tt ?_) | (with_reducible refine fork_e (c := false) (by decide) ?_; with_reducible refine fork_ff ?_)
  | (with_reducible refine fork_t (by omega) ?_) | (with_reducible refine fork_f (by omega) ?_)
  | (with_reducible refine fork_d ?_ ?_ <;> intro hc)
  | (with_reducible refine fork_n ?_)
  | (with_reducible refine fork_b ?_ ?_ <;> intro hc)
  | (with_reducible refine SlcG.mk (by omega) ?_)
  | (with_reducible refine MakG.mk (by dsimp only; omega) ?_)
  | (with_reducible refine AppG.mk (by first | omega | (simp only [List.length_append, List.length_set, List.length_replicate, List.length_take, List.length_drop, List.length_cons, List.length_nil, List.length_map]; omega)) (by dsimp only [List.length_cons, List.length_nil]; omega) (by omega) ?_)
  | (with_reducible refine div_g (by omega) (by omega) (by dsimp only [inR]; omega) ?_)
  | (with_reducible refine mod_g (by omega) (by omega) ?_)
  | (with_reducible refine mask_g (m := 4294967296) 32 rfl rfl (by decide) (by omega) ?_)
  | (with_reducible refine shr_g (m := 4294967296) 32 rfl (by decide) (by omega) rfl ?_)
  | (with_reducible refine fz_all (by omega) ?_)
  | (with_reducible refine Stuck.h (A := RetE _ _) ?_) | (with_reducible refine Stuck.h (A := RetM _ _ _ _) ?_) | (with_reducible refine Stuck.h (A := Again _ _ _ _ _ _ _ _) ?_) | (with_reducible refine Stuck.h (A := CallF _ _ _ _ _ _ _) ?_) | (with_reducible refine Stuck.h (A := LoopG _ _ _ _ _ _ _ _) ?_) | (with_reducible refine Stuck.h (A := DrawG _ _ _ _ _ _ _ _) ?_)
  | (with_reducible refine Stuck.h (A := WrapG _ _ _) ?_) | (with_reducible refine Stuck.h (A := DivG _ _ _ _) ?_) | (with_reducible refine Stuck.h (A := ModG _ _ _) ?_) | (with_reducible refine Stuck.h (A := ShlG _ _ _ _) ?_) | (with_reducible refine Stuck.h (A := ShrG _ _ _ _) ?_) | (with_reducible refine Stuck.h (A := BitG _ _ _ _ _) ?_)
  | (with_reducible refine Stuck.h (A := IdxG _ _ _) ?_) | (with_reducible refine Stuck.h (A := IdxL _ _ _) ?_) | (with_reducible refine Stuck.h (A := SlcG _ _ _ _ _) ?_) | (with_reducible refine Stuck.h (A := MakG _ _ _ _) ?_) | (with_reducible refine Stuck.h (A := AppG _ _ _ _ _ _ _) ?_) | (with_reducible refine Stuck.h (A := FzG _ _ _ _) ?_)
  | (with_reducible refine Stuck.h (A := RawG _) ?_) | (with_reducible refine Stuck.h (A := TabG _ _ _ _ _) ?_) | (with_reducible refine Stuck.h (A := ExtF _ _ _ _) ?_) | (with_reducible refine Stuck.h (A := Chk _ _) ?_) | (with_reducible refine Stuck.h (A := False) ?_))
  · exact ⟨ret_e (bv_eq (decide_eq_true (g4 (by omega))))⟩
  · exact ⟨ret_e (bv_eq (decide_eq_true (by have := g5 (by omega); omega)))⟩
end Go.Proofs.YtbeocnjlepcglaaGreatDoor.Sim
namespace Go.Proofs.YtbeocnjlepcglaaGreatDoor.Sim
open Go.RowKit
set_option linter.unusedVariables false
set_option linter.unusedSimpArgs false
set_option maxRecDepth 10000
set_option maxHeartbeats 8000000
variable {G : List (Nat × List Value)}
theorem y_noughtg (n e : Int) : FC Tryz.prog G 43 [DY n e] (· = .val (.bool (decide (n = 0)))) := by
  have := y_nought (G := G) (decide (n < 0)) (d64 n.natAbs) e
  have hl := len64_pos n.natAbs
  rw [show decide (((d64 n.natAbs).length : Int) = 0) = decide (n = 0) from decide_eq_decide.2 (by omega)] at this
  exact this
end Go.Proofs.YtbeocnjlepcglaaGreatDoor.Sim
namespace Go.Proofs.YtbeocnjlepcglaaGreatDoor.Sim
open Go.RowKit
set_option linter.unusedVariables false
set_option linter.unusedSimpArgs false
set_option maxRecDepth 10000
set_option maxHeartbeats 8000000
variable {G : List (Nat × List Value)}
end Go.Proofs.YtbeocnjlepcglaaGreatDoor.Sim
namespace Go.Proofs.YtbeocnjlepcglaaGreatDoor.Sim
open Go.RowKit
set_option linter.unusedVariables false
set_option linter.unusedSimpArgs false
set_option maxRecDepth 10000
set_option maxHeartbeats 8000000
variable {G : List (Nat × List Value)}
theorem ediv_abs (n P : Int) (hP : 0 < P) : (n / P).natAbs ≤ n.natAbs := by
  obtain ⟨q, hq⟩ : ∃ q, q = n / P := ⟨_, rfl⟩
  have h1 := Int.mul_ediv_add_emod n P
  have h2 := Int.emod_nonneg n (show P ≠ 0 by omega)
  have h3 := Int.emod_lt_of_pos n hP
  rw [← hq] at h1 ⊢
  rcases Int.lt_or_le q 0 with h | h
  · have h4 : 0 ≤ (P - 1) * (-1 - q) := Int.mul_nonneg (by omega) (by omega)
    have h5 : (P - 1) * (-1 - q) = -P - P * q + 1 + q := by
      rw [Int.sub_mul, Int.mul_sub, Int.one_mul]; omega
    omega
  · have h4 : 0 ≤ (P - 1) * q := Int.mul_nonneg (by omega) h
    have h5 : (P - 1) * q = P * q - q := by rw [Int.sub_mul, Int.one_mul]
    omega
theorem wholeS_abs (n k : Int) (up : Bool) : (wholeS n k up).natAbs ≤ n.natAbs := by
  have hP : (0 : Int) < 2 ^ k.toNat := Int.pow_pos (by decide)
  cases up
  · exact ediv_abs n _ hP
  · show (-((-n) / 2 ^ k.toNat)).natAbs ≤ _
    have := ediv_abs (-n) _ hP
    rw [Int.natAbs_neg] at this ⊢
    exact this
theorem wholeS_L64 (n k : Int) (up : Bool) (h : L64 n.natAbs ≤ 8192) : L64 (wholeS n k up).natAbs ≤ 8192 := Nat.le_trans (lenB_mono (by decide) (wholeS_abs n k up)) h
theorem y_cut {g : List (Nat × List Value)} (hD : (0, debT.map (Value.int .u8)) ∈ g) (n k : Int) (up : Bool) (h : L64 n.natAbs ≤ 8192) (hk : inR .i64 k) (hk0 : 0 ≤ k) : FC Tryz.prog g 87 [NI n, .val (.int .i64 k), .val (.bool up)] (· = NI (wholeS n k up)) := by
  cases up
  · have f1 := n_floorshr hD n k h hk hk0
    refine FC.intro (X := XX) tok Tryz.func87 rfl Tryz.ntmps87 (by rw [Tryz.results87]) (by kernel_rfl) rfl ?_; intro F hG hO
    rw [← hG] at f1
    repeat' ((try (conv => whnf)); first
  | ((with_reducible refine cg ?_); refine call_eq (f1) (LpL.refl _) rfl ?_)
  
  | (with_reducible refine Chk.mk' (by first | omega | exact trivial | (simp only [List.length_append, List.length_set, List.length_replicate, List.length_take, List.length_drop, List.length_cons, List.length_nil, List.length_map]; omega)) ?_)
  | (with_reducible refine wrap_g (by dsimp only [inR]; omega) ?_)
  | (with_reducible refine idx_g (by omega) ?_)
  | (with_reducible refine idx_l _ rfl (by decide) ?_)
  | (with_reducible refine BothG.mk ?_ ?_)
  | (with_reducible refine fork_tt ?_) | (with_reducible refine fork_ff ?_)
  | (with_reducible refine fork_e (c := true) (by decide) ?_; with_reducible refine fork_tt ?_) | (with_reducible refine fork_e (c := false) (by decide) ?_; with_reducible refine fork_ff ?_)
  | (with_reducible refine fork_t (by omega) ?_) | (with_reducible refine fork_f (by omega) ?_)
  | (with_reducible refine fork_d ?_ ?_ <;> intro hc)
  | (with_reducible refine fork_n ?_)
  | (with_reducible refine fork_b ?_ ?_ <;> intro hc)
  | (with_reducible refine SlcG.mk (by omega) ?_)
  | (with_reducible refine MakG.mk (by dsimp only; omega) ?_)
  | (with_reducible refine AppG.mk (by first | omega | (simp only [List.length_append, List.length_set, List.length_replicate, List.length_take, List.length_drop, List.length_cons, List.length_nil, List.length_map]; omega)) (by dsimp only [List.length_cons, List.length_nil]; omega) (by omega) ?_)
  | (with_reducible refine div_g (by omega) (by omega) (by dsimp only [inR]; omega) ?_)
  | (with_reducible refine mod_g (by omega) (by omega) ?_)
  | (with_reducible refine mask_g (m := 4294967296) 32 rfl rfl (by decide) (by omega) ?_)
  | (with_reducible refine shr_g (m := 4294967296) 32 rfl (by decide) (by omega) rfl ?_)
  | (with_reducible refine fz_all (by omega) ?_)
  | (with_reducible refine Stuck.h (A := RetE _ _) ?_) | (with_reducible refine Stuck.h (A := RetM _ _ _ _) ?_) | (with_reducible refine Stuck.h (A := Again _ _ _ _ _ _ _ _) ?_) | (with_reducible refine Stuck.h (A := CallF _ _ _ _ _ _ _) ?_) | (with_reducible refine Stuck.h (A := LoopG _ _ _ _ _ _ _ _) ?_) | (with_reducible refine Stuck.h (A := DrawG _ _ _ _ _ _ _ _) ?_)
  | (with_reducible refine Stuck.h (A := WrapG _ _ _) ?_) | (with_reducible refine Stuck.h (A := DivG _ _ _ _) ?_) | (with_reducible refine Stuck.h (A := ModG _ _ _) ?_) | (with_reducible refine Stuck.h (A := ShlG _ _ _ _) ?_) | (with_reducible refine Stuck.h (A := ShrG _ _ _ _) ?_) | (with_reducible refine Stuck.h (A := BitG _ _ _ _ _) ?_)
  | (with_reducible refine Stuck.h (A := IdxG _ _ _) ?_) | (with_reducible refine Stuck.h (A := IdxL _ _ _) ?_) | (with_reducible refine Stuck.h (A := SlcG _ _ _ _ _) ?_) | (with_reducible refine Stuck.h (A := MakG _ _ _ _) ?_) | (with_reducible refine Stuck.h (A := AppG _ _ _ _ _ _ _) ?_) | (with_reducible refine Stuck.h (A := FzG _ _ _ _) ?_)
  | (with_reducible refine Stuck.h (A := RawG _) ?_) | (with_reducible refine Stuck.h (A := TabG _ _ _ _ _) ?_) | (with_reducible refine Stuck.h (A := ExtF _ _ _ _) ?_) | (with_reducible refine Stuck.h (A := Chk _ _) ?_) | (with_reducible refine Stuck.h (A := False) ?_))
    exact ⟨ret_e rfl⟩
  · have f1 := n_ceilshr hD n k h hk hk0
    refine FC.intro (X := XX) tok Tryz.func87 rfl Tryz.ntmps87 (by rw [Tryz.results87]) (by kernel_rfl) rfl ?_; intro F hG hO
    rw [← hG] at f1
    repeat' ((try (conv => whnf)); first
  | ((with_reducible refine cg ?_); refine call_eq (f1) (LpL.refl _) rfl ?_)
  
  | (with_reducible refine Chk.mk' (by first | omega | exact trivial | (simp only [List.length_append, List.length_set, List.length_replicate, List.length_take, List.length_drop, List.length_cons, List.length_nil, List.length_map]; omega)) ?_)
  | (with_reducible refine wrap_g (by dsimp only [inR]; omega) ?_)
  | (with_reducible refine idx_g (by omega) ?_)
  | (with_reducible refine idx_l _ rfl (by decide) ?_)
  | (with_reducible refine BothG.mk ?_ ?_)
  | (with_reducible refine fork_tt ?_) | (with_reducible refine fork_ff ?_)
  | (with_reducible refine fork_e (c := true) (by decide) ?_; with_reducible refine fork_tt ?_) | (with_reducible refine fork_e (c := false) (by decide) ?_; with_reducible refine fork_ff ?_)
  | (with_reducible refine fork_t (by omega) ?_) | (with_reducible refine fork_f (by omega) ?_)
  | (with_reducible refine fork_d ?_ ?_ <;> intro hc)
  | (with_reducible refine fork_n ?_)
  | (with_reducible refine fork_b ?_ ?_ <;> intro hc)
  | (with_reducible refine SlcG.mk (by omega) ?_)
  | (with_reducible refine MakG.mk (by dsimp only; omega) ?_)
  | (with_reducible refine AppG.mk (by first | omega | (simp only [List.length_append, List.length_set, List.length_replicate, List.length_take, List.length_drop, List.length_cons, List.length_nil, List.length_map]; omega)) (by dsimp only [List.length_cons, List.length_nil]; omega) (by omega) ?_)
  | (with_reducible refine div_g (by omega) (by omega) (by dsimp only [inR]; omega) ?_)
  | (with_reducible refine mod_g (by omega) (by omega) ?_)
  | (with_reducible refine mask_g (m := 4294967296) 32 rfl rfl (by decide) (by omega) ?_)
  | (with_reducible refine shr_g (m := 4294967296) 32 rfl (by decide) (by omega) rfl ?_)
  | (with_reducible refine fz_all (by omega) ?_)
  | (with_reducible refine Stuck.h (A := RetE _ _) ?_) | (with_reducible refine Stuck.h (A := RetM _ _ _ _) ?_) | (with_reducible refine Stuck.h (A := Again _ _ _ _ _ _ _ _) ?_) | (with_reducible refine Stuck.h (A := CallF _ _ _ _ _ _ _) ?_) | (with_reducible refine Stuck.h (A := LoopG _ _ _ _ _ _ _ _) ?_) | (with_reducible refine Stuck.h (A := DrawG _ _ _ _ _ _ _ _) ?_)
  | (with_reducible refine Stuck.h (A := WrapG _ _ _) ?_) | (with_reducible refine Stuck.h (A := DivG _ _ _ _) ?_) | (with_reducible refine Stuck.h (A := ModG _ _ _) ?_) | (with_reducible refine Stuck.h (A := ShlG _ _ _ _) ?_) | (with_reducible refine Stuck.h (A := ShrG _ _ _ _) ?_) | (with_reducible refine Stuck.h (A := BitG _ _ _ _ _) ?_)
  | (with_reducible refine Stuck.h (A := IdxG _ _ _) ?_) | (with_reducible refine Stuck.h (A := IdxL _ _ _) ?_) | (with_reducible refine Stuck.h (A := SlcG _ _ _ _ _) ?_) | (with_reducible refine Stuck.h (A := MakG _ _ _ _) ?_) | (with_reducible refine Stuck.h (A := AppG _ _ _ _ _ _ _) ?_) | (with_reducible refine Stuck.h (A := FzG _ _ _ _) ?_)
  | (with_reducible refine Stuck.h (A := RawG _) ?_) | (with_reducible refine Stuck.h (A := TabG _ _ _ _ _) ?_) | (with_reducible refine Stuck.h (A := ExtF _ _ _ _) ?_) | (with_reducible refine Stuck.h (A := Chk _ _) ?_) | (with_reducible refine Stuck.h (A := False) ?_))
    exact ⟨ret_e rfl⟩
theorem y_short {g : List (Nat × List Value)} (hD : (0, debT.map (Value.int .u8)) ∈ g) (n e p : Int) (up : Bool) (h : L64 n.natAbs ≤ 8192) (he : -1099511627776 ≤ e ∧ e ≤ 1099511627776) (hp : 0 ≤ p ∧ p ≤ 1099511627776) : FC Tryz.prog g 71 [NI n, .val (.int .i64 e), .val (.int .i64 p), .val (.bool up)] (· = cutS n e p up) := by
  have hb := bl_L64 n.natAbs
  have f0 := n_bits (G := g) n.natAbs (by omega)
  unfold cutS
  have hw := wholeS_L64 n ((bl n.natAbs : Int) - p) up h
  have f3 := fun hk => y_cut hD n ((bl n.natAbs : Int) - p) up h (by dsimp only [inR]; omega) hk
  obtain ⟨b, hbb⟩ : ∃ b, b = bl n.natAbs := ⟨_, rfl⟩
  rw [← hbb] at hb f0 hw f3 ⊢
  have f1 := y_make hD n e h (by dsimp only [inR]; omega)
  have f2 := y_make hD (wholeS n ((b : Int) - p) up) (e + ((b : Int) - p)) hw (by dsimp only [inR]; omega)
  obtain ⟨x, y, c, hr, hgd, hcc⟩ := told_form n e
  obtain ⟨x2, y2, c2, hr2, hgd2, hcc2⟩ := told_form (wholeS n ((b : Int) - p) up) (e + ((b : Int) - p))
  rw [hr] at f1 ⊢
  rw [hr2] at f2 ⊢
  obtain ⟨v, hv⟩ : ∃ v, v = wholeS n ((b : Int) - p) up := ⟨_, rfl⟩
  rw [← hv] at f2 f3
  refine FC.intro (X := XX) tok Tryz.func71 rfl Tryz.ntmps71 (by rw [Tryz.results71]) (by kernel_rfl) rfl ?_; intro F hG hO
  rw [← hG] at f0 f1 f2 f3
  repeat' ((try (conv => whnf)); first
  | ((with_reducible refine cg ?_); refine call_eq (f0) (LpL.refl _) rfl ?_)
  | ((with_reducible refine cg ?_); refine call_eq (f1) (LpL.refl _) rfl ?_)
  | ((with_reducible refine cg ?_); refine call_eq (f3 (by omega)) (LpL.refl _) rfl ?_)
  | ((with_reducible refine cg ?_); refine call_eq (f2) (LpL.refl _) rfl ?_)
  
  | (with_reducible refine Chk.mk' (by first | omega | exact trivial | (simp only [List.length_append, List.length_set, List.length_replicate, List.length_take, List.length_drop, List.length_cons, List.length_nil, List.length_map]; omega)) ?_)
  | (with_reducible refine wrap_g (by dsimp only [inR]; omega) ?_)
  | (with_reducible refine idx_g (by omega) ?_)
  | (with_reducible refine idx_l _ rfl (by decide) ?_)
  | (with_reducible refine BothG.mk ?_ ?_)
  | (with_reducible refine fork_tt ?_) | (with_reducible refine fork_ff ?_)
  | (with_reducible refine fork_e (c := true) (by decide) ?_; with_reducible refine fork_tt ?_) | (with_reducible refine fork_e (c := false) (by decide) ?_; with_reducible refine fork_ff ?_)
  | (with_reducible refine fork_t (by omega) ?_) | (with_reducible refine fork_f (by omega) ?_)
  | (with_reducible refine fork_d ?_ ?_ <;> intro hc)
  | (with_reducible refine fork_n ?_)
  | (with_reducible refine fork_b ?_ ?_ <;> intro hc)
  | (with_reducible refine SlcG.mk (by omega) ?_)
  | (with_reducible refine MakG.mk (by dsimp only; omega) ?_)
  | (with_reducible refine AppG.mk (by first | omega | (simp only [List.length_append, List.length_set, List.length_replicate, List.length_take, List.length_drop, List.length_cons, List.length_nil, List.length_map]; omega)) (by dsimp only [List.length_cons, List.length_nil]; omega) (by omega) ?_)
  | (with_reducible refine div_g (by omega) (by omega) (by dsimp only [inR]; omega) ?_)
  | (with_reducible refine mod_g (by omega) (by omega) ?_)
  | (with_reducible refine mask_g (m := 4294967296) 32 rfl rfl (by decide) (by omega) ?_)
  | (with_reducible refine shr_g (m := 4294967296) 32 rfl (by decide) (by omega) rfl ?_)
  | (with_reducible refine fz_all (by omega) ?_)
  | (with_reducible refine Stuck.h (A := RetE _ _) ?_) | (with_reducible refine Stuck.h (A := RetM _ _ _ _) ?_) | (with_reducible refine Stuck.h (A := Again _ _ _ _ _ _ _ _) ?_) | (with_reducible refine Stuck.h (A := CallF _ _ _ _ _ _ _) ?_) | (with_reducible refine Stuck.h (A := LoopG _ _ _ _ _ _ _ _) ?_) | (with_reducible refine Stuck.h (A := DrawG _ _ _ _ _ _ _ _) ?_)
  | (with_reducible refine Stuck.h (A := WrapG _ _ _) ?_) | (with_reducible refine Stuck.h (A := DivG _ _ _ _) ?_) | (with_reducible refine Stuck.h (A := ModG _ _ _) ?_) | (with_reducible refine Stuck.h (A := ShlG _ _ _ _) ?_) | (with_reducible refine Stuck.h (A := ShrG _ _ _ _) ?_) | (with_reducible refine Stuck.h (A := BitG _ _ _ _ _) ?_)
  | (with_reducible refine Stuck.h (A := IdxG _ _ _) ?_) | (with_reducible refine Stuck.h (A := IdxL _ _ _) ?_) | (with_reducible refine Stuck.h (A := SlcG _ _ _ _ _) ?_) | (with_reducible refine Stuck.h (A := MakG _ _ _ _) ?_) | (with_reducible refine Stuck.h (A := AppG _ _ _ _ _ _ _) ?_) | (with_reducible refine Stuck.h (A := FzG _ _ _ _) ?_)
  | (with_reducible refine Stuck.h (A := RawG _) ?_) | (with_reducible refine Stuck.h (A := TabG _ _ _ _ _) ?_) | (with_reducible refine Stuck.h (A := ExtF _ _ _ _) ?_) | (with_reducible refine Stuck.h (A := Chk _ _) ?_) | (with_reducible refine Stuck.h (A := False) ?_))
  · exact ⟨ret_e (by rw [if_pos (by omega)]; rfl)⟩
  · exact ⟨ret_e (by rw [if_neg (by omega)]; rfl)⟩
theorem y_precise (p : Int) : FC Tryz.prog G 65 [.val (.int .i64 p)] (· = .val (.bool (decide (1 ≤ p) && decide (p ≤ 70000)))) := by
  refine FC.intro (X := XX) tok Tryz.func65 rfl Tryz.ntmps65 (by rw [Tryz.results65]) (by kernel_rfl) rfl ?_; intro F hG hO
  repeat' ((try (conv => whnf)); first
  
  | (with_reducible refine Chk.mk' (by first | omega | exact trivial | (simp only [List.length_append, List.length_set, List.length_replicate, List.length_take, List.length_drop, List.length_cons, List.length_nil, List.length_map]; omega)) ?_)
  | (with_reducible refine wrap_g (by dsimp only [inR]; omega) ?_)
  | (with_reducible refine idx_g (by omega) ?_)
  | (with_reducible refine idx_l _ rfl (by decide) ?_)
  | (with_reducible refine BothG.mk ?_ ?_)
  | (with_reducible refine fork_tt ?_) | (with_reducible refine fork_ff ?_)
  | (with_reducible refine fork_e (c := true) (by decide) ?_; with_reducible refine fork_tt ?_) | (with_reducible refine fork_e (c := false) (by decide) ?_; with_reducible refine fork_ff ?_)
  | (with_reducible refine fork_t (by omega) ?_) | (with_reducible refine fork_f (by omega) ?_)
  | (with_reducible refine fork_d ?_ ?_ <;> intro hc)
  | (with_reducible refine fork_n ?_)
  | (with_reducible refine fork_b ?_ ?_ <;> intro hc)
  | (with_reducible refine SlcG.mk (by omega) ?_)
  | (with_reducible refine MakG.mk (by dsimp only; omega) ?_)
  | (with_reducible refine AppG.mk (by first | omega | (simp only [List.length_append, List.length_set, List.length_replicate, List.length_take, List.length_drop, List.length_cons, List.length_nil, List.length_map]; omega)) (by dsimp only [List.length_cons, List.length_nil]; omega) (by omega) ?_)
  | (with_reducible refine div_g (by omega) (by omega) (by dsimp only [inR]; omega) ?_)
  | (with_reducible refine mod_g (by omega) (by omega) ?_)
  | (with_reducible refine mask_g (m := 4294967296) 32 rfl rfl (by decide) (by omega) ?_)
  | (with_reducible refine shr_g (m := 4294967296) 32 rfl (by decide) (by omega) rfl ?_)
  | (with_reducible refine fz_all (by omega) ?_)
  | (with_reducible refine Stuck.h (A := RetE _ _) ?_) | (with_reducible refine Stuck.h (A := RetM _ _ _ _) ?_) | (with_reducible refine Stuck.h (A := Again _ _ _ _ _ _ _ _) ?_) | (with_reducible refine Stuck.h (A := CallF _ _ _ _ _ _ _) ?_) | (with_reducible refine Stuck.h (A := LoopG _ _ _ _ _ _ _ _) ?_) | (with_reducible refine Stuck.h (A := DrawG _ _ _ _ _ _ _ _) ?_)
  | (with_reducible refine Stuck.h (A := WrapG _ _ _) ?_) | (with_reducible refine Stuck.h (A := DivG _ _ _ _) ?_) | (with_reducible refine Stuck.h (A := ModG _ _ _) ?_) | (with_reducible refine Stuck.h (A := ShlG _ _ _ _) ?_) | (with_reducible refine Stuck.h (A := ShrG _ _ _ _) ?_) | (with_reducible refine Stuck.h (A := BitG _ _ _ _ _) ?_)
  | (with_reducible refine Stuck.h (A := IdxG _ _ _) ?_) | (with_reducible refine Stuck.h (A := IdxL _ _ _) ?_) | (with_reducible refine Stuck.h (A := SlcG _ _ _ _ _) ?_) | (with_reducible refine Stuck.h (A := MakG _ _ _ _) ?_) | (with_reducible refine Stuck.h (A := AppG _ _ _ _ _ _ _) ?_) | (with_reducible refine Stuck.h (A := FzG _ _ _ _) ?_)
  | (with_reducible refine Stuck.h (A := RawG _) ?_) | (with_reducible refine Stuck.h (A := TabG _ _ _ _ _) ?_) | (with_reducible refine Stuck.h (A := ExtF _ _ _ _) ?_) | (with_reducible refine Stuck.h (A := Chk _ _) ?_) | (with_reducible refine Stuck.h (A := False) ?_))
  · exact ⟨ret_e (bv_eq (by rw [decide_eq_true hc]; rfl))⟩
  · exact ⟨ret_e (bv_eq (by rw [decide_eq_false hc]; rfl))⟩
end Go.Proofs.YtbeocnjlepcglaaGreatDoor.Sim
namespace Go.Proofs.YtbeocnjlepcglaaGreatDoor.Sim
open Go.RowKit
set_option linter.unusedVariables false
set_option linter.unusedSimpArgs false
set_option maxRecDepth 10000
set_option maxHeartbeats 8000000
variable {G : List (Nat × List Value)}
def niF (b : Bool) (l : List Int) : Bool := formL l && !(b && decide (l.length = 0))
theorem n_nformX (b : Bool) (l : List Int) : FC Tryz.prog G 46 [.agg [.val (.bool b), .ws .u64 l]] (· = .val (.bool (niF b l))) := by
  have f1 := n_form (G := G) l
  unfold niF
  obtain ⟨x, hx⟩ : ∃ x, x = formL l := ⟨_, rfl⟩
  rw [← hx] at f1 ⊢
  clear hx
  cases x
  · refine FC.intro (X := XX) tok Tryz.func46 rfl Tryz.ntmps46 (by rw [Tryz.results46]) (by kernel_rfl) rfl ?_; intro F hG hO
    rw [← hG] at f1
    repeat' ((try (conv => whnf)); first
  | ((with_reducible refine cg ?_); refine call_eq (f1) (LpL.refl _) rfl ?_)
  
  | (with_reducible refine Chk.mk' (by first | omega | exact trivial | (simp only [List.length_append, List.length_set, List.length_replicate, List.length_take, List.length_drop, List.length_cons, List.length_nil, List.length_map]; omega)) ?_)
  | (with_reducible refine wrap_g (by dsimp only [inR]; omega) ?_)
  | (with_reducible refine idx_g (by omega) ?_)
  | (with_reducible refine idx_l _ rfl (by decide) ?_)
  | (with_reducible refine BothG.mk ?_ ?_)
  | (with_reducible refine fork_tt ?_) | (with_reducible refine fork_ff ?_)
  | (with_reducible refine fork_e (c := true) (by decide) ?_; with_reducible refine fork_tt ?_) | (with_reducible refine fork_e (c := false) (by decide) ?_; with_reducible refine fork_ff ?_)
  | (with_reducible refine fork_t (by omega) ?_) | (with_reducible refine fork_f (by omega) ?_)
  | (with_reducible refine fork_d ?_ ?_ <;> intro hc)
  | (with_reducible refine fork_n ?_)
  | (with_reducible refine fork_b ?_ ?_ <;> intro hc)
  | (with_reducible refine SlcG.mk (by omega) ?_)
  | (with_reducible refine MakG.mk (by dsimp only; omega) ?_)
  | (with_reducible refine AppG.mk (by first | omega | (simp only [List.length_append, List.length_set, List.length_replicate, List.length_take, List.length_drop, List.length_cons, List.length_nil, List.length_map]; omega)) (by dsimp only [List.length_cons, List.length_nil]; omega) (by omega) ?_)
  | (with_reducible refine div_g (by omega) (by omega) (by dsimp only [inR]; omega) ?_)
  | (with_reducible refine mod_g (by omega) (by omega) ?_)
  | (with_reducible refine mask_g (m := 4294967296) 32 rfl rfl (by decide) (by omega) ?_)
  | (with_reducible refine shr_g (m := 4294967296) 32 rfl (by decide) (by omega) rfl ?_)
  | (with_reducible refine fz_all (by omega) ?_)
  | (with_reducible refine Stuck.h (A := RetE _ _) ?_) | (with_reducible refine Stuck.h (A := RetM _ _ _ _) ?_) | (with_reducible refine Stuck.h (A := Again _ _ _ _ _ _ _ _) ?_) | (with_reducible refine Stuck.h (A := CallF _ _ _ _ _ _ _) ?_) | (with_reducible refine Stuck.h (A := LoopG _ _ _ _ _ _ _ _) ?_) | (with_reducible refine Stuck.h (A := DrawG _ _ _ _ _ _ _ _) ?_)
  | (with_reducible refine Stuck.h (A := WrapG _ _ _) ?_) | (with_reducible refine Stuck.h (A := DivG _ _ _ _) ?_) | (with_reducible refine Stuck.h (A := ModG _ _ _) ?_) | (with_reducible refine Stuck.h (A := ShlG _ _ _ _) ?_) | (with_reducible refine Stuck.h (A := ShrG _ _ _ _) ?_) | (with_reducible refine Stuck.h (A := BitG _ _ _ _ _) ?_)
  | (with_reducible refine Stuck.h (A := IdxG _ _ _) ?_) | (with_reducible refine Stuck.h (A := IdxL _ _ _) ?_) | (with_reducible refine Stuck.h (A := SlcG _ _ _ _ _) ?_) | (with_reducible refine Stuck.h (A := MakG _ _ _ _) ?_) | (with_reducible refine Stuck.h (A := AppG _ _ _ _ _ _ _) ?_) | (with_reducible refine Stuck.h (A := FzG _ _ _ _) ?_)
  | (with_reducible refine Stuck.h (A := RawG _) ?_) | (with_reducible refine Stuck.h (A := TabG _ _ _ _ _) ?_) | (with_reducible refine Stuck.h (A := ExtF _ _ _ _) ?_) | (with_reducible refine Stuck.h (A := Chk _ _) ?_) | (with_reducible refine Stuck.h (A := False) ?_))
    exact ⟨ret_e rfl⟩
  · cases b
    · refine FC.intro (X := XX) tok Tryz.func46 rfl Tryz.ntmps46 (by rw [Tryz.results46]) (by kernel_rfl) rfl ?_; intro F hG hO
      rw [← hG] at f1
      repeat' ((try (conv => whnf)); first
  | ((with_reducible refine cg ?_); refine call_eq (f1) (LpL.refl _) rfl ?_)
  
  | (with_reducible refine Chk.mk' (by first | omega | exact trivial | (simp only [List.length_append, List.length_set, List.length_replicate, List.length_take, List.length_drop, List.length_cons, List.length_nil, List.length_map]; omega)) ?_)
  | (with_reducible refine wrap_g (by dsimp only [inR]; omega) ?_)
  | (with_reducible refine idx_g (by omega) ?_)
  | (with_reducible refine idx_l _ rfl (by decide) ?_)
  | (with_reducible refine BothG.mk ?_ ?_)
  | (with_reducible refine fork_tt ?_) | (with_reducible refine fork_ff ?_)
  | (with_reducible refine fork_e (c := true) (by decide) ?_; with_reducible refine fork_tt ?_) | (with_reducible refine fork_e (c := false) (by decide) ?_; with_reducible refine fork_ff ?_)
  | (with_reducible refine fork_t (by omega) ?_) | (with_reducible refine fork_f (by omega) ?_)
  | (with_reducible refine fork_d ?_ ?_ <;> intro hc)
  | (with_reducible refine fork_n ?_)
  | (with_reducible refine fork_b ?_ ?_ <;> intro hc)
  | (with_reducible refine SlcG.mk (by omega) ?_)
  | (with_reducible refine MakG.mk (by dsimp only; omega) ?_)
  | (with_reducible refine AppG.mk (by first | omega | (simp only [List.length_append, List.length_set, List.length_replicate, List.length_take, List.length_drop, List.length_cons, List.length_nil, List.length_map]; omega)) (by dsimp only [List.length_cons, List.length_nil]; omega) (by omega) ?_)
  | (with_reducible refine div_g (by omega) (by omega) (by dsimp only [inR]; omega) ?_)
  | (with_reducible refine mod_g (by omega) (by omega) ?_)
  | (with_reducible refine mask_g (m := 4294967296) 32 rfl rfl (by decide) (by omega) ?_)
  | (with_reducible refine shr_g (m := 4294967296) 32 rfl (by decide) (by omega) rfl ?_)
  | (with_reducible refine fz_all (by omega) ?_)
  | (with_reducible refine Stuck.h (A := RetE _ _) ?_) | (with_reducible refine Stuck.h (A := RetM _ _ _ _) ?_) | (with_reducible refine Stuck.h (A := Again _ _ _ _ _ _ _ _) ?_) | (with_reducible refine Stuck.h (A := CallF _ _ _ _ _ _ _) ?_) | (with_reducible refine Stuck.h (A := LoopG _ _ _ _ _ _ _ _) ?_) | (with_reducible refine Stuck.h (A := DrawG _ _ _ _ _ _ _ _) ?_)
  | (with_reducible refine Stuck.h (A := WrapG _ _ _) ?_) | (with_reducible refine Stuck.h (A := DivG _ _ _ _) ?_) | (with_reducible refine Stuck.h (A := ModG _ _ _) ?_) | (with_reducible refine Stuck.h (A := ShlG _ _ _ _) ?_) | (with_reducible refine Stuck.h (A := ShrG _ _ _ _) ?_) | (with_reducible refine Stuck.h (A := BitG _ _ _ _ _) ?_)
  | (with_reducible refine Stuck.h (A := IdxG _ _ _) ?_) | (with_reducible refine Stuck.h (A := IdxL _ _ _) ?_) | (with_reducible refine Stuck.h (A := SlcG _ _ _ _ _) ?_) | (with_reducible refine Stuck.h (A := MakG _ _ _ _) ?_) | (with_reducible refine Stuck.h (A := AppG _ _ _ _ _ _ _) ?_) | (with_reducible refine Stuck.h (A := FzG _ _ _ _) ?_)
  | (with_reducible refine Stuck.h (A := RawG _) ?_) | (with_reducible refine Stuck.h (A := TabG _ _ _ _ _) ?_) | (with_reducible refine Stuck.h (A := ExtF _ _ _ _) ?_) | (with_reducible refine Stuck.h (A := Chk _ _) ?_) | (with_reducible refine Stuck.h (A := False) ?_))
      all_goals exact ⟨ret_e rfl⟩
    · refine FC.intro (X := XX) tok Tryz.func46 rfl Tryz.ntmps46 (by rw [Tryz.results46]) (by kernel_rfl) rfl ?_; intro F hG hO
      rw [← hG] at f1
      repeat' ((try (conv => whnf)); first
  | ((with_reducible refine cg ?_); refine call_eq (f1) (LpL.refl _) rfl ?_)
  
  | (with_reducible refine Chk.mk' (by first | omega | exact trivial | (simp only [List.length_append, List.length_set, List.length_replicate, List.length_take, List.length_drop, List.length_cons, List.length_nil, List.length_map]; omega)) ?_)
  | (with_reducible refine wrap_g (by dsimp only [inR]; omega) ?_)
  | (with_reducible refine idx_g (by omega) ?_)
  | (with_reducible refine idx_l _ rfl (by decide) ?_)
  | (with_reducible refine BothG.mk ?_ ?_)
  | (with_reducible refine fork_tt ?_) | (with_reducible refine fork_ff ?_)
  | (with_reducible refine fork_e (c := true) (by decide) ?_; with_reducible refine fork_tt ?_) | (with_reducible refine fork_e (c := false) (by decide) ?_; with_reducible refine fork_ff ?_)
  | (with_reducible refine fork_t (by omega) ?_) | (with_reducible refine fork_f (by omega) ?_)
  | (with_reducible refine fork_d ?_ ?_ <;> intro hc)
  | (with_reducible refine fork_n ?_)
  | (with_reducible refine fork_b ?_ ?_ <;> intro hc)
  | (with_reducible refine SlcG.mk (by omega) ?_)
  | (with_reducible refine MakG.mk (by dsimp only; omega) ?_)
  | (with_reducible refine AppG.mk (by first | omega | (simp only [List.length_append, List.length_set, List.length_replicate, List.length_take, List.length_drop, List.length_cons, List.length_nil, List.length_map]; omega)) (by dsimp only [List.length_cons, List.length_nil]; omega) (by omega) ?_)
  | (with_reducible refine div_g (by omega) (by omega) (by dsimp only [inR]; omega) ?_)
  | (with_reducible refine mod_g (by omega) (by omega) ?_)
  | (with_reducible refine mask_g (m := 4294967296) 32 rfl rfl (by decide) (by omega) ?_)
  | (with_reducible refine shr_g (m := 4294967296) 32 rfl (by decide) (by omega) rfl ?_)
  | (with_reducible refine fz_all (by omega) ?_)
  | (with_reducible refine Stuck.h (A := RetE _ _) ?_) | (with_reducible refine Stuck.h (A := RetM _ _ _ _) ?_) | (with_reducible refine Stuck.h (A := Again _ _ _ _ _ _ _ _) ?_) | (with_reducible refine Stuck.h (A := CallF _ _ _ _ _ _ _) ?_) | (with_reducible refine Stuck.h (A := LoopG _ _ _ _ _ _ _ _) ?_) | (with_reducible refine Stuck.h (A := DrawG _ _ _ _ _ _ _ _) ?_)
  | (with_reducible refine Stuck.h (A := WrapG _ _ _) ?_) | (with_reducible refine Stuck.h (A := DivG _ _ _ _) ?_) | (with_reducible refine Stuck.h (A := ModG _ _ _) ?_) | (with_reducible refine Stuck.h (A := ShlG _ _ _ _) ?_) | (with_reducible refine Stuck.h (A := ShrG _ _ _ _) ?_) | (with_reducible refine Stuck.h (A := BitG _ _ _ _ _) ?_)
  | (with_reducible refine Stuck.h (A := IdxG _ _ _) ?_) | (with_reducible refine Stuck.h (A := IdxL _ _ _) ?_) | (with_reducible refine Stuck.h (A := SlcG _ _ _ _ _) ?_) | (with_reducible refine Stuck.h (A := MakG _ _ _ _) ?_) | (with_reducible refine Stuck.h (A := AppG _ _ _ _ _ _ _) ?_) | (with_reducible refine Stuck.h (A := FzG _ _ _ _) ?_)
  | (with_reducible refine Stuck.h (A := RawG _) ?_) | (with_reducible refine Stuck.h (A := TabG _ _ _ _ _) ?_) | (with_reducible refine Stuck.h (A := ExtF _ _ _ _) ?_) | (with_reducible refine Stuck.h (A := Chk _ _) ?_) | (with_reducible refine Stuck.h (A := False) ?_))
      all_goals first
        | exact ⟨ret_e (bv_eq (by rw [decide_eq_true (show l.length = 0 by omega)]; rfl))⟩
        | exact ⟨ret_e (bv_eq (by rw [decide_eq_false (show ¬ l.length = 0 by omega)]; rfl))⟩
        | exact ⟨ret_e (bv_eq (by by_cases h : l.length = 0 <;> simp [h]))⟩
        | exact ⟨ret_e (bv_eq (by by_cases h : l.length = 0; (simp [h]); (rw [decide_eq_false h, decide_eq_true (show (0 : Int) < (l.length : Int) by omega)]; rfl)))⟩
theorem y_formX (b : Bool) (l : List Int) (e : Int) (ok : okD 18446744073709551616 l) : FC Tryz.prog G 26 [Dy b l e] (· = .val (.bool (dyF b l e))) := by
  have f0 := n_nformX (G := G) b l
  have f1 := y_nought (G := G) b l e
  have hb := rd_bd (by decide) ok 0
  have hd : dyF b l e = (niF b l && decide (-1048576 ≤ e) && decide (e ≤ 1048576) && (if l.length = 0 then decide (e = 0) else decide (rd l 0 % 2 = 1))) := by
    unfold dyF niF
    by_cases h0 : l.length = 0
    · rw [if_pos h0, if_pos h0, decide_eq_true h0, Bool.and_true]
      cases formL l <;> cases b <;> cases decide (-1048576 ≤ e) <;> cases decide (e ≤ 1048576) <;> rfl
    · rw [if_neg h0, if_neg h0, decide_eq_false h0, Bool.and_false, Bool.not_false, Bool.and_true]
  rw [hd]
  obtain ⟨x, hx⟩ : ∃ x, x = niF b l := ⟨_, rfl⟩
  rw [← hx] at f0 ⊢
  clear hx hd
  cases x
  · refine FC.intro (X := XX) tok Tryz.func26 rfl Tryz.ntmps26 (by rw [Tryz.results26]) (by kernel_rfl) rfl ?_; intro F hG hO
    rw [← hG] at f0
    repeat' ((try (conv => whnf)); first
  | ((with_reducible refine cg ?_); refine call_eq (f0) (LpL.refl _) rfl ?_)
  
  | (with_reducible refine Chk.mk' (by first | omega | exact trivial | (simp only [List.length_append, List.length_set, List.length_replicate, List.length_take, List.length_drop, List.length_cons, List.length_nil, List.length_map]; omega)) ?_)
  | (with_reducible refine wrap_g (by dsimp only [inR]; omega) ?_)
  | (with_reducible refine idx_g (by omega) ?_)
  | (with_reducible refine idx_l _ rfl (by decide) ?_)
  | (with_reducible refine BothG.mk ?_ ?_)
  | (with_reducible refine fork_tt ?_) | (with_reducible refine fork_ff ?_)
  | (with_reducible refine fork_e (c := true) (by decide) ?_; with_reducible refine fork_tt ?_) | (with_reducible refine fork_e (c := false) (by decide) ?_; with_reducible refine fork_ff ?_)
  | (with_reducible refine fork_t (by omega) ?_) | (with_reducible refine fork_f (by omega) ?_)
  | (with_reducible refine fork_d ?_ ?_ <;> intro hc)
  | (with_reducible refine fork_n ?_)
  | (with_reducible refine fork_b ?_ ?_ <;> intro hc)
  | (with_reducible refine SlcG.mk (by omega) ?_)
  | (with_reducible refine MakG.mk (by dsimp only; omega) ?_)
  | (with_reducible refine AppG.mk (by first | omega | (simp only [List.length_append, List.length_set, List.length_replicate, List.length_take, List.length_drop, List.length_cons, List.length_nil, List.length_map]; omega)) (by dsimp only [List.length_cons, List.length_nil]; omega) (by omega) ?_)
  | (with_reducible refine div_g (by omega) (by omega) (by dsimp only [inR]; omega) ?_)
  | (with_reducible refine mod_g (by omega) (by omega) ?_)
  | (with_reducible refine mask_g (m := 4294967296) 32 rfl rfl (by decide) (by omega) ?_)
  | (with_reducible refine shr_g (m := 4294967296) 32 rfl (by decide) (by omega) rfl ?_)
  | (with_reducible refine fz_all (by omega) ?_)
  | (with_reducible refine Stuck.h (A := RetE _ _) ?_) | (with_reducible refine Stuck.h (A := RetM _ _ _ _) ?_) | (with_reducible refine Stuck.h (A := Again _ _ _ _ _ _ _ _) ?_) | (with_reducible refine Stuck.h (A := CallF _ _ _ _ _ _ _) ?_) | (with_reducible refine Stuck.h (A := LoopG _ _ _ _ _ _ _ _) ?_) | (with_reducible refine Stuck.h (A := DrawG _ _ _ _ _ _ _ _) ?_)
  | (with_reducible refine Stuck.h (A := WrapG _ _ _) ?_) | (with_reducible refine Stuck.h (A := DivG _ _ _ _) ?_) | (with_reducible refine Stuck.h (A := ModG _ _ _) ?_) | (with_reducible refine Stuck.h (A := ShlG _ _ _ _) ?_) | (with_reducible refine Stuck.h (A := ShrG _ _ _ _) ?_) | (with_reducible refine Stuck.h (A := BitG _ _ _ _ _) ?_)
  | (with_reducible refine Stuck.h (A := IdxG _ _ _) ?_) | (with_reducible refine Stuck.h (A := IdxL _ _ _) ?_) | (with_reducible refine Stuck.h (A := SlcG _ _ _ _ _) ?_) | (with_reducible refine Stuck.h (A := MakG _ _ _ _) ?_) | (with_reducible refine Stuck.h (A := AppG _ _ _ _ _ _ _) ?_) | (with_reducible refine Stuck.h (A := FzG _ _ _ _) ?_)
  | (with_reducible refine Stuck.h (A := RawG _) ?_) | (with_reducible refine Stuck.h (A := TabG _ _ _ _ _) ?_) | (with_reducible refine Stuck.h (A := ExtF _ _ _ _) ?_) | (with_reducible refine Stuck.h (A := Chk _ _) ?_) | (with_reducible refine Stuck.h (A := False) ?_))
    exact ⟨ret_e rfl⟩
  refine FC.intro (X := XX) tok Tryz.func26 rfl Tryz.ntmps26 (by rw [Tryz.results26]) (by kernel_rfl) rfl ?_; intro F hG hO
  rw [← hG] at f0 f1
  repeat' ((try (conv => whnf)); first
  | ((with_reducible refine cg ?_); refine call_eq (f0) (LpL.refl _) rfl ?_)
  | ((with_reducible refine cg ?_); refine call_eq (f1) (LpL.refl _) rfl ?_)
  | (with_reducible refine mask_g (m := 2) 1 rfl rfl (by decide) hb ?_)
  
  | (with_reducible refine Chk.mk' (by first | omega | exact trivial | (simp only [List.length_append, List.length_set, List.length_replicate, List.length_take, List.length_drop, List.length_cons, List.length_nil, List.length_map]; omega)) ?_)
  | (with_reducible refine wrap_g (by dsimp only [inR]; omega) ?_)
  | (with_reducible refine idx_g (by omega) ?_)
  | (with_reducible refine idx_l _ rfl (by decide) ?_)
  | (with_reducible refine BothG.mk ?_ ?_)
  | (with_reducible refine fork_tt ?_) | (with_reducible refine fork_ff ?_)
  | (with_reducible refine fork_e (c := true) (by decide) ?_; with_reducible refine fork_tt ?_) | (with_reducible refine fork_e (c := false) (by decide) ?_; with_reducible refine fork_ff ?_)
  | (with_reducible refine fork_t (by omega) ?_) | (with_reducible refine fork_f (by omega) ?_)
  | (with_reducible refine fork_d ?_ ?_ <;> intro hc)
  | (with_reducible refine fork_n ?_)
  | (with_reducible refine fork_b ?_ ?_ <;> intro hc)
  | (with_reducible refine SlcG.mk (by omega) ?_)
  | (with_reducible refine MakG.mk (by dsimp only; omega) ?_)
  | (with_reducible refine AppG.mk (by first | omega | (simp only [List.length_append, List.length_set, List.length_replicate, List.length_take, List.length_drop, List.length_cons, List.length_nil, List.length_map]; omega)) (by dsimp only [List.length_cons, List.length_nil]; omega) (by omega) ?_)
  | (with_reducible refine div_g (by omega) (by omega) (by dsimp only [inR]; omega) ?_)
  | (with_reducible refine mod_g (by omega) (by omega) ?_)
  | (with_reducible refine mask_g (m := 4294967296) 32 rfl rfl (by decide) (by omega) ?_)
  | (with_reducible refine shr_g (m := 4294967296) 32 rfl (by decide) (by omega) rfl ?_)
  | (with_reducible refine fz_all (by omega) ?_)
  | (with_reducible refine Stuck.h (A := RetE _ _) ?_) | (with_reducible refine Stuck.h (A := RetM _ _ _ _) ?_) | (with_reducible refine Stuck.h (A := Again _ _ _ _ _ _ _ _) ?_) | (with_reducible refine Stuck.h (A := CallF _ _ _ _ _ _ _) ?_) | (with_reducible refine Stuck.h (A := LoopG _ _ _ _ _ _ _ _) ?_) | (with_reducible refine Stuck.h (A := DrawG _ _ _ _ _ _ _ _) ?_)
  | (with_reducible refine Stuck.h (A := WrapG _ _ _) ?_) | (with_reducible refine Stuck.h (A := DivG _ _ _ _) ?_) | (with_reducible refine Stuck.h (A := ModG _ _ _) ?_) | (with_reducible refine Stuck.h (A := ShlG _ _ _ _) ?_) | (with_reducible refine Stuck.h (A := ShrG _ _ _ _) ?_) | (with_reducible refine Stuck.h (A := BitG _ _ _ _ _) ?_)
  | (with_reducible refine Stuck.h (A := IdxG _ _ _) ?_) | (with_reducible refine Stuck.h (A := IdxL _ _ _) ?_) | (with_reducible refine Stuck.h (A := SlcG _ _ _ _ _) ?_) | (with_reducible refine Stuck.h (A := MakG _ _ _ _) ?_) | (with_reducible refine Stuck.h (A := AppG _ _ _ _ _ _ _) ?_) | (with_reducible refine Stuck.h (A := FzG _ _ _ _) ?_)
  | (with_reducible refine Stuck.h (A := RawG _) ?_) | (with_reducible refine Stuck.h (A := TabG _ _ _ _ _) ?_) | (with_reducible refine Stuck.h (A := ExtF _ _ _ _) ?_) | (with_reducible refine Stuck.h (A := Chk _ _) ?_) | (with_reducible refine Stuck.h (A := False) ?_))
  all_goals (refine ⟨ret_e (bv_eq ?_)⟩)
  all_goals first
    | (rw [decide_eq_false (show ¬ -1048576 ≤ e by omega)]; rfl)
    | (rw [decide_eq_true (show -1048576 ≤ e by omega), decide_eq_false (show ¬ e ≤ 1048576 by omega)]; rfl)
    | (rw [decide_eq_true (show -1048576 ≤ e by omega), decide_eq_true (show e ≤ 1048576 by omega), if_pos (show l.length = 0 by omega)]; rfl)
    | (rw [decide_eq_true (show -1048576 ≤ e by omega), decide_eq_true (show e ≤ 1048576 by omega), if_neg (show ¬ l.length = 0 by omega)]; rfl)
end Go.Proofs.YtbeocnjlepcglaaGreatDoor.Sim
namespace Go.Proofs.YtbeocnjlepcglaaGreatDoor.Sim
open Go.RowKit
set_option linter.unusedVariables false
set_option linter.unusedSimpArgs false
set_option maxRecDepth 10000
set_option maxHeartbeats 8000000
variable {G : List (Nat × List Value)}
theorem y_formN (b : Bool) (l : List Int) (e : Int) (ok : okD 18446744073709551616 l) (h : dyF b l e = false) : FC Tryz.prog G 26 [Dy b l e] (· = .val (.bool false)) := by
  have := y_formX (G := G) b l e ok
  rw [h] at this
  exact this
theorem r_formN (b : Bool) (l : List Int) (e : Int) (ok : okD 18446744073709551616 l) (h : dyF b l e = false) : FC Tryz.prog G 36 [Dy b l e] (· = .val (.bool false)) := by
  have := r_docform (G := G) b l e (rd_bd (by decide) ok 0)
  rw [h] at this
  exact this
def cutsE (p : Int) : PV := if p < 1 then dyE 1 else if 70000 < p then dyE 1 else dyE 2
theorem cutsE_form (p : Int) : ∃ c, cutsE p = dyE c := by
  unfold cutsE
  by_cases h1 : p < 1
  · rw [if_pos h1]; exact ⟨1, rfl⟩
  · rw [if_neg h1]
    by_cases h2 : 70000 < p
    · rw [if_pos h2]; exact ⟨1, rfl⟩
    · rw [if_neg h2]; exact ⟨2, rfl⟩
end Go.Proofs.YtbeocnjlepcglaaGreatDoor.Sim
namespace Go.Proofs.YtbeocnjlepcglaaGreatDoor.Sim
open Go.RowKit
set_option linter.unusedVariables false
set_option linter.unusedSimpArgs false
/-- n * 2^e, in parts of 2^-1048576. -/
def VV (n e : Int) : Int := n * 2 ^ (e + 1048576).toNat
theorem p2_pos (k : Nat) : (0 : Int) < 2 ^ k := Int.pow_pos (by decide)
theorem VV_low {n e k : Int} (h : -1048576 ≤ k) (hk : k ≤ e) : VV n e = VV (n * 2 ^ (e - k).toNat) k := by
  unfold VV
  rw [Int.mul_assoc, ← Int.pow_add, show (e - k).toNat + (k + 1048576).toNat = (e + 1048576).toNat by omega]
theorem VV_inj {a b k : Int} (h : VV a k = VV b k) : a = b := by
  unfold VV at h
  exact Int.eq_of_mul_eq_mul_right (by have := p2_pos (k + 1048576).toNat; omega) h
theorem VV_zero (k : Int) : VV 0 k = 0 := by unfold VV; exact Int.zero_mul _
theorem low_exp {s k z w : Int} (hk : -1048576 ≤ k) (g : Good z w) (h0 : z ≠ 0) (h : VV z w = VV s k) : k ≤ w ∧ s = z * 2 ^ (w - k).toNat := by
  have h1 : k ≤ w := by
    rcases Int.lt_or_le w k with h2 | h2
    · exfalso
      rw [VV_low (n := s) g.2.1 (by omega)] at h
      have h3 := VV_inj h
      rw [show (k - w).toNat = (k - w).toNat - 1 + 1 by omega, Int.pow_succ, ← Int.mul_assoc] at h3
      have := g.2.2.2.2 h0
      omega
    · exact h2
  rw [VV_low hk h1] at h
  exact ⟨h1, (VV_inj h).symm⟩
theorem told_eq {s k z w : Int} (hk : -1048576 ≤ k) (g : Good z w) (h : VV z w = VV s k) : toldS s k = dyR z w := by
  by_cases h0 : z = 0
  · subst h0
    rw [VV_zero, ← VV_zero k] at h
    rw [← VV_inj h, g.2.2.2.1 rfl]
    rfl
  · obtain ⟨h1, h2⟩ := low_exp hk g h0 h
    have ho := g.2.2.2.2 h0
    have ha : s.natAbs = z.natAbs * 2 ^ (w - k).toNat := by rw [h2, Int.natAbs_mul, Int.natAbs_pow]; rfl
    have ht : tz s.natAbs = (w - k).toNat := tz_eq ha (by omega)
    have hs0 : s ≠ 0 := by
      intro h3
      rw [h3] at ha
      have : z.natAbs * 2 ^ (w - k).toNat ≠ 0 := Nat.mul_ne_zero (by omega) (Nat.pos_iff_ne_zero.1 (Nat.pow_pos (by decide)))
      omega
    have hq : s.natAbs / 2 ^ (w - k).toNat = z.natAbs := by rw [ha]; exact Nat.mul_div_cancel _ (Nat.pow_pos (by decide))
    have hd : s / 2 ^ (w - k).toNat = z := by rw [h2]; exact Int.mul_ediv_cancel _ (by have := p2_pos (w - k).toNat; omega)
    have hl := L32_L64 z.natAbs
    have g1 := g.1
    have g2 := g.2.1
    have g3 := g.2.2.1
    unfold toldS
    rw [if_neg hs0, ht, hq, hd, if_neg (by omega), if_neg (by omega), if_neg (by omega), if_neg (by omega), if_neg (by omega), show k + (((w - k).toNat : Nat) : Int) = w by omega]
end Go.Proofs.YtbeocnjlepcglaaGreatDoor.Sim
namespace Go.Proofs.YtbeocnjlepcglaaGreatDoor.Sim
open Go.RowKit
set_option linter.unusedVariables false
set_option linter.unusedSimpArgs false
theorem Good.one {k : Int} (h1 : -1048576 ≤ k) (h2 : k ≤ 1048576) : Good 1 k := ⟨Nat.le_trans (L64_le (n := 1) (by decide)) (by decide), h1, h2, fun h => by omega, fun _ => rfl⟩
end Go.Proofs.YtbeocnjlepcglaaGreatDoor.Sim
namespace Go.Proofs.YtbeocnjlepcglaaGreatDoor.Sim
open Go.RowKit
set_option linter.unusedVariables false
set_option linter.unusedSimpArgs false
set_option maxRecDepth 10000
set_option maxHeartbeats 8000000
variable {G : List (Nat × List Value)}
theorem ofS_odd {m : Int} (h : m % 2 = 1) : ofS m = DY m 0 := by
  unfold ofS
  rw [tz_odd (n := m.natAbs) (by omega), Int.pow_zero, show ((0 : Nat) : Int) = 0 from rfl, Int.ediv_one]
theorem Good.small {m e : Int} (hm : m % 2 = 1) (hb : -1000 ≤ m ∧ m ≤ 1000) (he : -1048576 ≤ e ∧ e ≤ 1048576) : Good m e :=
  ⟨Nat.le_trans (L64_le (n := 1) (show m.natAbs < 2 ^ (64 * 1) by omega)) (by decide), he.1, he.2, fun h => by omega, fun _ => hm⟩
theorem scale_odd {m e : Int} (h : Good m e) (h0 : m ≠ 0) : scaleS m 0 e = dyR m e := by
  have := h.2.1
  have := h.2.2.1
  unfold scaleS
  rw [if_neg h0, if_neg (by omega), if_neg (by omega), Int.zero_add]
  exact told_good h
theorem l_num (m e : Int) (hm : m % 2 = 1) (hb : -1000 ≤ m ∧ m ≤ 1000) (he : -1048576 ≤ e ∧ e ≤ 1048576) : FC Tryz.prog G 11 [.val (.int .i64 m), .val (.int .i64 e)] (· = DY m e) := by
  have f1 := r_docof (G := G) m (by dsimp only [inR]; omega)
  rw [ofS_odd hm] at f1
  have f2 := r_docscale (G := G) e (Good.small (e := 0) hm hb (by decide)) (by dsimp only [inR]; omega)
  rw [scale_odd (Good.small hm hb he) (by omega)] at f2
  refine FC.intro (X := XX) tok Tryz.func11 rfl Tryz.ntmps11 (by rw [Tryz.results11]) (by kernel_rfl) rfl ?_; intro F hG hO
  rw [← hG] at f1 f2
  repeat' ((try (conv => whnf)); first
  | ((with_reducible refine cg ?_); refine call_eq (f1) (LpL.refl _) rfl ?_)
  | ((with_reducible refine cg ?_); refine call_eq (f2) (LpL.refl _) rfl ?_)
  
  | (with_reducible refine Chk.mk' (by first | omega | exact trivial | (simp only [List.length_append, List.length_set, List.length_replicate, List.length_take, List.length_drop, List.length_cons, List.length_nil, List.length_map]; omega)) ?_)
  | (with_reducible refine wrap_g (by dsimp only [inR]; omega) ?_)
  | (with_reducible refine idx_g (by omega) ?_)
  | (with_reducible refine idx_l _ rfl (by decide) ?_)
  | (with_reducible refine BothG.mk ?_ ?_)
  | (with_reducible refine fork_tt ?_) | (with_reducible refine fork_ff ?_)
  | (with_reducible refine fork_e (c := true) (by decide) ?_; with_reducible refine fork_tt ?_) | (with_reducible refine fork_e (c := false) (by decide) ?_; with_reducible refine fork_ff ?_)
  | (with_reducible refine fork_t (by omega) ?_) | (with_reducible refine fork_f (by omega) ?_)
  | (with_reducible refine fork_d ?_ ?_ <;> intro hc)
  | (with_reducible refine fork_n ?_)
  | (with_reducible refine fork_b ?_ ?_ <;> intro hc)
  | (with_reducible refine SlcG.mk (by omega) ?_)
  | (with_reducible refine MakG.mk (by dsimp only; omega) ?_)
  | (with_reducible refine AppG.mk (by first | omega | (simp only [List.length_append, List.length_set, List.length_replicate, List.length_take, List.length_drop, List.length_cons, List.length_nil, List.length_map]; omega)) (by dsimp only [List.length_cons, List.length_nil]; omega) (by omega) ?_)
  | (with_reducible refine div_g (by omega) (by omega) (by dsimp only [inR]; omega) ?_)
  | (with_reducible refine mod_g (by omega) (by omega) ?_)
  | (with_reducible refine mask_g (m := 4294967296) 32 rfl rfl (by decide) (by omega) ?_)
  | (with_reducible refine shr_g (m := 4294967296) 32 rfl (by decide) (by omega) rfl ?_)
  | (with_reducible refine fz_all (by omega) ?_)
  | (with_reducible refine Stuck.h (A := RetE _ _) ?_) | (with_reducible refine Stuck.h (A := RetM _ _ _ _) ?_) | (with_reducible refine Stuck.h (A := Again _ _ _ _ _ _ _ _) ?_) | (with_reducible refine Stuck.h (A := CallF _ _ _ _ _ _ _) ?_) | (with_reducible refine Stuck.h (A := LoopG _ _ _ _ _ _ _ _) ?_) | (with_reducible refine Stuck.h (A := DrawG _ _ _ _ _ _ _ _) ?_)
  | (with_reducible refine Stuck.h (A := WrapG _ _ _) ?_) | (with_reducible refine Stuck.h (A := DivG _ _ _ _) ?_) | (with_reducible refine Stuck.h (A := ModG _ _ _) ?_) | (with_reducible refine Stuck.h (A := ShlG _ _ _ _) ?_) | (with_reducible refine Stuck.h (A := ShrG _ _ _ _) ?_) | (with_reducible refine Stuck.h (A := BitG _ _ _ _ _) ?_)
  | (with_reducible refine Stuck.h (A := IdxG _ _ _) ?_) | (with_reducible refine Stuck.h (A := IdxL _ _ _) ?_) | (with_reducible refine Stuck.h (A := SlcG _ _ _ _ _) ?_) | (with_reducible refine Stuck.h (A := MakG _ _ _ _) ?_) | (with_reducible refine Stuck.h (A := AppG _ _ _ _ _ _ _) ?_) | (with_reducible refine Stuck.h (A := FzG _ _ _ _) ?_)
  | (with_reducible refine Stuck.h (A := RawG _) ?_) | (with_reducible refine Stuck.h (A := TabG _ _ _ _ _) ?_) | (with_reducible refine Stuck.h (A := ExtF _ _ _ _) ?_) | (with_reducible refine Stuck.h (A := Chk _ _) ?_) | (with_reducible refine Stuck.h (A := False) ?_))
  exact ⟨ret_e rfl⟩
theorem sameB_t (b : Bool) (l : List Int) (e : Int) : sameB b l e b l e = true := by unfold sameB; simp
theorem r_same_t {n e : Int} (h : Good n e) : FC Tryz.prog G 20 [DY n e, DY n e] (· = .val (.bool true)) := by
  have := r_dsame (G := G) (decide (n < 0)) (d64 n.natAbs) e (decide (n < 0)) (d64 n.natAbs) e (Nat.le_trans h.1 (by decide))
  rw [sameB_t] at this
  exact this
theorem l_told {n e : Int} (c : Int) (h : Good n e) : FC Tryz.prog G 25 [DY n e, .val (.int .i64 c), DY n e, .val (.int .i64 c)] (· = .val (.bool true)) := by
  have f1 := r_same_t (G := G) h
  refine FC.intro (X := XX) tok Tryz.func25 rfl Tryz.ntmps25 (by rw [Tryz.results25]) (by kernel_rfl) rfl ?_; intro F hG hO
  rw [← hG] at f1
  repeat' ((try (conv => whnf)); first
  | ((with_reducible refine cg ?_); refine call_eq (f1) (LpL.refl _) rfl ?_)
  
  | (with_reducible refine Chk.mk' (by first | omega | exact trivial | (simp only [List.length_append, List.length_set, List.length_replicate, List.length_take, List.length_drop, List.length_cons, List.length_nil, List.length_map]; omega)) ?_)
  | (with_reducible refine wrap_g (by dsimp only [inR]; omega) ?_)
  | (with_reducible refine idx_g (by omega) ?_)
  | (with_reducible refine idx_l _ rfl (by decide) ?_)
  | (with_reducible refine BothG.mk ?_ ?_)
  | (with_reducible refine fork_tt ?_) | (with_reducible refine fork_ff ?_)
  | (with_reducible refine fork_e (c := true) (by decide) ?_; with_reducible refine fork_tt ?_) | (with_reducible refine fork_e (c := false) (by decide) ?_; with_reducible refine fork_ff ?_)
  | (with_reducible refine fork_t (by omega) ?_) | (with_reducible refine fork_f (by omega) ?_)
  | (with_reducible refine fork_d ?_ ?_ <;> intro hc)
  | (with_reducible refine fork_n ?_)
  | (with_reducible refine fork_b ?_ ?_ <;> intro hc)
  | (with_reducible refine SlcG.mk (by omega) ?_)
  | (with_reducible refine MakG.mk (by dsimp only; omega) ?_)
  | (with_reducible refine AppG.mk (by first | omega | (simp only [List.length_append, List.length_set, List.length_replicate, List.length_take, List.length_drop, List.length_cons, List.length_nil, List.length_map]; omega)) (by dsimp only [List.length_cons, List.length_nil]; omega) (by omega) ?_)
  | (with_reducible refine div_g (by omega) (by omega) (by dsimp only [inR]; omega) ?_)
  | (with_reducible refine mod_g (by omega) (by omega) ?_)
  | (with_reducible refine mask_g (m := 4294967296) 32 rfl rfl (by decide) (by omega) ?_)
  | (with_reducible refine shr_g (m := 4294967296) 32 rfl (by decide) (by omega) rfl ?_)
  | (with_reducible refine fz_all (by omega) ?_)
  | (with_reducible refine Stuck.h (A := RetE _ _) ?_) | (with_reducible refine Stuck.h (A := RetM _ _ _ _) ?_) | (with_reducible refine Stuck.h (A := Again _ _ _ _ _ _ _ _) ?_) | (with_reducible refine Stuck.h (A := CallF _ _ _ _ _ _ _) ?_) | (with_reducible refine Stuck.h (A := LoopG _ _ _ _ _ _ _ _) ?_) | (with_reducible refine Stuck.h (A := DrawG _ _ _ _ _ _ _ _) ?_)
  | (with_reducible refine Stuck.h (A := WrapG _ _ _) ?_) | (with_reducible refine Stuck.h (A := DivG _ _ _ _) ?_) | (with_reducible refine Stuck.h (A := ModG _ _ _) ?_) | (with_reducible refine Stuck.h (A := ShlG _ _ _ _) ?_) | (with_reducible refine Stuck.h (A := ShrG _ _ _ _) ?_) | (with_reducible refine Stuck.h (A := BitG _ _ _ _ _) ?_)
  | (with_reducible refine Stuck.h (A := IdxG _ _ _) ?_) | (with_reducible refine Stuck.h (A := IdxL _ _ _) ?_) | (with_reducible refine Stuck.h (A := SlcG _ _ _ _ _) ?_) | (with_reducible refine Stuck.h (A := MakG _ _ _ _) ?_) | (with_reducible refine Stuck.h (A := AppG _ _ _ _ _ _ _) ?_) | (with_reducible refine Stuck.h (A := FzG _ _ _ _) ?_)
  | (with_reducible refine Stuck.h (A := RawG _) ?_) | (with_reducible refine Stuck.h (A := TabG _ _ _ _ _) ?_) | (with_reducible refine Stuck.h (A := ExtF _ _ _ _) ?_) | (with_reducible refine Stuck.h (A := Chk _ _) ?_) | (with_reducible refine Stuck.h (A := False) ?_))
  exact ⟨ret_e (bv_eq (decide_eq_true rfl))⟩
end Go.Proofs.YtbeocnjlepcglaaGreatDoor.Sim
namespace Go.Proofs.YtbeocnjlepcglaaGreatDoor.Sim
open Go.RowKit
set_option linter.unusedVariables false
set_option linter.unusedSimpArgs false
set_option maxRecDepth 10000
set_option maxHeartbeats 8000000
variable {G : List (Nat × List Value)}
/-- One call: its kind, two dyadics, a whole number, an int; all raw. -/
def OpV (k : Int) (b1 : Bool) (l1 : List Int) (e1 : Int) (b2 : Bool) (l2 : List Int) (e2 : Int) (b3 : Bool) (l3 : List Int) (m : Int) : PV :=
  .agg [.val (.int .i64 k), .val (.bool b1), .ws .u64 l1, .val (.int .i64 e1), .val (.bool b2), .ws .u64 l2, .val (.int .i64 e2), .val (.bool b3), .ws .u64 l3, .val (.int .i64 m)]
abbrev OKL (l : List Int) : Prop := okD 18446744073709551616 l ∧ l.length ≤ 17592186044415
/-- The two functions answer alike: a dyadic in form and an error. -/
def Agree (g : List (Nat × List Value)) (fp fd : Nat) (args : List PV) : Prop := ∃ x y c, Good x y ∧ FC Tryz.prog g fp args (· = .tup [DY x y, .val (.int .i64 c)]) ∧ FC Tryz.prog g fd args (· = .tup [DY x y, .val (.int .i64 c)])
theorem agree_E {g : List (Nat × List Value)} {fp fd : Nat} {args : List PV} (c : Int) (h1 : FC Tryz.prog g fp args (· = dyE c)) (h2 : FC Tryz.prog g fd args (· = dyE c)) : Agree g fp fd args := ⟨0, 0, c, Good.zero, h1, h2⟩
theorem agree_of {g : List (Nat × List Value)} {fp fd : Nat} {args : List PV} {R : PV} (hf : ∃ x y c, R = .tup [DY x y, .val (.int .i64 c)] ∧ Good x y) (h1 : FC Tryz.prog g fp args (· = R)) (h2 : FC Tryz.prog g fd args (· = R)) : Agree g fp fd args := by
  obtain ⟨x, y, c, rfl, hg⟩ := hf
  exact ⟨x, y, c, hg, h1, h2⟩
theorem l_twin (k : Int) (b1 : Bool) (l1 : List Int) (e1 : Int) (b2 : Bool) (l2 : List Int) (e2 : Int) (b3 : Bool) (l3 : List Int) (m : Int) (o1 : l1.length ≤ 17592186044415) (o2 : l2.length ≤ 17592186044415) (o3 : l3.length ≤ 17592186044415) : FC Tryz.prog G 56 [OpV k b1 l1 e1 b2 l2 e2 b3 l3 m] (· = OpV k b1 l1 e1 b2 l2 e2 b3 l3 m) := by
  have f1 := r_twin (G := G) b1 l1 e1 o1
  have f2 := r_twin (G := G) b2 l2 e2 o2
  have f3 := r_twin (G := G) b3 l3 0 o3
  refine FC.intro (X := XX) tok Tryz.func56 rfl Tryz.ntmps56 (by rw [Tryz.results56]) (by kernel_rfl) rfl ?_; intro F hG hO
  rw [← hG] at f1 f2 f3
  repeat' ((try (conv => whnf)); first
  | ((with_reducible refine cg ?_); refine call_eq (f1) (LpL.refl _) rfl ?_)
  | ((with_reducible refine cg ?_); refine call_eq (f2) (LpL.refl _) rfl ?_)
  | ((with_reducible refine cg ?_); refine call_eq (f3) (LpL.refl _) rfl ?_)
  
  | (with_reducible refine Chk.mk' (by first | omega | exact trivial | (simp only [List.length_append, List.length_set, List.length_replicate, List.length_take, List.length_drop, List.length_cons, List.length_nil, List.length_map]; omega)) ?_)
  | (with_reducible refine wrap_g (by dsimp only [inR]; omega) ?_)
  | (with_reducible refine idx_g (by omega) ?_)
  | (with_reducible refine idx_l _ rfl (by decide) ?_)
  | (with_reducible refine BothG.mk ?_ ?_)
  | (with_reducible refine fork_tt ?_) | (with_reducible refine fork_ff ?_)
  | (with_reducible refine fork_e (c := true) (by decide) ?_; with_reducible refine fork_tt ?_) | (with_reducible refine fork_e (c := false) (by decide) ?_; with_reducible refine fork_ff ?_)
  | (with_reducible refine fork_t (by omega) ?_) | (with_reducible refine fork_f (by omega) ?_)
  | (with_reducible refine fork_d ?_ ?_ <;> intro hc)
  | (with_reducible refine fork_n ?_)
  | (with_reducible refine fork_b ?_ ?_ <;> intro hc)
  | (with_reducible refine SlcG.mk (by omega) ?_)
  | (with_reducible refine MakG.mk (by dsimp only; omega) ?_)
  | (with_reducible refine AppG.mk (by first | omega | (simp only [List.length_append, List.length_set, List.length_replicate, List.length_take, List.length_drop, List.length_cons, List.length_nil, List.length_map]; omega)) (by dsimp only [List.length_cons, List.length_nil]; omega) (by omega) ?_)
  | (with_reducible refine div_g (by omega) (by omega) (by dsimp only [inR]; omega) ?_)
  | (with_reducible refine mod_g (by omega) (by omega) ?_)
  | (with_reducible refine mask_g (m := 4294967296) 32 rfl rfl (by decide) (by omega) ?_)
  | (with_reducible refine shr_g (m := 4294967296) 32 rfl (by decide) (by omega) rfl ?_)
  | (with_reducible refine fz_all (by omega) ?_)
  | (with_reducible refine Stuck.h (A := RetE _ _) ?_) | (with_reducible refine Stuck.h (A := RetM _ _ _ _) ?_) | (with_reducible refine Stuck.h (A := Again _ _ _ _ _ _ _ _) ?_) | (with_reducible refine Stuck.h (A := CallF _ _ _ _ _ _ _) ?_) | (with_reducible refine Stuck.h (A := LoopG _ _ _ _ _ _ _ _) ?_) | (with_reducible refine Stuck.h (A := DrawG _ _ _ _ _ _ _ _) ?_)
  | (with_reducible refine Stuck.h (A := WrapG _ _ _) ?_) | (with_reducible refine Stuck.h (A := DivG _ _ _ _) ?_) | (with_reducible refine Stuck.h (A := ModG _ _ _) ?_) | (with_reducible refine Stuck.h (A := ShlG _ _ _ _) ?_) | (with_reducible refine Stuck.h (A := ShrG _ _ _ _) ?_) | (with_reducible refine Stuck.h (A := BitG _ _ _ _ _) ?_)
  | (with_reducible refine Stuck.h (A := IdxG _ _ _) ?_) | (with_reducible refine Stuck.h (A := IdxL _ _ _) ?_) | (with_reducible refine Stuck.h (A := SlcG _ _ _ _ _) ?_) | (with_reducible refine Stuck.h (A := MakG _ _ _ _) ?_) | (with_reducible refine Stuck.h (A := AppG _ _ _ _ _ _ _) ?_) | (with_reducible refine Stuck.h (A := FzG _ _ _ _) ?_)
  | (with_reducible refine Stuck.h (A := RawG _) ?_) | (with_reducible refine Stuck.h (A := TabG _ _ _ _ _) ?_) | (with_reducible refine Stuck.h (A := ExtF _ _ _ _) ?_) | (with_reducible refine Stuck.h (A := Chk _ _) ?_) | (with_reducible refine Stuck.h (A := False) ?_))
  exact ⟨ret_e rfl⟩
end Go.Proofs.YtbeocnjlepcglaaGreatDoor.Sim
namespace Go.Proofs.YtbeocnjlepcglaaGreatDoor.Sim
open Go.RowKit
set_option linter.unusedVariables false
set_option linter.unusedSimpArgs false
set_option maxRecDepth 10000
set_option maxHeartbeats 8000000
variable {G : List (Nat × List Value)}
end Go.Proofs.YtbeocnjlepcglaaGreatDoor.Sim
