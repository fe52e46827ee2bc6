/-
  Plain numbers: bits, trailing noughts, digits of quotients and remainders. No condition.
-/
import Derived.Test.YtlbnlalkimnhdaaDoorDig
namespace Go.Proofs.YtlbnlalkimnhdaaDoor.Sim
set_option linter.unusedVariables false
set_option linter.unusedSectionVars false
set_option linter.unusedSimpArgs false
/-- The bit length. -/
def bl (n : Nat) : Nat := if n = 0 then 0 else Nat.log2 n + 1
theorem lt_bl (n : Nat) : n < 2 ^ bl n := by
  unfold bl
  split
  · rename_i h; subst h; decide
  · rename_i h; exact (Nat.log2_lt h).1 (Nat.lt_succ_self _)
theorem bl_le {n k : Nat} (h : n < 2 ^ k) : bl n ≤ k := by
  unfold bl
  split
  · omega
  · rename_i h0; exact (Nat.log2_lt h0).2 h
theorem bl_ge {n k : Nat} (h : 2 ^ k ≤ n) : k < bl n := by
  rcases Nat.lt_or_ge k (bl n) with h1 | h1
  · exact h1
  · have := Nat.lt_of_lt_of_le (lt_bl n) (Nat.pow_le_pow_right (show 0 < 2 by decide) h1)
    omega
theorem bl_eq {n k : Nat} (h : n < 2 ^ k) (h2 : k = 0 ∨ 2 ^ (k - 1) ≤ n) : bl n = k := by
  have h3 := bl_le h
  rcases h2 with h2 | h2
  · omega
  · have := bl_ge h2; omega
theorem bl_zero : bl 0 = 0 := rfl
theorem bl_pos {n : Nat} (h : n ≠ 0) : 0 < bl n := by unfold bl; rw [if_neg h]; omega
theorem le_of_bl {n : Nat} (h : n ≠ 0) : 2 ^ (bl n - 1) ≤ n := by
  rcases Nat.lt_or_ge n (2 ^ (bl n - 1)) with h1 | h1
  · have := bl_le h1; have := bl_pos h; omega
  · exact h1
theorem bl_eq_zero {n : Nat} : bl n = 0 ↔ n = 0 := ⟨fun h => by
  rcases Nat.eq_zero_or_pos n with h0 | h0
  · exact h0
  · have := bl_pos (n := n) (by omega); omega, fun h => by subst h; rfl⟩
theorem bl_mul_pow (n k : Nat) (h : n ≠ 0) : bl (n * 2 ^ k) = bl n + k := by
  have h1 := lt_bl n
  have h2 := le_of_bl h
  have h3 := bl_pos h
  refine bl_eq ?_ (.inr ?_)
  · rw [Nat.pow_add]; exact Nat.mul_lt_mul_of_pos_right h1 (Nat.pow_pos (by decide))
  · rw [show bl n + k - 1 = (bl n - 1) + k by omega, Nat.pow_add]; exact Nat.mul_le_mul_right _ h2
theorem bl_mono {m n : Nat} (h : m ≤ n) : bl m ≤ bl n := bl_le (Nat.lt_of_le_of_lt h (lt_bl n))
/-- How often 2 divides n (0 of nought). -/
def tz (n : Nat) : Nat := if h : n ≠ 0 ∧ n % 2 = 0 then tz (n / 2) + 1 else 0
termination_by n
decreasing_by omega
theorem tz_ok : ∀ {n : Nat}, n ≠ 0 → ∃ m, n = m * 2 ^ tz n ∧ m % 2 = 1 := by
  intro n
  induction n using Nat.strongRecOn with
  | _ n ih =>
    intro h
    unfold tz
    split
    · rename_i hh
      obtain ⟨m, h1, h2⟩ := ih (n / 2) (by omega) (by omega)
      refine ⟨m, ?_, h2⟩
      rw [Nat.pow_succ, ← Nat.mul_assoc, ← h1]; omega
    · exact ⟨n, by simp, by omega⟩
theorem tz_eq {n m k : Nat} (h : n = m * 2 ^ k) (hm : m % 2 = 1) : tz n = k := by
  induction k generalizing n with
  | zero =>
    unfold tz
    rw [dif_neg]
    simp at h; omega
  | succ k ih =>
    have hp : 0 < 2 ^ k := Nat.pow_pos (by decide)
    have hm0 : 0 < m * 2 ^ k := Nat.mul_pos (by omega) hp
    rw [Nat.pow_succ, ← Nat.mul_assoc] at h
    unfold tz
    rw [dif_pos ⟨by omega, by omega⟩, ih (n := n / 2) (by omega)]
theorem tz_zero : tz 0 = 0 := by unfold tz; simp
theorem odd_div {n : Nat} (h : n ≠ 0) : n = n / 2 ^ tz n * 2 ^ tz n ∧ n / 2 ^ tz n % 2 = 1 := by
  obtain ⟨m, h1, h2⟩ := tz_ok h
  have hp : 0 < 2 ^ tz n := Nat.pow_pos (by decide)
  have e : n / 2 ^ tz n = m := by
    conv => lhs; arg 1; rw [h1]
    exact Nat.mul_div_cancel _ hp
  rw [e]; exact ⟨h1, h2⟩
section
variable {B : Nat} (hB : 2 ≤ B)
include hB
theorem dgs_cons {n : Nat} (h : n ≠ 0) : dgs B n = ((n % B : Nat) : Int) :: dgs B (n / B) := by
  rw [dgs, dif_neg (by omega)]
theorem dgs_nil : dgs B 0 = [] := by rw [dgs, dif_pos (by omega)]
theorem dgs_drop : ∀ (k n : Nat), (dgs B n).drop k = dgs B (n / B ^ k)
  | 0, n => by simp
  | k + 1, n => by
    by_cases h : n = 0
    · subst h; rw [dgs_nil hB, Nat.zero_div, dgs_nil hB, List.drop_nil]
    · rw [dgs_cons hB h, List.drop_succ_cons, dgs_drop k, Nat.div_div_eq_div_mul, Nat.pow_succ, Nat.mul_comm B]
theorem dgs_take : ∀ (k n : Nat), vl B ((dgs B n).take k) = ((n % B ^ k : Nat) : Int)
  | 0, n => by simp [vl, Nat.mod_one]
  | k + 1, n => by
    by_cases h : n = 0
    · subst h; rw [dgs_nil hB]; simp [vl]
    · rw [dgs_cons hB h, List.take_succ_cons]
      simp only [vl]
      rw [dgs_take k]
      have e : n % B ^ (k + 1) = n % B + B * (n / B % B ^ k) := by rw [Nat.pow_succ, Nat.mul_comm (B ^ k), Nat.mod_mul]
      rw [e]
      simp
theorem dgs_rd (n i : Nat) : rd (dgs B n) i = ((n / B ^ i % B : Nat) : Int) := by
  have h := dgs_drop hB i n
  have e : rd (dgs B n) i = rd ((dgs B n).drop i) (0 : Nat) := by simp [rd, List.getD_eq_getElem?_getD]
  rw [e, h]
  by_cases h0 : n / B ^ i = 0
  · rw [h0, dgs_nil hB]; simp [rd]
  · rw [dgs_cons hB h0]; simp [rd]
end
theorem d32_drop (n k : Nat) : (d32 n).drop k = d32 (n / 2 ^ (32 * k)) := by
  have := dgs_drop (B := 4294967296) (by decide) k n
  rw [pow32] at this
  exact this
theorem d64_drop (n k : Nat) : (d64 n).drop k = d64 (n / 2 ^ (64 * k)) := by
  have := dgs_drop (B := 18446744073709551616) (by decide) k n
  rw [pow64] at this
  exact this
theorem d32_take (n k : Nat) : vl 4294967296 ((d32 n).take k) = ((n % 2 ^ (32 * k) : Nat) : Int) := by
  have := dgs_take (B := 4294967296) (by decide) k n
  rw [pow32] at this
  exact this
theorem d64_take (n k : Nat) : vl 18446744073709551616 ((d64 n).take k) = ((n % 2 ^ (64 * k) : Nat) : Int) := by
  have := dgs_take (B := 18446744073709551616) (by decide) k n
  rw [pow64] at this
  exact this
theorem d32_rd (n i : Nat) : rd (d32 n) i = ((n / 2 ^ (32 * i) % 4294967296 : Nat) : Int) := by
  have := dgs_rd (B := 4294967296) (by decide) n i
  rw [pow32] at this
  exact this
theorem d64_rd (n i : Nat) : rd (d64 n) i = ((n / 2 ^ (64 * i) % 18446744073709551616 : Nat) : Int) := by
  have := dgs_rd (B := 18446744073709551616) (by decide) n i
  rw [pow64] at this
  exact this
/-- The bit length by the top digit. -/
theorem bl_top (n k : Nat) (h : n / 2 ^ k ≠ 0) : bl n = k + bl (n / 2 ^ k) := by
  have hp : 0 < 2 ^ k := Nat.pow_pos (by decide)
  refine bl_eq ?_ (.inr ?_)
  · rw [Nat.pow_add, Nat.mul_comm]; exact (Nat.div_lt_iff_lt_mul hp).1 (lt_bl _)
  · have := bl_pos h
    rw [show k + bl (n / 2 ^ k) - 1 = (bl (n / 2 ^ k) - 1) + k by omega, Nat.pow_add]
    exact (Nat.le_div_iff_mul_le hp).1 (le_of_bl h)
theorem L32_bl (n : Nat) : L32 n = (bl n + 31) / 32 := by
  by_cases h : n = 0
  · subst h; exact lenB_zero _
  · have h1 := lt_bl n
    have h2 := le_of_bl h
    have h3 := bl_pos h
    have a : L32 n ≤ (bl n + 31) / 32 := L32_le (Nat.lt_of_lt_of_le h1 (Nat.pow_le_pow_right (by decide) (by omega)))
    have b : (bl n - 1) / 32 < L32 n := lenB_ge (by decide) (by rw [pow32]; exact Nat.le_trans (Nat.pow_le_pow_right (by decide) (by omega)) h2)
    omega
theorem L64_bl (n : Nat) : L64 n = (bl n + 63) / 64 := by
  by_cases h : n = 0
  · subst h; exact lenB_zero _
  · have h1 := lt_bl n
    have h2 := le_of_bl h
    have h3 := bl_pos h
    have a : L64 n ≤ (bl n + 63) / 64 := L64_le (Nat.lt_of_lt_of_le h1 (Nat.pow_le_pow_right (by decide) (by omega)))
    have b : (bl n - 1) / 64 < L64 n := lenB_ge (by decide) (by rw [pow64]; exact Nat.le_trans (Nat.pow_le_pow_right (by decide) (by omega)) h2)
    omega
theorem pw32 {n : Nat} (h : n < 32) : 0 < (2 : Int) ^ n ∧ (2 : Int) ^ n < 4294967296 := by
  have h2 : (2 : Nat) ^ n < 2 ^ 32 := Nat.pow_lt_pow_right (by decide) h
  have h1 : 0 < (2 : Nat) ^ n := Nat.pow_pos (by decide)
  have h3 : ((2 : Int) ^ n) = ((2 ^ n : Nat) : Int) := by simp
  obtain ⟨m, hm⟩ : ∃ m : Nat, m = 2 ^ n := ⟨_, rfl⟩
  rw [h3]
  rw [← hm] at h1 h2 ⊢
  have : m < 4294967296 := h2
  omega
theorem pw64 {n : Nat} (h : n < 64) : 0 < (2 : Int) ^ n ∧ (2 : Int) ^ n < 18446744073709551616 := by
  have h2 : (2 : Nat) ^ n < 2 ^ 64 := Nat.pow_lt_pow_right (by decide) h
  have h1 : 0 < (2 : Nat) ^ n := Nat.pow_pos (by decide)
  have h3 : ((2 : Int) ^ n) = ((2 ^ n : Nat) : Int) := by simp
  obtain ⟨m, hm⟩ : ∃ m : Nat, m = 2 ^ n := ⟨_, rfl⟩
  rw [h3]
  rw [← hm] at h1 h2 ⊢
  have : m < 18446744073709551616 := h2
  omega
/-- A bit within a digit. -/
theorem bit_in (X q r w : Nat) (h : r < w) : X / 2 ^ q % 2 ^ w / 2 ^ r % 2 = X / 2 ^ (q + r) % 2 := by
  have e1 : 2 ^ w = 2 ^ r * 2 ^ (w - r) := by rw [← Nat.pow_add]; congr 1; omega
  rw [e1, Nat.mod_mul_right_div_self, Nat.div_div_eq_div_mul, ← Nat.pow_add]
  refine Nat.mod_mod_of_dvd _ ⟨2 ^ (w - r - 1), ?_⟩
  rw [← Nat.pow_succ']; congr 1; omega
/-- The top digit. -/
theorem top32 {X : Nat} (h : X ≠ 0) : X / 2 ^ (32 * (L32 X - 1)) < 4294967296 ∧ X / 2 ^ (32 * (L32 X - 1)) ≠ 0 := by
  have h1 : 0 < L32 X := lenB_pos (B := 4294967296) (by decide) h
  have h2 := L32_lt X
  have h3 : 2 ^ (32 * (L32 X - 1)) ≤ X := by
    have := ((dgs_len (B := 4294967296) (by decide) X).2 h).2
    rw [pow32] at this
    exact this
  have hp : 0 < 2 ^ (32 * (L32 X - 1)) := Nat.pow_pos (by decide)
  refine ⟨?_, ?_⟩
  · rw [Nat.div_lt_iff_lt_mul hp]
    have : (4294967296 : Nat) = 2 ^ 32 := by decide
    rw [this, ← Nat.pow_add]
    rwa [show 32 + 32 * (L32 X - 1) = 32 * L32 X by omega]
  · have := Nat.div_pos h3 hp; omega
theorem top64 {X : Nat} (h : X ≠ 0) : X / 2 ^ (64 * (L64 X - 1)) < 18446744073709551616 ∧ X / 2 ^ (64 * (L64 X - 1)) ≠ 0 := by
  have h1 : 0 < L64 X := lenB_pos (B := 18446744073709551616) (by decide) h
  have h2 := L64_lt X
  have h3 : 2 ^ (64 * (L64 X - 1)) ≤ X := by
    have := ((dgs_len (B := 18446744073709551616) (by decide) X).2 h).2
    rw [pow64] at this
    exact this
  have hp : 0 < 2 ^ (64 * (L64 X - 1)) := Nat.pow_pos (by decide)
  refine ⟨?_, ?_⟩
  · rw [Nat.div_lt_iff_lt_mul hp]
    have : (18446744073709551616 : Nat) = 2 ^ 64 := by decide
    rw [this, ← Nat.pow_add]
    rwa [show 64 + 64 * (L64 X - 1) = 64 * L64 X by omega]
  · have := Nat.div_pos h3 hp; omega
theorem d64_two (X j : Nat) : rd (d64 X) j = rd (d32 X) (2 * (j : Int)) + rd (d32 X) (2 * (j : Int) + 1) * 4294967296 := by
  have h0 := d32_rd X (2 * j)
  have h1 := d32_rd X (2 * j + 1)
  rw [show ((2 * j : Nat) : Int) = 2 * (j : Int) by omega] at h0
  rw [show ((2 * j + 1 : Nat) : Int) = 2 * (j : Int) + 1 by omega] at h1
  rw [d64_rd, h0, h1]
  have e1 : X / 2 ^ (32 * (2 * j)) = X / 2 ^ (64 * j) := by congr 2; omega
  have e2 : X / 2 ^ (32 * (2 * j + 1)) = X / 2 ^ (64 * j) / 4294967296 := by
    have : (4294967296 : Nat) = 2 ^ 32 := by decide
    rw [this, Nat.div_div_eq_div_mul, ← Nat.pow_add]; congr 2; omega
  rw [e1, e2]
  omega
theorem mod_step (X k w : Nat) (h : X % 2 ^ k = 0) (h2 : X / 2 ^ k % 2 ^ w = 0) : X % 2 ^ (k + w) = 0 := by
  rw [Nat.pow_add, Nat.mod_mul, h, h2]; simp
theorem pow_le_of_mod {X k : Nat} (h0 : X ≠ 0) (h : X % 2 ^ k = 0) : 2 ^ k ≤ X := by
  rcases Nat.lt_or_ge X (2 ^ k) with h1 | h1
  · rw [Nat.mod_eq_of_lt h1] at h; exact absurd h h0
  · exact h1
end Go.Proofs.YtlbnlalkimnhdaaDoor.Sim
