/-
  Numbers as lists of digits, least first: values, digits of a number, what is dropped on top. Plain Lean: no program. No condition.
-/
import Derived.Test.YtlbnlalkimnhdaaDoorSimE
namespace Go.Proofs.YtlbnlalkimnhdaaDoor.Sim
set_option linter.unusedVariables false
set_option linter.unusedSimpArgs false
/-- The number that digits to the base B are. -/
def vl (B : Int) : List Int → Int
  | [] => 0
  | x :: l => x + B * vl B l
def okD (B : Int) (l : List Int) : Prop := ∀ x ∈ l, 0 ≤ x ∧ x < B
/-- Digits without noughts on top. -/
def trim : List Int → List Int
  | [] => []
  | x :: l => match trim l with
    | [] => if x = 0 then [] else [x]
    | l => x :: l
/-- The digits of a number. -/
def dgs (B n : Nat) : List Int := if h : n = 0 ∨ B ≤ 1 then [] else ((n % B : Nat) : Int) :: dgs B (n / B)
termination_by n
decreasing_by exact Nat.div_lt_self (by omega) (by omega)
theorem vl_append (B : Int) (l m : List Int) : vl B (l ++ m) = vl B l + B ^ l.length * vl B m := by
  induction l with
  | nil => simp [vl]
  | cons x l ih =>
    have e : B ^ (l.length + 1) * vl B m = B * (B ^ l.length * vl B m) := by rw [Int.pow_succ, Int.mul_comm (B ^ l.length) B, Int.mul_assoc]
    simp only [List.cons_append, vl, ih, List.length_cons, e, Int.mul_add, Int.add_assoc]
theorem vl_snoc (B : Int) (l : List Int) (x : Int) : vl B (l ++ [x]) = vl B l + B ^ l.length * x := by simp [vl_append, vl]
theorem take_succ_rd (a : List Int) (i : Nat) (h : i < a.length) : a.take (i + 1) = a.take i ++ [rd a i] := by
  rw [List.take_succ_eq_append_getElem h]
  simp [rd, List.getD_eq_getElem?_getD, h]
theorem vl_take_succ (B : Int) (a : List Int) (i : Nat) (h : i < a.length) : vl B (a.take (i + 1)) = vl B (a.take i) + B ^ i * rd a i := by
  rw [take_succ_rd a i h, vl_snoc]
  have : min i a.length = i := by omega
  simp [this]
theorem okD_rd {B : Int} {a : List Int} (h : okD B a) (i : Nat) (hi : i < a.length) : 0 ≤ rd a i ∧ rd a i < B := by
  have : rd a i = a[i] := by simp [rd, List.getD_eq_getElem?_getD, hi]
  rw [this]; exact h _ (List.getElem_mem hi)
theorem okD_nil (B : Int) : okD B [] := fun x h => by simp at h
theorem okD_cons {B x : Int} {l : List Int} : okD B (x :: l) ↔ (0 ≤ x ∧ x < B) ∧ okD B l := by simp [okD]
theorem okD_append {B : Int} {l m : List Int} : okD B (l ++ m) ↔ okD B l ∧ okD B m := by
  simp only [okD, List.mem_append]
  exact ⟨fun h => ⟨fun x hx => h x (.inl hx), fun x hx => h x (.inr hx)⟩, fun h x hx => hx.elim (h.1 x) (h.2 x)⟩
theorem okD.take {B : Int} {l : List Int} (h : okD B l) (n : Nat) : okD B (l.take n) := fun x hx => h x (List.mem_of_mem_take hx)
theorem okD.drop {B : Int} {l : List Int} (h : okD B l) (n : Nat) : okD B (l.drop n) := fun x hx => h x (List.mem_of_mem_drop hx)
theorem vl_nonneg {B : Int} (hB : 0 ≤ B) : ∀ {l : List Int}, okD B l → 0 ≤ vl B l
  | [], _ => Int.le_refl 0
  | x :: l, h => by
    have h1 := (okD_cons.1 h).1.1
    have h2 := vl_nonneg hB (okD_cons.1 h).2
    have h3 := Int.mul_nonneg hB h2
    simp only [vl]; omega
theorem vl_lt {B : Int} (hB : 0 < B) : ∀ {l : List Int}, okD B l → vl B l < B ^ l.length
  | [], _ => by simp [vl]
  | x :: l, h => by
    have h1 := (okD_cons.1 h).1.2
    have h2 := vl_lt hB (okD_cons.1 h).2
    have h3 : B * vl B l ≤ B * (B ^ l.length - 1) := Int.mul_le_mul_of_nonneg_left (by omega) (by omega)
    have e : B ^ (l.length + 1) = B * B ^ l.length := by rw [Int.pow_succ, Int.mul_comm]
    have e2 : B * (B ^ l.length - 1) = B * B ^ l.length - B := by rw [Int.mul_sub, Int.mul_one]
    simp only [vl, List.length_cons, e]; omega
theorem vl_trim (B : Int) : ∀ l : List Int, vl B (trim l) = vl B l
  | [] => rfl
  | x :: l => by
    have ih := vl_trim B l
    simp only [trim]
    split
    · rename_i h
      rw [h] at ih
      split
      · rename_i hx; subst hx; simp only [vl] at ih ⊢; rw [← ih]; simp
      · simp only [vl] at ih ⊢; rw [← ih]
    · simp only [vl, ih]
theorem okD.trim {B : Int} : ∀ {l : List Int}, okD B l → okD B (trim l)
  | [], _ => okD_nil B
  | x :: l, h => by
    have ih := okD.trim (okD_cons.1 h).2
    simp only [Sim.trim]
    split
    · split
      · exact okD_nil B
      · exact okD_cons.2 ⟨(okD_cons.1 h).1, okD_nil B⟩
    · exact okD_cons.2 ⟨(okD_cons.1 h).1, ih⟩
/-- THE DIGITS ARE THE NUMBER's. -/
theorem trim_dgs {B : Nat} (hB : 2 ≤ B) : ∀ {l : List Int}, okD B l → trim l = dgs B (vl B l).toNat
  | [], _ => by unfold dgs; simp [trim, vl]
  | x :: l, h => by
    obtain ⟨hx, hl⟩ := okD_cons.1 h
    have ih := trim_dgs hB hl
    have h0 := vl_nonneg (B := (B : Int)) (by omega) hl
    obtain ⟨n, hn⟩ : ∃ n : Nat, vl B l = n := ⟨(vl B l).toNat, by omega⟩
    obtain ⟨y, rfl⟩ : ∃ y : Nat, x = y := ⟨x.toNat, by omega⟩
    have hy : y < B := by omega
    have e : (vl B ((y : Int) :: l)).toNat = y + B * n := by
      simp only [vl, hn]
      have : ((y : Int) + (B : Int) * (n : Int)) = ((y + B * n : Nat) : Int) := by simp
      rw [this, Int.toNat_natCast]
    rw [e]
    rw [hn] at ih
    simp only [Int.toNat_natCast] at ih
    have hm : (y + B * n) % B = y := by rw [Nat.add_mul_mod_self_left, Nat.mod_eq_of_lt hy]
    have hd : (y + B * n) / B = n := by rw [Nat.add_mul_div_left _ _ (by omega), Nat.div_eq_of_lt hy, Nat.zero_add]
    simp only [trim]
    by_cases hz : y + B * n = 0
    · have hy0 : y = 0 := by omega
      have hn0 : n = 0 := by
        have h1 : B * n = 0 := by omega
        rcases Nat.mul_eq_zero.1 h1 with h | h <;> omega
      subst hy0 hn0
      have : dgs B 0 = [] := by unfold dgs; simp
      rw [ih, this]
      simp [this]
    · have hu : dgs B (y + B * n) = (y : Int) :: dgs B n := by
        rw [dgs, dif_neg (by omega), hm, hd]
      rw [hu, ih]
      split
      · rename_i h0'
        split
        · rename_i hy0
          have hy0 : y = 0 := by omega
          exfalso
          subst hy0
          have hnn : n ≠ 0 := by intro e; subst e; simp at hz
          rw [dgs, dif_neg (by omega)] at h0'
          cases h0'
        · rw [h0']
      · rfl
/-- A natural as digits to the base 2^32, to the base 2^64. -/
def d32 (n : Nat) : List Int := dgs 4294967296 n
def d64 (n : Nat) : List Int := dgs 18446744073709551616 n
theorem dgs_ok {B : Nat} (hB : 2 ≤ B) (n : Nat) : okD B (dgs B n) ∧ vl B (dgs B n) = n ∧ trim (dgs B n) = dgs B n := by
  induction n using Nat.strongRecOn with
  | _ n ih =>
    by_cases h0 : n = 0
    · subst h0
      have : dgs B 0 = [] := by unfold dgs; simp
      rw [this]; exact ⟨okD_nil _, rfl, rfl⟩
    · obtain ⟨h1, h2, h3⟩ := ih (n / B) (Nat.div_lt_self (by omega) (by omega))
      have e : dgs B n = ((n % B : Nat) : Int) :: dgs B (n / B) := by rw [dgs, dif_neg (by omega)]
      have hm := Nat.mod_lt n (show 0 < B by omega)
      have hok : okD B (dgs B n) := by rw [e]; exact okD_cons.2 ⟨by omega, h1⟩
      have hv : vl B (dgs B n) = n := by
        rw [e]; simp only [vl, h2]
        have := Nat.mod_add_div n B
        exact_mod_cast this
      refine ⟨hok, hv, ?_⟩
      rw [trim_dgs hB hok, hv]; simp
theorem rd_bd {B : Int} (hB : 0 < B) {a : List Int} (h : okD B a) (i : Int) : 0 ≤ rd a i ∧ rd a i < B := by
  unfold rd
  rw [List.getD_eq_getElem?_getD]
  cases hq : a[i.toNat]? with
  | none => simpa using hB
  | some x => exact h x (List.mem_of_getElem? hq)
theorem rd_out (a : List Int) (i : Nat) (h : a.length ≤ i) : rd a i = 0 := by simp [rd, List.getD_eq_getElem?_getD, h]
theorem vl_take_step (B : Int) (a : List Int) (i : Nat) : vl B (a.take (i + 1)) = vl B (a.take i) + B ^ i * rd a i := by
  by_cases h : i < a.length
  · exact vl_take_succ B a i h
  · rw [rd_out a i (by omega), List.take_of_length_le (by omega), List.take_of_length_le (by omega)]; simp
theorem d32_ok (n : Nat) : okD 4294967296 (d32 n) ∧ vl 4294967296 (d32 n) = n := ⟨(dgs_ok (B := 4294967296) (by decide) n).1, (dgs_ok (B := 4294967296) (by decide) n).2.1⟩
/-- One digit of a sum: what is told by the list so far and the carry. -/
theorem sum_step {B vs d c2 T : Int} (i : Nat) (h : d + B * c2 = T) : vs + B ^ i * d + B ^ (i + 1) * c2 = vs + B ^ i * T := by
  rw [Int.pow_succ, Int.mul_assoc, Int.add_assoc, ← Int.mul_add, h]
theorem drop_rd (a : List Int) (i : Nat) (h : i < a.length) : a.drop i = rd a i :: a.drop (i + 1) := by
  rw [List.drop_eq_getElem_cons h]
  simp [rd, List.getD_eq_getElem?_getD, h]
theorem vl_split (B : Int) (a : List Int) (i : Nat) (h : i ≤ a.length) : vl B a = vl B (a.take i) + B ^ i * vl B (a.drop i) := by
  have := vl_append B (a.take i) (a.drop i)
  rw [List.take_append_drop] at this
  rw [this]; simp [Nat.min_eq_left h]
theorem vl_lt_of {B : Int} (hB : 0 < B) {a b : List Int} (oka : okD B a) (okb : okD B b) (hl : a.length = b.length) (i : Nat) (hi : i < a.length) (hd : a.drop (i + 1) = b.drop (i + 1)) (h : rd a i < rd b i) : vl B a < vl B b := by
  rw [vl_split B a i (by omega), vl_split B b i (by omega), drop_rd a i hi, drop_rd b i (by omega), hd]
  simp only [vl]
  have h1 := vl_lt hB (oka.take i)
  have h2 := vl_nonneg (Int.le_of_lt hB) (okb.take i)
  have hlen : (a.take i).length = i := by simp; omega
  rw [hlen] at h1
  have hp : 0 ≤ B ^ i := Int.pow_nonneg (Int.le_of_lt hB)
  have h3 : B ^ i * (rd a i + 1) ≤ B ^ i * rd b i := Int.mul_le_mul_of_nonneg_left (by omega) hp
  rw [Int.mul_add, Int.mul_one] at h3
  rw [Int.mul_add, Int.mul_add]
  omega
theorem dgs_len {B : Nat} (hB : 2 ≤ B) (n : Nat) : n < B ^ (dgs B n).length ∧ (n ≠ 0 → 0 < (dgs B n).length ∧ B ^ ((dgs B n).length - 1) ≤ n) := by
  induction n using Nat.strongRecOn with
  | _ n ih =>
    by_cases h0 : n = 0
    · subst h0
      have : dgs B 0 = [] := by unfold dgs; simp
      rw [this]; simp
    · obtain ⟨h1, h2⟩ := ih (n / B) (Nat.div_lt_self (by omega) (by omega))
      have e : dgs B n = ((n % B : Nat) : Int) :: dgs B (n / B) := by rw [dgs, dif_neg (by omega)]
      have hdm := Nat.div_add_mod n B
      have hm := Nat.mod_lt n (show 0 < B by omega)
      rw [e]
      simp only [List.length_cons, Nat.add_sub_cancel]
      refine ⟨?_, fun _ => ⟨Nat.succ_pos _, ?_⟩⟩
      · rw [Nat.pow_succ, Nat.mul_comm]
        have : B * (n / B + 1) ≤ B * B ^ (dgs B (n / B)).length := Nat.mul_le_mul_left _ h1
        rw [Nat.mul_add] at this; omega
      · by_cases hq : n / B = 0
        · have : dgs B (n / B) = [] := by rw [hq]; unfold dgs; simp
          rw [this]; simp; omega
        · obtain ⟨g1, g2⟩ := h2 hq
          have e2 : (dgs B (n / B)).length = (dgs B (n / B)).length - 1 + 1 := by omega
          rw [e2, Nat.pow_succ, Nat.mul_comm]
          have := Nat.mul_le_mul_left B g2
          omega
theorem dgs_lt {B : Nat} (hB : 2 ≤ B) {x y : Nat} (h : (dgs B x).length < (dgs B y).length) : x < y := by
  have h1 := (dgs_len hB x).1
  have hy : y ≠ 0 := by
    intro e
    subst e
    have : dgs B 0 = [] := by unfold dgs; simp
    rw [this] at h; simp at h
  obtain ⟨h2, h3⟩ := (dgs_len hB y).2 hy
  exact Nat.lt_of_lt_of_le h1 (Nat.le_trans (Nat.pow_le_pow_right (by omega) (by omega)) h3)
/-! ### lengths -/
def lenB (B n : Nat) : Nat := (dgs B n).length
theorem lenB_le {B : Nat} (hB : 2 ≤ B) {x n : Nat} (h : x < B ^ n) : lenB B x ≤ n := by
  rcases Nat.lt_or_ge n (lenB B x) with h1 | h1
  · obtain ⟨_, h2⟩ := dgs_len hB x
    by_cases hx : x = 0
    · subst hx
      have : dgs B 0 = [] := by unfold dgs; simp
      simp [lenB, this] at h1
    · obtain ⟨h3, h4⟩ := h2 hx
      have h5 : B ^ n ≤ B ^ ((dgs B x).length - 1) := Nat.pow_le_pow_right (by omega) (by unfold lenB at h1; omega)
      omega
  · exact h1
theorem lenB_lt {B : Nat} (hB : 2 ≤ B) (x : Nat) : x < B ^ lenB B x := (dgs_len hB x).1
theorem lenB_mono {B : Nat} (hB : 2 ≤ B) {x y : Nat} (h : x ≤ y) : lenB B x ≤ lenB B y := lenB_le hB (Nat.lt_of_le_of_lt h (lenB_lt hB y))
theorem lenB_add {B : Nat} (hB : 2 ≤ B) (x y : Nat) : lenB B (x + y) ≤ max (lenB B x) (lenB B y) + 1 := by
  refine lenB_le hB ?_
  have h1 : B ^ lenB B x ≤ B ^ max (lenB B x) (lenB B y) := Nat.pow_le_pow_right (by omega) (by omega)
  have h2 : B ^ lenB B y ≤ B ^ max (lenB B x) (lenB B y) := Nat.pow_le_pow_right (by omega) (by omega)
  have h3 := lenB_lt hB x
  have h4 := lenB_lt hB y
  have h5 : B ^ max (lenB B x) (lenB B y) * 2 ≤ B ^ (max (lenB B x) (lenB B y) + 1) := by rw [Nat.pow_succ]; exact Nat.mul_le_mul_left _ hB
  omega
theorem lenB_mul {B : Nat} (hB : 2 ≤ B) (x y : Nat) : lenB B (x * y) ≤ lenB B x + lenB B y := by
  refine lenB_le hB ?_
  rw [Nat.pow_add]
  have h3 := lenB_lt hB x
  have h4 := lenB_lt hB y
  rcases Nat.eq_zero_or_pos y with h0 | h0
  · subst h0
    have : 0 < B ^ lenB B x * B ^ lenB B 0 := Nat.mul_pos (Nat.pow_pos (by omega)) (Nat.pow_pos (by omega))
    simpa using this
  · exact Nat.lt_of_lt_of_le (Nat.mul_lt_mul_of_pos_right h3 h0) (Nat.mul_le_mul_left _ (Nat.le_of_lt h4))
theorem lenB_zero (B : Nat) : lenB B 0 = 0 := by unfold lenB dgs; simp
theorem lenB_pos {B : Nat} (hB : 2 ≤ B) {x : Nat} (h : x ≠ 0) : 0 < lenB B x := ((dgs_len hB x).2 h).1
theorem lenB_eq_zero {B : Nat} (hB : 2 ≤ B) {x : Nat} : lenB B x = 0 ↔ x = 0 := ⟨fun h => by
  rcases Nat.eq_zero_or_pos x with h0 | h0
  · exact h0
  · have := lenB_pos hB (x := x) (by omega); omega, fun h => by subst h; exact lenB_zero B⟩
theorem lenB_ge {B : Nat} (hB : 2 ≤ B) {x n : Nat} (h : B ^ n ≤ x) : n < lenB B x := by
  rcases Nat.lt_or_ge n (lenB B x) with h1 | h1
  · exact h1
  · have h2 := lenB_lt hB x
    have h3 : B ^ lenB B x ≤ B ^ n := Nat.pow_le_pow_right (by omega) h1
    omega
abbrev L32 (n : Nat) : Nat := lenB 4294967296 n
abbrev L64 (n : Nat) : Nat := lenB 18446744073709551616 n
theorem pow32 (n : Nat) : (4294967296 : Nat) ^ n = 2 ^ (32 * n) := by rw [Nat.pow_mul]
theorem pow64 (n : Nat) : (18446744073709551616 : Nat) ^ n = 2 ^ (64 * n) := by rw [Nat.pow_mul]
theorem L32_le {x n : Nat} (h : x < 2 ^ (32 * n)) : L32 x ≤ n := lenB_le (by decide) (by rw [pow32]; exact h)
theorem L32_lt (x : Nat) : x < 2 ^ (32 * L32 x) := by rw [← pow32]; exact lenB_lt (by decide) x
theorem L64_le {x n : Nat} (h : x < 2 ^ (64 * n)) : L64 x ≤ n := lenB_le (by decide) (by rw [pow64]; exact h)
theorem L64_lt (x : Nat) : x < 2 ^ (64 * L64 x) := by rw [← pow64]; exact lenB_lt (by decide) x
theorem L32_shl (x n : Nat) : L32 (x * 2 ^ n) ≤ L32 x + n / 32 + 1 := by
  refine L32_le ?_
  have h := L32_lt x
  have h2 : x * 2 ^ n < 2 ^ (32 * L32 x) * 2 ^ n := Nat.mul_lt_mul_of_pos_right h (Nat.pow_pos (by decide))
  rw [← Nat.pow_add] at h2
  exact Nat.lt_of_lt_of_le h2 (Nat.pow_le_pow_right (by decide) (by omega))
theorem L64_shl (x n : Nat) : L64 (x * 2 ^ n) ≤ L64 x + n / 64 + 1 := by
  refine L64_le ?_
  have h := L64_lt x
  have h2 : x * 2 ^ n < 2 ^ (64 * L64 x) * 2 ^ n := Nat.mul_lt_mul_of_pos_right h (Nat.pow_pos (by decide))
  rw [← Nat.pow_add] at h2
  exact Nat.lt_of_lt_of_le h2 (Nat.pow_le_pow_right (by decide) (by omega))
theorem d64_ok (n : Nat) : okD 18446744073709551616 (d64 n) ∧ vl 18446744073709551616 (d64 n) = n := ⟨(dgs_ok (B := 18446744073709551616) (by decide) n).1, (dgs_ok (B := 18446744073709551616) (by decide) n).2.1⟩
end Go.Proofs.YtlbnlalkimnhdaaDoor.Sim
