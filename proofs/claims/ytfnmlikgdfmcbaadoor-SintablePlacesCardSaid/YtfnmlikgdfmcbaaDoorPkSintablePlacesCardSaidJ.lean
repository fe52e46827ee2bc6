/-
  Lemmas of SintablePlacesCardSaid, part 10.
-/
import Derived.Test.YtfnmlikgdfmcbaaDoorPkSintablePlacesCardSaidI
import Ieee.Arith
namespace Go.Proofs.YtfnmlikgdfmcbaaDoor.Sim
open Ieee
set_option linter.unusedVariables false
set_option linter.unusedSimpArgs false
def uV (s : Nat) : Nat := (prS s).1 * 2 ^ ((prS s).2 + 1074).toNat
theorem prS_sub {s : Nat} (h : s / 4503599627370496 = 0) : prS s = (s % 4503599627370496, -1074) := if_pos h
theorem prS_nrm {s : Nat} (h : s / 4503599627370496 ≠ 0) : prS s = (4503599627370496 + s % 4503599627370496, -1074 + ((s / 4503599627370496 : Nat) : Int) - 1) := if_neg h
theorem prS_b (s : Nat) : (prS s).1 < 9007199254740992 ∧ -1074 ≤ (prS s).2 := by
  by_cases h : s / 4503599627370496 = 0
  · rw [prS_sub h]; dsimp only; omega
  · rw [prS_nrm h]; dsimp only; omega
theorem read_num {s : Nat} (h : s < 9218868437227405312) : double.read s = .number false (prS s).1 (prS s).2 := by
  have e1 : double.signWeight = 9223372036854775808 := by decide
  have e2 : double.binade = 4503599627370496 := by decide
  have e3 : double.infRung = 9218868437227405312 := by decide
  have e4 : double.leastPlace = -1074 := by decide
  have n1 : (s / 9223372036854775808 % 2 == 1) = false := by rw [Nat.div_eq_of_lt (by omega)]; rfl
  have n2 : s % 9223372036854775808 = s := Nat.mod_eq_of_lt (by omega)
  unfold Format.read
  rw [e1, e2, e3, e4, n1, n2]
  dsimp only
  by_cases h0 : s / 4503599627370496 = 0
  · rw [if_pos (by omega), prS_sub h0, Nat.mod_eq_of_lt (by omega)]
  · rw [if_neg (by omega), if_pos h, prS_nrm h0]
    dsimp only
    congr 1
    omega
theorem sgn (m n : Nat) : signed false m n = ((m * 2 ^ n : Nat) : Int) := by
  unfold signed
  rw [Nat.shiftLeft_eq]
  rfl
theorem uV_base {s : Nat} {base : Int} (h1 : -1074 ≤ base) (h2 : base ≤ (prS s).2) : uV s = (prS s).1 * 2 ^ ((prS s).2 - base).toNat * 2 ^ (base + 1074).toNat := by
  unfold uV
  rw [Nat.mul_assoc, ← Nat.pow_add]
  congr 2
  omega
theorem order_num {s c : Nat} (hs : s < 9218868437227405312) (hc : c < 9218868437227405312) : ∃ a b t : Nat, double.order s c = some (compare (a : Int) (b : Int)) ∧ uV s = a * 2 ^ t ∧ uV c = b * 2 ^ t := by
  have h1 := prS_b s
  have h2 := prS_b c
  refine ⟨_, _, (min (prS s).2 (prS c).2 + 1074).toNat, ?_, uV_base (base := min (prS s).2 (prS c).2) (by omega) (by omega), uV_base (base := min (prS s).2 (prS c).2) (by omega) (by omega)⟩
  unfold Format.order
  rw [read_num hs, read_num hc]
  unfold Datum.order
  dsimp only
  rw [sgn, sgn]
theorem cmp_lt {a b : Int} (h : a < b) : compare a b = .lt := by
  show compareOfLessAndEq a b = _
  unfold compareOfLessAndEq
  rw [if_pos h]
theorem cmp_eq {a b : Int} (h : a = b) : compare a b = .eq := by
  show compareOfLessAndEq a b = _
  unfold compareOfLessAndEq
  rw [if_neg (by omega), if_pos h]
theorem cmp_gt {a b : Int} (h : b < a) : compare a b = .gt := by
  show compareOfLessAndEq a b = _
  unfold compareOfLessAndEq
  rw [if_neg (by omega), if_neg (by omega)]
theorem ord_lt {s c : Nat} (hs : s < 9218868437227405312) (hc : c < 9218868437227405312) (h : uV s < uV c) : double.order s c = some .lt := by
  obtain ⟨a, b, t, h1, h2, h3⟩ := order_num hs hc
  rw [h2, h3] at h
  have := Nat.lt_of_mul_lt_mul_right h
  rw [h1, cmp_lt (by omega)]
theorem ord_eq {s c : Nat} (hs : s < 9218868437227405312) (hc : c < 9218868437227405312) (h : uV s = uV c) : double.order s c = some .eq := by
  obtain ⟨a, b, t, h1, h2, h3⟩ := order_num hs hc
  rw [h2, h3] at h
  have := Nat.eq_of_mul_eq_mul_right (Nat.pow_pos (by decide)) h
  rw [h1, cmp_eq (by omega)]
theorem ord_gt {s c : Nat} (hs : s < 9218868437227405312) (hc : c < 9218868437227405312) (h : uV c < uV s) : double.order s c = some .gt := by
  obtain ⟨a, b, t, h1, h2, h3⟩ := order_num hs hc
  rw [h2, h3] at h
  have := Nat.lt_of_mul_lt_mul_right h
  rw [h1, cmp_gt (by omega)]
theorem uV_step (s : Nat) : uV s < uV (s + 1) := by
  have hp : ∀ n : Nat, 0 < 2 ^ n := fun n => Nat.pow_pos (by decide)
  by_cases h : s / 4503599627370496 = 0
  · by_cases h2 : (s + 1) / 4503599627370496 = 0
    · unfold uV
      rw [prS_sub h, prS_sub h2]
      have := Nat.mod_eq_of_lt (show s < 4503599627370496 by omega)
      have := Nat.mod_eq_of_lt (show s + 1 < 4503599627370496 by omega)
      exact Nat.mul_lt_mul_of_pos_right (by dsimp only; omega) (hp _)
    · unfold uV
      rw [prS_sub h, prS_nrm h2]
      rw [show ((s + 1) / 4503599627370496) = 1 by omega, show s % 4503599627370496 = 4503599627370495 by omega, show (s + 1) % 4503599627370496 = 0 by omega]
      decide
  · have hq : 1 ≤ s / 4503599627370496 := by omega
    obtain ⟨q, hq2⟩ : ∃ q : Nat, s / 4503599627370496 = q + 1 := ⟨s / 4503599627370496 - 1, by omega⟩
    by_cases h2 : (s + 1) / 4503599627370496 = s / 4503599627370496
    · unfold uV
      rw [prS_nrm h, prS_nrm (by omega), h2]
      exact Nat.mul_lt_mul_of_pos_right (by dsimp only; omega) (hp _)
    · have h3 : (s + 1) / 4503599627370496 = q + 2 := by omega
      unfold uV
      rw [prS_nrm h, prS_nrm (by omega), hq2, h3]
      dsimp only
      rw [show (-1074 + ((q + 1 : Nat) : Int) - 1 + 1074).toNat = q by omega, show (-1074 + ((q + 2 : Nat) : Int) - 1 + 1074).toNat = q + 1 by omega, Nat.pow_succ, show (s + 1) % 4503599627370496 = 0 by omega]
      have h4 : (4503599627370496 + s % 4503599627370496) * 2 ^ q < 9007199254740992 * 2 ^ q := Nat.mul_lt_mul_of_pos_right (by omega) (hp q)
      omega
theorem uV_mono {s c : Nat} (h : s < c) : uV s < uV c := by
  obtain ⟨d, rfl⟩ : ∃ d, c = s + d + 1 := ⟨c - s - 1, by omega⟩
  clear h
  induction d with
  | zero => exact uV_step s
  | succ d ih => exact Nat.lt_trans ih (uV_step (s + d + 1))
theorem uV_le {s c : Nat} (h : s ≤ c) : uV s ≤ uV c := by
  rcases Nat.lt_or_eq_of_le h with h | h
  · exact Nat.le_of_lt (uV_mono h)
  · rw [h]; exact Nat.le_refl _
theorem cut_zero (way : Toward) (n : Nat) : way.cut false n 0 = n := by
  unfold Toward.cut
  have hz : (1 <<< min 0 (n.log2 + 2)) = 1 := by rw [Nat.zero_min]; rfl
  rw [hz]
  dsimp only
  rw [Nat.div_one, Nat.mod_one]
  cases way <;> simp
theorem cut_even_dvd {n d : Nat} (hn : n ≠ 0) (h : 2 ^ d ∣ n) : Toward.even.cut false n d = n / 2 ^ d := by
  have hd : d ≤ n.log2 := (Nat.le_log2 hn).2 (Nat.le_of_dvd (by omega) h)
  unfold Toward.cut
  rw [show min d (n.log2 + 2) = d by omega, Nat.shiftLeft_eq, Nat.one_mul]
  dsimp only
  rw [Nat.mod_eq_zero_of_dvd h]
  have hp : 0 < 2 ^ d := Nat.pow_pos (by decide)
  have h1 : decide (2 ^ d < 2 * 0) = false := decide_eq_false (by omega)
  have h2 : (2 ^ d == 2 * 0) = false := by
    rw [beq_eq_false_iff_ne]; omega
  rw [h1, h2]
  rfl
theorem cut_down (n d : Nat) : Toward.down.cut false n d = n / 2 ^ d := by
  unfold Toward.cut
  dsimp only
  rw [Bool.false_and, Nat.shiftLeft_eq, Nat.one_mul]
  show n / 2 ^ min d (n.log2 + 2) + 0 = _
  rw [Nat.add_zero]
  rcases Nat.le_total d (n.log2 + 2) with h | h
  · rw [Nat.min_eq_left h]
  · rw [Nat.min_eq_right h]
    have hlt : n < 2 ^ (n.log2 + 1) := Nat.lt_log2_self
    have h1 : n < 2 ^ (n.log2 + 2) := Nat.lt_of_lt_of_le hlt (Nat.pow_le_pow_right (by decide) (by omega))
    have h2 : n < 2 ^ d := Nat.lt_of_lt_of_le h1 (Nat.pow_le_pow_right (by decide) h)
    rw [Nat.div_eq_of_lt h1, Nat.div_eq_of_lt h2]
theorem uV_of {q c : Nat} (hc : c < 9007199254740992) (h : q = 0 ∨ 4503599627370496 ≤ c) : uV (q * 4503599627370496 + c) = c * 2 ^ q := by
  unfold uV
  by_cases h1 : c < 4503599627370496
  · have hq : q = 0 := by omega
    subst hq
    rw [prS_sub (by omega)]
    dsimp only
    rw [Nat.mod_eq_of_lt (by omega), Nat.zero_mul, Nat.zero_add]
    rfl
  · have e1 : (q * 4503599627370496 + c) / 4503599627370496 = q + 1 := by omega
    have e2 : (q * 4503599627370496 + c) % 4503599627370496 = c - 4503599627370496 := by omega
    rw [prS_nrm (by omega), e1, e2]
    dsimp only
    rw [show 4503599627370496 + (c - 4503599627370496) = c by omega, show (-1074 + ((q + 1 : Nat) : Int) - 1 + 1074).toNat = q by omega]
theorem nearest_eq (mag : Nat) (place : Int) (hm : mag ≠ 0) : double.nearest false mag place = min ((max (place + (mag.log2 : Int) - 52) (-1074) + 1074).toNat * 4503599627370496 + Toward.even.cut false (mag <<< (place - max (place + (mag.log2 : Int) - 52) (-1074)).toNat) (max (place + (mag.log2 : Int) - 52) (-1074) - place).toNat) 9218868437227405312 := by
  have e2 : double.binade = 4503599627370496 := by decide
  have e3 : double.infRung = 9218868437227405312 := by decide
  have e4 : double.leastPlace = -1074 := by decide
  have e5 : double.fractionBits = 52 := rfl
  unfold Format.nearest
  rw [if_neg hm, e2, e3, e4, e5]
  unfold Format.word
  dsimp only
  rw [if_neg (by decide)]
  rfl
theorem nearest_of {mag : Nat} {place : Int} {V : Nat} (k m : Nat) (hV : V = m * 2 ^ k) (hm : m < 2 ^ 53) (hb : V < 2 ^ 2000) (hp : -2000 ≤ place) (e : mag * 2 ^ (place + 2000).toNat = V * 2 ^ 926) :
    double.nearest false mag place < 9218868437227405312 ∧ uV (double.nearest false mag place) = V := by
  generalize hw : (926 : Nat) = w at e
  have pos : ∀ n : Nat, 0 < 2 ^ n := fun n => Nat.pow_pos (by decide)
  by_cases h0 : mag = 0
  · subst h0
    rw [Nat.zero_mul] at e
    have hv : V = 0 := by
      rcases Nat.mul_eq_zero.1 e.symm with h | h
      · exact h
      · exact absurd h (Nat.ne_of_gt (pos w))
    have e9 : double.nearest false 0 place = 0 := by unfold Format.nearest; rw [if_pos rfl]; rfl
    rw [e9, hv]
    decide
  · rw [nearest_eq mag place h0]
    obtain ⟨L, hL⟩ : ∃ L, L = mag.log2 := ⟨_, rfl⟩
    have hlo : 2 ^ L ≤ mag := by rw [hL]; exact Nat.log2_self_le h0
    have hhi : mag < 2 ^ (L + 1) := by rw [hL]; exact Nat.lt_log2_self
    rw [← hL]
    obtain ⟨last, hl⟩ : ∃ last, last = max (place + (L : Int) - 52) (-1074) := ⟨_, rfl⟩
    rw [← hl]
    -- what is kept
    obtain ⟨c, hc⟩ : ∃ c, c = Toward.even.cut false (mag <<< (place - last).toNat) (last - place).toNat := ⟨_, rfl⟩
    rw [← hc]
    have key : c * 2 ^ (last + 1074).toNat = V ∧ c < 2 ^ 53 ∧ (last = -1074 ∨ 2 ^ 52 ≤ c) := by
      by_cases hcase : last ≤ place
      · rw [show (last - place).toNat = 0 by omega, cut_zero, Nat.shiftLeft_eq] at hc
        refine ⟨?_, ?_, ?_⟩
        · have h1 : c * 2 ^ (last + 1074).toNat * 2 ^ w = V * 2 ^ w := by
            rw [← e, hc, Nat.mul_assoc, Nat.mul_assoc, ← Nat.pow_add, ← Nat.pow_add]
            congr 2
            omega
          exact Nat.eq_of_mul_eq_mul_right (pos w) h1
        · rw [hc]
          refine Nat.lt_of_lt_of_le (Nat.mul_lt_mul_of_pos_right hhi (pos _)) ?_
          rw [← Nat.pow_add]
          exact Nat.pow_le_pow_right (by decide) (by omega)
        · by_cases hm2 : last = -1074
          · exact .inl hm2
          · refine .inr ?_
            rw [hc]
            refine Nat.le_trans ?_ (Nat.mul_le_mul_right _ hlo)
            rw [← Nat.pow_add]
            exact Nat.pow_le_pow_right (by decide) (by omega)
      · obtain ⟨d, hd⟩ : ∃ d : Nat, d = (last - place).toNat := ⟨_, rfl⟩
        rw [show (place - last).toNat = 0 by omega, ← hd, Nat.shiftLeft_eq, Nat.pow_zero, Nat.mul_one] at hc
        have hdv : 2 ^ d ∣ mag := by
          by_cases hm2 : last = -1074
          · refine ⟨V, ?_⟩
            have h1 : mag * 2 ^ (place + 2000).toNat = 2 ^ d * V * 2 ^ (place + 2000).toNat := by
              rw [e, Nat.mul_comm (2 ^ d) V, Nat.mul_assoc, ← Nat.pow_add]
              congr 2
              omega
            exact Nat.eq_of_mul_eq_mul_right (pos _) h1
          · have h1 : mag * 2 ^ (place + 2000).toNat = m * 2 ^ (k + w) := by rw [e, hV, Nat.mul_assoc, ← Nat.pow_add]
            by_cases hab : (place + 2000).toNat ≤ k + w
            · have h2 : mag = m * 2 ^ (k + w - (place + 2000).toNat) := by
                refine Nat.eq_of_mul_eq_mul_right (pos (place + 2000).toNat) ?_
                rw [h1, Nat.mul_assoc, ← Nat.pow_add]
                congr 2
                omega
              have h3 : 2 ^ L < 2 ^ (53 + (k + w - (place + 2000).toNat)) := by
                refine Nat.lt_of_le_of_lt hlo ?_
                rw [h2, Nat.pow_add]
                exact Nat.mul_lt_mul_of_pos_right hm (pos _)
              have h4 := (Nat.pow_lt_pow_iff_right (by decide : 1 < 2)).1 h3
              rw [h2]
              exact Nat.dvd_mul_left_of_dvd (Nat.pow_dvd_pow 2 (by omega)) m
            · exfalso
              have h2 : m = mag * 2 ^ ((place + 2000).toNat - (k + w)) := by
                refine Nat.eq_of_mul_eq_mul_right (pos (k + w)) ?_
                rw [← h1, Nat.mul_assoc, ← Nat.pow_add]
                congr 2
                omega
              have h3 : mag ≤ m := by
                rw [h2]
                exact Nat.le_mul_of_pos_right _ (pos _)
              have h4 : 2 ^ L < 2 ^ 53 := Nat.lt_of_le_of_lt hlo (Nat.lt_of_le_of_lt h3 hm)
              have h5 := (Nat.pow_lt_pow_iff_right (by decide : 1 < 2)).1 h4
              omega
        rw [cut_even_dvd h0 hdv] at hc
        have hcm : c * 2 ^ d = mag := by rw [hc]; exact Nat.div_mul_cancel hdv
        refine ⟨?_, ?_, ?_⟩
        · have h1 : c * 2 ^ (last + 1074).toNat * 2 ^ w = V * 2 ^ w := by
            rw [← e, ← hcm, Nat.mul_assoc, Nat.mul_assoc, ← Nat.pow_add, ← Nat.pow_add]
            congr 2
            omega
          exact Nat.eq_of_mul_eq_mul_right (pos w) h1
        · refine Nat.lt_of_mul_lt_mul_right (a := 2 ^ d) ?_
          rw [hcm, ← Nat.pow_add]
          exact Nat.lt_of_lt_of_le hhi (Nat.pow_le_pow_right (by decide) (by omega))
        · by_cases hm2 : last = -1074
          · exact .inl hm2
          · refine .inr (Nat.le_of_mul_le_mul_right (c := 2 ^ d) ?_ (pos d))
            rw [hcm, ← Nat.pow_add]
            exact Nat.le_trans (Nat.pow_le_pow_right (by decide) (by omega)) hlo
    obtain ⟨k1, k2, k3⟩ := key
    obtain ⟨q, hq⟩ : ∃ q : Nat, q = (last + 1074).toNat := ⟨_, rfl⟩
    rw [← hq] at k1 ⊢
    have p53 : (2 : Nat) ^ 53 = 9007199254740992 := by decide
    have p52 : (2 : Nat) ^ 52 = 4503599627370496 := by decide
    rw [p53] at k2
    rw [p52] at k3
    have hq2 : q = 0 ∨ 4503599627370496 ≤ c := by omega
    have hq3 : q < 2000 := by
      rcases hq2 with h | h
      · omega
      · have h1 : 2 ^ q < 2 ^ 2000 := by
          refine Nat.lt_of_le_of_lt ?_ hb
          rw [← k1]
          exact Nat.le_mul_of_pos_left _ (by omega)
        exact (Nat.pow_lt_pow_iff_right (by decide : 1 < 2)).1 h1
    rw [Nat.min_eq_left (by omega)]
    exact ⟨by omega, (uV_of k2 hq2).trans k1⟩
end Go.Proofs.YtfnmlikgdfmcbaaDoor.Sim
