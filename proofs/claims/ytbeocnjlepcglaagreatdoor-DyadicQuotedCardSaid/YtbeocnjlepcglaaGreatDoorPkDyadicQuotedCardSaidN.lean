/-
  What the statement DyadicQuotedCardSaid leans on, part 14: the logic of walks, digits, contracts of the functions, the plain law. Conditions stand in each theorem.
-/
import Derived.Test.YtbeocnjlepcglaaGreatDoorPkDyadicQuotedCardSaidM
import Derived.SizedLaws
import Derived.DataElems
import Derived.ChangeSame
namespace Go.Proofs.YtbeocnjlepcglaaGreatDoor.Sim
open Go.RowKit Go.ChangeShapes Go.WideShapes
set_option linter.unusedVariables false
set_option linter.unusedSimpArgs false
/-- One call, as a record. -/
structure OpR where
  k : Int
  b1 : Bool
  l1 : List Int
  e1 : Int
  b2 : Bool
  l2 : List Int
  e2 : Int
  b3 : Bool
  l3 : List Int
  m : Int
def OpR.pv (o : OpR) : PV := OpV o.k o.b1 o.l1 o.e1 o.b2 o.l2 o.e2 o.b3 o.l3 o.m
def OpR.ok (o : OpR) : Prop := inR .i64 o.k ∧ OKL o.l1 ∧ OKL o.l2 ∧ OKL o.l3 ∧ inR .i64 o.m
section
variable {H : Type} {enc : TypeId × Value → H} {P : Program} {w : World} {base : Nat} {sp : Nat → Bool} {held : Bool}
end
section
variable {H : Type} {enc : TypeId × Value → H} {w : World} {base : Nat} {sp : Nat → Bool} {held : Bool}
end
end Go.Proofs.YtbeocnjlepcglaaGreatDoor.Sim
namespace Go.Proofs.YtbeocnjlepcglaaGreatDoor.Sim
open Go.RowKit
set_option linter.unusedVariables false
set_option linter.unusedSimpArgs false
set_option maxRecDepth 10000
set_option maxHeartbeats 8000000
variable {G : List (Nat × List Value)}
end Go.Proofs.YtbeocnjlepcglaaGreatDoor.Sim
namespace Go.Proofs.YtbeocnjlepcglaaGreatDoor.Sim
open Go.RowKit
set_option linter.unusedVariables false
set_option linter.unusedSimpArgs false
set_option maxRecDepth 10000
set_option maxHeartbeats 8000000
variable {G : List (Nat × List Value)}
theorem bl_low {n : Nat} (h : n ≠ 0) : 2 ^ (bl n - 1) ≤ n := by
  rcases Nat.lt_or_ge n (2 ^ (bl n - 1)) with h1 | h1
  · have := bl_le h1
    have := bl_pos h
    omega
  · exact h1
/-- The facts of one step: y = v1 * 2^32 + v0 with v1 great, un below y, u1 a digit; q the digit, r what is left. -/
structure Kn (y v1 v0 un u1 q r : Int) : Prop where
  ey : y = v1 * 4294967296 + v0
  bv1 : 2147483648 ≤ v1 ∧ v1 < 4294967296
  bv0 : 0 ≤ v0 ∧ v0 < 4294967296
  bun : 0 ≤ un ∧ un < v1 * 4294967296 + v0
  bu1 : 0 ≤ u1 ∧ u1 < 4294967296
  qr : un * 4294967296 + u1 = q * v1 * 4294967296 + q * v0 + r
  bq : 0 ≤ q ∧ q < 4294967296
  br : 0 ≤ r ∧ r < v1 * 4294967296 + v0
theorem kn_of {y v1 v0 un u1 : Int} (hy : y = v1 * 4294967296 + v0) (h1 : 2147483648 ≤ v1 ∧ v1 < 4294967296) (h0 : 0 ≤ v0 ∧ v0 < 4294967296) (hu : 0 ≤ un ∧ un < y) (hu1 : 0 ≤ u1 ∧ u1 < 4294967296) :
    Kn y v1 v0 un u1 ((un * 4294967296 + u1) / y) ((un * 4294967296 + u1) % y) := by
  have e1 := Int.mul_ediv_add_emod (un * 4294967296 + u1) y
  have e2 := Int.emod_nonneg (un * 4294967296 + u1) (show y ≠ 0 by omega)
  have e3 := Int.emod_lt_of_pos (un * 4294967296 + u1) (show 0 < y by omega)
  have q0 : 0 ≤ (un * 4294967296 + u1) / y := Int.ediv_nonneg (by omega) (by omega)
  have q1 : (un * 4294967296 + u1) / y < 4294967296 := Int.ediv_lt_of_lt_mul (by omega) (by omega)
  obtain ⟨q, hq⟩ : ∃ q, q = (un * 4294967296 + u1) / y := ⟨_, rfl⟩
  obtain ⟨r, hr⟩ : ∃ r, r = (un * 4294967296 + u1) % y := ⟨_, rfl⟩
  rw [← hq, ← hr] at e1
  rw [← hr] at e2 e3
  rw [← hq] at q0 q1
  rw [← hq, ← hr]
  refine ⟨hy, h1, h0, by omega, hu1, ?_, ⟨q0, q1⟩, by omega⟩
  rw [← e1, Int.mul_comm y q, hy, Int.mul_add, Int.mul_assoc]
/-- A guess p of the digit, with what it leaves of un. -/
structure KnI (v1 un q p s : Int) : Prop where
  eun : un = p * v1 + s
  bs : 0 ≤ s
  bp : q ≤ p ∧ p ≤ 4294967297
theorem Kn.start {y v1 v0 un u1 q r : Int} (h : Kn y v1 v0 un u1 q r) : KnI v1 un q (un / v1) (un - un / v1 * v1) ∧ un - un / v1 * v1 < v1 ∧ 0 ≤ un / v1 * v1 ∧ un / v1 * v1 ≤ un := by
  obtain ⟨hy, h1, h0, hu, hu1, hqr, hq, hr⟩ := h
  have e1 := Int.mul_ediv_add_emod un v1
  have e2 := Int.emod_nonneg un (show v1 ≠ 0 by omega)
  have e3 := Int.emod_lt_of_pos un (show 0 < v1 by omega)
  rw [Int.mul_comm] at e1
  have hp : un / v1 < 4294967298 := Int.ediv_lt_of_lt_mul (by omega) (by omega)
  have hge : q ≤ un / v1 := by
    refine Int.le_ediv_of_mul_le (by omega) ?_
    have : 0 ≤ q * v0 := Int.mul_nonneg hq.1 h0.1
    omega
  have h3 : 0 ≤ un / v1 * v1 := Int.mul_nonneg (Int.ediv_nonneg hu.1 (by omega)) (by omega)
  exact ⟨⟨by omega, by omega, hge, by omega⟩, by omega, h3, by omega⟩
/-- The guess is right. -/
theorem Kn.stop {y v1 v0 un u1 q r p s : Int} (h : Kn y v1 v0 un u1 q r) (hi : KnI v1 un q p s) (hc : p * v0 ≤ 4294967296 * s + u1) : p = q := by
  obtain ⟨hy, h1, h0, hu, hu1, hqr, hq, hr⟩ := h
  obtain ⟨i1, i2, i3⟩ := hi
  rcases Int.lt_or_le q p with hlt | hle
  · exfalso
    have e : (p - (q + 1)) * (v1 * 4294967296 + v0) ≥ 0 := Int.mul_nonneg (by omega) (by omega)
    have e2 : (p - (q + 1)) * (v1 * 4294967296 + v0) = p * v1 * 4294967296 + p * v0 - (q * v1 * 4294967296 + q * v0) - (v1 * 4294967296 + v0) := by
      rw [Int.sub_mul, Int.add_mul, Int.one_mul, Int.mul_add, Int.mul_add, ← Int.mul_assoc, ← Int.mul_assoc]
      omega
    omega
  · omega
/-- The guess is too great: the next is not too small. -/
theorem Kn.next {y v1 v0 un u1 q r p s : Int} (h : Kn y v1 v0 un u1 q r) (hi : KnI v1 un q p s) (hc : 4294967296 ≤ p ∨ 4294967296 * s + u1 < p * v0) : KnI v1 un q (p - 1) (s + v1) := by
  obtain ⟨hy, h1, h0, hu, hu1, hqr, hq, hr⟩ := h
  obtain ⟨i1, i2, i3⟩ := hi
  have hlt : q < p := by
    rcases hc with hc | hc
    · omega
    · rcases Int.lt_or_le q p with hlt | hle
      · exact hlt
      · exfalso
        have : p = q := by omega
        subst this
        omega
  have e : (p - 1) * v1 = p * v1 - v1 := by rw [Int.sub_mul, Int.one_mul]
  exact ⟨by omega, by omega, by omega, by omega⟩
/-- What is left is great: the guess is right. -/
theorem Kn.out {y v1 v0 un u1 q r p s : Int} (h : Kn y v1 v0 un u1 q r) (hi : KnI v1 un q p s) (hs : 4294967296 ≤ s) (hp : p ≤ 4294967296) : p = q := by
  refine h.stop hi ?_
  obtain ⟨hy, h1, h0, hu, hu1, hqr, hq, hr⟩ := h
  obtain ⟨i1, i2, i3⟩ := hi
  have e1 : p * v0 ≤ 4294967296 * v0 := Int.mul_le_mul_of_nonneg_right (by omega) h0.1
  have e2 : 4294967296 * 4294967296 ≤ 4294967296 * s := by omega
  omega
theorem Kn.left {y v1 v0 un u1 q r : Int} (h : Kn y v1 v0 un u1 q r) : q * y = q * v1 * 4294967296 + q * v0 := by
  rw [h.ey, Int.mul_add, Int.mul_assoc]
theorem b_lead (x : Nat) (h : x < 18446744073709551616) : FC Tryz.prog G 115 [.val (.int .u64 (x : Int))] (· = .val (.int .i64 (64 - (bl x : Int)))) := by
  have f1 := b_len (G := G) x h
  have hb : bl x ≤ 64 := bl_le (k := 64) (by omega)
  refine FC.intro (X := XX) tok Tryz.func115 rfl Tryz.ntmps115 (by rw [Tryz.results115]) (by kernel_rfl) rfl ?_; intro F hG hO
  rw [← hG] at f1
  repeat' ((try (conv => whnf)); first
  | ((with_reducible refine cg ?_); refine call_eq (f1) (LpL.refl _) rfl ?_)
  
  | (with_reducible refine Chk.mk' (by first | omega | exact trivial | (simp only [List.length_append, List.length_set, List.length_replicate, List.length_take, List.length_drop, List.length_cons, List.length_nil, List.length_map]; omega)) ?_)
  | (with_reducible refine wrap_g (by dsimp only [inR]; omega) ?_)
  | (with_reducible refine idx_g (by omega) ?_)
  | (with_reducible refine idx_l _ rfl (by decide) ?_)
  | (with_reducible refine BothG.mk ?_ ?_)
  | (with_reducible refine fork_tt ?_) | (with_reducible refine fork_ff ?_)
  | (with_reducible refine fork_e (c := true) (by decide) ?_; with_reducible refine fork_tt ?_) | (with_reducible refine fork_e (c := false) (by decide) ?_; with_reducible refine fork_ff ?_)
  | (with_reducible refine fork_t (by omega) ?_) | (with_reducible refine fork_f (by omega) ?_)
  | (with_reducible refine fork_d ?_ ?_ <;> intro hc)
  | (with_reducible refine fork_n ?_)
  | (with_reducible refine fork_b ?_ ?_ <;> intro hc)
  | (with_reducible refine SlcG.mk (by omega) ?_)
  | (with_reducible refine MakG.mk (by dsimp only; omega) ?_)
  | (with_reducible refine AppG.mk (by first | omega | (simp only [List.length_append, List.length_set, List.length_replicate, List.length_take, List.length_drop, List.length_cons, List.length_nil, List.length_map]; omega)) (by dsimp only [List.length_cons, List.length_nil]; omega) (by omega) ?_)
  | (with_reducible refine div_g (by omega) (by omega) (by dsimp only [inR]; omega) ?_)
  | (with_reducible refine mod_g (by omega) (by omega) ?_)
  | (with_reducible refine mask_g (m := 4294967296) 32 rfl rfl (by decide) (by omega) ?_)
  | (with_reducible refine shr_g (m := 4294967296) 32 rfl (by decide) (by omega) rfl ?_)
  | (with_reducible refine fz_all (by omega) ?_)
  | (with_reducible refine Stuck.h (A := RetE _ _) ?_) | (with_reducible refine Stuck.h (A := RetM _ _ _ _) ?_) | (with_reducible refine Stuck.h (A := Again _ _ _ _ _ _ _ _) ?_) | (with_reducible refine Stuck.h (A := CallF _ _ _ _ _ _ _) ?_) | (with_reducible refine Stuck.h (A := LoopG _ _ _ _ _ _ _ _) ?_) | (with_reducible refine Stuck.h (A := DrawG _ _ _ _ _ _ _ _) ?_)
  | (with_reducible refine Stuck.h (A := WrapG _ _ _) ?_) | (with_reducible refine Stuck.h (A := DivG _ _ _ _) ?_) | (with_reducible refine Stuck.h (A := ModG _ _ _) ?_) | (with_reducible refine Stuck.h (A := ShlG _ _ _ _) ?_) | (with_reducible refine Stuck.h (A := ShrG _ _ _ _) ?_) | (with_reducible refine Stuck.h (A := BitG _ _ _ _ _) ?_)
  | (with_reducible refine Stuck.h (A := IdxG _ _ _) ?_) | (with_reducible refine Stuck.h (A := IdxL _ _ _) ?_) | (with_reducible refine Stuck.h (A := SlcG _ _ _ _ _) ?_) | (with_reducible refine Stuck.h (A := MakG _ _ _ _) ?_) | (with_reducible refine Stuck.h (A := AppG _ _ _ _ _ _ _) ?_) | (with_reducible refine Stuck.h (A := FzG _ _ _ _) ?_)
  | (with_reducible refine Stuck.h (A := RawG _) ?_) | (with_reducible refine Stuck.h (A := TabG _ _ _ _ _) ?_) | (with_reducible refine Stuck.h (A := ExtF _ _ _ _) ?_) | (with_reducible refine Stuck.h (A := Chk _ _) ?_) | (with_reducible refine Stuck.h (A := False) ?_))
  exact ⟨ret_e rfl⟩
theorem or_g2 {a b : Int} {K : Int → Prop} (k : Nat) (ha : 0 ≤ a ∧ a < 18446744073709551616) (hb : 0 ≤ b ∧ b < 18446744073709551616) (h : b < 2 ^ k) (hm : a % 2 ^ k = 0) (hs : a + b < 18446744073709551616) (x : K (a + b)) : BitG .or .u64 a b K := by
  have e : bitI .or .u64 a b = bitI .or .u64 b a := by
    show IntKind.u64.wrap _ = IntKind.u64.wrap _
    simp only [BitVec.or_comm]
  have := or_g (K := fun y => K y) k hb ha h hm (by omega) (by rw [Int.add_comm]; exact x)
  obtain ⟨h1⟩ := this
  exact ⟨by rw [e]; exact h1⟩
end Go.Proofs.YtbeocnjlepcglaaGreatDoor.Sim
namespace Go.Proofs.YtbeocnjlepcglaaGreatDoor.Sim
open Go.RowKit
set_option linter.unusedVariables false
set_option linter.unusedSimpArgs false
set_option maxRecDepth 10000
set_option maxHeartbeats 8000000
variable {G : List (Nat × List Value)}
theorem p2_posn (k : Nat) : (0 : Int) < 2 ^ k := Int.pow_pos (by decide)
/-- The numbers of a division, shifted so that the divisor's top bit is set. -/
theorem div_norm {hi lo d : Int} (hd : 0 < d ∧ d < 18446744073709551616) (hh : 0 ≤ hi ∧ hi < d) (hl : 0 ≤ lo ∧ lo < 18446744073709551616) : ∃ s : Nat, ∃ y un ul : Int, (s : Int) = 64 - (bl d.toNat : Int) ∧ s ≤ 63 ∧ d * 2 ^ s % 18446744073709551616 = y ∧ d * 2 ^ s = y ∧ 9223372036854775808 ≤ y ∧ y < 18446744073709551616
    ∧ hi * 2 ^ s % 18446744073709551616 + lo / 2 ^ (64 - s) = un ∧ lo * 2 ^ s % 18446744073709551616 = ul ∧ 0 ≤ un ∧ un < y ∧ 0 ≤ ul ∧ ul < 18446744073709551616 ∧ (hi * 18446744073709551616 + lo) * 2 ^ s = un * 18446744073709551616 + ul
    ∧ (0 ≤ hi * 2 ^ s % 18446744073709551616 ∧ hi * 2 ^ s % 18446744073709551616 < 18446744073709551616) ∧ (0 ≤ lo / 2 ^ (64 - s) ∧ lo / 2 ^ (64 - s) < 18446744073709551616) ∧ lo / 2 ^ (64 - s) < 2 ^ s ∧ hi * 2 ^ s % 18446744073709551616 % 2 ^ s = 0 := by
  have hb : bl d.toNat ≤ 64 := bl_le (k := 64) (by omega)
  have hp := bl_pos (n := d.toNat) (by omega)
  obtain ⟨s, hs⟩ : ∃ s, s = 64 - bl d.toNat := ⟨_, rfl⟩
  have h1 := lt_bl d.toNat
  have h2 := bl_low (n := d.toNat) (by omega)
  have e1 : (2 : Nat) ^ bl d.toNat * 2 ^ s = 18446744073709551616 := by rw [← Nat.pow_add, show bl d.toNat + s = 64 by omega]
  have e2 : (2 : Nat) ^ (bl d.toNat - 1) * 2 ^ s = 9223372036854775808 := by rw [← Nat.pow_add, show bl d.toNat - 1 + s = 63 by omega]
  have e3 : (2 : Nat) ^ (64 - s) * 2 ^ s = 18446744073709551616 := by rw [← Nat.pow_add, show 64 - s + s = 64 by omega]
  have a1 : d.toNat * 2 ^ s < 18446744073709551616 := by rw [← e1]; exact Nat.mul_lt_mul_of_pos_right h1 (Nat.pow_pos (by decide))
  have a2 : 9223372036854775808 ≤ d.toNat * 2 ^ s := by rw [← e2]; exact Nat.mul_le_mul_right _ h2
  have hPi : (2 : Int) ^ s = ((2 ^ s : Nat) : Int) := by simp
  have hQi : (2 : Int) ^ (64 - s) = ((2 ^ (64 - s) : Nat) : Int) := by simp
  have hPp : 0 < 2 ^ s := Nat.pow_pos (by decide)
  have hQp : 0 < 2 ^ (64 - s) := Nat.pow_pos (by decide)
  refine ⟨s, ?_⟩
  rw [hPi, hQi]
  obtain ⟨P, hP⟩ : ∃ P, P = 2 ^ s := ⟨_, rfl⟩
  obtain ⟨Q, hQ⟩ : ∃ Q, Q = 2 ^ (64 - s) := ⟨_, rfl⟩
  rw [← hP] at e3 a1 a2 hPp ⊢
  rw [← hQ] at e3 hQp ⊢
  have hdP : d * (P : Int) = ((d.toNat * P : Nat) : Int) := by rw [Int.natCast_mul]; congr 1; omega
  have hQP : (Q : Int) * P = 18446744073709551616 := by rw [← Int.natCast_mul, e3]; rfl
  have hiP : hi * (P : Int) < d * P := Int.mul_lt_mul_of_pos_right hh.2 (by omega)
  have hiP0 : 0 ≤ hi * (P : Int) := Int.mul_nonneg hh.1 (by omega)
  have hiP1 : hi * (P : Int) + P ≤ d * P := by
    have h := Int.mul_le_mul_of_nonneg_right (show hi + 1 ≤ d by omega) (show (0 : Int) ≤ P by omega)
    rw [Int.add_mul, Int.one_mul] at h
    exact h
  have hloP : lo * (P : Int) / 18446744073709551616 = lo / Q := by rw [← hQP, Int.mul_ediv_mul_of_pos_left _ _ (by omega)]
  have hb0 : 0 ≤ lo / (Q : Int) := Int.ediv_nonneg hl.1 (by omega)
  have hb1 : lo / (Q : Int) < P := Int.ediv_lt_of_lt_mul (by omega) (by rw [Int.mul_comm, hQP]; exact hl.2)
  have hPW : (P : Int) ≤ 18446744073709551616 := by
    have h := Int.mul_le_mul_of_nonneg_right (show (1 : Int) ≤ Q by omega) (show (0 : Int) ≤ P by omega)
    rw [Int.one_mul, hQP] at h
    exact h
  have hm := Int.mul_ediv_add_emod (lo * (P : Int)) 18446744073709551616
  rw [hloP] at hm
  have hm1 : hi * (P : Int) % 18446744073709551616 = hi * P := Int.emod_eq_of_lt hiP0 (by omega)
  rw [hm1]
  refine ⟨d * P, hi * P + lo / Q, lo * P % 18446744073709551616, by omega, by omega, Int.emod_eq_of_lt (by omega) (by omega), rfl, by omega, by omega, rfl, rfl, by omega, by omega, by omega, by omega, ?_, ⟨by omega, by omega⟩, ⟨hb0, by omega⟩, hb1, Int.mul_emod_left _ _⟩
  rw [Int.add_mul, Int.mul_right_comm]
  omega
theorem div_final {hi lo d P y un ul v1 v0 u1 u0 q1 r1 q0 r0 : Int} (hP : 0 < P) (hd : 0 < d) (hy : d * P = y) (hN : (hi * 18446744073709551616 + lo) * P = un * 18446744073709551616 + ul) (hul : ul = u1 * 4294967296 + u0) (k1 : Kn y v1 v0 un u1 q1 r1) (k0 : Kn y v1 v0 r1 u0 q0 r0) :
    q1 * 4294967296 + q0 = (hi * 18446744073709551616 + lo) / d ∧ r0 / P = (hi * 18446744073709551616 + lo) % d := by
  have e1 := k1.qr
  have e0 := k0.qr
  have l1 := k1.left
  have l0 := k0.left
  have hr := k0.br
  rw [← k1.ey] at hr
  obtain ⟨N, hNN⟩ : ∃ N, N = hi * 18446744073709551616 + lo := ⟨_, rfl⟩
  rw [← hNN] at hN ⊢
  have hmain : N * P = y * (q1 * 4294967296 + q0) + r0 := by
    rw [Int.mul_add, Int.mul_comm y q0, ← Int.mul_assoc, Int.mul_comm y q1]
    omega
  have hq : q1 * 4294967296 + q0 = N / d := by
    have h1 : N * P / (d * P) = N / d := Int.mul_ediv_mul_of_pos_left _ _ hP
    rw [hy] at h1
    rw [← h1]
    exact (div_of (a := N * P) (b := y) (q := q1 * 4294967296 + q0) (r := r0) (by omega) (by omega) hr.1 hr.2).1.symm
  refine ⟨hq, ?_⟩
  have h2 : N * P % (d * P) = N % d * P := by
    rw [Int.mul_comm N P, Int.mul_comm d P, Int.mul_comm (N % d) P]
    exact Int.mul_emod_mul_of_pos _ _ hP
  rw [hy] at h2
  have h3 : N * P % y = r0 := (div_of (a := N * P) (b := y) (q := q1 * 4294967296 + q0) (r := r0) (by omega) (by omega) hr.1 hr.2).2
  rw [h3] at h2
  rw [h2]
  exact Int.mul_ediv_cancel _ (by omega)
end Go.Proofs.YtbeocnjlepcglaaGreatDoor.Sim
namespace Go.Proofs.YtbeocnjlepcglaaGreatDoor.Sim
open Go.RowKit
set_option linter.unusedVariables false
set_option linter.unusedSimpArgs false
set_option maxRecDepth 10000
set_option maxHeartbeats 8000000
variable {G : List (Nat × List Value)}
theorem b_div (hi lo d : Int) (hd : 0 < d ∧ d < 18446744073709551616) (hh : 0 ≤ hi ∧ hi < d) (hl : 0 ≤ lo ∧ lo < 18446744073709551616) : FC Tryz.prog G 142 [.val (.int .u64 hi), .val (.int .u64 lo), .val (.int .u64 d)] (· = .tup [.val (.int .u64 ((hi * 18446744073709551616 + lo) / d)), .val (.int .u64 ((hi * 18446744073709551616 + lo) % d))]) := by
  obtain ⟨s, y, un, ul, n0, n1, n2, n3, n4, n5, n6, n7, n8, n9, n10, n11, n12, n13, n14, n15, n16⟩ := div_norm hd hh hl
  have f1 := b_lead (G := G) d.toNat (by omega)
  rw [← n0, show ((d.toNat : Nat) : Int) = d by omega] at f1
  obtain ⟨v1, hv1⟩ : ∃ v, v = y / 4294967296 := ⟨_, rfl⟩
  obtain ⟨v0, hv0⟩ : ∃ v, v = y % 4294967296 := ⟨_, rfl⟩
  obtain ⟨u1, hu1⟩ : ∃ v, v = ul / 4294967296 := ⟨_, rfl⟩
  obtain ⟨u0, hu0⟩ : ∃ v, v = ul % 4294967296 := ⟨_, rfl⟩
  have K1 := kn_of (y := y) (v1 := v1) (v0 := v0) (un := un) (u1 := u1) (by omega) (by omega) (by omega) ⟨n8, n9⟩ (by omega)
  obtain ⟨q1, hq1⟩ : ∃ q, q = (un * 4294967296 + u1) / y := ⟨_, rfl⟩
  obtain ⟨r1, hr1⟩ : ∃ q, q = (un * 4294967296 + u1) % y := ⟨_, rfl⟩
  rw [← hq1, ← hr1] at K1
  have kr1 := K1.br
  rw [← K1.ey] at kr1
  have K0 := kn_of (y := y) (v1 := v1) (v0 := v0) (un := r1) (u1 := u0) (by omega) (by omega) (by omega) kr1 (by omega)
  obtain ⟨q0, hq0⟩ : ∃ q, q = (r1 * 4294967296 + u0) / y := ⟨_, rfl⟩
  obtain ⟨r0, hr0⟩ : ∃ q, q = (r1 * 4294967296 + u0) % y := ⟨_, rfl⟩
  rw [← hq0, ← hr0] at K0
  have kr0 := K0.br
  rw [← K0.ey] at kr0
  have kq1 := K1.bq
  have kq0 := K0.bq
  obtain ⟨fin1, fin2⟩ := div_final (p2_posn s) hd.1 n3 n12 (show ul = u1 * 4294967296 + u0 by omega) K1 K0
  rw [← fin1, ← fin2]
  obtain ⟨i1, i2, i3, i4⟩ := K1.start
  obtain ⟨j1, j2, j3, j4⟩ := K0.start
  have bv1 : 2147483648 ≤ v1 ∧ v1 < 4294967296 := K1.bv1
  have bv0 : 0 ≤ v0 ∧ v0 < 4294967296 := K1.bv0
  have bu1 : 0 ≤ u1 ∧ u1 < 4294967296 := K1.bu1
  have bu0 : 0 ≤ u0 ∧ u0 < 4294967296 := K0.bu1
  have st : ((s : Int)).toNat = s := Int.toNat_natCast s
  have st2 : ((64 : Int) - (s : Int)).toNat = 64 - s := by omega
  have hsum : Unit → hi * 2 ^ s % 18446744073709551616 + lo / 2 ^ (64 - s) < 18446744073709551616 := fun _ => by omega
  have N13 : Unit → _ := fun _ => n13
  have N14 : Unit → _ := fun _ => n14
  have N15 : Unit → _ := fun _ => n15
  have N2 : Unit → _ := fun _ => n2
  have N7 : Unit → _ := fun _ => n7
  have N6 : Unit → _ := fun _ => n6
  have FIN1 : Unit → _ := fun _ => fin1
  have FIN2 : Unit → _ := fun _ => fin2
  have N16 : Unit → _ := fun _ => n16
  have hs64 : (s : Int) ≤ 63 := by omega
  have I1 : Unit → _ := fun _ => i1
  have J1 : Unit → _ := fun _ => j1
  clear hq1 hr1 hq0 hr0 n0 n1 n2 n3 n6 n7 n12 n13 n14 n15 n16 fin1 fin2 i1 j1
  refine FC.intro (X := XX) tok Tryz.func142 rfl Tryz.ntmps142 (by rw [Tryz.results142]) (by kernel_rfl) rfl ?_; intro F hG hO
  rw [← hG] at f1
  repeat' ((try (conv => whnf)); first
  | ((with_reducible refine cg ?_); refine call_eq (f1) (LpL.refl _) rfl ?_)
  | (with_reducible refine or_g2 s (N13 ()) (N14 ()) (N15 ()) (N16 ()) (hsum ()) ?_; rw [N6 ()])
  | ((with_reducible refine shl_m (by omega) ?_); rw [st]; first | rw [N2 ()] | rw [N7 ()] | skip)
  | ((with_reducible refine shr_g (m := 4294967296) 32 rfl (by decide) (by omega) rfl ?_); first | rw [← hv1] | rw [← hu1])
  | ((with_reducible refine shr_p (by omega) (by dsimp only [IntKind.bits]; omega) ?_); first | rw [st2] | rw [st])
  | ((with_reducible refine mask_g (m := 4294967296) 32 rfl rfl (by decide) (by omega) ?_); first | rw [← hv0] | rw [← hu0])
  | ((with_reducible refine lg ?_); refine loop_g (A := Int × Int) (fun (p2, t2) => KnI v1 r1 q0 p2 t2 ∧ t2 < 4294967296) (fun (p2, t2) => p2.toNat) (fun (p2, t2) => [(2, .val (.int .u64 y)), (8, .val (.int .u64 (s : Int))), (9, .val (.int .u64 v1)), (10, .val (.int .u64 v0)), (14, .val (.int .u64 u0)), (15, .val (.int .u64 q1)), (16, .val (.int .u64 t2)), (17, .val (.int .u64 r1)), (18, .val (.int .u64 p2))]) (fun _ => []) (fun _ => []) (r1 / v1, r1 - r1 / v1 * v1) tok (fun _ => ⟨⟨trivial, trivial, trivial, trivial, trivial, trivial, trivial, trivial, trivial, trivial⟩, trivial, by simp only [List.length_nil]; omega⟩) ⟨J1 (), by omega⟩ ⟨rfl, rfl, rfl, rfl, rfl, iv_eq (by first | exact K1.stop hI (by omega) | exact K1.out (hnx () (by omega)) (by omega) (by have := hI.bp; omega)), rfl, rfl, rfl, trivial⟩ ⟨[], rfl⟩ ⟨[], rfl⟩ ?_; rintro ⟨p2, t2⟩ ⟨hJ, ht2⟩; have hJs := hJ.bs; have hJp := hJ.bp; have hpv2 : Unit → p2 < 4294967296 → 0 ≤ p2 * v0 ∧ p2 * v0 ≤ 18446744065119617025 := (fun _ h => mul_bd32 ⟨by omega, h⟩ bv0); have hnx2 : Unit → (4294967296 ≤ p2 ∨ 4294967296 * t2 + u0 < p2 * v0) → KnI v1 r1 q0 (p2 - 1) (t2 + v1) := (fun _ h => K0.next hJ h))
  | ((with_reducible refine lg ?_); refine loop_g (A := Int × Int) (fun (p, t) => KnI v1 un q1 p t ∧ t < 4294967296) (fun (p, t) => p.toNat) (fun (p, t) => [(2, .val (.int .u64 y)), (8, .val (.int .u64 (s : Int))), (9, .val (.int .u64 v1)), (10, .val (.int .u64 v0)), (11, .val (.int .u64 un)), (13, .val (.int .u64 u1)), (14, .val (.int .u64 u0)), (15, .val (.int .u64 p)), (16, .val (.int .u64 t))]) (fun _ => []) (fun _ => []) (un / v1, un - un / v1 * v1) tok (fun _ => ⟨⟨trivial, trivial, trivial, trivial, trivial, trivial, trivial, trivial, trivial, trivial⟩, trivial, by simp only [List.length_nil]; omega⟩) ⟨I1 (), by omega⟩ ⟨rfl, rfl, rfl, rfl, rfl, rfl, rfl, rfl, rfl, trivial⟩ ⟨[], rfl⟩ ⟨[], rfl⟩ ?_; rintro ⟨p, t⟩ ⟨hI, ht⟩; have hIs := hI.bs; have hIp := hI.bp; have hpv : Unit → p < 4294967296 → 0 ≤ p * v0 ∧ p * v0 ≤ 18446744065119617025 := (fun _ h => mul_bd32 ⟨by omega, h⟩ bv0); have hnx : Unit → (4294967296 ≤ p ∨ 4294967296 * t + u1 < p * v0) → KnI v1 un q1 (p - 1) (t + v1) := (fun _ h => K1.next hI h))
  | (with_reducible refine wrap_g (by have h := hpv2 () (by omega); dsimp only [inR]; omega) ?_)
  | (with_reducible refine wrap_g (by have h := hpv () (by omega); dsimp only [inR]; omega) ?_)
  | (with_reducible refine wrap_g (by have h := (hnx2 () (by omega)).bp; dsimp only [inR]; omega) ?_)
  | (with_reducible refine wrap_g (by have h := (hnx () (by omega)).bp; dsimp only [inR]; omega) ?_)
  | (with_reducible refine wrap_g (by dsimp only [inR]; omega) ?_)
  | (with_reducible refine wrap_e (m := q1 * 4294967296 + q0) (by rw [wrap64]; first | (have e := K0.stop hJ (by omega); rw [e]; omega) | (have e := K0.out (hnx2 () (by omega)) (by omega) (by have := hJ.bp; omega); rw [e]; omega)) ?_)
  | (with_reducible refine wrap_e (m := r0) (by rw [wrap64]; first | (have e := K0.stop hJ (by omega); rw [e]; (rw [K0.left]; have := K0.qr; omega)) | (have e := K0.out (hnx2 () (by omega)) (by omega) (by have := hJ.bp; omega); rw [e]; (rw [K0.left]; have := K0.qr; omega))) ?_)
  | (with_reducible refine wrap_e (m := r1) (by rw [wrap64]; first | (have e := K1.stop hI (by omega); rw [e]; (rw [K1.left]; have := K1.qr; omega)) | (have e := K1.out (hnx () (by omega)) (by omega) (by have := hI.bp; omega); rw [e]; (rw [K1.left]; have := K1.qr; omega))) ?_)
  | ((with_reducible refine wrap_r ?_); rw [wrap64])
  
  | (with_reducible refine draw_g (id := 6) [[0, 1, 2, 3, 4, 5, 6, 7]] tok mixed (by kernel_rfl) ?_)
  | (with_reducible refine Chk.mk' (by first | omega | exact trivial | (simp only [List.length_append, List.length_set, List.length_replicate, List.length_take, List.length_drop, List.length_cons, List.length_nil, List.length_map]; omega)) ?_)
  | (with_reducible refine wrap_g (by dsimp only [inR]; omega) ?_)
  | (with_reducible refine idx_g (by omega) ?_)
  | (with_reducible refine idx_l _ rfl (by decide) ?_)
  | (with_reducible refine BothG.mk ?_ ?_)
  | (with_reducible refine fork_tt ?_) | (with_reducible refine fork_ff ?_)
  | (with_reducible refine fork_e (c := true) (by decide) ?_; with_reducible refine fork_tt ?_) | (with_reducible refine fork_e (c := false) (by decide) ?_; with_reducible refine fork_ff ?_)
  | (with_reducible refine fork_t (by omega) ?_) | (with_reducible refine fork_f (by omega) ?_)
  | (with_reducible refine fork_d ?_ ?_ <;> intro hc)
  | (with_reducible refine fork_n ?_)
  | (with_reducible refine fork_b ?_ ?_ <;> intro hc)
  | (with_reducible refine SlcG.mk (by omega) ?_)
  | (with_reducible refine MakG.mk (by dsimp only; omega) ?_)
  | (with_reducible refine AppG.mk (by first | omega | (simp only [List.length_append, List.length_set, List.length_replicate, List.length_take, List.length_drop, List.length_cons, List.length_nil, List.length_map]; omega)) (by dsimp only [List.length_cons, List.length_nil]; omega) (by omega) ?_)
  | (with_reducible refine div_g (by omega) (by omega) (by dsimp only [inR]; omega) ?_)
  | (with_reducible refine mod_g (by omega) (by omega) ?_)
  | (with_reducible refine mask_g (m := 4294967296) 32 rfl rfl (by decide) (by omega) ?_)
  | (with_reducible refine shr_g (m := 4294967296) 32 rfl (by decide) (by omega) rfl ?_)
  | (with_reducible refine fz_all (by omega) ?_)
  | (with_reducible refine Stuck.h (A := RetE _ _) ?_) | (with_reducible refine Stuck.h (A := RetM _ _ _ _) ?_) | (with_reducible refine Stuck.h (A := Again _ _ _ _ _ _ _ _) ?_) | (with_reducible refine Stuck.h (A := CallF _ _ _ _ _ _ _) ?_) | (with_reducible refine Stuck.h (A := LoopG _ _ _ _ _ _ _ _) ?_) | (with_reducible refine Stuck.h (A := DrawG _ _ _ _ _ _ _ _) ?_)
  | (with_reducible refine Stuck.h (A := WrapG _ _ _) ?_) | (with_reducible refine Stuck.h (A := DivG _ _ _ _) ?_) | (with_reducible refine Stuck.h (A := ModG _ _ _) ?_) | (with_reducible refine Stuck.h (A := ShlG _ _ _ _) ?_) | (with_reducible refine Stuck.h (A := ShrG _ _ _ _) ?_) | (with_reducible refine Stuck.h (A := BitG _ _ _ _ _) ?_)
  | (with_reducible refine Stuck.h (A := IdxG _ _ _) ?_) | (with_reducible refine Stuck.h (A := IdxL _ _ _) ?_) | (with_reducible refine Stuck.h (A := SlcG _ _ _ _ _) ?_) | (with_reducible refine Stuck.h (A := MakG _ _ _ _) ?_) | (with_reducible refine Stuck.h (A := AppG _ _ _ _ _ _ _) ?_) | (with_reducible refine Stuck.h (A := FzG _ _ _ _) ?_)
  | (with_reducible refine Stuck.h (A := RawG _) ?_) | (with_reducible refine Stuck.h (A := TabG _ _ _ _ _) ?_) | (with_reducible refine Stuck.h (A := ExtF _ _ _ _) ?_) | (with_reducible refine Stuck.h (A := Chk _ _) ?_) | (with_reducible refine Stuck.h (A := False) ?_))
  · exact ⟨ret_e (tup2_eq (by rw [FIN1 (), hc]; simp) (by rw [FIN2 (), hc]; simp))⟩
  all_goals first
    | exact ⟨ret_e (tup2_eq (by first | rfl | (rw [K0.stop hJ (by omega)]) | (rw [K0.out (hnx2 () (by omega)) (by omega) (by have := hJ.bp; omega)])) rfl)⟩
    | exact ⟨again (p2 - 1, t2 + v1) ⟨hnx2 () (by omega), by omega⟩ (by have h := (hnx2 () (by omega)).bp; dsimp only; omega) ⟨rfl, rfl, rfl, rfl, rfl, rfl, rfl, rfl, rfl, trivial⟩ ⟨[], rfl⟩ ⟨[], rfl⟩⟩
    | exact ⟨again (p - 1, t + v1) ⟨hnx () (by omega), by omega⟩ (by have h := (hnx () (by omega)).bp; dsimp only; omega) ⟨rfl, rfl, rfl, rfl, rfl, rfl, rfl, rfl, rfl, trivial⟩ ⟨[], rfl⟩ ⟨[], rfl⟩⟩
end Go.Proofs.YtbeocnjlepcglaaGreatDoor.Sim
namespace Go.Proofs.YtbeocnjlepcglaaGreatDoor.Sim
open Go.RowKit
set_option linter.unusedVariables false
set_option linter.unusedSimpArgs false
set_option maxRecDepth 10000
set_option maxHeartbeats 8000000
variable {G : List (Nat × List Value)}
/-- Digits that a place takes off: by the rest that is carried and owed. -/
theorem take_round6 {x s v : List Int} {w c e d c2 e2 : Int} (h6 : okD 18446744073709551616 s) (hv : vl 18446744073709551616 s = vl 18446744073709551616 (x.take s.length) - w * vl 18446744073709551616 (v.take s.length) + 18446744073709551616 ^ s.length * (c + e)) (hd : 0 ≤ d ∧ d < 18446744073709551616) (hT : d = rd x s.length - (c + w * rd v s.length) + 18446744073709551616 * c2 - e + 18446744073709551616 * e2) :
    okD 18446744073709551616 (s ++ [d]) ∧ vl 18446744073709551616 (s ++ [d]) = vl 18446744073709551616 (x.take (s.length + 1)) - w * vl 18446744073709551616 (v.take (s.length + 1)) + 18446744073709551616 ^ (s.length + 1) * (c2 + e2) := by
  refine ⟨okD_append.2 ⟨h6, okD_cons.2 ⟨hd, okD_nil _⟩⟩, ?_⟩
  have h := sum_step (B := 18446744073709551616) (vs := 18446744073709551616 ^ s.length * (c + e)) (d := d) (c2 := -(c2 + e2)) (T := rd x s.length - (c + w * rd v s.length) - e) s.length (by omega)
  rw [vl_snoc, vl_take_step, vl_take_step, hv]
  have e1 : w * (vl 18446744073709551616 (v.take s.length) + 18446744073709551616 ^ s.length * rd v s.length) = w * vl 18446744073709551616 (v.take s.length) + 18446744073709551616 ^ s.length * (w * rd v s.length) := by rw [Int.mul_add, Int.mul_left_comm]
  have e2 : (18446744073709551616 : Int) ^ s.length * (rd x s.length - (c + w * rd v s.length) - e) = 18446744073709551616 ^ s.length * rd x s.length - 18446744073709551616 ^ s.length * (c + e) - 18446744073709551616 ^ s.length * (w * rd v s.length) := by
    rw [← Int.mul_sub, ← Int.mul_sub]; congr 1; omega
  rw [e2, Int.mul_neg] at h
  rw [e1]
  omega
theorem give_round6 {x s v : List Int} {c d c2 : Int} (h6 : okD 18446744073709551616 s) (hv : vl 18446744073709551616 s + 18446744073709551616 ^ s.length * c = vl 18446744073709551616 (x.take s.length) + vl 18446744073709551616 (v.take s.length)) (hd : 0 ≤ d ∧ d < 18446744073709551616) (hT : d + 18446744073709551616 * c2 = c + rd x s.length + rd v s.length) :
    okD 18446744073709551616 (s ++ [d]) ∧ vl 18446744073709551616 (s ++ [d]) + 18446744073709551616 ^ (s.length + 1) * c2 = vl 18446744073709551616 (x.take (s.length + 1)) + vl 18446744073709551616 (v.take (s.length + 1)) := by
  refine ⟨okD_append.2 ⟨h6, okD_cons.2 ⟨hd, okD_nil _⟩⟩, ?_⟩
  rw [vl_snoc, sum_step (T := c + rd x s.length + rd v s.length) s.length hT, vl_take_step, vl_take_step, Int.mul_add, Int.mul_add]
  omega
def DigI6 (x v : List Int) (w : Int) (s : List Int) (c e : Int) : Prop := s.length ≤ v.length + 1 ∧ okD 18446744073709551616 s ∧ (0 ≤ c ∧ c < 18446744073709551616) ∧ (0 ≤ e ∧ e ≤ 1) ∧ (s.length = v.length + 1 → c = 0) ∧ vl 18446744073709551616 s = vl 18446744073709551616 (x.take s.length) - w * vl 18446744073709551616 (v.take s.length) + 18446744073709551616 ^ s.length * (c + e)
theorem DigI6.step {x v s : List Int} {w c e d e2 T : Int} (h : DigI6 x v w s c e) (hlt : s.length ≤ v.length) (hw : 0 ≤ w ∧ w < 18446744073709551616) (okv : okD 18446744073709551616 v) (hT0 : T = c + w * rd v s.length) (hd : 0 ≤ d ∧ d < 18446744073709551616) (he2 : 0 ≤ e2 ∧ e2 ≤ 1) (hT : d = rd x s.length - T % 18446744073709551616 - e + 18446744073709551616 * e2) : DigI6 x v w (s ++ [d]) (T / 18446744073709551616) e2 := by
  obtain ⟨h1, h2, h3, h4, h5, h6⟩ := h
  have hv := rd_bd (by decide) okv (s.length : Int)
  have hm := mul_bd64 hw hv
  have el : (s ++ [d]).length = s.length + 1 := by simp
  obtain ⟨g1, g2⟩ := take_round6 (x := x) (v := v) (w := w) (c := c) (e := e) (d := d) (c2 := T / 18446744073709551616) (e2 := e2) h2 h6 hd (by omega)
  refine ⟨by omega, g1, by omega, he2, fun hl => ?_, by rw [el]; exact g2⟩
  have hs : s.length = v.length := by omega
  have hz := rd_out v s.length (by omega)
  rw [hz, Int.mul_zero, Int.add_zero] at hT0
  omega
def GivI6 (y v r : List Int) (c : Int) : Prop := r.length ≤ v.length + 1 ∧ okD 18446744073709551616 r ∧ (0 ≤ c ∧ c ≤ 1) ∧ vl 18446744073709551616 r + 18446744073709551616 ^ r.length * c = vl 18446744073709551616 (y.take r.length) + vl 18446744073709551616 (v.take r.length)
theorem GivI6.step {y v r : List Int} {c T : Int} (h : GivI6 y v r c) (hlt : r.length ≤ v.length) (oky : okD 18446744073709551616 y) (okv : okD 18446744073709551616 v) (hT : T = c + rd y r.length + rd v r.length) : GivI6 y v (r ++ [T % 18446744073709551616]) (T / 18446744073709551616) := by
  obtain ⟨h1, h2, h3, h4⟩ := h
  have hv := rd_bd (by decide) okv (r.length : Int)
  have hy := rd_bd (by decide) oky (r.length : Int)
  have el : (r ++ [T % 18446744073709551616]).length = r.length + 1 := by simp
  obtain ⟨g1, g2⟩ := give_round6 (x := y) (v := v) (c := c) (d := T % 18446744073709551616) (c2 := T / 18446744073709551616) h2 h4 (by omega) (by omega)
  exact ⟨by omega, g1, by omega, by rw [el]; exact g2⟩
/-- The first guess is not too small. -/
theorem guess_ge6 {x v : List Int} {V : Int} {m : Nat} (okx : okD 18446744073709551616 x) (okv : okD 18446744073709551616 v) (vv : vl 18446744073709551616 v = V) (hl : v.length = m + 1) (hx : m + 2 ≤ x.length) (hv : 0 < rd v m) (hU : vl 18446744073709551616 (x.take (m + 2)) < 18446744073709551616 * V) :
    vl 18446744073709551616 (x.take (m + 2)) / V ≤ min ((rd x ((m + 1 : Nat) : Int) * 18446744073709551616 + rd x m) / rd v m) 18446744073709551615 := by
  have hV : 0 < V := by
    have h1 := vl_split 18446744073709551616 v m (by omega)
    have h2 := vl_nonneg (B := 18446744073709551616) (by decide) (okv.take m)
    rw [drop_rd v m (by omega), vl, List.drop_eq_nil_of_le (by omega)] at h1
    simp only [vl] at h1
    have h3 : 0 < (18446744073709551616 : Int) ^ m := Int.pow_pos (by decide)
    have h4 := Int.mul_pos h3 hv
    rw [Int.mul_zero, Int.add_zero] at h1
    rw [← vv]
    omega
  have hU0 := vl_nonneg (B := 18446744073709551616) (by decide) (okx.take (m + 2))
  obtain ⟨q, hq⟩ : ∃ q, q = vl 18446744073709551616 (x.take (m + 2)) / V := ⟨_, rfl⟩
  have hd := Int.mul_ediv_add_emod (vl 18446744073709551616 (x.take (m + 2))) V
  have hm := Int.emod_nonneg (vl 18446744073709551616 (x.take (m + 2))) (show V ≠ 0 by omega)
  have hq0 : 0 ≤ q := by rw [hq]; exact Int.ediv_nonneg hU0 (by omega)
  rw [← hq] at hd ⊢
  have h1 : q ≤ 18446744073709551615 := by
    rcases Int.lt_or_le 18446744073709551615 q with h | h
    · exfalso
      have : V * 18446744073709551616 ≤ V * q := Int.mul_le_mul_of_nonneg_left (by omega) (by omega)
      omega
    · exact h
  have h2 : q ≤ (rd x ((m + 1 : Nat) : Int) * 18446744073709551616 + rd x m) / rd v m := by
    refine Int.le_ediv_of_mul_le hv ?_
    have hp : 0 < (18446744073709551616 : Int) ^ m := Int.pow_pos (by decide)
    have a1 : 18446744073709551616 ^ m * rd v m ≤ V := by
      have h1 := vl_split 18446744073709551616 v m (by omega)
      have h2 := vl_nonneg (B := 18446744073709551616) (by decide) (okv.take m)
      rw [drop_rd v m (by omega), vl, List.drop_eq_nil_of_le (by omega)] at h1
      simp only [vl] at h1
      rw [← vv]
      have : (18446744073709551616 : Int) ^ m * (rd v m + 18446744073709551616 * 0) = 18446744073709551616 ^ m * rd v m := by rw [Int.mul_zero, Int.add_zero]
      omega
    have a2 : vl 18446744073709551616 (x.take (m + 2)) < 18446744073709551616 ^ m * (rd x ((m + 1 : Nat) : Int) * 18446744073709551616 + rd x m + 1) := by
      have h1 := vl_take_step 18446744073709551616 x (m + 1)
      have h2 := vl_take_step 18446744073709551616 x m
      have h3 := vl_lt (B := 18446744073709551616) (by decide) (okx.take m)
      rw [List.length_take, Nat.min_eq_left (by omega)] at h3
      rw [h1, h2, Int.pow_succ]
      rw [Int.mul_add, Int.mul_add, Int.mul_one]
      have e1 : (18446744073709551616 : Int) ^ m * 18446744073709551616 * rd x ((m + 1 : Nat) : Int) = 18446744073709551616 ^ m * (rd x ((m + 1 : Nat) : Int) * 18446744073709551616) := by rw [Int.mul_assoc, Int.mul_comm 18446744073709551616]
      rw [e1]
      omega
    have a3 : q * (18446744073709551616 ^ m * rd v m) ≤ q * V := Int.mul_le_mul_of_nonneg_left a1 hq0
    have a4 : 18446744073709551616 ^ m * (q * rd v m) < 18446744073709551616 ^ m * (rd x ((m + 1 : Nat) : Int) * 18446744073709551616 + rd x m + 1) := by
      rw [Int.mul_left_comm]
      rw [Int.mul_comm V q] at hd
      omega
    have := Int.lt_of_mul_lt_mul_left a4 (Int.le_of_lt hp)
    omega
  omega
theorem ins_row1 {T : TypeId} {p s : List Int} {lo k : Nat} {w d : Int} (hk : k = lo + s.length) (hw : w = d) (h : lo + s.length < p.length) : (some (⟨1, T, .w .u64 ((ins p lo s).set k w)⟩ : Row)) = some ⟨1, T, .w .u64 (ins p lo (s ++ [d]))⟩ := by
  subst hk; subst hw; rw [ins_set _ h]
theorem ins_row {T : TypeId} {p s : List Int} {lo k : Nat} {w d : Int} (hk : k = lo + s.length) (hw : w = d) (h : lo + s.length < p.length) : ([some (⟨1, T, .w .u64 ((ins p lo s).set k w)⟩ : Row)] : List (Option Row)) = [some ⟨1, T, .w .u64 (ins p lo (s ++ [d]))⟩] ++ [] := by
  rw [ins_row1 hk hw h]; rfl
theorem d_trial (hi lo d : Int) (hd : 0 < d ∧ d < 18446744073709551616) (hh : 0 ≤ hi ∧ hi < 18446744073709551616) (hl : 0 ≤ lo ∧ lo < 18446744073709551616) : FC Tryz.prog G 143 [.val (.int .u64 hi), .val (.int .u64 lo), .val (.int .u64 d)] (· = .val (.int .u64 (min ((hi * 18446744073709551616 + lo) / d) 18446744073709551615))) := by
  by_cases hc : hi < d
  · have f1 := b_div (G := G) hi lo d hd ⟨hh.1, hc⟩ hl
    have hq : (hi * 18446744073709551616 + lo) / d < 18446744073709551616 := Int.ediv_lt_of_lt_mul (by omega) (by omega)
    obtain ⟨q, hq2⟩ : ∃ q, q = (hi * 18446744073709551616 + lo) / d := ⟨_, rfl⟩
    rw [← hq2] at f1 hq ⊢
    rw [show min q 18446744073709551615 = q by omega]
    refine FC.intro (X := XX) tok Tryz.func143 rfl Tryz.ntmps143 (by rw [Tryz.results143]) (by kernel_rfl) rfl ?_; intro F hG hO
    rw [← hG] at f1
    repeat' ((try (conv => whnf)); first
  | ((with_reducible refine cg ?_); refine call_eq (f1) (LpL.refl _) rfl ?_)
  
  | (with_reducible refine Chk.mk' (by first | omega | exact trivial | (simp only [List.length_append, List.length_set, List.length_replicate, List.length_take, List.length_drop, List.length_cons, List.length_nil, List.length_map]; omega)) ?_)
  | (with_reducible refine wrap_g (by dsimp only [inR]; omega) ?_)
  | (with_reducible refine idx_g (by omega) ?_)
  | (with_reducible refine idx_l _ rfl (by decide) ?_)
  | (with_reducible refine BothG.mk ?_ ?_)
  | (with_reducible refine fork_tt ?_) | (with_reducible refine fork_ff ?_)
  | (with_reducible refine fork_e (c := true) (by decide) ?_; with_reducible refine fork_tt ?_) | (with_reducible refine fork_e (c := false) (by decide) ?_; with_reducible refine fork_ff ?_)
  | (with_reducible refine fork_t (by omega) ?_) | (with_reducible refine fork_f (by omega) ?_)
  | (with_reducible refine fork_d ?_ ?_ <;> intro hc)
  | (with_reducible refine fork_n ?_)
  | (with_reducible refine fork_b ?_ ?_ <;> intro hc)
  | (with_reducible refine SlcG.mk (by omega) ?_)
  | (with_reducible refine MakG.mk (by dsimp only; omega) ?_)
  | (with_reducible refine AppG.mk (by first | omega | (simp only [List.length_append, List.length_set, List.length_replicate, List.length_take, List.length_drop, List.length_cons, List.length_nil, List.length_map]; omega)) (by dsimp only [List.length_cons, List.length_nil]; omega) (by omega) ?_)
  | (with_reducible refine div_g (by omega) (by omega) (by dsimp only [inR]; omega) ?_)
  | (with_reducible refine mod_g (by omega) (by omega) ?_)
  | (with_reducible refine mask_g (m := 4294967296) 32 rfl rfl (by decide) (by omega) ?_)
  | (with_reducible refine shr_g (m := 4294967296) 32 rfl (by decide) (by omega) rfl ?_)
  | (with_reducible refine fz_all (by omega) ?_)
  | (with_reducible refine Stuck.h (A := RetE _ _) ?_) | (with_reducible refine Stuck.h (A := RetM _ _ _ _) ?_) | (with_reducible refine Stuck.h (A := Again _ _ _ _ _ _ _ _) ?_) | (with_reducible refine Stuck.h (A := CallF _ _ _ _ _ _ _) ?_) | (with_reducible refine Stuck.h (A := LoopG _ _ _ _ _ _ _ _) ?_) | (with_reducible refine Stuck.h (A := DrawG _ _ _ _ _ _ _ _) ?_)
  | (with_reducible refine Stuck.h (A := WrapG _ _ _) ?_) | (with_reducible refine Stuck.h (A := DivG _ _ _ _) ?_) | (with_reducible refine Stuck.h (A := ModG _ _ _) ?_) | (with_reducible refine Stuck.h (A := ShlG _ _ _ _) ?_) | (with_reducible refine Stuck.h (A := ShrG _ _ _ _) ?_) | (with_reducible refine Stuck.h (A := BitG _ _ _ _ _) ?_)
  | (with_reducible refine Stuck.h (A := IdxG _ _ _) ?_) | (with_reducible refine Stuck.h (A := IdxL _ _ _) ?_) | (with_reducible refine Stuck.h (A := SlcG _ _ _ _ _) ?_) | (with_reducible refine Stuck.h (A := MakG _ _ _ _) ?_) | (with_reducible refine Stuck.h (A := AppG _ _ _ _ _ _ _) ?_) | (with_reducible refine Stuck.h (A := FzG _ _ _ _) ?_)
  | (with_reducible refine Stuck.h (A := RawG _) ?_) | (with_reducible refine Stuck.h (A := TabG _ _ _ _ _) ?_) | (with_reducible refine Stuck.h (A := ExtF _ _ _ _) ?_) | (with_reducible refine Stuck.h (A := Chk _ _) ?_) | (with_reducible refine Stuck.h (A := False) ?_))
    exact ⟨ret_e rfl⟩
  · have hq : 18446744073709551616 ≤ (hi * 18446744073709551616 + lo) / d := Int.le_ediv_of_mul_le hd.1 (by omega)
    obtain ⟨q, hq2⟩ : ∃ q, q = (hi * 18446744073709551616 + lo) / d := ⟨_, rfl⟩
    rw [← hq2] at hq ⊢
    rw [show min q 18446744073709551615 = 18446744073709551615 by omega]
    refine FC.intro (X := XX) tok Tryz.func143 rfl Tryz.ntmps143 (by rw [Tryz.results143]) (by kernel_rfl) rfl ?_; intro F hG hO
    repeat' ((try (conv => whnf)); first
  
  | (with_reducible refine Chk.mk' (by first | omega | exact trivial | (simp only [List.length_append, List.length_set, List.length_replicate, List.length_take, List.length_drop, List.length_cons, List.length_nil, List.length_map]; omega)) ?_)
  | (with_reducible refine wrap_g (by dsimp only [inR]; omega) ?_)
  | (with_reducible refine idx_g (by omega) ?_)
  | (with_reducible refine idx_l _ rfl (by decide) ?_)
  | (with_reducible refine BothG.mk ?_ ?_)
  | (with_reducible refine fork_tt ?_) | (with_reducible refine fork_ff ?_)
  | (with_reducible refine fork_e (c := true) (by decide) ?_; with_reducible refine fork_tt ?_) | (with_reducible refine fork_e (c := false) (by decide) ?_; with_reducible refine fork_ff ?_)
  | (with_reducible refine fork_t (by omega) ?_) | (with_reducible refine fork_f (by omega) ?_)
  | (with_reducible refine fork_d ?_ ?_ <;> intro hc)
  | (with_reducible refine fork_n ?_)
  | (with_reducible refine fork_b ?_ ?_ <;> intro hc)
  | (with_reducible refine SlcG.mk (by omega) ?_)
  | (with_reducible refine MakG.mk (by dsimp only; omega) ?_)
  | (with_reducible refine AppG.mk (by first | omega | (simp only [List.length_append, List.length_set, List.length_replicate, List.length_take, List.length_drop, List.length_cons, List.length_nil, List.length_map]; omega)) (by dsimp only [List.length_cons, List.length_nil]; omega) (by omega) ?_)
  | (with_reducible refine div_g (by omega) (by omega) (by dsimp only [inR]; omega) ?_)
  | (with_reducible refine mod_g (by omega) (by omega) ?_)
  | (with_reducible refine mask_g (m := 4294967296) 32 rfl rfl (by decide) (by omega) ?_)
  | (with_reducible refine shr_g (m := 4294967296) 32 rfl (by decide) (by omega) rfl ?_)
  | (with_reducible refine fz_all (by omega) ?_)
  | (with_reducible refine Stuck.h (A := RetE _ _) ?_) | (with_reducible refine Stuck.h (A := RetM _ _ _ _) ?_) | (with_reducible refine Stuck.h (A := Again _ _ _ _ _ _ _ _) ?_) | (with_reducible refine Stuck.h (A := CallF _ _ _ _ _ _ _) ?_) | (with_reducible refine Stuck.h (A := LoopG _ _ _ _ _ _ _ _) ?_) | (with_reducible refine Stuck.h (A := DrawG _ _ _ _ _ _ _ _) ?_)
  | (with_reducible refine Stuck.h (A := WrapG _ _ _) ?_) | (with_reducible refine Stuck.h (A := DivG _ _ _ _) ?_) | (with_reducible refine Stuck.h (A := ModG _ _ _) ?_) | (with_reducible refine Stuck.h (A := ShlG _ _ _ _) ?_) | (with_reducible refine Stuck.h (A := ShrG _ _ _ _) ?_) | (with_reducible refine Stuck.h (A := BitG _ _ _ _ _) ?_)
  | (with_reducible refine Stuck.h (A := IdxG _ _ _) ?_) | (with_reducible refine Stuck.h (A := IdxL _ _ _) ?_) | (with_reducible refine Stuck.h (A := SlcG _ _ _ _ _) ?_) | (with_reducible refine Stuck.h (A := MakG _ _ _ _) ?_) | (with_reducible refine Stuck.h (A := AppG _ _ _ _ _ _ _) ?_) | (with_reducible refine Stuck.h (A := FzG _ _ _ _) ?_)
  | (with_reducible refine Stuck.h (A := RawG _) ?_) | (with_reducible refine Stuck.h (A := TabG _ _ _ _ _) ?_) | (with_reducible refine Stuck.h (A := ExtF _ _ _ _) ?_) | (with_reducible refine Stuck.h (A := Chk _ _) ?_) | (with_reducible refine Stuck.h (A := False) ?_))
    exact ⟨ret_e rfl⟩
theorem d_takemul (p v : List Int) (lo n : Nat) (w : Int) (hvl : v.length = n) (hl : lo + n + 1 ≤ p.length) (hp : p.length ≤ 1073741824) (ok : okD 18446744073709551616 p) (okv : okD 18446744073709551616 v) (hw : 0 ≤ w ∧ w < 18446744073709551616) :
    PM Tryz.prog G 144 [.arr 0 lo (n + 1), .ws .u64 v, .val (.int .u64 w)] [⟨1, 44, .w .u64 p⟩] fun r rs => ∃ (e : Int) (s : List Int), r = .val (.int .u64 e) ∧ (0 ≤ e ∧ e ≤ 1) ∧ s.length = n + 1 ∧ okD 18446744073709551616 s ∧ vl 18446744073709551616 s = vl 18446744073709551616 ((p.drop lo).take (n + 1)) - w * vl 18446744073709551616 v + 18446744073709551616 ^ (n + 1) * e ∧ rs = [some ⟨1, 44, .w .u64 (ins p lo s)⟩] := by
  subst hvl
  obtain ⟨x, hx⟩ : ∃ x, x = p.drop lo := ⟨_, rfl⟩
  have okx : okD 18446744073709551616 x := by rw [hx]; exact ok.drop lo
  have hxl : v.length + 1 ≤ x.length := by rw [hx, List.length_drop]; omega
  rw [← hx]
  refine PM.intro (X := XX) tok Tryz.func144 rfl Tryz.ntmps144 (by rw [Tryz.results144]) (by kernel_rfl) rfl ?_; intro F hG hO; simp only [List.length_cons, List.length_nil, Nat.zero_add, Nat.reduceAdd] at hO
  repeat' ((try (conv => whnf)); first
  | (with_reducible refine sub64_g (by omega) (by omega) (by omega) ?_)
  | (with_reducible refine add64_g (by omega) (by omega) (by omega) ?_)
  | ((with_reducible refine cg ?_); refine call_eq (b_mul (rd v (s.length : Int)) w iv hw) (LpL.refl _) rfl ?_)
  | ((with_reducible refine lg ?_); refine loop_g (A := List Int × Int × Int) (fun (s, c, e) => DigI6 x v w s c e ∧ s.length ≤ v.length) (fun (s, c, e) => v.length - s.length) (fun (s, c, e) => [(0, .arr 0 lo (v.length + 1)), (1, .ws .u64 v), (2, .val (.int .u64 w)), (7, .val (.int .u64 c)), (8, .val (.int .u64 e)), (14, .val (.int .i64 (v.length : Int))), (15, .val (.int .i64 (s.length : Int)))]) (fun _ => []) (fun (s, c, e) => [some ⟨1, 44, .w .u64 (ins p lo s)⟩]) ([], 0, 0) tok (fun (s, c, e) => ⟨⟨Nat.one_pos, trivial, trivial, trivial, trivial, trivial, trivial, trivial⟩, trivial, by simp only [List.length_cons, List.length_nil]; omega⟩) ?_ ⟨rfl, rfl, rfl, rfl, rfl, rfl, rfl, trivial⟩ ⟨[], rfl⟩ ⟨[], (by dsimp only; rw [ins_nil]; rfl)⟩ ?_; rotate_left; rintro ⟨s, c, e⟩ ⟨hI, hs⟩; have iI2 := hI; obtain ⟨i1, i2, i3, i4, i5, i6⟩ := iI2; have ix := rd_bd (by decide) okx (s.length : Int); have iv := rd_bd (by decide) okv (s.length : Int); have im := mul_bd64 iv hw; have ig : (ins p lo s).getD (lo + (s.length : Int).toNat) 0 = rd x (s.length : Int) := (by rw [Int.toNat_natCast, ins_get (by omega), ← rd_drop, hx]); have il : (ins p lo s).length = p.length := ins_len (by omega); have ig2 : s.length = v.length → (ins p lo s).getD (lo + (v.length : Int).toNat) 0 = rd x (s.length : Int) := (fun h => by rw [← h]; exact ig))
  
  | (with_reducible refine Chk.mk' (by first | omega | exact trivial | (simp only [List.length_append, List.length_set, List.length_replicate, List.length_take, List.length_drop, List.length_cons, List.length_nil, List.length_map]; omega)) ?_)
  | (with_reducible refine wrap_g (by dsimp only [inR]; omega) ?_)
  | (with_reducible refine idx_g (by omega) ?_)
  | (with_reducible refine idx_l _ rfl (by decide) ?_)
  | (with_reducible refine BothG.mk ?_ ?_)
  | (with_reducible refine fork_tt ?_) | (with_reducible refine fork_ff ?_)
  | (with_reducible refine fork_e (c := true) (by decide) ?_; with_reducible refine fork_tt ?_) | (with_reducible refine fork_e (c := false) (by decide) ?_; with_reducible refine fork_ff ?_)
  | (with_reducible refine fork_t (by omega) ?_) | (with_reducible refine fork_f (by omega) ?_)
  | (with_reducible refine fork_d ?_ ?_ <;> intro hc)
  | (with_reducible refine fork_n ?_)
  | (with_reducible refine fork_b ?_ ?_ <;> intro hc)
  | (with_reducible refine SlcG.mk (by omega) ?_)
  | (with_reducible refine MakG.mk (by dsimp only; omega) ?_)
  | (with_reducible refine AppG.mk (by first | omega | (simp only [List.length_append, List.length_set, List.length_replicate, List.length_take, List.length_drop, List.length_cons, List.length_nil, List.length_map]; omega)) (by dsimp only [List.length_cons, List.length_nil]; omega) (by omega) ?_)
  | (with_reducible refine div_g (by omega) (by omega) (by dsimp only [inR]; omega) ?_)
  | (with_reducible refine mod_g (by omega) (by omega) ?_)
  | (with_reducible refine mask_g (m := 4294967296) 32 rfl rfl (by decide) (by omega) ?_)
  | (with_reducible refine shr_g (m := 4294967296) 32 rfl (by decide) (by omega) rfl ?_)
  | (with_reducible refine fz_all (by omega) ?_)
  | (with_reducible refine Stuck.h (A := RetE _ _) ?_) | (with_reducible refine Stuck.h (A := RetM _ _ _ _) ?_) | (with_reducible refine Stuck.h (A := Again _ _ _ _ _ _ _ _) ?_) | (with_reducible refine Stuck.h (A := CallF _ _ _ _ _ _ _) ?_) | (with_reducible refine Stuck.h (A := LoopG _ _ _ _ _ _ _ _) ?_) | (with_reducible refine Stuck.h (A := DrawG _ _ _ _ _ _ _ _) ?_)
  | (with_reducible refine Stuck.h (A := WrapG _ _ _) ?_) | (with_reducible refine Stuck.h (A := DivG _ _ _ _) ?_) | (with_reducible refine Stuck.h (A := ModG _ _ _) ?_) | (with_reducible refine Stuck.h (A := ShlG _ _ _ _) ?_) | (with_reducible refine Stuck.h (A := ShrG _ _ _ _) ?_) | (with_reducible refine Stuck.h (A := BitG _ _ _ _ _) ?_)
  | (with_reducible refine Stuck.h (A := IdxG _ _ _) ?_) | (with_reducible refine Stuck.h (A := IdxL _ _ _) ?_) | (with_reducible refine Stuck.h (A := SlcG _ _ _ _ _) ?_) | (with_reducible refine Stuck.h (A := MakG _ _ _ _) ?_) | (with_reducible refine Stuck.h (A := AppG _ _ _ _ _ _ _) ?_) | (with_reducible refine Stuck.h (A := FzG _ _ _ _) ?_)
  | (with_reducible refine Stuck.h (A := RawG _) ?_) | (with_reducible refine Stuck.h (A := TabG _ _ _ _ _) ?_) | (with_reducible refine Stuck.h (A := ExtF _ _ _ _) ?_) | (with_reducible refine Stuck.h (A := Chk _ _) ?_) | (with_reducible refine Stuck.h (A := False) ?_))
  · obtain ⟨T, hT⟩ : ∃ T : Int, T = c + w * rd v (s.length : Int) := ⟨_, rfl⟩
    have hP : rd v (s.length : Int) * w = w * rd v (s.length : Int) := Int.mul_comm _ _
    rw [hP] at im
    have hst := DigI6.step (d := (rd x (s.length : Int) - T % 18446744073709551616 - e) % 18446744073709551616) (e2 := -((rd x (s.length : Int) - T % 18446744073709551616 - e) / 18446744073709551616)) hI (by omega) hw okv hT (by omega) (by omega) (by omega)
    refine ⟨again (s ++ [(rd x (s.length : Int) - T % 18446744073709551616 - e) % 18446744073709551616], T / 18446744073709551616, -((rd x (s.length : Int) - T % 18446744073709551616 - e) / 18446744073709551616)) ⟨hst, by rw [len_snoc]; omega⟩ (by dsimp only; rw [len_snoc]; omega) ⟨rfl, rfl, rfl, iv_eq (by rw [hP]; omega), iv_eq (by rw [hP, ig]; omega), rfl, iv_eq (by rw [len_snoc]; omega), trivial⟩ ⟨[], rfl⟩ ⟨[], by dsimp only; exact ins_row (by omega) (by rw [hP, ig]; omega) (by omega)⟩⟩
  · have hsl : s.length = v.length := by omega
    have hz : rd v (s.length : Int) = 0 := rd_out v s.length (by omega)
    have hst := DigI6.step (T := c) (d := (rd x (s.length : Int) - c - e) % 18446744073709551616) (e2 := -((rd x (s.length : Int) - c - e) / 18446744073709551616)) hI (by omega) hw okv (by rw [hz]; omega) (by omega) (by omega) (by omega)
    obtain ⟨k1, k2, k3, k4, k5, k6⟩ := hst
    have kl := len_snoc s ((rd x (s.length : Int) - c - e) % 18446744073709551616)
    have kc : c / 18446744073709551616 = 0 := by omega
    rw [kl, List.take_of_length_le (l := v) (by omega), hsl, kc, Int.zero_add] at k6
    rw [hsl] at k2 k4 kl
    have ig3 := ig2 hsl
    rw [hsl] at ig3
    refine ⟨ret_m [0] _ [some ⟨1, 44, .w .u64 (ins p lo (s ++ [(rd x (v.length : Int) - c - e) % 18446744073709551616]))⟩] rfl rfl (by simp) (fun i h => one_row h) (congrArg (fun l => [some l]) (ins_row1 (by omega) (by rw [ig3]) (by omega))) ⟨_, _, iv_eq ?_, k4, by omega, k2, k6, rfl⟩⟩
    rw [ig3]
  · exact ⟨⟨Nat.zero_le _, okD_nil _, by decide, by decide, fun _ => rfl, by simp [vl]⟩, Nat.zero_le _⟩
end Go.Proofs.YtbeocnjlepcglaaGreatDoor.Sim
namespace Go.Proofs.YtbeocnjlepcglaaGreatDoor.Sim
open Go.RowKit
set_option linter.unusedVariables false
set_option linter.unusedSimpArgs false
set_option maxRecDepth 10000
set_option maxHeartbeats 8000000
variable {G : List (Nat × List Value)}
/-- What is left of a list is nought, if the list is below a power. -/
theorem tail_zero6 {l : List Int} {k : Nat} (ok : okD 18446744073709551616 l) (h : vl 18446744073709551616 l < 18446744073709551616 ^ k) : vl 18446744073709551616 (l.drop k) = 0 := by
  rcases Nat.lt_or_ge l.length k with h1 | h1
  · rw [List.drop_eq_nil_of_le (by omega)]; rfl
  · have h2 := vl_split 18446744073709551616 l k h1
    have h3 := vl_nonneg (B := 18446744073709551616) (by decide) (ok.take k)
    have h4 := vl_nonneg (B := 18446744073709551616) (by decide) (ok.drop k)
    have hp : 0 < (18446744073709551616 : Int) ^ k := Int.pow_pos (by decide)
    rcases Int.lt_or_le 0 (vl 18446744073709551616 (l.drop k)) with h5 | h5
    · have : 18446744073709551616 ^ k * 1 ≤ 18446744073709551616 ^ k * vl 18446744073709551616 (l.drop k) := Int.mul_le_mul_of_nonneg_left (by omega) (by omega)
      omega
    · omega
theorem div_step6 {u q s : List Int} {V X d : Int} {j n : Nat} (oku : okD 18446744073709551616 u) (hV : 0 < V) (hVn : V < 18446744073709551616 ^ n) (hj : j + n + 1 ≤ u.length) (hq : j < q.length) (hr : vl 18446744073709551616 (u.drop (j + 1)) < V)
    (hX : X = V * (18446744073709551616 ^ (j + 1) * vl 18446744073709551616 (q.drop (j + 1))) + vl 18446744073709551616 u) :
    vl 18446744073709551616 ((u.drop j).take (n + 1)) < 18446744073709551616 * V ∧ (s.length = n + 1 → vl 18446744073709551616 s = vl 18446744073709551616 ((u.drop j).take (n + 1)) % V → d = vl 18446744073709551616 ((u.drop j).take (n + 1)) / V →
      vl 18446744073709551616 ((ins u j s).drop j) < V ∧ X = V * (18446744073709551616 ^ j * vl 18446744073709551616 ((q.set j d).drop j)) + vl 18446744073709551616 (ins u j s)) := by
  have z1 := tail_zero6 (oku.drop (j + 1)) (Int.lt_trans hr hVn)
  rw [List.drop_drop] at z1
  have w1 := vl_split 18446744073709551616 (u.drop j) (n + 1) (by rw [List.length_drop]; omega)
  rw [List.drop_drop, show j + (n + 1) = j + 1 + n by omega, z1, Int.mul_zero, Int.add_zero] at w1
  have w2 := drop_rd u j (by omega)
  have bu := rd_bd (by decide) oku (j : Int)
  have w3 : vl 18446744073709551616 (u.drop j) = rd u j + 18446744073709551616 * vl 18446744073709551616 (u.drop (j + 1)) := by rw [w2]; rfl
  rw [← w1]
  refine ⟨by omega, fun hs hv hd => ?_⟩
  have hle : j + s.length ≤ u.length := by omega
  have i1 := ins_drop hle
  have i2 := ins_vl 18446744073709551616 hle
  rw [hs, show j + (n + 1) = j + 1 + n by omega, z1, Int.mul_zero, Int.add_zero] at i2
  have i3 := ins_mid hle
  have i4 := vl_split 18446744073709551616 ((ins u j s).drop j) s.length (by rw [List.length_drop, ins_len hle]; omega)
  rw [i3, List.drop_drop, i1, hs, show j + (n + 1) = j + 1 + n by omega, z1, Int.mul_zero, Int.add_zero] at i4
  have hm := Int.emod_lt_of_pos (vl 18446744073709551616 (u.drop j)) hV
  refine ⟨by rw [i4, hv]; exact hm, ?_⟩
  have e2 : (q.set j d).drop j = d :: q.drop (j + 1) := by
    rw [List.drop_eq_getElem_cons (by simp; omega)]
    simp
    exact List.drop_set_of_lt (by omega)
  have u1 := vl_split 18446744073709551616 u j (by omega)
  have hdm := Int.mul_ediv_add_emod (vl 18446744073709551616 (u.drop j)) V
  rw [e2, i2]
  simp only [vl]
  rw [hX, hv]
  rw [← hd] at hdm
  rw [u1]
  have e3 : V * ((18446744073709551616 : Int) ^ j * (d + 18446744073709551616 * vl 18446744073709551616 (q.drop (j + 1)))) = 18446744073709551616 ^ j * (V * d) + V * (18446744073709551616 ^ (j + 1) * vl 18446744073709551616 (q.drop (j + 1))) := by
    rw [Int.mul_add, Int.mul_add, Int.mul_left_comm V, Int.pow_succ, Int.mul_assoc]
  rw [e3]
  have e4 : (18446744073709551616 : Int) ^ j * vl 18446744073709551616 (u.drop j) = 18446744073709551616 ^ j * (V * d) + 18446744073709551616 ^ j * (vl 18446744073709551616 (u.drop j) % V) := by rw [← Int.mul_add, hdm]
  rw [e4]
  omega
theorem d_give (p v : List Int) (lo n : Nat) (hvl : v.length = n) (hl : lo + n + 1 ≤ p.length) (hp : p.length ≤ 1073741824) (ok : okD 18446744073709551616 p) (okv : okD 18446744073709551616 v) :
    PM Tryz.prog G 145 [.arr 0 lo (n + 1), .ws .u64 v] [⟨1, 44, .w .u64 p⟩] fun r rs => ∃ (c : Int) (s : List Int), r = .val (.int .u64 c) ∧ (0 ≤ c ∧ c ≤ 1) ∧ s.length = n + 1 ∧ okD 18446744073709551616 s ∧ vl 18446744073709551616 s + 18446744073709551616 ^ (n + 1) * c = vl 18446744073709551616 ((p.drop lo).take (n + 1)) + vl 18446744073709551616 v ∧ rs = [some ⟨1, 44, .w .u64 (ins p lo s)⟩] := by
  subst hvl
  obtain ⟨x, hx⟩ : ∃ x, x = p.drop lo := ⟨_, rfl⟩
  have okx : okD 18446744073709551616 x := by rw [hx]; exact ok.drop lo
  have hxl : v.length + 1 ≤ x.length := by rw [hx, List.length_drop]; omega
  rw [← hx]
  refine PM.intro (X := XX) tok Tryz.func145 rfl Tryz.ntmps145 (by rw [Tryz.results145]) (by kernel_rfl) rfl ?_; intro F hG hO; simp only [List.length_cons, List.length_nil, Nat.zero_add, Nat.reduceAdd] at hO
  repeat' ((try (conv => whnf)); first
  | (with_reducible refine add64_g (by omega) (by omega) (by omega) ?_)
  | ((with_reducible refine lg ?_); refine loop_g (A := List Int × Int) (fun (s, c) => GivI6 x v s c ∧ s.length ≤ v.length) (fun (s, c) => v.length - s.length) (fun (s, c) => [(0, .arr 0 lo (v.length + 1)), (1, .ws .u64 v), (5, .val (.int .u64 c)), (8, .val (.int .i64 (v.length : Int))), (9, .val (.int .i64 (s.length : Int)))]) (fun _ => []) (fun (s, c) => [some ⟨1, 44, .w .u64 (ins p lo s)⟩]) ([], 0) tok (fun (s, c) => ⟨⟨Nat.one_pos, trivial, trivial, trivial, trivial, trivial⟩, trivial, by simp only [List.length_cons, List.length_nil]; omega⟩) ?_ ⟨rfl, rfl, rfl, rfl, rfl, trivial⟩ ⟨[], rfl⟩ ⟨[], (by dsimp only; rw [ins_nil]; rfl)⟩ ?_; rotate_left; rintro ⟨s, c⟩ ⟨hI, hs⟩; have iI2 := hI; obtain ⟨i1, i2, i3, i4⟩ := iI2; have ix := rd_bd (by decide) okx (s.length : Int); have iv := rd_bd (by decide) okv (s.length : Int); have ig : (ins p lo s).getD (lo + (s.length : Int).toNat) 0 = rd x (s.length : Int) := (by rw [Int.toNat_natCast, ins_get (by omega), ← rd_drop, hx]); have il : (ins p lo s).length = p.length := ins_len (by omega); have iz := gd_bd (by decide) (ins_okD (lo := lo) ok i2) (lo + (v.length : Int).toNat); have ig2 : Unit → s.length = v.length → (ins p lo s).getD (lo + (v.length : Int).toNat) 0 = rd x (s.length : Int) := (fun _ h => by rw [← h]; exact ig))
  
  | (with_reducible refine draw_g (id := 5) [[], [0], [1], [2], [3], [6], [7], [10, 4, 5, 8, 9, 11], [12], [13], [14, 15], [16, 17]] tok mixed (by kernel_rfl) ?_)
  | (with_reducible refine Chk.mk' (by first | omega | exact trivial | (simp only [List.length_append, List.length_set, List.length_replicate, List.length_take, List.length_drop, List.length_cons, List.length_nil, List.length_map]; omega)) ?_)
  | (with_reducible refine wrap_g (by dsimp only [inR]; omega) ?_)
  | (with_reducible refine idx_g (by omega) ?_)
  | (with_reducible refine idx_l _ rfl (by decide) ?_)
  | (with_reducible refine BothG.mk ?_ ?_)
  | (with_reducible refine fork_tt ?_) | (with_reducible refine fork_ff ?_)
  | (with_reducible refine fork_e (c := true) (by decide) ?_; with_reducible refine fork_tt ?_) | (with_reducible refine fork_e (c := false) (by decide) ?_; with_reducible refine fork_ff ?_)
  | (with_reducible refine fork_t (by omega) ?_) | (with_reducible refine fork_f (by omega) ?_)
  | (with_reducible refine fork_d ?_ ?_ <;> intro hc)
  | (with_reducible refine fork_n ?_)
  | (with_reducible refine fork_b ?_ ?_ <;> intro hc)
  | (with_reducible refine SlcG.mk (by omega) ?_)
  | (with_reducible refine MakG.mk (by dsimp only; omega) ?_)
  | (with_reducible refine AppG.mk (by first | omega | (simp only [List.length_append, List.length_set, List.length_replicate, List.length_take, List.length_drop, List.length_cons, List.length_nil, List.length_map]; omega)) (by dsimp only [List.length_cons, List.length_nil]; omega) (by omega) ?_)
  | (with_reducible refine div_g (by omega) (by omega) (by dsimp only [inR]; omega) ?_)
  | (with_reducible refine mod_g (by omega) (by omega) ?_)
  | (with_reducible refine mask_g (m := 4294967296) 32 rfl rfl (by decide) (by omega) ?_)
  | (with_reducible refine shr_g (m := 4294967296) 32 rfl (by decide) (by omega) rfl ?_)
  | (with_reducible refine fz_all (by omega) ?_)
  | (with_reducible refine Stuck.h (A := RetE _ _) ?_) | (with_reducible refine Stuck.h (A := RetM _ _ _ _) ?_) | (with_reducible refine Stuck.h (A := Again _ _ _ _ _ _ _ _) ?_) | (with_reducible refine Stuck.h (A := CallF _ _ _ _ _ _ _) ?_) | (with_reducible refine Stuck.h (A := LoopG _ _ _ _ _ _ _ _) ?_) | (with_reducible refine Stuck.h (A := DrawG _ _ _ _ _ _ _ _) ?_)
  | (with_reducible refine Stuck.h (A := WrapG _ _ _) ?_) | (with_reducible refine Stuck.h (A := DivG _ _ _ _) ?_) | (with_reducible refine Stuck.h (A := ModG _ _ _) ?_) | (with_reducible refine Stuck.h (A := ShlG _ _ _ _) ?_) | (with_reducible refine Stuck.h (A := ShrG _ _ _ _) ?_) | (with_reducible refine Stuck.h (A := BitG _ _ _ _ _) ?_)
  | (with_reducible refine Stuck.h (A := IdxG _ _ _) ?_) | (with_reducible refine Stuck.h (A := IdxL _ _ _) ?_) | (with_reducible refine Stuck.h (A := SlcG _ _ _ _ _) ?_) | (with_reducible refine Stuck.h (A := MakG _ _ _ _) ?_) | (with_reducible refine Stuck.h (A := AppG _ _ _ _ _ _ _) ?_) | (with_reducible refine Stuck.h (A := FzG _ _ _ _) ?_)
  | (with_reducible refine Stuck.h (A := RawG _) ?_) | (with_reducible refine Stuck.h (A := TabG _ _ _ _ _) ?_) | (with_reducible refine Stuck.h (A := ExtF _ _ _ _) ?_) | (with_reducible refine Stuck.h (A := Chk _ _) ?_) | (with_reducible refine Stuck.h (A := False) ?_))
  · have hst := GivI6.step (T := c + rd x (s.length : Int) + rd v (s.length : Int)) hI (by omega) okx okv rfl
    refine ⟨again (s ++ [(c + rd x (s.length : Int) + rd v (s.length : Int)) % 18446744073709551616], (c + rd x (s.length : Int) + rd v (s.length : Int)) / 18446744073709551616) ⟨hst, by rw [len_snoc]; omega⟩ (by dsimp only; rw [len_snoc]; omega) ⟨rfl, rfl, iv_eq (by rw [ig]; omega), rfl, iv_eq (by rw [len_snoc]; omega), trivial⟩ ⟨[], rfl⟩ ⟨[], by dsimp only; exact ins_row (by omega) (by rw [ig]; omega) (by omega)⟩⟩
  · have hsl : s.length = v.length := by omega
    have hz : rd v (s.length : Int) = 0 := rd_out v s.length (by omega)
    have hst := GivI6.step (T := c + rd x (s.length : Int)) hI (by omega) okx okv (by rw [hz]; omega)
    obtain ⟨k1, k2, k3, k4⟩ := hst
    have kl := len_snoc s ((c + rd x (s.length : Int)) % 18446744073709551616)
    rw [kl, List.take_of_length_le (l := v) (by omega), hsl] at k4
    rw [hsl] at k2 k3 kl
    have ig3 := ig2 () hsl
    rw [hsl] at ig3
    refine ⟨ret_m [0] _ [some ⟨1, 44, .w .u64 (ins p lo (s ++ [(c + rd x (v.length : Int)) % 18446744073709551616]))⟩] rfl rfl (by simp) (fun i h => one_row h) (congrArg (fun l => [some l]) (ins_row1 (by omega) (by rw [ig3]; omega) (by omega))) ⟨_, _, iv_eq ?_, k3, by omega, k2, k4, rfl⟩⟩
    rw [ig3]
    omega
  · exact ⟨⟨Nat.zero_le _, okD_nil _, by decide, by simp [vl]⟩, Nat.zero_le _⟩
end Go.Proofs.YtbeocnjlepcglaaGreatDoor.Sim
namespace Go.Proofs.YtbeocnjlepcglaaGreatDoor.Sim
open Go.RowKit
set_option linter.unusedVariables false
set_option linter.unusedSimpArgs false
set_option maxRecDepth 10000
set_option maxHeartbeats 8000000
variable {G : List (Nat × List Value)}
def DivJ (X V : Int) (L n : Nat) (u q : List Int) (m : Nat) : Prop := u.length = L + n ∧ okD 18446744073709551616 u ∧ q.length = L ∧ okD 18446744073709551616 q ∧ m ≤ L ∧ vl 18446744073709551616 (u.drop m) < V ∧ X = V * (18446744073709551616 ^ m * vl 18446744073709551616 (q.drop m)) + vl 18446744073709551616 u
theorem DivJ.step {X V : Int} {L n : Nat} {u q : List Int} {m : Nat} (h : DivJ X V L n u q m) (hV : 0 < V) (hVn : V < 18446744073709551616 ^ n) (hm : 0 < m) :
    vl 18446744073709551616 ((u.drop (m - 1)).take (n + 1)) < 18446744073709551616 * V ∧ ∀ w d, okD 18446744073709551616 w → w.length = n + 1 → vl 18446744073709551616 w = vl 18446744073709551616 ((u.drop (m - 1)).take (n + 1)) % V → d = vl 18446744073709551616 ((u.drop (m - 1)).take (n + 1)) / V → DivJ X V L n (ins u (m - 1) w) (q.set (m - 1) d) (m - 1) := by
  obtain ⟨i1, i2, i3, i4, i5, i6, i7⟩ := h
  have e : m - 1 + 1 = m := by omega
  have hst := fun w d => div_step6 (X := X) (V := V) (s := w) (d := d) (j := m - 1) (n := n) (u := u) (q := q) i2 hV hVn (by omega) (by omega) (by rw [e]; exact i6) (by rw [e]; exact i7)
  have h1 := (hst [] 0).1
  refine ⟨h1, fun w d k1 k2 k3 k4 => ?_⟩
  obtain ⟨g1, g2⟩ := (hst w d).2 k2 k3 k4
  have hu := i2.drop (m - 1) |>.take (n + 1)
  have hd : 0 ≤ d ∧ d < 18446744073709551616 := by
    rw [k4]
    have := vl_nonneg (B := 18446744073709551616) (by decide) hu
    exact ⟨Int.ediv_nonneg this (Int.le_of_lt hV), Int.ediv_lt_of_lt_mul hV h1⟩
  exact ⟨by rw [ins_len (by omega), i1], ins_okD i2 k1, by rw [List.length_set, i3], okD_set i4 hd, by omega, g1, g2⟩
theorem DivJ.done {X V : Int} {L n : Nat} {u q : List Int} (h : DivJ X V L n u q 0) (hV : 0 < V) (hVn : V < 18446744073709551616 ^ n) : vl 18446744073709551616 q = X / V ∧ vl 18446744073709551616 (u.take n) = X % V := by
  obtain ⟨i1, i2, i3, i4, i5, i6, i7⟩ := h
  rw [List.drop_zero] at i6 i7
  rw [Int.pow_zero, Int.one_mul] at i7
  have z := tail_zero6 (k := n) i2 (Int.lt_trans i6 hVn)
  have w := vl_split 18446744073709551616 u n (by omega)
  rw [z, Int.mul_zero, Int.add_zero] at w
  rw [← w]
  have h0 := vl_nonneg (B := 18446744073709551616) (by decide) i2
  rw [i7, Int.add_comm]
  constructor
  · rw [Int.add_mul_ediv_left _ _ (by omega), Int.ediv_eq_zero_of_lt h0 i6, Int.zero_add]
  · rw [Int.add_mul_emod_self_left, Int.emod_eq_of_lt h0 i6]
theorem DivJ.init {V : Int} {L n : Nat} {u : List Int} (h1 : u.length = L + n) (ok : okD 18446744073709551616 u) (h2 : vl 18446744073709551616 (u.drop L) < V) : DivJ (vl 18446744073709551616 u) V L n u (List.replicate L 0) L := by
  refine ⟨h1, ok, by simp, fun x hx => by rw [List.eq_of_mem_replicate hx]; decide, Nat.le_refl _, h2, ?_⟩
  rw [List.drop_eq_nil_of_le (by simp)]
  simp only [vl]
  rw [Int.mul_zero, Int.mul_zero, Int.zero_add]
theorem arr_eq {q a b a' b' : Nat} (h1 : a = a') (h2 : b = b') : PV.arr q a b = PV.arr q a' b' := by rw [h1, h2]
theorem d_guess {u v : List Int} {j m : Nat} {V : Int} (hi lo d : Int) (okx : okD 18446744073709551616 u) (okv : okD 18446744073709551616 v) (vv : vl 18446744073709551616 v = V) (hl : v.length = m + 1) (hx : j + m + 2 ≤ u.length) (ht : 0 < rd v m) (hU : vl 18446744073709551616 ((u.drop j).take (m + 2)) < 18446744073709551616 * V) (e1 : hi = u.getD (j + m + 1) 0) (e2 : lo = u.getD (j + m) 0) (e3 : d = rd v m) :
    FC Tryz.prog G 143 [.val (.int .u64 hi), .val (.int .u64 lo), .val (.int .u64 d)] fun r => ∃ w : Int, r = .val (.int .u64 w) ∧ (0 ≤ w ∧ w < 18446744073709551616) ∧ vl 18446744073709551616 ((u.drop j).take (m + 2)) / V ≤ w := by
  have b1 := gd_bd (by decide) okx (j + m + 1)
  have b2 := gd_bd (by decide) okx (j + m)
  have b3 := rd_bd (by decide) okv (m : Int)
  have hg := guess_ge6 (m := m) (okx.drop j) okv vv hl (by rw [List.length_drop]; omega) ht hU
  rw [rd_drop, rd_drop, show j + (m + 1) = j + m + 1 by omega, ← gd_rd, ← gd_rd, ← e1, ← e2, ← e3] at hg
  rw [← e1] at b1
  rw [← e2] at b2
  rw [← e3] at b3 ht
  have f1 := d_trial (G := G) hi lo d ⟨ht, b3.2⟩ b1 b2
  refine f1.mono fun r h => ⟨_, h, ?_, hg⟩
  have : 0 ≤ (hi * 18446744073709551616 + lo) / d := Int.ediv_nonneg (by omega) (by omega)
  omega
theorem d_long (u v : List Int) (L m : Nat) (V : Int) (hvl : v.length = m + 1) (hu : u.length = L + (m + 1)) (hL : 0 < L) (hp : u.length ≤ 1073741824) (ok : okD 18446744073709551616 u) (okv : okD 18446744073709551616 v) (vv : vl 18446744073709551616 v = V) (ht : 0 < rd v m) (hr : vl 18446744073709551616 (u.drop L) < V) :
    PM Tryz.prog G 117 [.arr 0 0 (L + (m + 1)), .ws .u64 v] [⟨1, 44, .w .u64 u⟩] fun r rs => r = .arr 1 0 L ∧ ∃ u2 q : List Int, u2.length = L + (m + 1) ∧ okD 18446744073709551616 u2 ∧ q.length = L ∧ okD 18446744073709551616 q ∧ vl 18446744073709551616 q = vl 18446744073709551616 u / V ∧ vl 18446744073709551616 (u2.take (m + 1)) = vl 18446744073709551616 u % V ∧ rs = [some ⟨1, 44, .w .u64 u2⟩, some ⟨1, 44, .w .u64 q⟩] := by
  have hVn : V < 18446744073709551616 ^ (m + 1) := by
    have := vl_lt (B := 18446744073709551616) (by decide) okv
    rw [hvl, vv] at this
    exact this
  have hV : 0 < V := by
    have h1 := vl_split 18446744073709551616 v m (by omega)
    have h2 := vl_nonneg (B := 18446744073709551616) (by decide) (okv.take m)
    rw [drop_rd v m (by omega), vl, List.drop_eq_nil_of_le (by omega)] at h1
    simp only [vl] at h1
    have h3 : 0 < (18446744073709551616 : Int) ^ m := Int.pow_pos (by decide)
    have h4 := Int.mul_pos h3 ht
    rw [Int.mul_zero, Int.add_zero] at h1
    rw [← vv]
    omega
  have hini := DivJ.init (V := V) (n := m + 1) hu ok hr
  obtain ⟨X, hX⟩ : ∃ X, X = vl 18446744073709551616 u := ⟨_, rfl⟩
  rw [← hX] at hini ⊢
  have hP : (18446744073709551616 : Int) ^ (m + 2) = 18446744073709551616 ^ (m + 1 + 1) := rfl
  refine PM.intro (X := XX) tok Tryz.func117 rfl Tryz.ntmps117 (by rw [Tryz.results117]) (by kernel_rfl) rfl ?_; intro F hG hO; simp only [List.length_cons, List.length_nil, Nat.zero_add, Nat.reduceAdd] at hO
  repeat' ((try (conv => whnf)); first
  | ((with_reducible refine lg ?_); refine loop_g (A := List Int × Int) (fun (s2, w2) => s2.length = m + 2 ∧ okD 18446744073709551616 s2 ∧ (qq + 1 ≤ w2 ∧ w2 < 18446744073709551616) ∧ vl 18446744073709551616 s2 = U - w2 * V + 18446744073709551616 ^ (m + 2)) (fun (s2, w2) => w2.toNat) (fun (s2, w2) => [(0, .arr 0 0 (L + (m + 1))), (1, .ws .u64 v), (5, .val (.int .i64 ((m + 1 : Nat) : Int))), (6, .arr 1 0 L), (7, .val (.int .i64 ((k : Int) - 1))), (8, .val (.int .u64 w2)), (9, .arr 0 (k - 1) (m + 2))]) (fun _ => []) (fun (s2, w2) => [some ⟨1, 44, .w .u64 (ins p (k - 1) s2)⟩, some ⟨1, 44, .w .u64 q⟩]) (s, w) tok (fun (s2, w2) => ⟨⟨Nat.zero_lt_succ _, trivial, trivial, Nat.lt_succ_self 1, trivial, trivial, Nat.zero_lt_succ _, trivial⟩, trivial, by simp only [List.length_cons, List.length_nil]; omega⟩) ?_ ⟨rfl, rfl, iv_eq (by omega), rfl, rfl, rfl, arr_eq (by omega) (by omega), trivial⟩ ⟨[], rfl⟩ ⟨[], rfl⟩ ?_; rotate_left; rintro ⟨s2, w2⟩ ⟨j1, j2, j3, j4⟩)
  | ((with_reducible refine lg ?_); refine loop_g (A := List Int × List Int × Nat) (fun (p, q, k) => DivJ X V L (m + 1) p q k) (fun (p, q, k) => k) (fun (p, q, k) => [(0, .arr 0 0 (L + (m + 1))), (1, .ws .u64 v), (5, .val (.int .i64 ((m + 1 : Nat) : Int))), (6, .arr 1 0 L), (7, .val (.int .i64 ((k : Int) - 1)))]) (fun _ => []) (fun (p, q, k) => [some ⟨1, 44, .w .u64 p⟩, some ⟨1, 44, .w .u64 q⟩]) (u, List.replicate L 0, L) tok (fun (p, q, k) => ⟨⟨Nat.zero_lt_succ _, trivial, trivial, Nat.lt_succ_self 1, trivial, trivial⟩, trivial, by simp only [List.length_cons, List.length_nil]; omega⟩) ?_ ⟨rfl, rfl, iv_eq (by omega), arr_eq rfl (by omega), iv_eq (by omega), trivial⟩ ⟨[], rfl⟩ ⟨[], (by rw [show (((L + (m + 1) : Nat) : Int) - (v.length : Int)).toNat = L by omega]; rfl)⟩ ?_; rotate_left; rintro ⟨p, q, k⟩ hI; have hI2 := hI; obtain ⟨i1, i2, i3, i4, i5, i6, i7⟩ := hI2)
  | ((with_reducible refine cg ?_); have hst := hI.step hV hVn (by omega); refine call_pc (d_guess (u := p) (v := v) (j := k - 1) (m := m) _ _ _ i2 okv vv hvl (by omega) ht hst.1 (by congr 1; omega) (by congr 1; omega) (by congr 1; omega)) rfl ?_; rintro _ ⟨w, rfl, hw, hge⟩; obtain ⟨U, hU⟩ : ∃ U, U = vl 18446744073709551616 ((p.drop (k - 1)).take (m + 2)) := ⟨_, rfl⟩; obtain ⟨qq, hqq⟩ : ∃ qq, qq = U / V := ⟨_, rfl⟩; rw [← hU, ← hqq] at hge; have hst1 := hst.1; have hst2 := hst.2; rw [← hU] at hst1; rw [← hU, ← hqq] at hst2; have hqq0 : 0 ≤ qq := (by rw [hqq, hU]; exact Int.ediv_nonneg (vl_nonneg (by decide) ((i2.drop _).take _)) (by omega)))
  | ((with_reducible refine cg ?_); rw [show 0 + ((k : Int) - 1).toNat = k - 1 by omega]; (first | rw [show ((k : Int) - 1 + ((m + 1 : Nat) : Int) + 1).toNat - ((k : Int) - 1).toNat = m + 2 by omega] | skip); refine call_pm [0] (d_takemul p v (k - 1) (m + 1) w hvl (by omega) (by omega) i2 okv hw) rfl rfl rfl (by simp) ?_; rintro r rs ⟨e, s, rfl, he, hs, oks, vs, rfl⟩; rw [vv, ← hU] at vs; have je := dig_end hV hqq hge ⟨vl_nonneg (B := 18446744073709551616) (by decide) oks, (by have := vl_lt (B := 18446744073709551616) (by decide) oks; rw [hs] at this; exact this)⟩ vs he)
  | ((with_reducible refine cg ?_); refine call_pm [0] (d_give (ins p (k - 1) s2) v (k - 1) (m + 1) hvl (by rw [ins_len (by omega)]; omega) (by rw [ins_len (by omega)]; omega) (ins_okD i2 j2) okv) rfl rfl rfl (by simp) ?_; rintro r rs ⟨c, s3, rfl, hc3, hs3, oks3, vs3, rfl⟩; have hmid := ins_mid (p := p) (s := s2) (lo := k - 1) (by omega); rw [j1] at hmid; rw [hmid, vv, j4, hP] at vs3; rw [ins_ins (by omega) (by omega)])
  
  | (with_reducible refine draw_g (id := 6) [[0, 1, 2, 3, 4, 5, 6, 7, 8, 9, 10, 11, 12, 13, 14, 15, 16, 17, 18, 19]] tok mixed (by kernel_rfl) ?_)
  | (with_reducible refine Chk.mk' (by first | omega | exact trivial | (simp only [List.length_append, List.length_set, List.length_replicate, List.length_take, List.length_drop, List.length_cons, List.length_nil, List.length_map]; omega)) ?_)
  | (with_reducible refine wrap_g (by dsimp only [inR]; omega) ?_)
  | (with_reducible refine idx_g (by omega) ?_)
  | (with_reducible refine idx_l _ rfl (by decide) ?_)
  | (with_reducible refine BothG.mk ?_ ?_)
  | (with_reducible refine fork_tt ?_) | (with_reducible refine fork_ff ?_)
  | (with_reducible refine fork_e (c := true) (by decide) ?_; with_reducible refine fork_tt ?_) | (with_reducible refine fork_e (c := false) (by decide) ?_; with_reducible refine fork_ff ?_)
  | (with_reducible refine fork_t (by omega) ?_) | (with_reducible refine fork_f (by omega) ?_)
  | (with_reducible refine fork_d ?_ ?_ <;> intro hc)
  | (with_reducible refine fork_n ?_)
  | (with_reducible refine fork_b ?_ ?_ <;> intro hc)
  | (with_reducible refine SlcG.mk (by omega) ?_)
  | (with_reducible refine MakG.mk (by dsimp only; omega) ?_)
  | (with_reducible refine AppG.mk (by first | omega | (simp only [List.length_append, List.length_set, List.length_replicate, List.length_take, List.length_drop, List.length_cons, List.length_nil, List.length_map]; omega)) (by dsimp only [List.length_cons, List.length_nil]; omega) (by omega) ?_)
  | (with_reducible refine div_g (by omega) (by omega) (by dsimp only [inR]; omega) ?_)
  | (with_reducible refine mod_g (by omega) (by omega) ?_)
  | (with_reducible refine mask_g (m := 4294967296) 32 rfl rfl (by decide) (by omega) ?_)
  | (with_reducible refine shr_g (m := 4294967296) 32 rfl (by decide) (by omega) rfl ?_)
  | (with_reducible refine fz_all (by omega) ?_)
  | (with_reducible refine Stuck.h (A := RetE _ _) ?_) | (with_reducible refine Stuck.h (A := RetM _ _ _ _) ?_) | (with_reducible refine Stuck.h (A := Again _ _ _ _ _ _ _ _) ?_) | (with_reducible refine Stuck.h (A := CallF _ _ _ _ _ _ _) ?_) | (with_reducible refine Stuck.h (A := LoopG _ _ _ _ _ _ _ _) ?_) | (with_reducible refine Stuck.h (A := DrawG _ _ _ _ _ _ _ _) ?_)
  | (with_reducible refine Stuck.h (A := WrapG _ _ _) ?_) | (with_reducible refine Stuck.h (A := DivG _ _ _ _) ?_) | (with_reducible refine Stuck.h (A := ModG _ _ _) ?_) | (with_reducible refine Stuck.h (A := ShlG _ _ _ _) ?_) | (with_reducible refine Stuck.h (A := ShrG _ _ _ _) ?_) | (with_reducible refine Stuck.h (A := BitG _ _ _ _ _) ?_)
  | (with_reducible refine Stuck.h (A := IdxG _ _ _) ?_) | (with_reducible refine Stuck.h (A := IdxL _ _ _) ?_) | (with_reducible refine Stuck.h (A := SlcG _ _ _ _ _) ?_) | (with_reducible refine Stuck.h (A := MakG _ _ _ _) ?_) | (with_reducible refine Stuck.h (A := AppG _ _ _ _ _ _ _) ?_) | (with_reducible refine Stuck.h (A := FzG _ _ _ _) ?_)
  | (with_reducible refine Stuck.h (A := RawG _) ?_) | (with_reducible refine Stuck.h (A := TabG _ _ _ _ _) ?_) | (with_reducible refine Stuck.h (A := ExtF _ _ _ _) ?_) | (with_reducible refine Stuck.h (A := Chk _ _) ?_) | (with_reducible refine Stuck.h (A := False) ?_))
  · obtain ⟨f1, f2⟩ := je.1 (by omega)
    refine ⟨again (ins p (k - 1) s, q.set (k - 1) w, k - 1) (hst2 s w oks hs f2 f1) (by dsimp only; omega) ⟨rfl, rfl, rfl, rfl, iv_eq (by omega), trivial⟩ ⟨[], rfl⟩ ⟨[], ?_⟩⟩
    dsimp only
    rw [show 0 + ((k : Int) - 1).toNat = k - 1 by omega]; rfl
  · have hb3 := vl_lt (B := 18446744073709551616) (by decide) oks3
    have hb4 := vl_nonneg (B := 18446744073709551616) (by decide) oks3
    rw [hs3] at hb3
    rw [hc, Int.mul_one] at vs3
    obtain ⟨f1, f2⟩ := (dig_end (w := w2 - 1) (e := 0) hV hqq (by omega) ⟨hb4, hb3⟩ (by rw [Int.sub_mul, Int.one_mul, Int.mul_zero]; omega) (by decide)).1 rfl
    refine ⟨again (ins p (k - 1) s3, q.set (k - 1) (w2 - 1), k - 1) (hst2 s3 (w2 - 1) oks3 hs3 f2 f1) (by dsimp only; omega) ⟨rfl, rfl, rfl, rfl, iv_eq (by omega), trivial⟩ ⟨[], rfl⟩ ⟨[], ?_⟩⟩
    dsimp only
    rw [show 0 + ((k : Int) - 1).toNat = k - 1 by omega]; rfl
  · have hb3 := vl_lt (B := 18446744073709551616) (by decide) oks3
    have hb4 := vl_nonneg (B := 18446744073709551616) (by decide) oks3
    rw [hs3] at hb3
    rw [show c = 0 by omega, Int.mul_zero, Int.add_zero] at vs3
    have vs4 : vl 18446744073709551616 s3 = U - (w2 - 1) * V + 18446744073709551616 ^ (m + 1 + 1) := by
      rw [Int.sub_mul, Int.one_mul]; omega
    have f1 := (dig_end (w := w2 - 1) (e := 1) hV hqq (by omega) ⟨hb4, hb3⟩ (by rw [Int.mul_one]; exact vs4) (by decide)).2 (by decide)
    refine ⟨again (s3, w2 - 1) ⟨hs3, oks3, ⟨f1, by omega⟩, hP ▸ vs4⟩ (by dsimp only; omega) ⟨rfl, rfl, rfl, rfl, rfl, rfl, rfl, trivial⟩ ⟨[], rfl⟩ ⟨[], rfl⟩⟩
  · refine ⟨hs, oks, ⟨je.2 (by omega), hw.2⟩, ?_⟩
    rw [vs, show e = 1 by omega, Int.mul_one]
  · obtain rfl : k = 0 := by omega
    have hdn := hI.done hV hVn
    refine ⟨ret_m [0, 1] (.arr 1 0 L) [some ⟨1, 44, .w .u64 p⟩, some ⟨1, 44, .w .u64 q⟩] rfl rfl (by simp) (fun i h => ?_) rfl ⟨rfl, p, q, i1, i2, i3, i4, hdn.1, hdn.2, rfl⟩⟩
    have : i = 0 := by simp at h; omega
    subst this; rfl
  · exact hini
end Go.Proofs.YtbeocnjlepcglaaGreatDoor.Sim
namespace Go.Proofs.YtbeocnjlepcglaaGreatDoor.Sim
open Go.RowKit
set_option linter.unusedVariables false
set_option linter.unusedSimpArgs false
inductive Tq where
  | fin
  | take (i : Nat) (t : Tq)
  | one (i : Nat) (t : Tq)
  | two (i : Nat) (a : Tq) (j : Nat) (b : Tq)
def Tq.size : Tq → Nat
  | .fin => 0
  | .take _ t => t.size + 1
  | .one _ t => t.size + 1
  | .two _ a _ b => max a.size b.size + 1
section
variable {P : Program} {F : Fr} {TT : List TI} {X : List FuncId} {m : Md} {o : Oper} {s : St} {K : St → Prop}
def vQ (P : Program) (F : Fr) (TT : List TI) (X : List FuncId) (all : List Oper) (t : Tq) (s : St) (K : St → Prop) : Prop := match t with
  | .fin => K s
  | .take i t => vOp P F TT X .S (nthO all i) s fun s => vQ P F TT X all t s K
  | .one i t => vOp P F TT X (kind X (nthO all i)) (nthO all i) s fun s => vQ P F TT X all t s K
  | .two i a j b => BothG (vOp P F TT X (kind X (nthO all i)) (nthO all i) s fun s => vQ P F TT X all a s K) (vOp P F TT X (kind X (nthO all j)) (nthO all j) s fun s => vQ P F TT X all b s K)
def okI (ops : List Oper) (i : Nat) : Bool := Nat.blt i ops.length && (nthO ops i).guard.isNone
def isTwo (l : List Nat) (i j : Nat) : Bool := match l with
  | [x, y] => Nat.beq x i && Nat.beq y j
  | _ => false
def chkQ (ops : List Oper) (t : Tq) (l : Array Bool) : Bool := match t with
  | .fin => (Region.ready .any ops.toArray l).isEmpty
  | .take i t => okI ops i && chkP ops.toArray l i && pureO (nthO ops i) && chkQ ops t (l.setIfInBounds i true)
  | .one i t => okI ops i && sole ops.toArray l i && chkQ ops t (l.setIfInBounds i true)
  | .two i a j b => okI ops i && okI ops j && isTwo (Region.ready .any ops.toArray l) i j && chkQ ops a (l.setIfInBounds i true) && chkQ ops b (l.setIfInBounds j true)
theorem Sem.run {C : St → Prop} (h : Sem P F m o s C) (Q : Exit → Act → World → Prop) {c : Cx} {a : Act} {w : World} (hi : Inv F c s a w) : o.wp P a w (fun a' w' => ∃ c' s', Inv F c' s' a' w' ∧ C s') Q := by
  cases m with
  | S =>
    obtain ⟨p, h1, h2, h3⟩ := h
    exact Oper.wp_mono (fun a' w' ⟨c', s', x, y, _⟩ => ⟨c', s', x, y⟩) (h1.does (K := C) h2 h3 Q c a w hi)
  | E => exact Oper.wp_mono (fun a' w' ⟨c', s', x, y, _⟩ => ⟨c', s', x, y⟩) (h Q c a w hi)
  | L => exact Oper.wp_mono (fun a' w' ⟨c', s', x, y, _⟩ => ⟨c', s', x, y⟩) (h Q c a w hi)
theorem okI_ok {ops : List Oper} {i : Nat} (h : okI ops i = true) : ops.toArray[i]? = some (nthO ops i) ∧ ∀ s, pwant ops.toArray s (nthO ops i) = some true := by
  simp only [okI, Bool.and_eq_true] at h
  have hlt : i < ops.length := by simpa using h.1
  have hg : (nthO ops i).guard = none := by simpa using h.2
  exact ⟨by simpa using nthO_get hlt, fun s => by simp [pwant, hg]⟩
theorem vQ_op (hTT : TOk P TT) {all : List Oper} {C : St → Prop} {i : Nat} {m : Md} (h1 : okI all i = true) (h : vOp P F TT X m (nthO all i) s C) {Q : Exit → Act → World → Prop} {f : Nat} {l : Array Bool} {c : Cx} {a : Act} {w : World} (hv : Inv F c s a w)
    (k : ∀ c' s' a' w', Inv F c' s' a' w' → C s' → wpAny P .any all.toArray Q f l a' w') : wpOp P all.toArray Q i (wpAny P .any all.toArray Q f l) a w := by
  obtain ⟨g1, g2⟩ := okI_ok h1
  unfold wpOp
  simp only [g1]
  rw [pwant_ok hv (g2 s), if_pos rfl]
  exact .inl (Oper.wp_mono (fun a' w' ⟨c', s', hi', hC⟩ => k c' s' a' w' hi' hC) ((vOp_sem hTT h fun s h => h).run Q hv))
theorem vQ_ok (hTT : TOk P TT) {all : List Oper} : ∀ (t : Tq) (l : Array Bool) (s : St), chkQ all t l = true → vQ P F TT X all t s K →
    ∀ Q c a w, Inv F c s a w → (∀ c' s' a' w', Inv F c' s' a' w' → K s' → Q .normal a' w') → (∀ cc a w, ¬ Q (.panic cc) a w) → ∀ f, t.size ≤ f → wpAny P .any all.toArray Q f l a w
  | .fin, l, s, hc, h => by
    intro Q c a w hi hq hp f hf
    exact wpAny_done (by simpa [chkQ, List.isEmpty_iff] using hc) (hq c s a w hi h) f
  | .take i t, l, s, hc, h => by
    intro Q c a w hi hq hp f hf
    simp only [chkQ, Bool.and_eq_true] at hc
    obtain ⟨⟨⟨c1, c2⟩, c3⟩, c4⟩ := hc
    obtain ⟨g1, g2⟩ := okI_ok c1
    simp only [chkP, Bool.and_eq_true] at c2
    obtain ⟨⟨d1, d2⟩, d3⟩ := c2
    obtain ⟨g, rfl⟩ : ∃ g, f = g + 1 := ⟨f - 1, by simp only [Tq.size] at hf; omega⟩
    obtain ⟨p, h1, h2, h3⟩ := vOp_sem hTT (m := .S) h fun s h => h
    obtain ⟨u, hr, hrun⟩ := h1 c a w hi
    exact wpAny_take g1 d1 d2 d3 (fun c a w h => absurd h (hp _ _ _)) (.inl ⟨pwant_ok hi (g2 s), fun w' => hrun w' (.inr c3)⟩) (vQ_ok hTT t _ _ c4 h3 Q c _ w (hi.put h2 hr) hq hp g (by simp only [Tq.size] at hf; omega))
  | .one i t, l, s, hc, h => by
    intro Q c a w hi hq hp f hf
    simp only [chkQ, Bool.and_eq_true] at hc
    obtain ⟨⟨c1, c2⟩, c3⟩ := hc
    obtain ⟨g, rfl⟩ : ∃ g, f = g + 1 := ⟨f - 1, by simp only [Tq.size] at hf; omega⟩
    refine wpAny_all (sole_ok c2) (by simp) fun j hj => ?_
    obtain rfl : j = i := by simpa using hj
    exact vQ_op hTT c1 h hi fun c' s' a' w' hi' hC => vQ_ok hTT t _ s' c3 hC Q c' a' w' hi' hq hp g (by simp only [Tq.size] at hf; omega)
  | .two i a j b, l, s, hc, h => by
    intro Q c x w hi hq hp f hf
    simp only [chkQ, Bool.and_eq_true] at hc
    obtain ⟨⟨⟨⟨c1, c2⟩, c3⟩, c4⟩, c5⟩ := hc
    obtain ⟨g, rfl⟩ : ∃ g, f = g + 1 := ⟨f - 1, by simp only [Tq.size] at hf; omega⟩
    have hr : Region.ready .any all.toArray l = [i, j] := by
      generalize Region.ready .any all.toArray l = r at c3
      unfold isTwo at c3
      split at c3
      · rw [Bool.and_eq_true] at c3
        rw [Nat.eq_of_beq_eq_true c3.1, Nat.eq_of_beq_eq_true c3.2]
      · cases c3
    refine wpAny_all hr (by simp) fun y hy => ?_
    rcases (by simpa using hy : y = i ∨ y = j) with rfl | rfl
    · exact vQ_op hTT c1 h.a hi fun c' s' a' w' hi' hC => vQ_ok hTT a _ s' c4 hC Q c' a' w' hi' hq hp g (by simp only [Tq.size] at hf; omega)
    · exact vQ_op hTT c2 h.b hi fun c' s' a' w' hi' hC => vQ_ok hTT b _ s' c5 hC Q c' a' w' hi' hq hp g (by simp only [Tq.size] at hf; omega)
theorem draw_q {id : Nat} {ops : List Oper} (t : Tq) (hTT : TOk P TT) (hm : P.follows .mixedOrders = true) (hl : Nat.ble t.size ops.length = true) (hc : chkQ ops t (Array.replicate ops.length false) = true) (h : vQ P F TT X ops t s K) : DrawG P F TT X id ops s K := by
  refine ⟨?_⟩
  intro cx a w hi
  have hi' : Inv F cx s a { w with drawn := w.drawn + 1 } := ⟨hi.W.grow fun _ _ => rfl, hi.nd, hi.sz, hi.tm, hi.kp.drew, hi.rho, hi.new, hi.obp, hi.obB, hi.bbB⟩
  have h1 := vQ_ok hTT t (Array.replicate ops.length false) s hc h (fun e a w => e = .normal ∧ ∃ cx' s', Inv F cx' s' a w ∧ K s') cx a _ hi' (fun c' s' a' w' hi' hk => ⟨rfl, c', s', hi', hk⟩) (fun cc a w hq => by cases hq.1) ops.toArray.size (by simpa using Nat.le_of_ble_eq_true hl)
  refine wp_mono (wp_region_any hm (by simpa using h1)) ?_
  rintro e a' w' ⟨rfl, cx', s', hi'', hq⟩
  exact ⟨cx', s', hi'', hq⟩
end
end Go.Proofs.YtbeocnjlepcglaaGreatDoor.Sim
namespace Go.Proofs.YtbeocnjlepcglaaGreatDoor.Sim
open Go.RowKit
set_option linter.unusedVariables false
set_option linter.unusedSimpArgs false
set_option maxRecDepth 10000
set_option maxHeartbeats 8000000
variable {G : List (Nat × List Value)}
theorem copy_all (l : List Int) : (List.replicate l.length (0 : Int)).take 0 ++ l.take l.length ++ (List.replicate l.length (0 : Int)).drop (0 + min l.length l.length) = l := by
  rw [copy_row l l.length (Nat.le_refl _), Nat.sub_self]
  simp
theorem n_norm (a : List Int) (ok : okD 18446744073709551616 a) (hl : a.length ≤ 1152921504606846976) : FC Tryz.prog G 113 [.ws .u64 a] (· = natT (vl 18446744073709551616 a).toNat) := by
  have f1 := n_trim (G := G) a hl
  rw [trim64 ok] at f1
  obtain ⟨X, hX⟩ : ∃ X, X = (vl 18446744073709551616 a).toNat := ⟨_, rfl⟩
  rw [← hX] at f1 ⊢
  have hl : (d64 X).length = L64 X := rfl
  have hcp := copy_all (d64 X)
  refine FC.intro (X := XX) tok Tryz.func113 rfl Tryz.ntmps113 (by rw [Tryz.results113]) (by kernel_rfl) rfl ?_; intro F hG hO
  rw [← hG] at f1
  repeat' ((try (conv => whnf)); first
  | ((with_reducible refine cg ?_); refine call_eq (f1) (LpL.refl _) rfl ?_)
  
  | (with_reducible refine Chk.mk' (by first | omega | exact trivial | (simp only [List.length_append, List.length_set, List.length_replicate, List.length_take, List.length_drop, List.length_cons, List.length_nil, List.length_map]; omega)) ?_)
  | (with_reducible refine wrap_g (by dsimp only [inR]; omega) ?_)
  | (with_reducible refine idx_g (by omega) ?_)
  | (with_reducible refine idx_l _ rfl (by decide) ?_)
  | (with_reducible refine BothG.mk ?_ ?_)
  | (with_reducible refine fork_tt ?_) | (with_reducible refine fork_ff ?_)
  | (with_reducible refine fork_e (c := true) (by decide) ?_; with_reducible refine fork_tt ?_) | (with_reducible refine fork_e (c := false) (by decide) ?_; with_reducible refine fork_ff ?_)
  | (with_reducible refine fork_t (by omega) ?_) | (with_reducible refine fork_f (by omega) ?_)
  | (with_reducible refine fork_d ?_ ?_ <;> intro hc)
  | (with_reducible refine fork_n ?_)
  | (with_reducible refine fork_b ?_ ?_ <;> intro hc)
  | (with_reducible refine SlcG.mk (by omega) ?_)
  | (with_reducible refine MakG.mk (by dsimp only; omega) ?_)
  | (with_reducible refine AppG.mk (by first | omega | (simp only [List.length_append, List.length_set, List.length_replicate, List.length_take, List.length_drop, List.length_cons, List.length_nil, List.length_map]; omega)) (by dsimp only [List.length_cons, List.length_nil]; omega) (by omega) ?_)
  | (with_reducible refine div_g (by omega) (by omega) (by dsimp only [inR]; omega) ?_)
  | (with_reducible refine mod_g (by omega) (by omega) ?_)
  | (with_reducible refine mask_g (m := 4294967296) 32 rfl rfl (by decide) (by omega) ?_)
  | (with_reducible refine shr_g (m := 4294967296) 32 rfl (by decide) (by omega) rfl ?_)
  | (with_reducible refine fz_all (by omega) ?_)
  | (with_reducible refine Stuck.h (A := RetE _ _) ?_) | (with_reducible refine Stuck.h (A := RetM _ _ _ _) ?_) | (with_reducible refine Stuck.h (A := Again _ _ _ _ _ _ _ _) ?_) | (with_reducible refine Stuck.h (A := CallF _ _ _ _ _ _ _) ?_) | (with_reducible refine Stuck.h (A := LoopG _ _ _ _ _ _ _ _) ?_) | (with_reducible refine Stuck.h (A := DrawG _ _ _ _ _ _ _ _) ?_)
  | (with_reducible refine Stuck.h (A := WrapG _ _ _) ?_) | (with_reducible refine Stuck.h (A := DivG _ _ _ _) ?_) | (with_reducible refine Stuck.h (A := ModG _ _ _) ?_) | (with_reducible refine Stuck.h (A := ShlG _ _ _ _) ?_) | (with_reducible refine Stuck.h (A := ShrG _ _ _ _) ?_) | (with_reducible refine Stuck.h (A := BitG _ _ _ _ _) ?_)
  | (with_reducible refine Stuck.h (A := IdxG _ _ _) ?_) | (with_reducible refine Stuck.h (A := IdxL _ _ _) ?_) | (with_reducible refine Stuck.h (A := SlcG _ _ _ _ _) ?_) | (with_reducible refine Stuck.h (A := MakG _ _ _ _) ?_) | (with_reducible refine Stuck.h (A := AppG _ _ _ _ _ _ _) ?_) | (with_reducible refine Stuck.h (A := FzG _ _ _ _) ?_)
  | (with_reducible refine Stuck.h (A := RawG _) ?_) | (with_reducible refine Stuck.h (A := TabG _ _ _ _ _) ?_) | (with_reducible refine Stuck.h (A := ExtF _ _ _ _) ?_) | (with_reducible refine Stuck.h (A := Chk _ _) ?_) | (with_reducible refine Stuck.h (A := False) ?_))
  · exact ⟨ret_l _ (lp_natE 5) (natT_no (by omega)).symm⟩
  · refine ⟨fz_all (by simp) (ret_e ?_)⟩
    rw [natT_ok (by omega)]
    simp [natR]
def DwI (X w : Nat) (q : List Int) (m : Nat) (left : Int) : Prop := q.length = L64 X ∧ okD 18446744073709551616 q ∧ m ≤ L64 X ∧ left = ((X / 2 ^ (64 * m) % w : Nat) : Int) ∧ vl 18446744073709551616 (q.drop m) = ((X / 2 ^ (64 * m) / w : Nat) : Int)
theorem DwI.init (X w : Nat) : DwI X w (List.replicate (L64 X) 0) (L64 X) 0 := by
  have h := L64_lt X
  refine ⟨by simp, fun x hx => by rw [List.eq_of_mem_replicate hx]; decide, Nat.le_refl _, ?_, ?_⟩
  · rw [Nat.div_eq_of_lt h, Nat.zero_mod]; rfl
  · rw [Nat.div_eq_of_lt h, Nat.zero_div, List.drop_eq_nil_of_le (by simp)]; rfl
theorem DwI.step {X w : Nat} {q : List Int} {m : Nat} {left : Int} (h : DwI X w q m left) (hw : 0 < w) (hwb : w < 18446744073709551616) (hm : 0 < m) : (0 ≤ left ∧ left < w) ∧ DwI X w (q.set (m - 1) ((left * 18446744073709551616 + rd (d64 X) ((m - 1 : Nat) : Int)) / w)) (m - 1) ((left * 18446744073709551616 + rd (d64 X) ((m - 1 : Nat) : Int)) % w) := by
  obtain ⟨h1, h2, h3, h4, h5⟩ := h
  obtain ⟨Y, hY⟩ : ∃ Y, Y = X / 2 ^ (64 * m) := ⟨_, rfl⟩
  obtain ⟨a, ha⟩ : ∃ a, a = X / 2 ^ (64 * (m - 1)) % 18446744073709551616 := ⟨_, rfl⟩
  have ha2 : a < 18446744073709551616 := by rw [ha]; exact Nat.mod_lt _ (by decide)
  have e1 : X / 2 ^ (64 * (m - 1)) = 18446744073709551616 * Y + a := by
    have : X / 2 ^ (64 * m) = X / 2 ^ (64 * (m - 1)) / 18446744073709551616 := by
      rw [Nat.div_div_eq_div_mul, show (18446744073709551616 : Nat) = 2 ^ 64 by decide, ← Nat.pow_add, show 64 * (m - 1) + 64 = 64 * m by omega]
    rw [hY, this, ha]
    omega
  rw [d64_rd, ← ha, h4, ← hY]
  have hm2 := Nat.mod_lt Y hw
  obtain ⟨d, hd⟩ : ∃ d, d = (Y % w * 18446744073709551616 + a) / w := ⟨_, rfl⟩
  have hd2 : d < 18446744073709551616 := by
    rw [hd, Nat.div_lt_iff_lt_mul hw]
    have : (Y % w + 1) * 18446744073709551616 ≤ w * 18446744073709551616 := Nat.mul_le_mul_right _ hm2
    omega
  have c1 : ((Y % w : Nat) : Int) * 18446744073709551616 + (a : Int) = ((Y % w * 18446744073709551616 + a : Nat) : Int) := by simp
  have c2 : ((Y % w : Nat) : Int) * 18446744073709551616 + ((a : Nat) : Int) = ((Y % w * 18446744073709551616 + a : Nat) : Int) := c1
  rw [c1, ← Int.natCast_ediv, ← Int.natCast_emod, ← hd]
  have e2 : 18446744073709551616 * Y + a = w * (18446744073709551616 * (Y / w)) + (Y % w * 18446744073709551616 + a) := by
    have := Nat.div_add_mod Y w
    rw [Nat.mul_left_comm]
    omega
  refine ⟨by omega, by rw [List.length_set, h1], okD_set h2 (by omega), by omega, ?_, ?_⟩
  · rw [e1, e2, Nat.mul_add_mod]
  · rw [e1, e2, Nat.mul_add_div hw, ← hd]
    have e3 : (q.set (m - 1) (d : Int)).drop (m - 1) = (d : Int) :: q.drop m := by
      rw [List.drop_eq_getElem_cons (by simp; omega)]
      simp
      rw [show m - 1 + 1 = m by omega]
      exact List.drop_set_of_lt (by omega)
    rw [e3, vl, h5, ← hY]
    simp
    omega
theorem DwI.done {X w : Nat} {q : List Int} {left : Int} (h : DwI X w q 0 left) : (vl 18446744073709551616 q).toNat = X / w ∧ left = ((X % w : Nat) : Int) := by
  obtain ⟨h1, h2, h3, h4, h5⟩ := h
  rw [Nat.mul_zero, Nat.pow_zero, Nat.div_one] at h4 h5
  rw [List.drop_zero] at h5
  exact ⟨by rw [h5, Int.toNat_natCast], h4⟩
theorem n_divword (X : Nat) (w : Nat) (hX : L64 X ≤ 8192) (hw : 0 < w) (hwb : w < 18446744073709551616) : FC Tryz.prog G 114 [.ws .u64 (d64 X), .val (.int .u64 (w : Int))] (· = .tup [.ws .u64 (d64 (X / w)), .val (.int .u64 ((X % w : Nat) : Int)), .val (.int .i64 0)]) := by
  have fa := n_formN (G := G) X hX
  have hl : (d64 X).length = L64 X := rfl
  have hq8 : L64 (X / w) ≤ 8192 := Nat.le_trans (L64_mono (Nat.div_le_self _ _)) hX
  refine FC.intro (X := XX) tok Tryz.func114 rfl Tryz.ntmps114 (by rw [Tryz.results114]) (by kernel_rfl) rfl ?_; intro F hG hO
  rw [← hG] at fa
  repeat' ((try (conv => whnf)); first
  | ((with_reducible refine cg ?_); refine call_eq fa (LpL.refl _) rfl ?_)
  | ((with_reducible refine lg ?_); refine loop_g (A := List Int × Int × Nat) (fun (q, c, m) => DwI X w q m c) (fun (q, c, m) => m) (fun (q, c, m) => [(0, .ws .u64 (d64 X)), (1, .val (.int .u64 (w : Int))), (7, .arr 0 0 (L64 X)), (8, .val (.int .u64 c)), (9, .val (.int .i64 ((m : Int) - 1)))]) (fun _ => []) (fun (q, c, m) => [some ⟨1, 44, .w .u64 q⟩]) (List.replicate (L64 X) 0, 0, L64 X) tok (fun (q, c, m) => ⟨⟨trivial, trivial, Nat.one_pos, trivial, trivial, trivial⟩, trivial, by simp only [List.length_cons, List.length_nil]; omega⟩) ?_ ⟨rfl, rfl, congrArg (PV.arr 0 0) (by omega), rfl, iv_eq (by omega), trivial⟩ ⟨[], rfl⟩ ⟨[], (by dsimp only; rw [hl, Int.toNat_natCast]; rfl)⟩ ?_; rotate_left; rintro ⟨q, c, m⟩ hI; have hI2 := hI; obtain ⟨i1, i2, i3, i4, i5⟩ := hI2)
  | ((with_reducible refine cg ?_); have hst := hI.step hw hwb (by omega); have hrd := rd_bd (by decide) (d64_ok X).1 ((m - 1 : Nat) : Int); rw [show (m : Int) - 1 = ((m - 1 : Nat) : Int) by omega]; refine call_eq (b_div c (rd (d64 X) ((m - 1 : Nat) : Int)) w (by omega) hst.1 hrd) (LpL.refl _) rfl ?_)
  | ((with_reducible refine cg ?_); obtain rfl : m = 0 := (by omega); have hdn := hI.done; refine call_fz 0 (A := q) (B := q) rfl rfl (by omega) (by rw [List.drop_zero]; exact List.take_of_length_le (by omega)) (by omega) ?_; refine call_eq (n_told q i2 (by omega)) (LpL.refl _) rfl ?_; rw [hdn.1, natT_ok hq8]; unfold natR)
  
  | (with_reducible refine Chk.mk' (by first | omega | exact trivial | (simp only [List.length_append, List.length_set, List.length_replicate, List.length_take, List.length_drop, List.length_cons, List.length_nil, List.length_map]; omega)) ?_)
  | (with_reducible refine wrap_g (by dsimp only [inR]; omega) ?_)
  | (with_reducible refine idx_g (by omega) ?_)
  | (with_reducible refine idx_l _ rfl (by decide) ?_)
  | (with_reducible refine BothG.mk ?_ ?_)
  | (with_reducible refine fork_tt ?_) | (with_reducible refine fork_ff ?_)
  | (with_reducible refine fork_e (c := true) (by decide) ?_; with_reducible refine fork_tt ?_) | (with_reducible refine fork_e (c := false) (by decide) ?_; with_reducible refine fork_ff ?_)
  | (with_reducible refine fork_t (by omega) ?_) | (with_reducible refine fork_f (by omega) ?_)
  | (with_reducible refine fork_d ?_ ?_ <;> intro hc)
  | (with_reducible refine fork_n ?_)
  | (with_reducible refine fork_b ?_ ?_ <;> intro hc)
  | (with_reducible refine SlcG.mk (by omega) ?_)
  | (with_reducible refine MakG.mk (by dsimp only; omega) ?_)
  | (with_reducible refine AppG.mk (by first | omega | (simp only [List.length_append, List.length_set, List.length_replicate, List.length_take, List.length_drop, List.length_cons, List.length_nil, List.length_map]; omega)) (by dsimp only [List.length_cons, List.length_nil]; omega) (by omega) ?_)
  | (with_reducible refine div_g (by omega) (by omega) (by dsimp only [inR]; omega) ?_)
  | (with_reducible refine mod_g (by omega) (by omega) ?_)
  | (with_reducible refine mask_g (m := 4294967296) 32 rfl rfl (by decide) (by omega) ?_)
  | (with_reducible refine shr_g (m := 4294967296) 32 rfl (by decide) (by omega) rfl ?_)
  | (with_reducible refine fz_all (by omega) ?_)
  | (with_reducible refine Stuck.h (A := RetE _ _) ?_) | (with_reducible refine Stuck.h (A := RetM _ _ _ _) ?_) | (with_reducible refine Stuck.h (A := Again _ _ _ _ _ _ _ _) ?_) | (with_reducible refine Stuck.h (A := CallF _ _ _ _ _ _ _) ?_) | (with_reducible refine Stuck.h (A := LoopG _ _ _ _ _ _ _ _) ?_) | (with_reducible refine Stuck.h (A := DrawG _ _ _ _ _ _ _ _) ?_)
  | (with_reducible refine Stuck.h (A := WrapG _ _ _) ?_) | (with_reducible refine Stuck.h (A := DivG _ _ _ _) ?_) | (with_reducible refine Stuck.h (A := ModG _ _ _) ?_) | (with_reducible refine Stuck.h (A := ShlG _ _ _ _) ?_) | (with_reducible refine Stuck.h (A := ShrG _ _ _ _) ?_) | (with_reducible refine Stuck.h (A := BitG _ _ _ _ _) ?_)
  | (with_reducible refine Stuck.h (A := IdxG _ _ _) ?_) | (with_reducible refine Stuck.h (A := IdxL _ _ _) ?_) | (with_reducible refine Stuck.h (A := SlcG _ _ _ _ _) ?_) | (with_reducible refine Stuck.h (A := MakG _ _ _ _) ?_) | (with_reducible refine Stuck.h (A := AppG _ _ _ _ _ _ _) ?_) | (with_reducible refine Stuck.h (A := FzG _ _ _ _) ?_)
  | (with_reducible refine Stuck.h (A := RawG _) ?_) | (with_reducible refine Stuck.h (A := TabG _ _ _ _ _) ?_) | (with_reducible refine Stuck.h (A := ExtF _ _ _ _) ?_) | (with_reducible refine Stuck.h (A := Chk _ _) ?_) | (with_reducible refine Stuck.h (A := False) ?_))
  · have hst := hI.step hw hwb (by omega)
    refine ⟨again (q.set (m - 1) ((c * 18446744073709551616 + rd (d64 X) ((m - 1 : Nat) : Int)) / w), (c * 18446744073709551616 + rd (d64 X) ((m - 1 : Nat) : Int)) % w, m - 1) hst.2 (by dsimp only; omega) ⟨rfl, rfl, rfl, rfl, iv_eq (by omega), trivial⟩ ⟨[], rfl⟩ ⟨[], ?_⟩⟩
    dsimp only
    rw [show 0 + ((m - 1 : Nat) : Int).toNat = m - 1 by omega]; rfl
  · exact ⟨ret_e (by rw [hdn.2])⟩
  · exact DwI.init X w
theorem d_shifted (X n : Nat) (s : Nat) (hs : s < 64) (hn : L64 X ≤ n) (hnb : n ≤ 1073741824) (hlt : X * 2 ^ s < 2 ^ (64 * n)) : PM Tryz.prog G 116 [.ws .u64 (d64 X), .val (.int .i64 (s : Int)), .val (.int .i64 (n : Int))] [] (fun r rs => r = .arr 0 0 n ∧ RowOf n (X * 2 ^ s) rs) := by
  have hl : (d64 X).length = L64 X := rfl
  have hcp := copy_row (d64 X) n hn
  have hpk := pad_ok hn
  obtain ⟨pa, hpa⟩ : ∃ p, p = d64 X ++ List.replicate (n - L64 X) (0 : Int) := ⟨_, rfl⟩
  rw [hl, ← hpa, ← hl] at hcp
  rw [← hpa] at hpk
  obtain ⟨p1, p2, p3⟩ := hpk
  have hw := pw64 hs
  refine PM.intro (X := XX) tok Tryz.func116 rfl Tryz.ntmps116 (by rw [Tryz.results116]) (by kernel_rfl) rfl ?_; intro F hG hO; simp only [List.length_cons, List.length_nil, Nat.zero_add, Nat.reduceAdd] at hO
  repeat' ((try (conv => whnf)); first
  | ((with_reducible refine lg ?_); refine loop_g (A := List Int × Int) (fun (t, c) => ShlI pa t s c) (fun (t, c) => n - t.length) (fun (t, c) => [(1, .val (.int .i64 (s : Int))), (7, .arr 0 0 n), (8, .val (.int .u64 c)), (19, .val (.int .i64 (n : Int))), (20, .val (.int .i64 (t.length : Int)))]) (fun _ => []) (fun (t, c) => [some ⟨1, 44, .w .u64 (ins pa 0 t)⟩]) ([], 0) tok (fun (t, c) => ⟨⟨trivial, Nat.one_pos, trivial, trivial, trivial, trivial⟩, trivial, by simp only [List.length_cons, List.length_nil]; omega⟩) ?_ ⟨rfl, congrArg (PV.arr 0 0) (by omega), rfl, iv_eq (by omega), rfl, trivial⟩ ⟨[], rfl⟩ ⟨[], (by dsimp only; rw [ins_nil, Int.toNat_natCast, hcp]; rfl)⟩ ?_; rotate_left; rintro ⟨t, c⟩ hI; have hI2 := hI; obtain ⟨i1, i2, i3, i4⟩ := hI2; have ra := rd_bd (by decide) p2 (t.length : Int); have hil : (ins pa 0 t).length = n := (by rw [ins_len (by omega), p1]); have ig : (ins pa 0 t).getD (0 + (t.length : Int).toNat) 0 = rd pa (t.length : Int) := (by rw [Int.toNat_natCast, ins_get (by omega), Nat.zero_add]))
  | (with_reducible refine shl_m (by omega) ?_)
  | (with_reducible refine shr_p (by omega) (by dsimp only [IntKind.bits]; omega) ?_)
  | (have hst := hI.step (by omega) p2 hs; rw [ig, Int.toNat_natCast]; refine or_g2 s hst.1 (by omega) i3.2 hst.2.1 (by omega) ?_)
  
  | (with_reducible refine draw_q (id := 9) (.take 0 (.take 1 (.take 2 (.take 3 (.take 6 (.take 8 (.take 10 (.take 11 (.take 14 (.take 15 (.two 4 (.two 5 (.take 7 (.take 9 (.one 12 (.one 13 (.take 16 (.one 17 (.one 18 (.one 19 (.fin))))))))) 12 (.two 5 (.take 7 (.take 9 (.one 13 (.take 16 (.one 17 (.one 18 (.one 19 (.fin)))))))) 13 (.take 16 (.one 5 (.take 7 (.take 9 (.one 17 (.one 18 (.one 19 (.fin)))))))))) 12 (.two 4 (.two 5 (.take 7 (.take 9 (.one 13 (.take 16 (.one 17 (.one 18 (.one 19 (.fin)))))))) 13 (.take 16 (.one 5 (.take 7 (.take 9 (.one 17 (.one 18 (.one 19 (.fin))))))))) 13 (.take 16 (.one 4 (.one 5 (.take 7 (.take 9 (.one 17 (.one 18 (.one 19 (.fin))))))))))))))))))))) tok mixed (by kernel_rfl) (by kernel_rfl) ?_)
  | (with_reducible refine Chk.mk' (by first | omega | exact trivial | (simp only [List.length_append, List.length_set, List.length_replicate, List.length_take, List.length_drop, List.length_cons, List.length_nil, List.length_map]; omega)) ?_)
  | (with_reducible refine wrap_g (by dsimp only [inR]; omega) ?_)
  | (with_reducible refine idx_g (by omega) ?_)
  | (with_reducible refine idx_l _ rfl (by decide) ?_)
  | (with_reducible refine BothG.mk ?_ ?_)
  | (with_reducible refine fork_tt ?_) | (with_reducible refine fork_ff ?_)
  | (with_reducible refine fork_e (c := true) (by decide) ?_; with_reducible refine fork_tt ?_) | (with_reducible refine fork_e (c := false) (by decide) ?_; with_reducible refine fork_ff ?_)
  | (with_reducible refine fork_t (by omega) ?_) | (with_reducible refine fork_f (by omega) ?_)
  | (with_reducible refine fork_d ?_ ?_ <;> intro hc)
  | (with_reducible refine fork_n ?_)
  | (with_reducible refine fork_b ?_ ?_ <;> intro hc)
  | (with_reducible refine SlcG.mk (by omega) ?_)
  | (with_reducible refine MakG.mk (by dsimp only; omega) ?_)
  | (with_reducible refine AppG.mk (by first | omega | (simp only [List.length_append, List.length_set, List.length_replicate, List.length_take, List.length_drop, List.length_cons, List.length_nil, List.length_map]; omega)) (by dsimp only [List.length_cons, List.length_nil]; omega) (by omega) ?_)
  | (with_reducible refine div_g (by omega) (by omega) (by dsimp only [inR]; omega) ?_)
  | (with_reducible refine mod_g (by omega) (by omega) ?_)
  | (with_reducible refine mask_g (m := 4294967296) 32 rfl rfl (by decide) (by omega) ?_)
  | (with_reducible refine shr_g (m := 4294967296) 32 rfl (by decide) (by omega) rfl ?_)
  | (with_reducible refine fz_all (by omega) ?_)
  | (with_reducible refine Stuck.h (A := RetE _ _) ?_) | (with_reducible refine Stuck.h (A := RetM _ _ _ _) ?_) | (with_reducible refine Stuck.h (A := Again _ _ _ _ _ _ _ _) ?_) | (with_reducible refine Stuck.h (A := CallF _ _ _ _ _ _ _) ?_) | (with_reducible refine Stuck.h (A := LoopG _ _ _ _ _ _ _ _) ?_) | (with_reducible refine Stuck.h (A := DrawG _ _ _ _ _ _ _ _) ?_)
  | (with_reducible refine Stuck.h (A := WrapG _ _ _) ?_) | (with_reducible refine Stuck.h (A := DivG _ _ _ _) ?_) | (with_reducible refine Stuck.h (A := ModG _ _ _) ?_) | (with_reducible refine Stuck.h (A := ShlG _ _ _ _) ?_) | (with_reducible refine Stuck.h (A := ShrG _ _ _ _) ?_) | (with_reducible refine Stuck.h (A := BitG _ _ _ _ _) ?_)
  | (with_reducible refine Stuck.h (A := IdxG _ _ _) ?_) | (with_reducible refine Stuck.h (A := IdxL _ _ _) ?_) | (with_reducible refine Stuck.h (A := SlcG _ _ _ _ _) ?_) | (with_reducible refine Stuck.h (A := MakG _ _ _ _) ?_) | (with_reducible refine Stuck.h (A := AppG _ _ _ _ _ _ _) ?_) | (with_reducible refine Stuck.h (A := FzG _ _ _ _) ?_)
  | (with_reducible refine Stuck.h (A := RawG _) ?_) | (with_reducible refine Stuck.h (A := TabG _ _ _ _ _) ?_) | (with_reducible refine Stuck.h (A := ExtF _ _ _ _) ?_) | (with_reducible refine Stuck.h (A := Chk _ _) ?_) | (with_reducible refine Stuck.h (A := False) ?_))
  all_goals first
    | (
      have hst := hI.step (by omega) p2 hs
      have e3 : rd pa (t.length : Int) / 2 ^ (64 - (s : Int)).toNat = rd pa (t.length : Int) / 2 / 2 ^ (63 - s) := by
        rw [Int.ediv_ediv_of_nonneg (by decide), show (64 - (s : Int)).toNat = 63 - s + 1 by omega, Int.pow_succ, Int.mul_comm]
      refine ⟨again (t ++ [c + rd pa (t.length : Int) * 2 ^ s % 18446744073709551616], rd pa (t.length : Int) / 2 / 2 ^ (63 - s)) hst.2.2.2 (by dsimp only; rw [len_snoc]; omega) ⟨rfl, rfl, iv_eq (by first | rw [ig, e3] | rw [e3] | omega), rfl, iv_eq (by rw [len_snoc]; omega), trivial⟩ ⟨[], rfl⟩ ⟨[], by dsimp only; exact ins_row (by omega) (by omega) (by omega)⟩⟩)
    | (
      obtain rfl : s = 0 := by omega
      refine ⟨ret_m [0] (.arr 0 0 n) [some ⟨1, 44, .w .u64 pa⟩] (by rw [Int.toNat_natCast]; rfl) rfl (by simp) (fun i h => absurd h (Nat.not_lt_zero i)) (by dsimp only [List.map_cons, List.map_nil]; rw [Int.toNat_natCast, hcp]; rfl) ⟨rfl, pa, p1, p2, ?_, rfl⟩⟩
      rw [p3, Nat.pow_zero, Nat.mul_one])
    | (
      have htl : t.length = n := by omega
      rw [List.take_of_length_le (by omega), htl, p3] at i4
      have h1 := vl_nonneg (B := 18446744073709551616) (by decide) i2
      have e1 : (X : Int) * 2 ^ s = ((X * 2 ^ s : Nat) : Int) := by simp
      rw [e1] at i4
      have hc0 : c = 0 := by
        have h2 : ((X * 2 ^ s : Nat) : Int) < 18446744073709551616 ^ n := by rw [pow64i]; exact Int.ofNat_lt.2 hlt
        have hp : 0 < (18446744073709551616 : Int) ^ n := Int.pow_pos (by decide)
        rcases Int.lt_or_le 0 c with h3 | h3
        · have : 18446744073709551616 ^ n * 1 ≤ (18446744073709551616 : Int) ^ n * c := Int.mul_le_mul_of_nonneg_left (by omega) (by omega)
          omega
        · omega
      rw [hc0, Int.mul_zero, Int.add_zero] at i4
      have hins : ins pa 0 t = t := by rw [ins_end (by omega), List.take_zero, List.nil_append]
      refine ⟨ret_m [0] (.arr 0 0 n) [some ⟨1, 44, .w .u64 t⟩] rfl rfl (by simp) (fun i h => absurd h (Nat.not_lt_zero i)) (by dsimp only [List.map_cons, List.map_nil]; rw [hins]; rfl) ⟨rfl, t, htl, i2, i4, rfl⟩⟩)
    | (
      exact ⟨Nat.zero_le _, okD_nil _, ⟨Int.le_refl _, hw.1⟩, by simp [vl]⟩)
end Go.Proofs.YtbeocnjlepcglaaGreatDoor.Sim
namespace Go.Proofs.YtbeocnjlepcglaaGreatDoor.Sim
open Go.RowKit
set_option linter.unusedVariables false
set_option linter.unusedSimpArgs false
set_option maxRecDepth 10000
set_option maxHeartbeats 8000000
variable {G : List (Nat × List Value)}
theorem d64_one {Y : Nat} (h : L64 Y = 1) : rd (d64 Y) 0 = (Y : Int) ∧ 0 < Y ∧ Y < 18446744073709551616 := by
  have h1 := d64_rd Y 0
  have h2 := L64_lt Y
  rw [h] at h2
  have h3 : Y ≠ 0 := fun h0 => by subst h0; rw [L64, lenB_zero] at h; omega
  refine ⟨?_, by omega, by omega⟩
  rw [show ((0 : Nat) : Int) = 0 by rfl] at h1
  rw [h1, Nat.mul_zero, Nat.pow_zero, Nat.div_one]
  omega
theorem top_pos {v : List Int} {m : Nat} {V : Int} (ok : okD 18446744073709551616 v) (hl : v.length = m + 1) (hv : vl 18446744073709551616 v = V) (h : 18446744073709551616 ^ m ≤ V) : 0 < rd v m := by
  have h1 := vl_split 18446744073709551616 v m (by omega)
  have h2 := vl_lt (B := 18446744073709551616) (by decide) (ok.take m)
  rw [List.length_take, Nat.min_eq_left (by omega)] at h2
  rw [drop_rd v m (by omega), vl, List.drop_eq_nil_of_le (by omega)] at h1
  simp only [vl] at h1
  rw [Int.mul_zero, Int.add_zero] at h1
  have h3 := (rd_bd (B := 18446744073709551616) (by decide) ok (m : Int)).1
  rcases Int.lt_or_le 0 (rd v m) with h4 | h4
  · exact h4
  · exfalso
    rw [show rd v m = 0 by omega, Int.mul_zero, Int.add_zero] at h1
    omega
/-- What stands above the first digits of a shifted number. -/
theorem above_lt {u : List Int} {U V : Nat} {L : Nat} (ok : okD 18446744073709551616 u) (hu : vl 18446744073709551616 u = (U : Int)) (hl : L ≤ u.length) (h : U < 2 ^ (64 * L) * V) : vl 18446744073709551616 (u.drop L) < (V : Int) := by
  have h1 := vl_split 18446744073709551616 u L hl
  have h2 := vl_nonneg (B := 18446744073709551616) (by decide) (ok.take L)
  obtain ⟨Z, hZ⟩ := Int.eq_ofNat_of_zero_le (vl_nonneg (B := 18446744073709551616) (by decide) (ok.drop L))
  rw [hu, hZ] at h1
  rw [hZ]
  have h3 : 18446744073709551616 ^ L * Z ≤ U := by
    have : ((18446744073709551616 ^ L * Z : Nat) : Int) ≤ (U : Int) := by
      rw [h1]; simp only [Int.natCast_mul, Int.natCast_pow]; exact Int.le_add_of_nonneg_left h2
    exact Int.ofNat_le.1 this
  rw [pow64] at h3
  have h4 : Z < V := Nat.lt_of_mul_lt_mul_left (Nat.lt_of_le_of_lt h3 h)
  exact Int.ofNat_lt.2 h4
def qrT (q r : Nat) : PV := .tup [.ws .u64 (d64 q), .ws .u64 (d64 r), .val (.int .i64 0)]
theorem d_quorem (X Y : Nat) (hX : L64 X ≤ 8192) (hY : L64 Y ≤ 8192) (h0 : Y ≠ 0) : FC Tryz.prog G 68 [.ws .u64 (d64 X), .ws .u64 (d64 Y)] (· = qrT (X / Y) (X % Y)) := by
  have fa := n_formN (G := G) X hX
  have fb := n_formN (G := G) Y hY
  have fc := n_cmp (G := G) X Y (by omega) (by omega)
  have hlx : (d64 X).length = L64 X := rfl
  have hly : (d64 Y).length = L64 Y := rfl
  have hYp : 0 < L64 Y := lenB_pos (B := 18446744073709551616) (by decide) h0
  obtain ⟨T, hT⟩ : ∃ T, T = Y / 2 ^ (64 * (L64 Y - 1)) := ⟨_, rfl⟩
  have htop := top64 h0
  rw [← hT] at htop
  have hrd : rd (d64 Y) ((L64 Y : Int) - 1) = (T : Int) := by
    have := d64_rd Y (L64 Y - 1)
    rw [← hT, Nat.mod_eq_of_lt htop.1] at this
    rw [← this]; congr 1; omega
  have hTb : 0 < bl T ∧ bl T ≤ 64 := ⟨bl_pos htop.2, bl_le (k := 64) (by omega)⟩
  have hlead := b_lead (G := G) T htop.1
  obtain ⟨s, hs⟩ : ∃ s : Nat, s = 64 - bl T := ⟨_, rfl⟩
  rw [show (64 - (bl T : Int)) = (s : Int) by omega] at hlead
  have hs64 : s < 64 := by omega
  have hp2 : 0 < 2 ^ s := Nat.pow_pos (by decide)
  have hYlt : Y * 2 ^ s < 2 ^ (64 * L64 Y) := by
    have h2 : bl Y = 64 * (L64 Y - 1) + bl T := by rw [hT]; exact bl_top Y _ (by rw [← hT]; exact htop.2)
    have h6 : Y * 2 ^ s < 2 ^ bl Y * 2 ^ s := Nat.mul_lt_mul_of_pos_right (lt_bl Y) hp2
    rw [← Nat.pow_add] at h6
    exact Nat.lt_of_lt_of_le h6 (Nat.pow_le_pow_right (by decide) (by omega))
  have hYge : 2 ^ (64 * (L64 Y - 1)) ≤ Y := by
    have h2 : bl Y = 64 * (L64 Y - 1) + bl T := by rw [hT]; exact bl_top Y _ (by rw [← hT]; exact htop.2)
    exact Nat.le_trans (Nat.pow_le_pow_right (by decide) (by omega)) (le_of_bl h0)
  have hXlt : X * 2 ^ s < 2 ^ (64 * L64 X) * 2 ^ s := Nat.mul_lt_mul_of_pos_right (L64_lt X) hp2
  have hXlt2 : X * 2 ^ s < 2 ^ (64 * (L64 X + 1)) := by
    rw [← Nat.pow_add] at hXlt
    exact Nat.lt_of_lt_of_le hXlt (Nat.pow_le_pow_right (by decide) (by omega))
  have hcl : Unit → ¬ cmpN X Y < 0 → Y ≤ X ∧ L64 Y ≤ L64 X := fun _ h => by
    have : Y ≤ X := by
      unfold cmpN at h
      split at h
      · exact absurd (by decide) h
      · omega
    exact ⟨this, L64_mono this⟩
  have fu := d_shifted (G := G) X (L64 X + 1) s hs64 (by omega) (by omega) hXlt2
  have fv := d_shifted (G := G) Y (L64 Y) s hs64 (Nat.le_refl _) (by omega) hYlt
  have hab : Unit → L64 Y ≤ L64 X → X * 2 ^ s < 2 ^ (64 * (L64 X + 1 - L64 Y)) * (Y * 2 ^ s) := fun _ h => by
    refine Nat.lt_of_lt_of_le hXlt ?_
    have e : 64 * L64 X = 64 * (L64 X + 1 - L64 Y) + 64 * (L64 Y - 1) := by omega
    rw [e, Nat.pow_add, Nat.mul_assoc]
    exact Nat.mul_le_mul_left _ (Nat.mul_le_mul_right _ hYge)
  have hlow : (18446744073709551616 : Int) ^ (L64 Y - 1) ≤ ((Y * 2 ^ s : Nat) : Int) := by
    rw [pow64i]
    exact Int.ofNat_le.2 (Nat.le_trans hYge (Nat.le_mul_of_pos_right _ hp2))
  have hrl : L64 (X % Y) ≤ 8192 := Nat.le_trans (L64_mono (Nat.mod_le _ _)) hX
  have hql : L64 (X / Y) ≤ 8192 := Nat.le_trans (L64_mono (Nat.div_le_self _ _)) hX
  have hrl2 : L64 (X % Y * 2 ^ s) ≤ 8192 := by
    have h1 : X % Y * 2 ^ s ≤ Y * 2 ^ s := Nat.mul_le_mul_right _ (Nat.le_of_lt (Nat.mod_lt _ (by omega)))
    exact Nat.le_trans (L64_le (Nat.lt_of_le_of_lt h1 hYlt)) hY
  have hq2 : (((X * 2 ^ s : Nat) : Int) / ((Y * 2 ^ s : Nat) : Int)).toNat = X / Y := by
    rw [← Int.natCast_ediv, Int.toNat_natCast, Nat.mul_div_mul_right _ _ hp2]
  have hr2 : (((X * 2 ^ s : Nat) : Int) % ((Y * 2 ^ s : Nat) : Int)).toNat = X % Y * 2 ^ s := by
    rw [← Int.natCast_emod, Int.toNat_natCast, Nat.mul_mod_mul_right]
  have fsh := n_shr (G := G) (X % Y * 2 ^ s) (s : Int) hrl2 (by dsimp only [inR]; omega)
  rw [show shrT (X % Y * 2 ^ s) (s : Int) = natR (X % Y) by
    unfold shrT natR
    rw [if_neg (by omega), if_neg (by omega), Int.toNat_natCast, Nat.mul_div_cancel _ hp2]] at fsh
  have fw : Unit → X % Y < 18446744073709551616 → FC Tryz.prog G 70 [.val (.int .u64 ((X % Y : Nat) : Int))] (· = .ws .u64 (d64 (X % Y))) := fun _ h => by
    have := n_word (G := G) ((X % Y : Nat) : Int) (by omega)
    rw [Int.toNat_natCast] at this
    exact this
  refine FC.intro (X := XX) tok Tryz.func68 rfl Tryz.ntmps68 (by rw [Tryz.results68]) (by kernel_rfl) rfl ?_; intro F hG hO
  rw [← hG] at fa fb fc hlead fu fv fsh fw
  repeat' ((try (conv => whnf)); first
  | ((with_reducible refine cg ?_); refine call_eq fa (LpL.refl _) rfl ?_)
  | ((with_reducible refine cg ?_); refine call_eq fb (LpL.refl _) rfl ?_)
  | ((with_reducible refine cg ?_); refine call_eq fc (LpL.refl _) rfl ?_)
  | ((with_reducible refine cg ?_); refine call_eq (n_norm (d64 X) (d64_ok X).1 (by omega)) (LpL.refl _) rfl ?_; rw [vl_d64, natT_ok hX]; unfold natR)
  | ((with_reducible refine cg ?_); have h1 := d64_one (Y := Y) (by omega); rw [h1.1]; refine call_eq (n_divword X Y hX h1.2.1 h1.2.2) (LpL.refl _) rfl ?_)
  | ((with_reducible refine cg ?_); have h1 := d64_one (Y := Y) (by omega); refine call_eq (fw () (by have := Nat.mod_lt X h1.2.1; omega)) (LpL.refl _) rfl ?_)
  | ((with_reducible refine cg ?_); rw [hly, hrd]; refine call_eq hlead (LpL.refl _) rfl ?_)
  | ((with_reducible refine cg ?_); rw [show ((d64 X).length : Int) + 1 = ((L64 X + 1 : Nat) : Int) by omega]; refine call_row (m := 0) fu rfl rfl rfl ?_; intro u u1 u2 u3)
  | ((with_reducible refine cg ?_); refine call_row (m := 1) fv rfl rfl rfl ?_; intro v v1 v2 v3)
  | ((with_reducible refine cg ?_); have hcl2 := hcl () (by assumption); refine call_fz 1 (q := 1) (A := v) (B := v) rfl rfl (by omega) (by rw [List.drop_zero]; exact List.take_of_length_le (by omega)) (by omega) ?_; have dl := d_long (G := F.G) u v (L64 X + 1 - L64 Y) (L64 Y - 1) ((Y * 2 ^ s : Nat) : Int) (by omega) (by omega) (by omega) (by omega) u2 v2 v3 (top_pos v2 (by omega) v3 hlow) (above_lt u2 u3 (by omega) (hab () hcl2.2)); rw [show L64 X + 1 - L64 Y + (L64 Y - 1 + 1) = L64 X + 1 by omega, show L64 Y - 1 + 1 = L64 Y by omega, u3] at dl; refine call_pm [0] dl rfl rfl rfl (by simp) ?_; rintro r rs ⟨rfl, z, q, w1, w2, w3, w4, w5, w6, rfl⟩)
  | ((with_reducible refine cg ?_); refine call_fz 0 (q := 0) (A := z) (B := z.take (L64 Y)) rfl rfl (by omega) (by rw [List.drop_zero]; first | rfl | rw [v1] | (rw [Int.toNat_natCast])) (by omega) ?_; refine call_eq (n_norm (z.take (L64 Y)) (w2.take _) (by rw [List.length_take]; omega)) (LpL.refl _) rfl ?_; rw [w6, hr2, natT_ok hrl2]; unfold natR)
  | ((with_reducible refine cg ?_); refine call_eq fsh (LpL.refl _) rfl ?_)
  | ((with_reducible refine cg ?_); refine call_fz 0 (q := 2) (A := q) (B := q) rfl rfl (by omega) (by rw [List.drop_zero]; exact List.take_of_length_le (by omega)) (by omega) ?_; refine call_eq (n_norm q w4 (by omega)) (LpL.refl _) rfl ?_; rw [w5, hq2, natT_ok hql]; unfold natR)
  
  | (with_reducible refine Chk.mk' (by first | omega | exact trivial | (simp only [List.length_append, List.length_set, List.length_replicate, List.length_take, List.length_drop, List.length_cons, List.length_nil, List.length_map]; omega)) ?_)
  | (with_reducible refine wrap_g (by dsimp only [inR]; omega) ?_)
  | (with_reducible refine idx_g (by omega) ?_)
  | (with_reducible refine idx_l _ rfl (by decide) ?_)
  | (with_reducible refine BothG.mk ?_ ?_)
  | (with_reducible refine fork_tt ?_) | (with_reducible refine fork_ff ?_)
  | (with_reducible refine fork_e (c := true) (by decide) ?_; with_reducible refine fork_tt ?_) | (with_reducible refine fork_e (c := false) (by decide) ?_; with_reducible refine fork_ff ?_)
  | (with_reducible refine fork_t (by omega) ?_) | (with_reducible refine fork_f (by omega) ?_)
  | (with_reducible refine fork_d ?_ ?_ <;> intro hc)
  | (with_reducible refine fork_n ?_)
  | (with_reducible refine fork_b ?_ ?_ <;> intro hc)
  | (with_reducible refine SlcG.mk (by omega) ?_)
  | (with_reducible refine MakG.mk (by dsimp only; omega) ?_)
  | (with_reducible refine AppG.mk (by first | omega | (simp only [List.length_append, List.length_set, List.length_replicate, List.length_take, List.length_drop, List.length_cons, List.length_nil, List.length_map]; omega)) (by dsimp only [List.length_cons, List.length_nil]; omega) (by omega) ?_)
  | (with_reducible refine div_g (by omega) (by omega) (by dsimp only [inR]; omega) ?_)
  | (with_reducible refine mod_g (by omega) (by omega) ?_)
  | (with_reducible refine mask_g (m := 4294967296) 32 rfl rfl (by decide) (by omega) ?_)
  | (with_reducible refine shr_g (m := 4294967296) 32 rfl (by decide) (by omega) rfl ?_)
  | (with_reducible refine fz_all (by omega) ?_)
  | (with_reducible refine Stuck.h (A := RetE _ _) ?_) | (with_reducible refine Stuck.h (A := RetM _ _ _ _) ?_) | (with_reducible refine Stuck.h (A := Again _ _ _ _ _ _ _ _) ?_) | (with_reducible refine Stuck.h (A := CallF _ _ _ _ _ _ _) ?_) | (with_reducible refine Stuck.h (A := LoopG _ _ _ _ _ _ _ _) ?_) | (with_reducible refine Stuck.h (A := DrawG _ _ _ _ _ _ _ _) ?_)
  | (with_reducible refine Stuck.h (A := WrapG _ _ _) ?_) | (with_reducible refine Stuck.h (A := DivG _ _ _ _) ?_) | (with_reducible refine Stuck.h (A := ModG _ _ _) ?_) | (with_reducible refine Stuck.h (A := ShlG _ _ _ _) ?_) | (with_reducible refine Stuck.h (A := ShrG _ _ _ _) ?_) | (with_reducible refine Stuck.h (A := BitG _ _ _ _ _) ?_)
  | (with_reducible refine Stuck.h (A := IdxG _ _ _) ?_) | (with_reducible refine Stuck.h (A := IdxL _ _ _) ?_) | (with_reducible refine Stuck.h (A := SlcG _ _ _ _ _) ?_) | (with_reducible refine Stuck.h (A := MakG _ _ _ _) ?_) | (with_reducible refine Stuck.h (A := AppG _ _ _ _ _ _ _) ?_) | (with_reducible refine Stuck.h (A := FzG _ _ _ _) ?_)
  | (with_reducible refine Stuck.h (A := RawG _) ?_) | (with_reducible refine Stuck.h (A := TabG _ _ _ _ _) ?_) | (with_reducible refine Stuck.h (A := ExtF _ _ _ _) ?_) | (with_reducible refine Stuck.h (A := Chk _ _) ?_) | (with_reducible refine Stuck.h (A := False) ?_))
  · have : X < Y := by
      unfold cmpN at hc
      split at hc
      · assumption
      · split at hc <;> omega
    refine ⟨ret_l _ (.tup (.cons (.nil .u64) (.cons (.refl _) (.cons (.refl _) .nil)))) ?_⟩
    rw [Nat.div_eq_of_lt this, Nat.mod_eq_of_lt this]
    unfold qrT
    rw [d64_0]
  · exact ⟨ret_e rfl⟩
  · exact ⟨ret_e rfl⟩
end Go.Proofs.YtbeocnjlepcglaaGreatDoor.Sim
namespace Go.Proofs.YtbeocnjlepcglaaGreatDoor.Sim
open Go.RowKit
set_option linter.unusedVariables false
set_option linter.unusedSimpArgs false
set_option maxRecDepth 10000
set_option maxHeartbeats 8000000
variable {G : List (Nat × List Value)}
end Go.Proofs.YtbeocnjlepcglaaGreatDoor.Sim
namespace Go.Proofs.YtbeocnjlepcglaaGreatDoor.Sim
open Go.RowKit
set_option linter.unusedVariables false
set_option linter.unusedSimpArgs false
set_option maxRecDepth 10000
set_option maxHeartbeats 8000000
variable {G : List (Nat × List Value)}
theorem shlT_nat {X : Nat} {k : Int} (hk : 0 ≤ k) (h : (bl X : Int) + k ≤ 524288) : shlT X k = natR (X * 2 ^ k.toNat) := by
  by_cases h0 : X = 0
  · rw [shlT_0 (by omega) h0, h0, Nat.zero_mul]
    unfold natE natR
    rw [d64_0]
  · rw [shlT_ok (by omega) h0 (by omega), natT_ok]
    rw [L64_bl, bl_mul_pow X k.toNat h0]
    omega
theorem NI_sg {b : Bool} {M : Nat} (h : b = true → M ≠ 0) : NI (sg b M) = .agg [.val (.bool b), .ws .u64 (d64 M)] := by
  unfold NI
  rw [sg_abs]
  have : decide (sg b M < 0) = b := by
    cases b
    · simp only [sg]; exact decide_eq_false (by omega)
    · have := h rfl
      simp only [sg]; exact decide_eq_true (by omega)
  rw [this]; rfl
theorem bl_succ (n : Nat) : bl (n + 1) ≤ bl n + 1 := bl_le (by have := lt_bl n; have : 0 < 2 ^ bl n := Nat.pow_pos (by decide); rw [Nat.pow_succ]; omega)
theorem bl_div (x d : Nat) : bl (x / d) ≤ bl x := bl_mono (Nat.div_le_self _ _)
theorem y_quotient {g : List (Nat × List Value)} (hD : (0, debT.map (Value.int .u8)) ∈ g) {n e m f : Int} (p : Int) (up : Bool) (h : Good n e) (k : Good m f) (hp : inR .i64 p) : FC Tryz.prog g 34 [DY n e, DY m f, .val (.int .i64 p), .val (.bool up)] (· = quoS n e m f p up) := by
  dsimp only [inR] at hp
  have f0 := y_precise (G := g) p
  have f1 := y_form (G := g) h
  have f2 := y_form (G := g) k
  have f3 := y_noughtg (G := g) m f
  have hlx : (d64 n.natAbs).length = L64 n.natAbs := rfl
  have hly : (d64 m.natAbs).length = L64 m.natAbs := rfl
  by_cases hp2 : 1 ≤ p ∧ p ≤ 70000
  rotate_left
  · rw [show (decide (1 ≤ p) && decide (p ≤ 70000)) = false by
      rw [← Bool.not_eq_true, Bool.and_eq_true, decide_eq_true_eq, decide_eq_true_eq]; exact hp2] at f0
    rw [quoS_1 (by omega)]
    refine FC.intro (X := XX) tok Tryz.func34 rfl Tryz.ntmps34 (by rw [Tryz.results34]) (by kernel_rfl) rfl ?_; intro F hG hO
    rw [← hG] at f0
    repeat' ((try (conv => whnf)); first
  | ((with_reducible refine cg ?_); refine call_eq (f0) (LpL.refl _) rfl ?_)
  
  | (with_reducible refine draw_g (id := 9) [[0, 1, 2, 3, 4, 7, 8, 9, 5, 6, 10, 11, 12, 13]] tok mixed (by kernel_rfl) ?_)
  | (with_reducible refine Chk.mk' (by first | omega | exact trivial | (simp only [List.length_append, List.length_set, List.length_replicate, List.length_take, List.length_drop, List.length_cons, List.length_nil, List.length_map]; omega)) ?_)
  | (with_reducible refine wrap_g (by dsimp only [inR]; omega) ?_)
  | (with_reducible refine idx_g (by omega) ?_)
  | (with_reducible refine idx_l _ rfl (by decide) ?_)
  | (with_reducible refine BothG.mk ?_ ?_)
  | (with_reducible refine fork_tt ?_) | (with_reducible refine fork_ff ?_)
  | (with_reducible refine fork_e (c := true) (by decide) ?_; with_reducible refine fork_tt ?_) | (with_reducible refine fork_e (c := false) (by decide) ?_; with_reducible refine fork_ff ?_)
  | (with_reducible refine fork_t (by omega) ?_) | (with_reducible refine fork_f (by omega) ?_)
  | (with_reducible refine fork_d ?_ ?_ <;> intro hc)
  | (with_reducible refine fork_n ?_)
  | (with_reducible refine fork_b ?_ ?_ <;> intro hc)
  | (with_reducible refine SlcG.mk (by omega) ?_)
  | (with_reducible refine MakG.mk (by dsimp only; omega) ?_)
  | (with_reducible refine AppG.mk (by first | omega | (simp only [List.length_append, List.length_set, List.length_replicate, List.length_take, List.length_drop, List.length_cons, List.length_nil, List.length_map]; omega)) (by dsimp only [List.length_cons, List.length_nil]; omega) (by omega) ?_)
  | (with_reducible refine div_g (by omega) (by omega) (by dsimp only [inR]; omega) ?_)
  | (with_reducible refine mod_g (by omega) (by omega) ?_)
  | (with_reducible refine mask_g (m := 4294967296) 32 rfl rfl (by decide) (by omega) ?_)
  | (with_reducible refine shr_g (m := 4294967296) 32 rfl (by decide) (by omega) rfl ?_)
  | (with_reducible refine fz_all (by omega) ?_)
  | (with_reducible refine Stuck.h (A := RetE _ _) ?_) | (with_reducible refine Stuck.h (A := RetM _ _ _ _) ?_) | (with_reducible refine Stuck.h (A := Again _ _ _ _ _ _ _ _) ?_) | (with_reducible refine Stuck.h (A := CallF _ _ _ _ _ _ _) ?_) | (with_reducible refine Stuck.h (A := LoopG _ _ _ _ _ _ _ _) ?_) | (with_reducible refine Stuck.h (A := DrawG _ _ _ _ _ _ _ _) ?_)
  | (with_reducible refine Stuck.h (A := WrapG _ _ _) ?_) | (with_reducible refine Stuck.h (A := DivG _ _ _ _) ?_) | (with_reducible refine Stuck.h (A := ModG _ _ _) ?_) | (with_reducible refine Stuck.h (A := ShlG _ _ _ _) ?_) | (with_reducible refine Stuck.h (A := ShrG _ _ _ _) ?_) | (with_reducible refine Stuck.h (A := BitG _ _ _ _ _) ?_)
  | (with_reducible refine Stuck.h (A := IdxG _ _ _) ?_) | (with_reducible refine Stuck.h (A := IdxL _ _ _) ?_) | (with_reducible refine Stuck.h (A := SlcG _ _ _ _ _) ?_) | (with_reducible refine Stuck.h (A := MakG _ _ _ _) ?_) | (with_reducible refine Stuck.h (A := AppG _ _ _ _ _ _ _) ?_) | (with_reducible refine Stuck.h (A := FzG _ _ _ _) ?_)
  | (with_reducible refine Stuck.h (A := RawG _) ?_) | (with_reducible refine Stuck.h (A := TabG _ _ _ _ _) ?_) | (with_reducible refine Stuck.h (A := ExtF _ _ _ _) ?_) | (with_reducible refine Stuck.h (A := Chk _ _) ?_) | (with_reducible refine Stuck.h (A := False) ?_))
    exact ⟨ret_l _ (lp_dyE 1) rfl⟩
  rw [show (decide (1 ≤ p) && decide (p ≤ 70000)) = true by
    rw [Bool.and_eq_true, decide_eq_true_eq, decide_eq_true_eq]; exact hp2] at f0
  by_cases hm : m = 0
  · rw [quoS_4 hp2 hm]
    rw [decide_eq_true hm] at f3
    refine FC.intro (X := XX) tok Tryz.func34 rfl Tryz.ntmps34 (by rw [Tryz.results34]) (by kernel_rfl) rfl ?_; intro F hG hO
    rw [← hG] at f0 f1 f2 f3
    repeat' ((try (conv => whnf)); first
  | ((with_reducible refine cg ?_); refine call_eq (f0) (LpL.refl _) rfl ?_)
  | ((with_reducible refine cg ?_); refine call_eq (f1) (LpL.refl _) rfl ?_)
  | ((with_reducible refine cg ?_); refine call_eq (f2) (LpL.refl _) rfl ?_)
  | ((with_reducible refine cg ?_); refine call_eq (f3) (LpL.refl _) rfl ?_)
  
  | (with_reducible refine draw_g (id := 9) [[0, 1, 2, 3, 4, 7, 8, 9, 5, 6, 10, 11, 12, 13]] tok mixed (by kernel_rfl) ?_)
  | (with_reducible refine Chk.mk' (by first | omega | exact trivial | (simp only [List.length_append, List.length_set, List.length_replicate, List.length_take, List.length_drop, List.length_cons, List.length_nil, List.length_map]; omega)) ?_)
  | (with_reducible refine wrap_g (by dsimp only [inR]; omega) ?_)
  | (with_reducible refine idx_g (by omega) ?_)
  | (with_reducible refine idx_l _ rfl (by decide) ?_)
  | (with_reducible refine BothG.mk ?_ ?_)
  | (with_reducible refine fork_tt ?_) | (with_reducible refine fork_ff ?_)
  | (with_reducible refine fork_e (c := true) (by decide) ?_; with_reducible refine fork_tt ?_) | (with_reducible refine fork_e (c := false) (by decide) ?_; with_reducible refine fork_ff ?_)
  | (with_reducible refine fork_t (by omega) ?_) | (with_reducible refine fork_f (by omega) ?_)
  | (with_reducible refine fork_d ?_ ?_ <;> intro hc)
  | (with_reducible refine fork_n ?_)
  | (with_reducible refine fork_b ?_ ?_ <;> intro hc)
  | (with_reducible refine SlcG.mk (by omega) ?_)
  | (with_reducible refine MakG.mk (by dsimp only; omega) ?_)
  | (with_reducible refine AppG.mk (by first | omega | (simp only [List.length_append, List.length_set, List.length_replicate, List.length_take, List.length_drop, List.length_cons, List.length_nil, List.length_map]; omega)) (by dsimp only [List.length_cons, List.length_nil]; omega) (by omega) ?_)
  | (with_reducible refine div_g (by omega) (by omega) (by dsimp only [inR]; omega) ?_)
  | (with_reducible refine mod_g (by omega) (by omega) ?_)
  | (with_reducible refine mask_g (m := 4294967296) 32 rfl rfl (by decide) (by omega) ?_)
  | (with_reducible refine shr_g (m := 4294967296) 32 rfl (by decide) (by omega) rfl ?_)
  | (with_reducible refine fz_all (by omega) ?_)
  | (with_reducible refine Stuck.h (A := RetE _ _) ?_) | (with_reducible refine Stuck.h (A := RetM _ _ _ _) ?_) | (with_reducible refine Stuck.h (A := Again _ _ _ _ _ _ _ _) ?_) | (with_reducible refine Stuck.h (A := CallF _ _ _ _ _ _ _) ?_) | (with_reducible refine Stuck.h (A := LoopG _ _ _ _ _ _ _ _) ?_) | (with_reducible refine Stuck.h (A := DrawG _ _ _ _ _ _ _ _) ?_)
  | (with_reducible refine Stuck.h (A := WrapG _ _ _) ?_) | (with_reducible refine Stuck.h (A := DivG _ _ _ _) ?_) | (with_reducible refine Stuck.h (A := ModG _ _ _) ?_) | (with_reducible refine Stuck.h (A := ShlG _ _ _ _) ?_) | (with_reducible refine Stuck.h (A := ShrG _ _ _ _) ?_) | (with_reducible refine Stuck.h (A := BitG _ _ _ _ _) ?_)
  | (with_reducible refine Stuck.h (A := IdxG _ _ _) ?_) | (with_reducible refine Stuck.h (A := IdxL _ _ _) ?_) | (with_reducible refine Stuck.h (A := SlcG _ _ _ _ _) ?_) | (with_reducible refine Stuck.h (A := MakG _ _ _ _) ?_) | (with_reducible refine Stuck.h (A := AppG _ _ _ _ _ _ _) ?_) | (with_reducible refine Stuck.h (A := FzG _ _ _ _) ?_)
  | (with_reducible refine Stuck.h (A := RawG _) ?_) | (with_reducible refine Stuck.h (A := TabG _ _ _ _ _) ?_) | (with_reducible refine Stuck.h (A := ExtF _ _ _ _) ?_) | (with_reducible refine Stuck.h (A := Chk _ _) ?_) | (with_reducible refine Stuck.h (A := False) ?_))
    exact ⟨ret_l _ (lp_dyE 4) rfl⟩
  rw [decide_eq_false hm] at f3
  by_cases hl : L64 n.natAbs ≤ 4096 ∧ L64 m.natAbs ≤ 4096
  rotate_left
  · rw [quoS_5 hp2 hm (by omega)]
    refine FC.intro (X := XX) tok Tryz.func34 rfl Tryz.ntmps34 (by rw [Tryz.results34]) (by kernel_rfl) rfl ?_; intro F hG hO
    rw [← hG] at f0 f1 f2 f3
    repeat' ((try (conv => whnf)); first
  | ((with_reducible refine cg ?_); refine call_eq (f0) (LpL.refl _) rfl ?_)
  | ((with_reducible refine cg ?_); refine call_eq (f1) (LpL.refl _) rfl ?_)
  | ((with_reducible refine cg ?_); refine call_eq (f2) (LpL.refl _) rfl ?_)
  | ((with_reducible refine cg ?_); refine call_eq (f3) (LpL.refl _) rfl ?_)
  
  | (with_reducible refine draw_g (id := 9) [[0, 1, 2, 3, 4, 7, 8, 9, 5, 6, 10, 11, 12, 13]] tok mixed (by kernel_rfl) ?_)
  | (with_reducible refine Chk.mk' (by first | omega | exact trivial | (simp only [List.length_append, List.length_set, List.length_replicate, List.length_take, List.length_drop, List.length_cons, List.length_nil, List.length_map]; omega)) ?_)
  | (with_reducible refine wrap_g (by dsimp only [inR]; omega) ?_)
  | (with_reducible refine idx_g (by omega) ?_)
  | (with_reducible refine idx_l _ rfl (by decide) ?_)
  | (with_reducible refine BothG.mk ?_ ?_)
  | (with_reducible refine fork_tt ?_) | (with_reducible refine fork_ff ?_)
  | (with_reducible refine fork_e (c := true) (by decide) ?_; with_reducible refine fork_tt ?_) | (with_reducible refine fork_e (c := false) (by decide) ?_; with_reducible refine fork_ff ?_)
  | (with_reducible refine fork_t (by omega) ?_) | (with_reducible refine fork_f (by omega) ?_)
  | (with_reducible refine fork_d ?_ ?_ <;> intro hc)
  | (with_reducible refine fork_n ?_)
  | (with_reducible refine fork_b ?_ ?_ <;> intro hc)
  | (with_reducible refine SlcG.mk (by omega) ?_)
  | (with_reducible refine MakG.mk (by dsimp only; omega) ?_)
  | (with_reducible refine AppG.mk (by first | omega | (simp only [List.length_append, List.length_set, List.length_replicate, List.length_take, List.length_drop, List.length_cons, List.length_nil, List.length_map]; omega)) (by dsimp only [List.length_cons, List.length_nil]; omega) (by omega) ?_)
  | (with_reducible refine div_g (by omega) (by omega) (by dsimp only [inR]; omega) ?_)
  | (with_reducible refine mod_g (by omega) (by omega) ?_)
  | (with_reducible refine mask_g (m := 4294967296) 32 rfl rfl (by decide) (by omega) ?_)
  | (with_reducible refine shr_g (m := 4294967296) 32 rfl (by decide) (by omega) rfl ?_)
  | (with_reducible refine fz_all (by omega) ?_)
  | (with_reducible refine Stuck.h (A := RetE _ _) ?_) | (with_reducible refine Stuck.h (A := RetM _ _ _ _) ?_) | (with_reducible refine Stuck.h (A := Again _ _ _ _ _ _ _ _) ?_) | (with_reducible refine Stuck.h (A := CallF _ _ _ _ _ _ _) ?_) | (with_reducible refine Stuck.h (A := LoopG _ _ _ _ _ _ _ _) ?_) | (with_reducible refine Stuck.h (A := DrawG _ _ _ _ _ _ _ _) ?_)
  | (with_reducible refine Stuck.h (A := WrapG _ _ _) ?_) | (with_reducible refine Stuck.h (A := DivG _ _ _ _) ?_) | (with_reducible refine Stuck.h (A := ModG _ _ _) ?_) | (with_reducible refine Stuck.h (A := ShlG _ _ _ _) ?_) | (with_reducible refine Stuck.h (A := ShrG _ _ _ _) ?_) | (with_reducible refine Stuck.h (A := BitG _ _ _ _ _) ?_)
  | (with_reducible refine Stuck.h (A := IdxG _ _ _) ?_) | (with_reducible refine Stuck.h (A := IdxL _ _ _) ?_) | (with_reducible refine Stuck.h (A := SlcG _ _ _ _ _) ?_) | (with_reducible refine Stuck.h (A := MakG _ _ _ _) ?_) | (with_reducible refine Stuck.h (A := AppG _ _ _ _ _ _ _) ?_) | (with_reducible refine Stuck.h (A := FzG _ _ _ _) ?_)
  | (with_reducible refine Stuck.h (A := RawG _) ?_) | (with_reducible refine Stuck.h (A := TabG _ _ _ _ _) ?_) | (with_reducible refine Stuck.h (A := ExtF _ _ _ _) ?_) | (with_reducible refine Stuck.h (A := Chk _ _) ?_) | (with_reducible refine Stuck.h (A := False) ?_))
    all_goals exact ⟨ret_l _ (lp_dyE 5) rfl⟩
  have b1 := bl_L64 n.natAbs
  have b2 := bl_L64 m.natAbs
  have e1 := h.2.1
  have e2 := h.2.2.1
  have e3 := k.2.1
  have e4 := k.2.2.1
  rw [quoS_ok hp2 hm hl.1 hl.2, ← quo_code up hp2 hm (by omega) (by omega) ⟨e1, e2⟩ ⟨e3, e4⟩]
  obtain ⟨K, hK⟩ : ∃ K, K = quoK n m p 2 := ⟨_, rfl⟩
  have hK2 : K = max 0 (p + 2 + bl m.natAbs - bl n.natAbs) := hK
  rw [← hK]
  have hm0 : m.natAbs ≠ 0 := by omega
  obtain ⟨x, hx⟩ : ∃ x, x = n.natAbs * 2 ^ K.toNat := ⟨_, rfl⟩
  have hbx : bl x ≤ 400000 := by
    by_cases h0 : n.natAbs = 0
    · rw [hx, h0, Nat.zero_mul, bl_zero]; omega
    · rw [hx, bl_mul_pow _ _ h0]; omega
  have f4 := n_bits (G := g) n.natAbs (by omega)
  have f5 := n_bits (G := g) m.natAbs (by omega)
  have f6 := n_shl (G := g) n.natAbs K (by omega) (by dsimp only [inR]; omega)
  rw [shlT_nat (by omega) (by omega), ← hx] at f6
  have hxl : L64 x ≤ 8192 := by rw [L64_bl]; omega
  have f7 := d_quorem (G := g) x m.natAbs hxl (by omega) hm0
  have hbq := bl_div x m.natAbs
  obtain ⟨Q, hQ⟩ : ∃ Q, Q = x / m.natAbs := ⟨_, rfl⟩
  obtain ⟨R, hR⟩ : ∃ R, R = x % m.natAbs := ⟨_, rfl⟩
  have hst : stk x m.natAbs = 2 * Q + (if R = 0 then 0 else 1) := by rw [hQ, hR]; rfl
  rw [← hQ, ← hR] at f7
  rw [← hQ] at hbq
  rw [← hx, hst]
  have hQl : L64 Q ≤ 8192 := by rw [L64_bl]; omega
  have f8 := n_shl (G := g) Q 1 hQl (by dsimp only [inR]; omega)
  rw [shlT_nat (by decide) (by omega), show (1 : Int).toNat = 1 from rfl, Nat.pow_one, Nat.mul_comm] at f8
  have hlr := len64_pos R
  have hlR : (d64 R).length = L64 R := rfl
  have hb2 : bl (2 * Q) ≤ 400001 := by
    by_cases h0 : Q = 0
    · rw [h0]; decide
    · have := bl_mul_pow Q 1 h0
      rw [Nat.pow_one, Nat.mul_comm] at this
      omega
  have h2l : L64 (2 * Q) ≤ 8192 := by rw [L64_bl]; omega
  have hb3 : bl (2 * Q + 1) ≤ 400002 := by have := bl_succ (2 * Q); omega
  have h3l : L64 (2 * Q + 1) ≤ 8192 := by rw [L64_bl]; omega
  have f9 := n_word (G := g) 1 (by decide)
  have f10 := n_add (G := g) (2 * Q) 1 h2l (Nat.le_trans (L64_le (n := 1) (by decide)) (by decide))
  rw [natT_ok h3l] at f10
  obtain ⟨s1, hs1⟩ : ∃ b, b = decide (n < 0) := ⟨_, rfl⟩
  obtain ⟨s2, hs2⟩ : ∃ b, b = decide (m < 0) := ⟨_, rfl⟩
  obtain ⟨M, hM⟩ : ∃ M, M = 2 * Q + (if R = 0 then 0 else 1) := ⟨_, rfl⟩
  have hMl : L64 M ≤ 8192 := by
    rw [hM]
    split
    · exact h2l
    · exact h3l
  have hlM := len64_pos M
  have hlM2 : (d64 M).length = L64 M := rfl
  rw [← hM]
  have f11 := y_short hD (sg (s1 != s2) M) (e - f - K - 1) p up (by rw [sg_abs]; exact hMl) (by omega) (by omega)
  obtain ⟨y, z, c, hr, hgd, hcc⟩ := cut_form (sg (s1 != s2) M) (e - f - K - 1) p up
  rw [hr] at f11
  rw [← hs1, ← hs2, hr]
  unfold DY at f1 f2 f3
  unfold DY
  rw [← hs1] at f1
  rw [← hs2] at f2 f3
  rw [← hs1, ← hs2]
  have f12 : Unit → ((s1 != s2) = true → M ≠ 0) → FC Tryz.prog g 71 [.agg [.val (.bool (s1 != s2)), .ws .u64 (d64 M)], .val (.int .i64 (e - f - K - 1)), .val (.int .i64 p), .val (.bool up)] (· = .tup [DY y z, .val (.int .i64 c)]) := fun _ hh => by rw [← NI_sg hh]; exact f11
  have f13 : Unit → M = 0 → FC Tryz.prog g 71 [.agg [.val (.bool false), .ws .u64 (d64 M)], .val (.int .i64 (e - f - K - 1)), .val (.int .i64 p), .val (.bool up)] (· = .tup [DY y z, .val (.int .i64 c)]) := fun _ hh => by
    have e0 : sg (s1 != s2) M = sg false M := by rw [hh]; cases (s1 != s2) <;> rfl
    rw [← NI_sg (b := false) (fun h => by cases h), ← e0]
    exact f11
  have f14 : Unit → (s1 != s2) = true → FC Tryz.prog g 71 [.agg [.val (.bool (decide ((0 : Int) < ((d64 M).length : Int)))), .ws .u64 (d64 M)], .val (.int .i64 (e - f - K - 1)), .val (.int .i64 p), .val (.bool up)] (· = .tup [DY y z, .val (.int .i64 c)]) := fun _ hh => by
    by_cases hM0 : M = 0
    · rw [decide_eq_false (show ¬ (0 : Int) < ((d64 M).length : Int) by omega)]
      exact f13 () hM0
    · rw [decide_eq_true (show (0 : Int) < ((d64 M).length : Int) by omega)]
      have := f12 () (fun _ => hM0)
      rw [hh] at this
      exact this
  unfold DY at f12 f13 f14
  by_cases hR0 : R = 0
  · rw [if_pos hR0, Nat.add_zero] at hM
    rw [← hM] at f8
    cases s1 <;> cases s2
    all_goals
      refine FC.intro (X := XX) tok Tryz.func34 rfl Tryz.ntmps34 (by rw [Tryz.results34]) (by kernel_rfl) rfl ?_; intro F hG hO
      rw [← hG] at f0 f1 f2 f3 f4 f5 f6 f7 f8 f12 f13 f14
      repeat' ((try (conv => whnf)); first
  | ((with_reducible refine cg ?_); refine call_eq (f0) (LpL.refl _) rfl ?_)
  | ((with_reducible refine cg ?_); refine call_eq (f1) (LpL.refl _) rfl ?_)
  | ((with_reducible refine cg ?_); refine call_eq (f2) (LpL.refl _) rfl ?_)
  | ((with_reducible refine cg ?_); refine call_eq (f3) (LpL.refl _) rfl ?_)
  | ((with_reducible refine cg ?_); refine call_eq (f4) (LpL.refl _) rfl ?_)
  | ((with_reducible refine cg ?_); refine call_eq (f5) (LpL.refl _) rfl ?_)
  | ((with_reducible refine cg ?_); rw [← hK2]; refine call_eq f6 (LpL.refl _) rfl ?_)
  | ((with_reducible refine cg ?_); refine call_eq (f7) (LpL.refl _) rfl ?_)
  | ((with_reducible refine cg ?_); refine call_eq (f8) (LpL.refl _) rfl ?_)
  | ((with_reducible refine cg ?_); refine call_eq (f14 () rfl) (LpL.refl _) rfl ?_)
  | ((with_reducible refine cg ?_); refine call_eq (f12 () (fun h => absurd h (by decide))) (LpL.refl _) rfl ?_)
  
  | (with_reducible refine draw_g (id := 9) [[0, 1, 2, 3, 4, 7, 8, 9, 5, 6, 10, 11, 12, 13]] tok mixed (by kernel_rfl) ?_)
  | (with_reducible refine Chk.mk' (by first | omega | exact trivial | (simp only [List.length_append, List.length_set, List.length_replicate, List.length_take, List.length_drop, List.length_cons, List.length_nil, List.length_map]; omega)) ?_)
  | (with_reducible refine wrap_g (by dsimp only [inR]; omega) ?_)
  | (with_reducible refine idx_g (by omega) ?_)
  | (with_reducible refine idx_l _ rfl (by decide) ?_)
  | (with_reducible refine BothG.mk ?_ ?_)
  | (with_reducible refine fork_tt ?_) | (with_reducible refine fork_ff ?_)
  | (with_reducible refine fork_e (c := true) (by decide) ?_; with_reducible refine fork_tt ?_) | (with_reducible refine fork_e (c := false) (by decide) ?_; with_reducible refine fork_ff ?_)
  | (with_reducible refine fork_t (by omega) ?_) | (with_reducible refine fork_f (by omega) ?_)
  | (with_reducible refine fork_d ?_ ?_ <;> intro hc)
  | (with_reducible refine fork_n ?_)
  | (with_reducible refine fork_b ?_ ?_ <;> intro hc)
  | (with_reducible refine SlcG.mk (by omega) ?_)
  | (with_reducible refine MakG.mk (by dsimp only; omega) ?_)
  | (with_reducible refine AppG.mk (by first | omega | (simp only [List.length_append, List.length_set, List.length_replicate, List.length_take, List.length_drop, List.length_cons, List.length_nil, List.length_map]; omega)) (by dsimp only [List.length_cons, List.length_nil]; omega) (by omega) ?_)
  | (with_reducible refine div_g (by omega) (by omega) (by dsimp only [inR]; omega) ?_)
  | (with_reducible refine mod_g (by omega) (by omega) ?_)
  | (with_reducible refine mask_g (m := 4294967296) 32 rfl rfl (by decide) (by omega) ?_)
  | (with_reducible refine shr_g (m := 4294967296) 32 rfl (by decide) (by omega) rfl ?_)
  | (with_reducible refine fz_all (by omega) ?_)
  | (with_reducible refine Stuck.h (A := RetE _ _) ?_) | (with_reducible refine Stuck.h (A := RetM _ _ _ _) ?_) | (with_reducible refine Stuck.h (A := Again _ _ _ _ _ _ _ _) ?_) | (with_reducible refine Stuck.h (A := CallF _ _ _ _ _ _ _) ?_) | (with_reducible refine Stuck.h (A := LoopG _ _ _ _ _ _ _ _) ?_) | (with_reducible refine Stuck.h (A := DrawG _ _ _ _ _ _ _ _) ?_)
  | (with_reducible refine Stuck.h (A := WrapG _ _ _) ?_) | (with_reducible refine Stuck.h (A := DivG _ _ _ _) ?_) | (with_reducible refine Stuck.h (A := ModG _ _ _) ?_) | (with_reducible refine Stuck.h (A := ShlG _ _ _ _) ?_) | (with_reducible refine Stuck.h (A := ShrG _ _ _ _) ?_) | (with_reducible refine Stuck.h (A := BitG _ _ _ _ _) ?_)
  | (with_reducible refine Stuck.h (A := IdxG _ _ _) ?_) | (with_reducible refine Stuck.h (A := IdxL _ _ _) ?_) | (with_reducible refine Stuck.h (A := SlcG _ _ _ _ _) ?_) | (with_reducible refine Stuck.h (A := MakG _ _ _ _) ?_) | (with_reducible refine Stuck.h (A := AppG _ _ _ _ _ _ _) ?_) | (with_reducible refine Stuck.h (A := FzG _ _ _ _) ?_)
  | (with_reducible refine Stuck.h (A := RawG _) ?_) | (with_reducible refine Stuck.h (A := TabG _ _ _ _ _) ?_) | (with_reducible refine Stuck.h (A := ExtF _ _ _ _) ?_) | (with_reducible refine Stuck.h (A := Chk _ _) ?_) | (with_reducible refine Stuck.h (A := False) ?_))
      all_goals exact ⟨ret_e rfl⟩
  · rw [if_neg hR0] at hM
    rw [← hM] at f10
    cases s1 <;> cases s2
    all_goals
      refine FC.intro (X := XX) tok Tryz.func34 rfl Tryz.ntmps34 (by rw [Tryz.results34]) (by kernel_rfl) rfl ?_; intro F hG hO
      rw [← hG] at f0 f1 f2 f3 f4 f5 f6 f7 f8 f9 f10 f12 f14
      repeat' ((try (conv => whnf)); first
  | ((with_reducible refine cg ?_); refine call_eq (f0) (LpL.refl _) rfl ?_)
  | ((with_reducible refine cg ?_); refine call_eq (f1) (LpL.refl _) rfl ?_)
  | ((with_reducible refine cg ?_); refine call_eq (f2) (LpL.refl _) rfl ?_)
  | ((with_reducible refine cg ?_); refine call_eq (f3) (LpL.refl _) rfl ?_)
  | ((with_reducible refine cg ?_); refine call_eq (f4) (LpL.refl _) rfl ?_)
  | ((with_reducible refine cg ?_); refine call_eq (f5) (LpL.refl _) rfl ?_)
  | ((with_reducible refine cg ?_); rw [← hK2]; refine call_eq f6 (LpL.refl _) rfl ?_)
  | ((with_reducible refine cg ?_); refine call_eq (f7) (LpL.refl _) rfl ?_)
  | ((with_reducible refine cg ?_); refine call_eq (f8) (LpL.refl _) rfl ?_)
  | ((with_reducible refine cg ?_); refine call_eq (f9) (LpL.refl _) rfl ?_)
  | ((with_reducible refine cg ?_); refine call_eq (f10) (LpL.refl _) rfl ?_)
  | ((with_reducible refine cg ?_); refine call_eq (f14 () rfl) (LpL.refl _) rfl ?_)
  | ((with_reducible refine cg ?_); refine call_eq (f12 () (fun h => absurd h (by decide))) (LpL.refl _) rfl ?_)
  
  | (with_reducible refine draw_g (id := 9) [[0, 1, 2, 3, 4, 7, 8, 9, 5, 6, 10, 11, 12, 13]] tok mixed (by kernel_rfl) ?_)
  | (with_reducible refine Chk.mk' (by first | omega | exact trivial | (simp only [List.length_append, List.length_set, List.length_replicate, List.length_take, List.length_drop, List.length_cons, List.length_nil, List.length_map]; omega)) ?_)
  | (with_reducible refine wrap_g (by dsimp only [inR]; omega) ?_)
  | (with_reducible refine idx_g (by omega) ?_)
  | (with_reducible refine idx_l _ rfl (by decide) ?_)
  | (with_reducible refine BothG.mk ?_ ?_)
  | (with_reducible refine fork_tt ?_) | (with_reducible refine fork_ff ?_)
  | (with_reducible refine fork_e (c := true) (by decide) ?_; with_reducible refine fork_tt ?_) | (with_reducible refine fork_e (c := false) (by decide) ?_; with_reducible refine fork_ff ?_)
  | (with_reducible refine fork_t (by omega) ?_) | (with_reducible refine fork_f (by omega) ?_)
  | (with_reducible refine fork_d ?_ ?_ <;> intro hc)
  | (with_reducible refine fork_n ?_)
  | (with_reducible refine fork_b ?_ ?_ <;> intro hc)
  | (with_reducible refine SlcG.mk (by omega) ?_)
  | (with_reducible refine MakG.mk (by dsimp only; omega) ?_)
  | (with_reducible refine AppG.mk (by first | omega | (simp only [List.length_append, List.length_set, List.length_replicate, List.length_take, List.length_drop, List.length_cons, List.length_nil, List.length_map]; omega)) (by dsimp only [List.length_cons, List.length_nil]; omega) (by omega) ?_)
  | (with_reducible refine div_g (by omega) (by omega) (by dsimp only [inR]; omega) ?_)
  | (with_reducible refine mod_g (by omega) (by omega) ?_)
  | (with_reducible refine mask_g (m := 4294967296) 32 rfl rfl (by decide) (by omega) ?_)
  | (with_reducible refine shr_g (m := 4294967296) 32 rfl (by decide) (by omega) rfl ?_)
  | (with_reducible refine fz_all (by omega) ?_)
  | (with_reducible refine Stuck.h (A := RetE _ _) ?_) | (with_reducible refine Stuck.h (A := RetM _ _ _ _) ?_) | (with_reducible refine Stuck.h (A := Again _ _ _ _ _ _ _ _) ?_) | (with_reducible refine Stuck.h (A := CallF _ _ _ _ _ _ _) ?_) | (with_reducible refine Stuck.h (A := LoopG _ _ _ _ _ _ _ _) ?_) | (with_reducible refine Stuck.h (A := DrawG _ _ _ _ _ _ _ _) ?_)
  | (with_reducible refine Stuck.h (A := WrapG _ _ _) ?_) | (with_reducible refine Stuck.h (A := DivG _ _ _ _) ?_) | (with_reducible refine Stuck.h (A := ModG _ _ _) ?_) | (with_reducible refine Stuck.h (A := ShlG _ _ _ _) ?_) | (with_reducible refine Stuck.h (A := ShrG _ _ _ _) ?_) | (with_reducible refine Stuck.h (A := BitG _ _ _ _ _) ?_)
  | (with_reducible refine Stuck.h (A := IdxG _ _ _) ?_) | (with_reducible refine Stuck.h (A := IdxL _ _ _) ?_) | (with_reducible refine Stuck.h (A := SlcG _ _ _ _ _) ?_) | (with_reducible refine Stuck.h (A := MakG _ _ _ _) ?_) | (with_reducible refine Stuck.h (A := AppG _ _ _ _ _ _ _) ?_) | (with_reducible refine Stuck.h (A := FzG _ _ _ _) ?_)
  | (with_reducible refine Stuck.h (A := RawG _) ?_) | (with_reducible refine Stuck.h (A := TabG _ _ _ _ _) ?_) | (with_reducible refine Stuck.h (A := ExtF _ _ _ _) ?_) | (with_reducible refine Stuck.h (A := Chk _ _) ?_) | (with_reducible refine Stuck.h (A := False) ?_))
      all_goals exact ⟨ret_e rfl⟩
theorem y_quodown {g : List (Nat × List Value)} (hD : (0, debT.map (Value.int .u8)) ∈ g) {n e m f : Int} (p : Int) (h : Good n e) (k : Good m f) (hp : inR .i64 p) : FC Tryz.prog g 10 [DY n e, DY m f, .val (.int .i64 p)] (· = quoS n e m f p false) := by
  have f1 := y_quotient hD p false h k hp
  obtain ⟨x, y, c, hr, hgd⟩ := quo_form n e m f p false
  rw [hr] at f1 ⊢
  refine FC.intro (X := XX) tok Tryz.func10 rfl Tryz.ntmps10 (by rw [Tryz.results10]) (by kernel_rfl) rfl ?_; intro F hG hO
  rw [← hG] at f1
  repeat' ((try (conv => whnf)); first
  | ((with_reducible refine cg ?_); refine call_eq (f1) (LpL.refl _) rfl ?_)
  
  | (with_reducible refine Chk.mk' (by first | omega | exact trivial | (simp only [List.length_append, List.length_set, List.length_replicate, List.length_take, List.length_drop, List.length_cons, List.length_nil, List.length_map]; omega)) ?_)
  | (with_reducible refine wrap_g (by dsimp only [inR]; omega) ?_)
  | (with_reducible refine idx_g (by omega) ?_)
  | (with_reducible refine idx_l _ rfl (by decide) ?_)
  | (with_reducible refine BothG.mk ?_ ?_)
  | (with_reducible refine fork_tt ?_) | (with_reducible refine fork_ff ?_)
  | (with_reducible refine fork_e (c := true) (by decide) ?_; with_reducible refine fork_tt ?_) | (with_reducible refine fork_e (c := false) (by decide) ?_; with_reducible refine fork_ff ?_)
  | (with_reducible refine fork_t (by omega) ?_) | (with_reducible refine fork_f (by omega) ?_)
  | (with_reducible refine fork_d ?_ ?_ <;> intro hc)
  | (with_reducible refine fork_n ?_)
  | (with_reducible refine fork_b ?_ ?_ <;> intro hc)
  | (with_reducible refine SlcG.mk (by omega) ?_)
  | (with_reducible refine MakG.mk (by dsimp only; omega) ?_)
  | (with_reducible refine AppG.mk (by first | omega | (simp only [List.length_append, List.length_set, List.length_replicate, List.length_take, List.length_drop, List.length_cons, List.length_nil, List.length_map]; omega)) (by dsimp only [List.length_cons, List.length_nil]; omega) (by omega) ?_)
  | (with_reducible refine div_g (by omega) (by omega) (by dsimp only [inR]; omega) ?_)
  | (with_reducible refine mod_g (by omega) (by omega) ?_)
  | (with_reducible refine mask_g (m := 4294967296) 32 rfl rfl (by decide) (by omega) ?_)
  | (with_reducible refine shr_g (m := 4294967296) 32 rfl (by decide) (by omega) rfl ?_)
  | (with_reducible refine fz_all (by omega) ?_)
  | (with_reducible refine Stuck.h (A := RetE _ _) ?_) | (with_reducible refine Stuck.h (A := RetM _ _ _ _) ?_) | (with_reducible refine Stuck.h (A := Again _ _ _ _ _ _ _ _) ?_) | (with_reducible refine Stuck.h (A := CallF _ _ _ _ _ _ _) ?_) | (with_reducible refine Stuck.h (A := LoopG _ _ _ _ _ _ _ _) ?_) | (with_reducible refine Stuck.h (A := DrawG _ _ _ _ _ _ _ _) ?_)
  | (with_reducible refine Stuck.h (A := WrapG _ _ _) ?_) | (with_reducible refine Stuck.h (A := DivG _ _ _ _) ?_) | (with_reducible refine Stuck.h (A := ModG _ _ _) ?_) | (with_reducible refine Stuck.h (A := ShlG _ _ _ _) ?_) | (with_reducible refine Stuck.h (A := ShrG _ _ _ _) ?_) | (with_reducible refine Stuck.h (A := BitG _ _ _ _ _) ?_)
  | (with_reducible refine Stuck.h (A := IdxG _ _ _) ?_) | (with_reducible refine Stuck.h (A := IdxL _ _ _) ?_) | (with_reducible refine Stuck.h (A := SlcG _ _ _ _ _) ?_) | (with_reducible refine Stuck.h (A := MakG _ _ _ _) ?_) | (with_reducible refine Stuck.h (A := AppG _ _ _ _ _ _ _) ?_) | (with_reducible refine Stuck.h (A := FzG _ _ _ _) ?_)
  | (with_reducible refine Stuck.h (A := RawG _) ?_) | (with_reducible refine Stuck.h (A := TabG _ _ _ _ _) ?_) | (with_reducible refine Stuck.h (A := ExtF _ _ _ _) ?_) | (with_reducible refine Stuck.h (A := Chk _ _) ?_) | (with_reducible refine Stuck.h (A := False) ?_))
  exact ⟨ret_e rfl⟩
theorem y_quoup {g : List (Nat × List Value)} (hD : (0, debT.map (Value.int .u8)) ∈ g) {n e m f : Int} (p : Int) (h : Good n e) (k : Good m f) (hp : inR .i64 p) : FC Tryz.prog g 14 [DY n e, DY m f, .val (.int .i64 p)] (· = quoS n e m f p true) := by
  have f1 := y_quotient hD p true h k hp
  obtain ⟨x, y, c, hr, hgd⟩ := quo_form n e m f p true
  rw [hr] at f1 ⊢
  refine FC.intro (X := XX) tok Tryz.func14 rfl Tryz.ntmps14 (by rw [Tryz.results14]) (by kernel_rfl) rfl ?_; intro F hG hO
  rw [← hG] at f1
  repeat' ((try (conv => whnf)); first
  | ((with_reducible refine cg ?_); refine call_eq (f1) (LpL.refl _) rfl ?_)
  
  | (with_reducible refine Chk.mk' (by first | omega | exact trivial | (simp only [List.length_append, List.length_set, List.length_replicate, List.length_take, List.length_drop, List.length_cons, List.length_nil, List.length_map]; omega)) ?_)
  | (with_reducible refine wrap_g (by dsimp only [inR]; omega) ?_)
  | (with_reducible refine idx_g (by omega) ?_)
  | (with_reducible refine idx_l _ rfl (by decide) ?_)
  | (with_reducible refine BothG.mk ?_ ?_)
  | (with_reducible refine fork_tt ?_) | (with_reducible refine fork_ff ?_)
  | (with_reducible refine fork_e (c := true) (by decide) ?_; with_reducible refine fork_tt ?_) | (with_reducible refine fork_e (c := false) (by decide) ?_; with_reducible refine fork_ff ?_)
  | (with_reducible refine fork_t (by omega) ?_) | (with_reducible refine fork_f (by omega) ?_)
  | (with_reducible refine fork_d ?_ ?_ <;> intro hc)
  | (with_reducible refine fork_n ?_)
  | (with_reducible refine fork_b ?_ ?_ <;> intro hc)
  | (with_reducible refine SlcG.mk (by omega) ?_)
  | (with_reducible refine MakG.mk (by dsimp only; omega) ?_)
  | (with_reducible refine AppG.mk (by first | omega | (simp only [List.length_append, List.length_set, List.length_replicate, List.length_take, List.length_drop, List.length_cons, List.length_nil, List.length_map]; omega)) (by dsimp only [List.length_cons, List.length_nil]; omega) (by omega) ?_)
  | (with_reducible refine div_g (by omega) (by omega) (by dsimp only [inR]; omega) ?_)
  | (with_reducible refine mod_g (by omega) (by omega) ?_)
  | (with_reducible refine mask_g (m := 4294967296) 32 rfl rfl (by decide) (by omega) ?_)
  | (with_reducible refine shr_g (m := 4294967296) 32 rfl (by decide) (by omega) rfl ?_)
  | (with_reducible refine fz_all (by omega) ?_)
  | (with_reducible refine Stuck.h (A := RetE _ _) ?_) | (with_reducible refine Stuck.h (A := RetM _ _ _ _) ?_) | (with_reducible refine Stuck.h (A := Again _ _ _ _ _ _ _ _) ?_) | (with_reducible refine Stuck.h (A := CallF _ _ _ _ _ _ _) ?_) | (with_reducible refine Stuck.h (A := LoopG _ _ _ _ _ _ _ _) ?_) | (with_reducible refine Stuck.h (A := DrawG _ _ _ _ _ _ _ _) ?_)
  | (with_reducible refine Stuck.h (A := WrapG _ _ _) ?_) | (with_reducible refine Stuck.h (A := DivG _ _ _ _) ?_) | (with_reducible refine Stuck.h (A := ModG _ _ _) ?_) | (with_reducible refine Stuck.h (A := ShlG _ _ _ _) ?_) | (with_reducible refine Stuck.h (A := ShrG _ _ _ _) ?_) | (with_reducible refine Stuck.h (A := BitG _ _ _ _ _) ?_)
  | (with_reducible refine Stuck.h (A := IdxG _ _ _) ?_) | (with_reducible refine Stuck.h (A := IdxL _ _ _) ?_) | (with_reducible refine Stuck.h (A := SlcG _ _ _ _ _) ?_) | (with_reducible refine Stuck.h (A := MakG _ _ _ _) ?_) | (with_reducible refine Stuck.h (A := AppG _ _ _ _ _ _ _) ?_) | (with_reducible refine Stuck.h (A := FzG _ _ _ _) ?_)
  | (with_reducible refine Stuck.h (A := RawG _) ?_) | (with_reducible refine Stuck.h (A := TabG _ _ _ _ _) ?_) | (with_reducible refine Stuck.h (A := ExtF _ _ _ _) ?_) | (with_reducible refine Stuck.h (A := Chk _ _) ?_) | (with_reducible refine Stuck.h (A := False) ?_))
  exact ⟨ret_e rfl⟩
end Go.Proofs.YtbeocnjlepcglaaGreatDoor.Sim
namespace Go.Proofs.YtbeocnjlepcglaaGreatDoor.Sim
open Go.RowKit
set_option linter.unusedVariables false
set_option linter.unusedSimpArgs false
set_option maxRecDepth 10000
set_option maxHeartbeats 8000000
variable {G : List (Nat × List Value)}
theorem precise_no {p : Int} (h : ¬ (1 ≤ p ∧ p ≤ 70000)) : (decide (1 ≤ p) && decide (p ≤ 70000)) = false := by
  rw [← Bool.not_eq_true, Bool.and_eq_true, decide_eq_true_eq, decide_eq_true_eq]; exact h
theorem cutsE_1 {p : Int} (h : ¬ (1 ≤ p ∧ p ≤ 70000)) : cutsE p = dyE 1 := by
  unfold cutsE
  by_cases h1 : p < 1
  · rw [if_pos h1]
  · rw [if_neg h1, if_pos (by omega)]
theorem cutsE_2 {p : Int} (h : 1 ≤ p ∧ p ≤ 70000) : cutsE p = dyE 2 := by
  unfold cutsE
  rw [if_neg (by omega), if_neg (by omega)]
theorem y_quotientX (b : Bool) (l : List Int) (e : Int) (ok : okD 18446744073709551616 l) (h : dyF b l e = false) (b2 : Bool) (l2 : List Int) (e2 : Int) (p : Int) (up : Bool) : FC Tryz.prog G 34 [Dy b l e, Dy b2 l2 e2, .val (.int .i64 p), .val (.bool up)] (· = cutsE p) := by
  have f0 := y_precise (G := G) p
  have f1 := y_formN (G := G) b l e ok h
  by_cases hp : 1 ≤ p ∧ p ≤ 70000
  · rw [cutsE_2 hp]
    rw [decide_eq_true hp.1, decide_eq_true hp.2] at f0
    refine FC.intro (X := XX) tok Tryz.func34 rfl Tryz.ntmps34 (by rw [Tryz.results34]) (by kernel_rfl) rfl ?_; intro F hG hO
    rw [← hG] at f0 f1
    repeat' ((try (conv => whnf)); first
  | ((with_reducible refine cg ?_); refine call_eq (f0) (LpL.refl _) rfl ?_)
  | ((with_reducible refine cg ?_); refine call_eq (f1) (LpL.refl _) rfl ?_)
  
  | (with_reducible refine draw_g (id := 9) [[0, 1, 2, 3, 4, 7, 8, 9, 5, 6, 10, 11, 12, 13]] tok mixed (by kernel_rfl) ?_)
  | (with_reducible refine Chk.mk' (by first | omega | exact trivial | (simp only [List.length_append, List.length_set, List.length_replicate, List.length_take, List.length_drop, List.length_cons, List.length_nil, List.length_map]; omega)) ?_)
  | (with_reducible refine wrap_g (by dsimp only [inR]; omega) ?_)
  | (with_reducible refine idx_g (by omega) ?_)
  | (with_reducible refine idx_l _ rfl (by decide) ?_)
  | (with_reducible refine BothG.mk ?_ ?_)
  | (with_reducible refine fork_tt ?_) | (with_reducible refine fork_ff ?_)
  | (with_reducible refine fork_e (c := true) (by decide) ?_; with_reducible refine fork_tt ?_) | (with_reducible refine fork_e (c := false) (by decide) ?_; with_reducible refine fork_ff ?_)
  | (with_reducible refine fork_t (by omega) ?_) | (with_reducible refine fork_f (by omega) ?_)
  | (with_reducible refine fork_d ?_ ?_ <;> intro hc)
  | (with_reducible refine fork_n ?_)
  | (with_reducible refine fork_b ?_ ?_ <;> intro hc)
  | (with_reducible refine SlcG.mk (by omega) ?_)
  | (with_reducible refine MakG.mk (by dsimp only; omega) ?_)
  | (with_reducible refine AppG.mk (by first | omega | (simp only [List.length_append, List.length_set, List.length_replicate, List.length_take, List.length_drop, List.length_cons, List.length_nil, List.length_map]; omega)) (by dsimp only [List.length_cons, List.length_nil]; omega) (by omega) ?_)
  | (with_reducible refine div_g (by omega) (by omega) (by dsimp only [inR]; omega) ?_)
  | (with_reducible refine mod_g (by omega) (by omega) ?_)
  | (with_reducible refine mask_g (m := 4294967296) 32 rfl rfl (by decide) (by omega) ?_)
  | (with_reducible refine shr_g (m := 4294967296) 32 rfl (by decide) (by omega) rfl ?_)
  | (with_reducible refine fz_all (by omega) ?_)
  | (with_reducible refine Stuck.h (A := RetE _ _) ?_) | (with_reducible refine Stuck.h (A := RetM _ _ _ _) ?_) | (with_reducible refine Stuck.h (A := Again _ _ _ _ _ _ _ _) ?_) | (with_reducible refine Stuck.h (A := CallF _ _ _ _ _ _ _) ?_) | (with_reducible refine Stuck.h (A := LoopG _ _ _ _ _ _ _ _) ?_) | (with_reducible refine Stuck.h (A := DrawG _ _ _ _ _ _ _ _) ?_)
  | (with_reducible refine Stuck.h (A := WrapG _ _ _) ?_) | (with_reducible refine Stuck.h (A := DivG _ _ _ _) ?_) | (with_reducible refine Stuck.h (A := ModG _ _ _) ?_) | (with_reducible refine Stuck.h (A := ShlG _ _ _ _) ?_) | (with_reducible refine Stuck.h (A := ShrG _ _ _ _) ?_) | (with_reducible refine Stuck.h (A := BitG _ _ _ _ _) ?_)
  | (with_reducible refine Stuck.h (A := IdxG _ _ _) ?_) | (with_reducible refine Stuck.h (A := IdxL _ _ _) ?_) | (with_reducible refine Stuck.h (A := SlcG _ _ _ _ _) ?_) | (with_reducible refine Stuck.h (A := MakG _ _ _ _) ?_) | (with_reducible refine Stuck.h (A := AppG _ _ _ _ _ _ _) ?_) | (with_reducible refine Stuck.h (A := FzG _ _ _ _) ?_)
  | (with_reducible refine Stuck.h (A := RawG _) ?_) | (with_reducible refine Stuck.h (A := TabG _ _ _ _ _) ?_) | (with_reducible refine Stuck.h (A := ExtF _ _ _ _) ?_) | (with_reducible refine Stuck.h (A := Chk _ _) ?_) | (with_reducible refine Stuck.h (A := False) ?_))
    exact ⟨ret_l _ (lp_dyE 2) rfl⟩
  · rw [cutsE_1 hp]
    rw [precise_no hp] at f0
    refine FC.intro (X := XX) tok Tryz.func34 rfl Tryz.ntmps34 (by rw [Tryz.results34]) (by kernel_rfl) rfl ?_; intro F hG hO
    rw [← hG] at f0
    repeat' ((try (conv => whnf)); first
  | ((with_reducible refine cg ?_); refine call_eq (f0) (LpL.refl _) rfl ?_)
  
  | (with_reducible refine draw_g (id := 9) [[0, 1, 2, 3, 4, 7, 8, 9, 5, 6, 10, 11, 12, 13]] tok mixed (by kernel_rfl) ?_)
  | (with_reducible refine Chk.mk' (by first | omega | exact trivial | (simp only [List.length_append, List.length_set, List.length_replicate, List.length_take, List.length_drop, List.length_cons, List.length_nil, List.length_map]; omega)) ?_)
  | (with_reducible refine wrap_g (by dsimp only [inR]; omega) ?_)
  | (with_reducible refine idx_g (by omega) ?_)
  | (with_reducible refine idx_l _ rfl (by decide) ?_)
  | (with_reducible refine BothG.mk ?_ ?_)
  | (with_reducible refine fork_tt ?_) | (with_reducible refine fork_ff ?_)
  | (with_reducible refine fork_e (c := true) (by decide) ?_; with_reducible refine fork_tt ?_) | (with_reducible refine fork_e (c := false) (by decide) ?_; with_reducible refine fork_ff ?_)
  | (with_reducible refine fork_t (by omega) ?_) | (with_reducible refine fork_f (by omega) ?_)
  | (with_reducible refine fork_d ?_ ?_ <;> intro hc)
  | (with_reducible refine fork_n ?_)
  | (with_reducible refine fork_b ?_ ?_ <;> intro hc)
  | (with_reducible refine SlcG.mk (by omega) ?_)
  | (with_reducible refine MakG.mk (by dsimp only; omega) ?_)
  | (with_reducible refine AppG.mk (by first | omega | (simp only [List.length_append, List.length_set, List.length_replicate, List.length_take, List.length_drop, List.length_cons, List.length_nil, List.length_map]; omega)) (by dsimp only [List.length_cons, List.length_nil]; omega) (by omega) ?_)
  | (with_reducible refine div_g (by omega) (by omega) (by dsimp only [inR]; omega) ?_)
  | (with_reducible refine mod_g (by omega) (by omega) ?_)
  | (with_reducible refine mask_g (m := 4294967296) 32 rfl rfl (by decide) (by omega) ?_)
  | (with_reducible refine shr_g (m := 4294967296) 32 rfl (by decide) (by omega) rfl ?_)
  | (with_reducible refine fz_all (by omega) ?_)
  | (with_reducible refine Stuck.h (A := RetE _ _) ?_) | (with_reducible refine Stuck.h (A := RetM _ _ _ _) ?_) | (with_reducible refine Stuck.h (A := Again _ _ _ _ _ _ _ _) ?_) | (with_reducible refine Stuck.h (A := CallF _ _ _ _ _ _ _) ?_) | (with_reducible refine Stuck.h (A := LoopG _ _ _ _ _ _ _ _) ?_) | (with_reducible refine Stuck.h (A := DrawG _ _ _ _ _ _ _ _) ?_)
  | (with_reducible refine Stuck.h (A := WrapG _ _ _) ?_) | (with_reducible refine Stuck.h (A := DivG _ _ _ _) ?_) | (with_reducible refine Stuck.h (A := ModG _ _ _) ?_) | (with_reducible refine Stuck.h (A := ShlG _ _ _ _) ?_) | (with_reducible refine Stuck.h (A := ShrG _ _ _ _) ?_) | (with_reducible refine Stuck.h (A := BitG _ _ _ _ _) ?_)
  | (with_reducible refine Stuck.h (A := IdxG _ _ _) ?_) | (with_reducible refine Stuck.h (A := IdxL _ _ _) ?_) | (with_reducible refine Stuck.h (A := SlcG _ _ _ _ _) ?_) | (with_reducible refine Stuck.h (A := MakG _ _ _ _) ?_) | (with_reducible refine Stuck.h (A := AppG _ _ _ _ _ _ _) ?_) | (with_reducible refine Stuck.h (A := FzG _ _ _ _) ?_)
  | (with_reducible refine Stuck.h (A := RawG _) ?_) | (with_reducible refine Stuck.h (A := TabG _ _ _ _ _) ?_) | (with_reducible refine Stuck.h (A := ExtF _ _ _ _) ?_) | (with_reducible refine Stuck.h (A := Chk _ _) ?_) | (with_reducible refine Stuck.h (A := False) ?_))
    exact ⟨ret_l _ (lp_dyE 1) rfl⟩
theorem y_quodownX (b : Bool) (l : List Int) (e : Int) (ok : okD 18446744073709551616 l) (h : dyF b l e = false) (b2 : Bool) (l2 : List Int) (e2 : Int) (p : Int) : FC Tryz.prog G 10 [Dy b l e, Dy b2 l2 e2, .val (.int .i64 p)] (· = cutsE p) := by
  have f0 := y_quotientX (G := G) b l e ok h b2 l2 e2 p false
  obtain ⟨c, hc⟩ := cutsE_form p
  rw [hc] at f0 ⊢
  refine FC.intro (X := XX) tok Tryz.func10 rfl Tryz.ntmps10 (by rw [Tryz.results10]) (by kernel_rfl) rfl ?_; intro F hG hO
  rw [← hG] at f0
  repeat' ((try (conv => whnf)); first
  | ((with_reducible refine cg ?_); refine call_eq (f0) (LpL.refl _) rfl ?_)
  
  | (with_reducible refine Chk.mk' (by first | omega | exact trivial | (simp only [List.length_append, List.length_set, List.length_replicate, List.length_take, List.length_drop, List.length_cons, List.length_nil, List.length_map]; omega)) ?_)
  | (with_reducible refine wrap_g (by dsimp only [inR]; omega) ?_)
  | (with_reducible refine idx_g (by omega) ?_)
  | (with_reducible refine idx_l _ rfl (by decide) ?_)
  | (with_reducible refine BothG.mk ?_ ?_)
  | (with_reducible refine fork_tt ?_) | (with_reducible refine fork_ff ?_)
  | (with_reducible refine fork_e (c := true) (by decide) ?_; with_reducible refine fork_tt ?_) | (with_reducible refine fork_e (c := false) (by decide) ?_; with_reducible refine fork_ff ?_)
  | (with_reducible refine fork_t (by omega) ?_) | (with_reducible refine fork_f (by omega) ?_)
  | (with_reducible refine fork_d ?_ ?_ <;> intro hc)
  | (with_reducible refine fork_n ?_)
  | (with_reducible refine fork_b ?_ ?_ <;> intro hc)
  | (with_reducible refine SlcG.mk (by omega) ?_)
  | (with_reducible refine MakG.mk (by dsimp only; omega) ?_)
  | (with_reducible refine AppG.mk (by first | omega | (simp only [List.length_append, List.length_set, List.length_replicate, List.length_take, List.length_drop, List.length_cons, List.length_nil, List.length_map]; omega)) (by dsimp only [List.length_cons, List.length_nil]; omega) (by omega) ?_)
  | (with_reducible refine div_g (by omega) (by omega) (by dsimp only [inR]; omega) ?_)
  | (with_reducible refine mod_g (by omega) (by omega) ?_)
  | (with_reducible refine mask_g (m := 4294967296) 32 rfl rfl (by decide) (by omega) ?_)
  | (with_reducible refine shr_g (m := 4294967296) 32 rfl (by decide) (by omega) rfl ?_)
  | (with_reducible refine fz_all (by omega) ?_)
  | (with_reducible refine Stuck.h (A := RetE _ _) ?_) | (with_reducible refine Stuck.h (A := RetM _ _ _ _) ?_) | (with_reducible refine Stuck.h (A := Again _ _ _ _ _ _ _ _) ?_) | (with_reducible refine Stuck.h (A := CallF _ _ _ _ _ _ _) ?_) | (with_reducible refine Stuck.h (A := LoopG _ _ _ _ _ _ _ _) ?_) | (with_reducible refine Stuck.h (A := DrawG _ _ _ _ _ _ _ _) ?_)
  | (with_reducible refine Stuck.h (A := WrapG _ _ _) ?_) | (with_reducible refine Stuck.h (A := DivG _ _ _ _) ?_) | (with_reducible refine Stuck.h (A := ModG _ _ _) ?_) | (with_reducible refine Stuck.h (A := ShlG _ _ _ _) ?_) | (with_reducible refine Stuck.h (A := ShrG _ _ _ _) ?_) | (with_reducible refine Stuck.h (A := BitG _ _ _ _ _) ?_)
  | (with_reducible refine Stuck.h (A := IdxG _ _ _) ?_) | (with_reducible refine Stuck.h (A := IdxL _ _ _) ?_) | (with_reducible refine Stuck.h (A := SlcG _ _ _ _ _) ?_) | (with_reducible refine Stuck.h (A := MakG _ _ _ _) ?_) | (with_reducible refine Stuck.h (A := AppG _ _ _ _ _ _ _) ?_) | (with_reducible refine Stuck.h (A := FzG _ _ _ _) ?_)
  | (with_reducible refine Stuck.h (A := RawG _) ?_) | (with_reducible refine Stuck.h (A := TabG _ _ _ _ _) ?_) | (with_reducible refine Stuck.h (A := ExtF _ _ _ _) ?_) | (with_reducible refine Stuck.h (A := Chk _ _) ?_) | (with_reducible refine Stuck.h (A := False) ?_))
  exact ⟨ret_e rfl⟩
theorem y_quoupX (b : Bool) (l : List Int) (e : Int) (ok : okD 18446744073709551616 l) (h : dyF b l e = false) (b2 : Bool) (l2 : List Int) (e2 : Int) (p : Int) : FC Tryz.prog G 14 [Dy b l e, Dy b2 l2 e2, .val (.int .i64 p)] (· = cutsE p) := by
  have f0 := y_quotientX (G := G) b l e ok h b2 l2 e2 p true
  obtain ⟨c, hc⟩ := cutsE_form p
  rw [hc] at f0 ⊢
  refine FC.intro (X := XX) tok Tryz.func14 rfl Tryz.ntmps14 (by rw [Tryz.results14]) (by kernel_rfl) rfl ?_; intro F hG hO
  rw [← hG] at f0
  repeat' ((try (conv => whnf)); first
  | ((with_reducible refine cg ?_); refine call_eq (f0) (LpL.refl _) rfl ?_)
  
  | (with_reducible refine Chk.mk' (by first | omega | exact trivial | (simp only [List.length_append, List.length_set, List.length_replicate, List.length_take, List.length_drop, List.length_cons, List.length_nil, List.length_map]; omega)) ?_)
  | (with_reducible refine wrap_g (by dsimp only [inR]; omega) ?_)
  | (with_reducible refine idx_g (by omega) ?_)
  | (with_reducible refine idx_l _ rfl (by decide) ?_)
  | (with_reducible refine BothG.mk ?_ ?_)
  | (with_reducible refine fork_tt ?_) | (with_reducible refine fork_ff ?_)
  | (with_reducible refine fork_e (c := true) (by decide) ?_; with_reducible refine fork_tt ?_) | (with_reducible refine fork_e (c := false) (by decide) ?_; with_reducible refine fork_ff ?_)
  | (with_reducible refine fork_t (by omega) ?_) | (with_reducible refine fork_f (by omega) ?_)
  | (with_reducible refine fork_d ?_ ?_ <;> intro hc)
  | (with_reducible refine fork_n ?_)
  | (with_reducible refine fork_b ?_ ?_ <;> intro hc)
  | (with_reducible refine SlcG.mk (by omega) ?_)
  | (with_reducible refine MakG.mk (by dsimp only; omega) ?_)
  | (with_reducible refine AppG.mk (by first | omega | (simp only [List.length_append, List.length_set, List.length_replicate, List.length_take, List.length_drop, List.length_cons, List.length_nil, List.length_map]; omega)) (by dsimp only [List.length_cons, List.length_nil]; omega) (by omega) ?_)
  | (with_reducible refine div_g (by omega) (by omega) (by dsimp only [inR]; omega) ?_)
  | (with_reducible refine mod_g (by omega) (by omega) ?_)
  | (with_reducible refine mask_g (m := 4294967296) 32 rfl rfl (by decide) (by omega) ?_)
  | (with_reducible refine shr_g (m := 4294967296) 32 rfl (by decide) (by omega) rfl ?_)
  | (with_reducible refine fz_all (by omega) ?_)
  | (with_reducible refine Stuck.h (A := RetE _ _) ?_) | (with_reducible refine Stuck.h (A := RetM _ _ _ _) ?_) | (with_reducible refine Stuck.h (A := Again _ _ _ _ _ _ _ _) ?_) | (with_reducible refine Stuck.h (A := CallF _ _ _ _ _ _ _) ?_) | (with_reducible refine Stuck.h (A := LoopG _ _ _ _ _ _ _ _) ?_) | (with_reducible refine Stuck.h (A := DrawG _ _ _ _ _ _ _ _) ?_)
  | (with_reducible refine Stuck.h (A := WrapG _ _ _) ?_) | (with_reducible refine Stuck.h (A := DivG _ _ _ _) ?_) | (with_reducible refine Stuck.h (A := ModG _ _ _) ?_) | (with_reducible refine Stuck.h (A := ShlG _ _ _ _) ?_) | (with_reducible refine Stuck.h (A := ShrG _ _ _ _) ?_) | (with_reducible refine Stuck.h (A := BitG _ _ _ _ _) ?_)
  | (with_reducible refine Stuck.h (A := IdxG _ _ _) ?_) | (with_reducible refine Stuck.h (A := IdxL _ _ _) ?_) | (with_reducible refine Stuck.h (A := SlcG _ _ _ _ _) ?_) | (with_reducible refine Stuck.h (A := MakG _ _ _ _) ?_) | (with_reducible refine Stuck.h (A := AppG _ _ _ _ _ _ _) ?_) | (with_reducible refine Stuck.h (A := FzG _ _ _ _) ?_)
  | (with_reducible refine Stuck.h (A := RawG _) ?_) | (with_reducible refine Stuck.h (A := TabG _ _ _ _ _) ?_) | (with_reducible refine Stuck.h (A := ExtF _ _ _ _) ?_) | (with_reducible refine Stuck.h (A := Chk _ _) ?_) | (with_reducible refine Stuck.h (A := False) ?_))
  exact ⟨ret_e rfl⟩
theorem y_quotientY {n e1 : Int} (g : Good n e1) (b : Bool) (l : List Int) (e : Int) (ok : okD 18446744073709551616 l) (h : dyF b l e = false) (p : Int) (up : Bool) : FC Tryz.prog G 34 [DY n e1, Dy b l e, .val (.int .i64 p), .val (.bool up)] (· = cutsE p) := by
  have f0 := y_precise (G := G) p
  have f1 := y_formN (G := G) b l e ok h
  have f2 := y_form (G := G) g
  by_cases hp : 1 ≤ p ∧ p ≤ 70000
  · rw [cutsE_2 hp]
    rw [decide_eq_true hp.1, decide_eq_true hp.2] at f0
    refine FC.intro (X := XX) tok Tryz.func34 rfl Tryz.ntmps34 (by rw [Tryz.results34]) (by kernel_rfl) rfl ?_; intro F hG hO
    rw [← hG] at f0 f1 f2
    repeat' ((try (conv => whnf)); first
  | ((with_reducible refine cg ?_); refine call_eq (f0) (LpL.refl _) rfl ?_)
  | ((with_reducible refine cg ?_); refine call_eq (f1) (LpL.refl _) rfl ?_)
  | ((with_reducible refine cg ?_); refine call_eq (f2) (LpL.refl _) rfl ?_)
  
  | (with_reducible refine draw_g (id := 9) [[0, 1, 2, 3, 4, 7, 8, 9, 5, 6, 10, 11, 12, 13]] tok mixed (by kernel_rfl) ?_)
  | (with_reducible refine Chk.mk' (by first | omega | exact trivial | (simp only [List.length_append, List.length_set, List.length_replicate, List.length_take, List.length_drop, List.length_cons, List.length_nil, List.length_map]; omega)) ?_)
  | (with_reducible refine wrap_g (by dsimp only [inR]; omega) ?_)
  | (with_reducible refine idx_g (by omega) ?_)
  | (with_reducible refine idx_l _ rfl (by decide) ?_)
  | (with_reducible refine BothG.mk ?_ ?_)
  | (with_reducible refine fork_tt ?_) | (with_reducible refine fork_ff ?_)
  | (with_reducible refine fork_e (c := true) (by decide) ?_; with_reducible refine fork_tt ?_) | (with_reducible refine fork_e (c := false) (by decide) ?_; with_reducible refine fork_ff ?_)
  | (with_reducible refine fork_t (by omega) ?_) | (with_reducible refine fork_f (by omega) ?_)
  | (with_reducible refine fork_d ?_ ?_ <;> intro hc)
  | (with_reducible refine fork_n ?_)
  | (with_reducible refine fork_b ?_ ?_ <;> intro hc)
  | (with_reducible refine SlcG.mk (by omega) ?_)
  | (with_reducible refine MakG.mk (by dsimp only; omega) ?_)
  | (with_reducible refine AppG.mk (by first | omega | (simp only [List.length_append, List.length_set, List.length_replicate, List.length_take, List.length_drop, List.length_cons, List.length_nil, List.length_map]; omega)) (by dsimp only [List.length_cons, List.length_nil]; omega) (by omega) ?_)
  | (with_reducible refine div_g (by omega) (by omega) (by dsimp only [inR]; omega) ?_)
  | (with_reducible refine mod_g (by omega) (by omega) ?_)
  | (with_reducible refine mask_g (m := 4294967296) 32 rfl rfl (by decide) (by omega) ?_)
  | (with_reducible refine shr_g (m := 4294967296) 32 rfl (by decide) (by omega) rfl ?_)
  | (with_reducible refine fz_all (by omega) ?_)
  | (with_reducible refine Stuck.h (A := RetE _ _) ?_) | (with_reducible refine Stuck.h (A := RetM _ _ _ _) ?_) | (with_reducible refine Stuck.h (A := Again _ _ _ _ _ _ _ _) ?_) | (with_reducible refine Stuck.h (A := CallF _ _ _ _ _ _ _) ?_) | (with_reducible refine Stuck.h (A := LoopG _ _ _ _ _ _ _ _) ?_) | (with_reducible refine Stuck.h (A := DrawG _ _ _ _ _ _ _ _) ?_)
  | (with_reducible refine Stuck.h (A := WrapG _ _ _) ?_) | (with_reducible refine Stuck.h (A := DivG _ _ _ _) ?_) | (with_reducible refine Stuck.h (A := ModG _ _ _) ?_) | (with_reducible refine Stuck.h (A := ShlG _ _ _ _) ?_) | (with_reducible refine Stuck.h (A := ShrG _ _ _ _) ?_) | (with_reducible refine Stuck.h (A := BitG _ _ _ _ _) ?_)
  | (with_reducible refine Stuck.h (A := IdxG _ _ _) ?_) | (with_reducible refine Stuck.h (A := IdxL _ _ _) ?_) | (with_reducible refine Stuck.h (A := SlcG _ _ _ _ _) ?_) | (with_reducible refine Stuck.h (A := MakG _ _ _ _) ?_) | (with_reducible refine Stuck.h (A := AppG _ _ _ _ _ _ _) ?_) | (with_reducible refine Stuck.h (A := FzG _ _ _ _) ?_)
  | (with_reducible refine Stuck.h (A := RawG _) ?_) | (with_reducible refine Stuck.h (A := TabG _ _ _ _ _) ?_) | (with_reducible refine Stuck.h (A := ExtF _ _ _ _) ?_) | (with_reducible refine Stuck.h (A := Chk _ _) ?_) | (with_reducible refine Stuck.h (A := False) ?_))
    exact ⟨ret_l _ (lp_dyE 2) rfl⟩
  · rw [cutsE_1 hp]
    rw [precise_no hp] at f0
    refine FC.intro (X := XX) tok Tryz.func34 rfl Tryz.ntmps34 (by rw [Tryz.results34]) (by kernel_rfl) rfl ?_; intro F hG hO
    rw [← hG] at f0
    repeat' ((try (conv => whnf)); first
  | ((with_reducible refine cg ?_); refine call_eq (f0) (LpL.refl _) rfl ?_)
  
  | (with_reducible refine draw_g (id := 9) [[0, 1, 2, 3, 4, 7, 8, 9, 5, 6, 10, 11, 12, 13]] tok mixed (by kernel_rfl) ?_)
  | (with_reducible refine Chk.mk' (by first | omega | exact trivial | (simp only [List.length_append, List.length_set, List.length_replicate, List.length_take, List.length_drop, List.length_cons, List.length_nil, List.length_map]; omega)) ?_)
  | (with_reducible refine wrap_g (by dsimp only [inR]; omega) ?_)
  | (with_reducible refine idx_g (by omega) ?_)
  | (with_reducible refine idx_l _ rfl (by decide) ?_)
  | (with_reducible refine BothG.mk ?_ ?_)
  | (with_reducible refine fork_tt ?_) | (with_reducible refine fork_ff ?_)
  | (with_reducible refine fork_e (c := true) (by decide) ?_; with_reducible refine fork_tt ?_) | (with_reducible refine fork_e (c := false) (by decide) ?_; with_reducible refine fork_ff ?_)
  | (with_reducible refine fork_t (by omega) ?_) | (with_reducible refine fork_f (by omega) ?_)
  | (with_reducible refine fork_d ?_ ?_ <;> intro hc)
  | (with_reducible refine fork_n ?_)
  | (with_reducible refine fork_b ?_ ?_ <;> intro hc)
  | (with_reducible refine SlcG.mk (by omega) ?_)
  | (with_reducible refine MakG.mk (by dsimp only; omega) ?_)
  | (with_reducible refine AppG.mk (by first | omega | (simp only [List.length_append, List.length_set, List.length_replicate, List.length_take, List.length_drop, List.length_cons, List.length_nil, List.length_map]; omega)) (by dsimp only [List.length_cons, List.length_nil]; omega) (by omega) ?_)
  | (with_reducible refine div_g (by omega) (by omega) (by dsimp only [inR]; omega) ?_)
  | (with_reducible refine mod_g (by omega) (by omega) ?_)
  | (with_reducible refine mask_g (m := 4294967296) 32 rfl rfl (by decide) (by omega) ?_)
  | (with_reducible refine shr_g (m := 4294967296) 32 rfl (by decide) (by omega) rfl ?_)
  | (with_reducible refine fz_all (by omega) ?_)
  | (with_reducible refine Stuck.h (A := RetE _ _) ?_) | (with_reducible refine Stuck.h (A := RetM _ _ _ _) ?_) | (with_reducible refine Stuck.h (A := Again _ _ _ _ _ _ _ _) ?_) | (with_reducible refine Stuck.h (A := CallF _ _ _ _ _ _ _) ?_) | (with_reducible refine Stuck.h (A := LoopG _ _ _ _ _ _ _ _) ?_) | (with_reducible refine Stuck.h (A := DrawG _ _ _ _ _ _ _ _) ?_)
  | (with_reducible refine Stuck.h (A := WrapG _ _ _) ?_) | (with_reducible refine Stuck.h (A := DivG _ _ _ _) ?_) | (with_reducible refine Stuck.h (A := ModG _ _ _) ?_) | (with_reducible refine Stuck.h (A := ShlG _ _ _ _) ?_) | (with_reducible refine Stuck.h (A := ShrG _ _ _ _) ?_) | (with_reducible refine Stuck.h (A := BitG _ _ _ _ _) ?_)
  | (with_reducible refine Stuck.h (A := IdxG _ _ _) ?_) | (with_reducible refine Stuck.h (A := IdxL _ _ _) ?_) | (with_reducible refine Stuck.h (A := SlcG _ _ _ _ _) ?_) | (with_reducible refine Stuck.h (A := MakG _ _ _ _) ?_) | (with_reducible refine Stuck.h (A := AppG _ _ _ _ _ _ _) ?_) | (with_reducible refine Stuck.h (A := FzG _ _ _ _) ?_)
  | (with_reducible refine Stuck.h (A := RawG _) ?_) | (with_reducible refine Stuck.h (A := TabG _ _ _ _ _) ?_) | (with_reducible refine Stuck.h (A := ExtF _ _ _ _) ?_) | (with_reducible refine Stuck.h (A := Chk _ _) ?_) | (with_reducible refine Stuck.h (A := False) ?_))
    exact ⟨ret_l _ (lp_dyE 1) rfl⟩
theorem y_quodownY {n e1 : Int} (g : Good n e1) (b : Bool) (l : List Int) (e : Int) (ok : okD 18446744073709551616 l) (h : dyF b l e = false) (p : Int) : FC Tryz.prog G 10 [DY n e1, Dy b l e, .val (.int .i64 p)] (· = cutsE p) := by
  have f0 := y_quotientY (G := G) g b l e ok h p false
  obtain ⟨c, hc⟩ := cutsE_form p
  rw [hc] at f0 ⊢
  refine FC.intro (X := XX) tok Tryz.func10 rfl Tryz.ntmps10 (by rw [Tryz.results10]) (by kernel_rfl) rfl ?_; intro F hG hO
  rw [← hG] at f0
  repeat' ((try (conv => whnf)); first
  | ((with_reducible refine cg ?_); refine call_eq (f0) (LpL.refl _) rfl ?_)
  
  | (with_reducible refine Chk.mk' (by first | omega | exact trivial | (simp only [List.length_append, List.length_set, List.length_replicate, List.length_take, List.length_drop, List.length_cons, List.length_nil, List.length_map]; omega)) ?_)
  | (with_reducible refine wrap_g (by dsimp only [inR]; omega) ?_)
  | (with_reducible refine idx_g (by omega) ?_)
  | (with_reducible refine idx_l _ rfl (by decide) ?_)
  | (with_reducible refine BothG.mk ?_ ?_)
  | (with_reducible refine fork_tt ?_) | (with_reducible refine fork_ff ?_)
  | (with_reducible refine fork_e (c := true) (by decide) ?_; with_reducible refine fork_tt ?_) | (with_reducible refine fork_e (c := false) (by decide) ?_; with_reducible refine fork_ff ?_)
  | (with_reducible refine fork_t (by omega) ?_) | (with_reducible refine fork_f (by omega) ?_)
  | (with_reducible refine fork_d ?_ ?_ <;> intro hc)
  | (with_reducible refine fork_n ?_)
  | (with_reducible refine fork_b ?_ ?_ <;> intro hc)
  | (with_reducible refine SlcG.mk (by omega) ?_)
  | (with_reducible refine MakG.mk (by dsimp only; omega) ?_)
  | (with_reducible refine AppG.mk (by first | omega | (simp only [List.length_append, List.length_set, List.length_replicate, List.length_take, List.length_drop, List.length_cons, List.length_nil, List.length_map]; omega)) (by dsimp only [List.length_cons, List.length_nil]; omega) (by omega) ?_)
  | (with_reducible refine div_g (by omega) (by omega) (by dsimp only [inR]; omega) ?_)
  | (with_reducible refine mod_g (by omega) (by omega) ?_)
  | (with_reducible refine mask_g (m := 4294967296) 32 rfl rfl (by decide) (by omega) ?_)
  | (with_reducible refine shr_g (m := 4294967296) 32 rfl (by decide) (by omega) rfl ?_)
  | (with_reducible refine fz_all (by omega) ?_)
  | (with_reducible refine Stuck.h (A := RetE _ _) ?_) | (with_reducible refine Stuck.h (A := RetM _ _ _ _) ?_) | (with_reducible refine Stuck.h (A := Again _ _ _ _ _ _ _ _) ?_) | (with_reducible refine Stuck.h (A := CallF _ _ _ _ _ _ _) ?_) | (with_reducible refine Stuck.h (A := LoopG _ _ _ _ _ _ _ _) ?_) | (with_reducible refine Stuck.h (A := DrawG _ _ _ _ _ _ _ _) ?_)
  | (with_reducible refine Stuck.h (A := WrapG _ _ _) ?_) | (with_reducible refine Stuck.h (A := DivG _ _ _ _) ?_) | (with_reducible refine Stuck.h (A := ModG _ _ _) ?_) | (with_reducible refine Stuck.h (A := ShlG _ _ _ _) ?_) | (with_reducible refine Stuck.h (A := ShrG _ _ _ _) ?_) | (with_reducible refine Stuck.h (A := BitG _ _ _ _ _) ?_)
  | (with_reducible refine Stuck.h (A := IdxG _ _ _) ?_) | (with_reducible refine Stuck.h (A := IdxL _ _ _) ?_) | (with_reducible refine Stuck.h (A := SlcG _ _ _ _ _) ?_) | (with_reducible refine Stuck.h (A := MakG _ _ _ _) ?_) | (with_reducible refine Stuck.h (A := AppG _ _ _ _ _ _ _) ?_) | (with_reducible refine Stuck.h (A := FzG _ _ _ _) ?_)
  | (with_reducible refine Stuck.h (A := RawG _) ?_) | (with_reducible refine Stuck.h (A := TabG _ _ _ _ _) ?_) | (with_reducible refine Stuck.h (A := ExtF _ _ _ _) ?_) | (with_reducible refine Stuck.h (A := Chk _ _) ?_) | (with_reducible refine Stuck.h (A := False) ?_))
  exact ⟨ret_e rfl⟩
theorem y_quoupY {n e1 : Int} (g : Good n e1) (b : Bool) (l : List Int) (e : Int) (ok : okD 18446744073709551616 l) (h : dyF b l e = false) (p : Int) : FC Tryz.prog G 14 [DY n e1, Dy b l e, .val (.int .i64 p)] (· = cutsE p) := by
  have f0 := y_quotientY (G := G) g b l e ok h p true
  obtain ⟨c, hc⟩ := cutsE_form p
  rw [hc] at f0 ⊢
  refine FC.intro (X := XX) tok Tryz.func14 rfl Tryz.ntmps14 (by rw [Tryz.results14]) (by kernel_rfl) rfl ?_; intro F hG hO
  rw [← hG] at f0
  repeat' ((try (conv => whnf)); first
  | ((with_reducible refine cg ?_); refine call_eq (f0) (LpL.refl _) rfl ?_)
  
  | (with_reducible refine Chk.mk' (by first | omega | exact trivial | (simp only [List.length_append, List.length_set, List.length_replicate, List.length_take, List.length_drop, List.length_cons, List.length_nil, List.length_map]; omega)) ?_)
  | (with_reducible refine wrap_g (by dsimp only [inR]; omega) ?_)
  | (with_reducible refine idx_g (by omega) ?_)
  | (with_reducible refine idx_l _ rfl (by decide) ?_)
  | (with_reducible refine BothG.mk ?_ ?_)
  | (with_reducible refine fork_tt ?_) | (with_reducible refine fork_ff ?_)
  | (with_reducible refine fork_e (c := true) (by decide) ?_; with_reducible refine fork_tt ?_) | (with_reducible refine fork_e (c := false) (by decide) ?_; with_reducible refine fork_ff ?_)
  | (with_reducible refine fork_t (by omega) ?_) | (with_reducible refine fork_f (by omega) ?_)
  | (with_reducible refine fork_d ?_ ?_ <;> intro hc)
  | (with_reducible refine fork_n ?_)
  | (with_reducible refine fork_b ?_ ?_ <;> intro hc)
  | (with_reducible refine SlcG.mk (by omega) ?_)
  | (with_reducible refine MakG.mk (by dsimp only; omega) ?_)
  | (with_reducible refine AppG.mk (by first | omega | (simp only [List.length_append, List.length_set, List.length_replicate, List.length_take, List.length_drop, List.length_cons, List.length_nil, List.length_map]; omega)) (by dsimp only [List.length_cons, List.length_nil]; omega) (by omega) ?_)
  | (with_reducible refine div_g (by omega) (by omega) (by dsimp only [inR]; omega) ?_)
  | (with_reducible refine mod_g (by omega) (by omega) ?_)
  | (with_reducible refine mask_g (m := 4294967296) 32 rfl rfl (by decide) (by omega) ?_)
  | (with_reducible refine shr_g (m := 4294967296) 32 rfl (by decide) (by omega) rfl ?_)
  | (with_reducible refine fz_all (by omega) ?_)
  | (with_reducible refine Stuck.h (A := RetE _ _) ?_) | (with_reducible refine Stuck.h (A := RetM _ _ _ _) ?_) | (with_reducible refine Stuck.h (A := Again _ _ _ _ _ _ _ _) ?_) | (with_reducible refine Stuck.h (A := CallF _ _ _ _ _ _ _) ?_) | (with_reducible refine Stuck.h (A := LoopG _ _ _ _ _ _ _ _) ?_) | (with_reducible refine Stuck.h (A := DrawG _ _ _ _ _ _ _ _) ?_)
  | (with_reducible refine Stuck.h (A := WrapG _ _ _) ?_) | (with_reducible refine Stuck.h (A := DivG _ _ _ _) ?_) | (with_reducible refine Stuck.h (A := ModG _ _ _) ?_) | (with_reducible refine Stuck.h (A := ShlG _ _ _ _) ?_) | (with_reducible refine Stuck.h (A := ShrG _ _ _ _) ?_) | (with_reducible refine Stuck.h (A := BitG _ _ _ _ _) ?_)
  | (with_reducible refine Stuck.h (A := IdxG _ _ _) ?_) | (with_reducible refine Stuck.h (A := IdxL _ _ _) ?_) | (with_reducible refine Stuck.h (A := SlcG _ _ _ _ _) ?_) | (with_reducible refine Stuck.h (A := MakG _ _ _ _) ?_) | (with_reducible refine Stuck.h (A := AppG _ _ _ _ _ _ _) ?_) | (with_reducible refine Stuck.h (A := FzG _ _ _ _) ?_)
  | (with_reducible refine Stuck.h (A := RawG _) ?_) | (with_reducible refine Stuck.h (A := TabG _ _ _ _ _) ?_) | (with_reducible refine Stuck.h (A := ExtF _ _ _ _) ?_) | (with_reducible refine Stuck.h (A := Chk _ _) ?_) | (with_reducible refine Stuck.h (A := False) ?_))
  exact ⟨ret_e rfl⟩
end Go.Proofs.YtbeocnjlepcglaaGreatDoor.Sim
namespace Go.Proofs.YtbeocnjlepcglaaGreatDoor.Sim
open Go.RowKit
set_option linter.unusedVariables false
set_option linter.unusedSimpArgs false
set_option maxRecDepth 10000
set_option maxHeartbeats 8000000
variable {G : List (Nat × List Value)}
theorem quos_1 : L64 (Int.natAbs 1) ≤ 4096 := Nat.le_trans (L64_le (n := 1) (by decide)) (by decide)
theorem quos_3 : L64 (Int.natAbs 3) ≤ 4096 := Nat.le_trans (L64_le (n := 1) (by decide)) (by decide)
theorem quos_law1 : quoS 1 0 3 0 4 false = dyR 5 (-4) := by
  rw [quoS_ok (by decide) (by decide) quos_1 quos_3, show quoK 1 3 4 1 = 6 by decide +kernel, show docQ 1 3 (6 : Int).toNat false = 21 by decide +kernel]
  unfold cutS
  rw [if_neg (by decide +kernel), show wholeS 21 ((bl (Int.natAbs 21) : Int) - 4) false = 10 by decide +kernel, show (0 - 0 - 6 : Int) + ((bl (Int.natAbs 21) : Int) - 4) = -5 by decide +kernel]
  exact told_eq (by decide) (Good.small (m := 5) (e := -4) (by decide) (by decide) (by decide)) (by rw [VV_low (n := 5) (e := -4) (k := -5) (by decide) (by decide)]; rfl)
end Go.Proofs.YtbeocnjlepcglaaGreatDoor.Sim
namespace Go.Proofs.YtbeocnjlepcglaaGreatDoor.Sim
open Go.RowKit
set_option linter.unusedVariables false
set_option linter.unusedSimpArgs false
set_option maxRecDepth 10000
set_option maxHeartbeats 8000000
variable {G : List (Nat × List Value)}
theorem cutsE_any (p : Int) : ∃ c, cutsE p = dyE c ∧ (p < 1 ∨ 70000 < p → c = 1) := by
  by_cases h : p < 1 ∨ 70000 < p
  · exact ⟨1, cutsE_1 (by omega), fun _ => rfl⟩
  · exact ⟨2, cutsE_2 (by omega), fun hh => absurd hh h⟩
theorem quodown_any {g : List (Nat × List Value)} (hD : (0, debT.map (Value.int .u8)) ∈ g) (b1 : Bool) (l1 : List Int) (e1 : Int) (b2 : Bool) (l2 : List Int) (e2 : Int) (p : Int) (o1 : okD 18446744073709551616 l1) (o2 : okD 18446744073709551616 l2) (hp : inR .i64 p) :
    ∃ x y c, FC Tryz.prog g 10 [Dy b1 l1 e1, Dy b2 l2 e2, .val (.int .i64 p)] (· = .tup [DY x y, .val (.int .i64 c)]) ∧ (p < 1 ∨ 70000 < p → c = 1) := by
  obtain ⟨c, hc, hb⟩ := cutsE_any p
  cases h1 : dyF b1 l1 e1 with
  | false =>
    have a := y_quodownX (G := g) b1 l1 e1 o1 h1 b2 l2 e2 p
    rw [hc] at a
    exact ⟨0, 0, c, a, hb⟩
  | true =>
    obtain ⟨n, h, hd⟩ := dyF_ex o1 h1
    rw [hd]
    cases h2 : dyF b2 l2 e2 with
    | false =>
      have a := y_quodownY (G := g) h b2 l2 e2 o2 h2 p
      rw [hc] at a
      exact ⟨0, 0, c, a, hb⟩
    | true =>
      obtain ⟨m, k, hd2⟩ := dyF_ex o2 h2
      rw [hd2]
      have a := y_quodown hD p h k hp
      by_cases hh : p < 1 ∨ 70000 < p
      · rw [quoS_1 hh] at a
        exact ⟨0, 0, 1, a, fun _ => rfl⟩
      · obtain ⟨x, y, c2, hr, _⟩ := quo_form n e1 m e2 p false
        rw [hr] at a
        exact ⟨x, y, c2, a, fun h3 => absurd h3 hh⟩
theorem quoup_any {g : List (Nat × List Value)} (hD : (0, debT.map (Value.int .u8)) ∈ g) (b1 : Bool) (l1 : List Int) (e1 : Int) (b2 : Bool) (l2 : List Int) (e2 : Int) (p : Int) (o1 : okD 18446744073709551616 l1) (o2 : okD 18446744073709551616 l2) (hp : inR .i64 p) :
    ∃ x y c, FC Tryz.prog g 14 [Dy b1 l1 e1, Dy b2 l2 e2, .val (.int .i64 p)] (· = .tup [DY x y, .val (.int .i64 c)]) ∧ (p < 1 ∨ 70000 < p → c = 1) := by
  obtain ⟨c, hc, hb⟩ := cutsE_any p
  cases h1 : dyF b1 l1 e1 with
  | false =>
    have a := y_quoupX (G := g) b1 l1 e1 o1 h1 b2 l2 e2 p
    rw [hc] at a
    exact ⟨0, 0, c, a, hb⟩
  | true =>
    obtain ⟨n, h, hd⟩ := dyF_ex o1 h1
    rw [hd]
    cases h2 : dyF b2 l2 e2 with
    | false =>
      have a := y_quoupY (G := g) h b2 l2 e2 o2 h2 p
      rw [hc] at a
      exact ⟨0, 0, c, a, hb⟩
    | true =>
      obtain ⟨m, k, hd2⟩ := dyF_ex o2 h2
      rw [hd2]
      have a := y_quoup hD p h k hp
      by_cases hh : p < 1 ∨ 70000 < p
      · rw [quoS_1 hh] at a
        exact ⟨0, 0, 1, a, fun _ => rfl⟩
      · obtain ⟨x, y, c2, hr, _⟩ := quo_form n e1 m e2 p true
        rw [hr] at a
        exact ⟨x, y, c2, a, fun h3 => absurd h3 hh⟩
theorem l_dyadicQuoted {g : List (Nat × List Value)} (hD : (0, debT.map (Value.int .u8)) ∈ g) (b1 : Bool) (l1 : List Int) (e1 : Int) (b2 : Bool) (l2 : List Int) (e2 : Int) (p : Int) (o1 : okD 18446744073709551616 l1) (o2 : okD 18446744073709551616 l2) (hp : inR .i64 p) :
    FC Tryz.prog g 3 [Dy b1 l1 e1, Dy b2 l2 e2, .val (.int .i64 p)] (· = .val (.bool true)) := by
  have n1 := l_num (G := g) 1 0 (by decide) (by decide) (by decide)
  have n2 := l_num (G := g) 3 0 (by decide) (by decide) (by decide)
  have n3 := l_num (G := g) 5 (-4) (by decide) (by decide) (by decide)
  have g1 : Good 1 0 := Good.small (m := 1) (e := 0) (by decide) (by decide) (by decide)
  have g3 : Good 3 0 := Good.small (m := 3) (e := 0) (by decide) (by decide) (by decide)
  have a1 := y_quodown hD 4 g1 g3 (by dsimp only [inR]; omega)
  rw [quos_law1] at a1
  have a2 := l_same (G := g) (Good.small (m := 5) (e := -4) (by decide) (by decide) (by decide))
  have a3 := l_awake hD
  clear g1 g3
  obtain ⟨xl, yl, cl, q1, w1⟩ := quodown_any hD b1 l1 e1 b2 l2 e2 p o1 o2 hp
  obtain ⟨xu, yu, cu, q2, w2⟩ := quoup_any hD b1 l1 e1 b2 l2 e2 p o1 o2 hp
  by_cases hp2 : p < 1 ∨ 70000 < p
  · rw [w1 hp2] at q1
    rw [w2 hp2] at q2
    clear w1 w2
    refine FC.intro (X := XX) tok Tryz.func3 rfl Tryz.ntmps3 (by rw [Tryz.results3]) (by kernel_rfl) rfl ?_; intro F hG hO
    rw [← hG] at n1 n2 n3 a1 a2 a3 q1 q2
    repeat' ((try (conv => whnf)); first
  | ((with_reducible refine cg ?_); refine call_eq (n1) (LpL.refl _) rfl ?_)
  | ((with_reducible refine cg ?_); refine call_eq (n2) (LpL.refl _) rfl ?_)
  | ((with_reducible refine cg ?_); refine call_eq (n3) (LpL.refl _) rfl ?_)
  | ((with_reducible refine cg ?_); refine call_eq (a1) (LpL.refl _) rfl ?_)
  | ((with_reducible refine cg ?_); refine call_eq (a2) (LpL.refl _) rfl ?_)
  | ((with_reducible refine cg ?_); refine call_eq (a3) (LpL.refl _) rfl ?_)
  | ((with_reducible refine cg ?_); refine call_eq (q1) (LpL.refl _) rfl ?_)
  | ((with_reducible refine cg ?_); refine call_eq (q2) (LpL.refl _) rfl ?_)
  
  | (with_reducible refine draw_g (id := 2) [[0, 1, 2, 3, 4, 5, 6, 7, 8]] tok mixed (by kernel_rfl) ?_)
  | (with_reducible refine Chk.mk' (by first | omega | exact trivial | (simp only [List.length_append, List.length_set, List.length_replicate, List.length_take, List.length_drop, List.length_cons, List.length_nil, List.length_map]; omega)) ?_)
  | (with_reducible refine wrap_g (by dsimp only [inR]; omega) ?_)
  | (with_reducible refine idx_g (by omega) ?_)
  | (with_reducible refine idx_l _ rfl (by decide) ?_)
  | (with_reducible refine BothG.mk ?_ ?_)
  | (with_reducible refine fork_tt ?_) | (with_reducible refine fork_ff ?_)
  | (with_reducible refine fork_e (c := true) (by decide) ?_; with_reducible refine fork_tt ?_) | (with_reducible refine fork_e (c := false) (by decide) ?_; with_reducible refine fork_ff ?_)
  | (with_reducible refine fork_t (by omega) ?_) | (with_reducible refine fork_f (by omega) ?_)
  | (with_reducible refine fork_d ?_ ?_ <;> intro hc)
  | (with_reducible refine fork_n ?_)
  | (with_reducible refine fork_b ?_ ?_ <;> intro hc)
  | (with_reducible refine SlcG.mk (by omega) ?_)
  | (with_reducible refine MakG.mk (by dsimp only; omega) ?_)
  | (with_reducible refine AppG.mk (by first | omega | (simp only [List.length_append, List.length_set, List.length_replicate, List.length_take, List.length_drop, List.length_cons, List.length_nil, List.length_map]; omega)) (by dsimp only [List.length_cons, List.length_nil]; omega) (by omega) ?_)
  | (with_reducible refine div_g (by omega) (by omega) (by dsimp only [inR]; omega) ?_)
  | (with_reducible refine mod_g (by omega) (by omega) ?_)
  | (with_reducible refine mask_g (m := 4294967296) 32 rfl rfl (by decide) (by omega) ?_)
  | (with_reducible refine shr_g (m := 4294967296) 32 rfl (by decide) (by omega) rfl ?_)
  | (with_reducible refine fz_all (by omega) ?_)
  | (with_reducible refine Stuck.h (A := RetE _ _) ?_) | (with_reducible refine Stuck.h (A := RetM _ _ _ _) ?_) | (with_reducible refine Stuck.h (A := Again _ _ _ _ _ _ _ _) ?_) | (with_reducible refine Stuck.h (A := CallF _ _ _ _ _ _ _) ?_) | (with_reducible refine Stuck.h (A := LoopG _ _ _ _ _ _ _ _) ?_) | (with_reducible refine Stuck.h (A := DrawG _ _ _ _ _ _ _ _) ?_)
  | (with_reducible refine Stuck.h (A := WrapG _ _ _) ?_) | (with_reducible refine Stuck.h (A := DivG _ _ _ _) ?_) | (with_reducible refine Stuck.h (A := ModG _ _ _) ?_) | (with_reducible refine Stuck.h (A := ShlG _ _ _ _) ?_) | (with_reducible refine Stuck.h (A := ShrG _ _ _ _) ?_) | (with_reducible refine Stuck.h (A := BitG _ _ _ _ _) ?_)
  | (with_reducible refine Stuck.h (A := IdxG _ _ _) ?_) | (with_reducible refine Stuck.h (A := IdxL _ _ _) ?_) | (with_reducible refine Stuck.h (A := SlcG _ _ _ _ _) ?_) | (with_reducible refine Stuck.h (A := MakG _ _ _ _) ?_) | (with_reducible refine Stuck.h (A := AppG _ _ _ _ _ _ _) ?_) | (with_reducible refine Stuck.h (A := FzG _ _ _ _) ?_)
  | (with_reducible refine Stuck.h (A := RawG _) ?_) | (with_reducible refine Stuck.h (A := TabG _ _ _ _ _) ?_) | (with_reducible refine Stuck.h (A := ExtF _ _ _ _) ?_) | (with_reducible refine Stuck.h (A := Chk _ _) ?_) | (with_reducible refine Stuck.h (A := False) ?_))
    all_goals exact ⟨ret_e rfl⟩
  have hp3 : 1 ≤ p ∧ p ≤ 70000 := by omega
  clear w1 w2
  have m1 := l_near (G := g) b1 l1 e1 o1
  have m2 := l_near (G := g) b2 l2 e2 o2
  cases h1 : nearB b1 l1 e1 with
  | false =>
    rw [h1] at m1
    refine FC.intro (X := XX) tok Tryz.func3 rfl Tryz.ntmps3 (by rw [Tryz.results3]) (by kernel_rfl) rfl ?_; intro F hG hO
    rw [← hG] at n1 n2 n3 a1 a2 a3 q1 q2 m1
    repeat' ((try (conv => whnf)); first
  | ((with_reducible refine cg ?_); refine call_eq (n1) (LpL.refl _) rfl ?_)
  | ((with_reducible refine cg ?_); refine call_eq (n2) (LpL.refl _) rfl ?_)
  | ((with_reducible refine cg ?_); refine call_eq (n3) (LpL.refl _) rfl ?_)
  | ((with_reducible refine cg ?_); refine call_eq (a1) (LpL.refl _) rfl ?_)
  | ((with_reducible refine cg ?_); refine call_eq (a2) (LpL.refl _) rfl ?_)
  | ((with_reducible refine cg ?_); refine call_eq (a3) (LpL.refl _) rfl ?_)
  | ((with_reducible refine cg ?_); refine call_eq (q1) (LpL.refl _) rfl ?_)
  | ((with_reducible refine cg ?_); refine call_eq (q2) (LpL.refl _) rfl ?_)
  | ((with_reducible refine cg ?_); refine call_eq (m1) (LpL.refl _) rfl ?_)
  
  | (with_reducible refine draw_g (id := 2) [[0, 1, 2, 3, 4, 5, 6, 7, 8]] tok mixed (by kernel_rfl) ?_)
  | (with_reducible refine Chk.mk' (by first | omega | exact trivial | (simp only [List.length_append, List.length_set, List.length_replicate, List.length_take, List.length_drop, List.length_cons, List.length_nil, List.length_map]; omega)) ?_)
  | (with_reducible refine wrap_g (by dsimp only [inR]; omega) ?_)
  | (with_reducible refine idx_g (by omega) ?_)
  | (with_reducible refine idx_l _ rfl (by decide) ?_)
  | (with_reducible refine BothG.mk ?_ ?_)
  | (with_reducible refine fork_tt ?_) | (with_reducible refine fork_ff ?_)
  | (with_reducible refine fork_e (c := true) (by decide) ?_; with_reducible refine fork_tt ?_) | (with_reducible refine fork_e (c := false) (by decide) ?_; with_reducible refine fork_ff ?_)
  | (with_reducible refine fork_t (by omega) ?_) | (with_reducible refine fork_f (by omega) ?_)
  | (with_reducible refine fork_d ?_ ?_ <;> intro hc)
  | (with_reducible refine fork_n ?_)
  | (with_reducible refine fork_b ?_ ?_ <;> intro hc)
  | (with_reducible refine SlcG.mk (by omega) ?_)
  | (with_reducible refine MakG.mk (by dsimp only; omega) ?_)
  | (with_reducible refine AppG.mk (by first | omega | (simp only [List.length_append, List.length_set, List.length_replicate, List.length_take, List.length_drop, List.length_cons, List.length_nil, List.length_map]; omega)) (by dsimp only [List.length_cons, List.length_nil]; omega) (by omega) ?_)
  | (with_reducible refine div_g (by omega) (by omega) (by dsimp only [inR]; omega) ?_)
  | (with_reducible refine mod_g (by omega) (by omega) ?_)
  | (with_reducible refine mask_g (m := 4294967296) 32 rfl rfl (by decide) (by omega) ?_)
  | (with_reducible refine shr_g (m := 4294967296) 32 rfl (by decide) (by omega) rfl ?_)
  | (with_reducible refine fz_all (by omega) ?_)
  | (with_reducible refine Stuck.h (A := RetE _ _) ?_) | (with_reducible refine Stuck.h (A := RetM _ _ _ _) ?_) | (with_reducible refine Stuck.h (A := Again _ _ _ _ _ _ _ _) ?_) | (with_reducible refine Stuck.h (A := CallF _ _ _ _ _ _ _) ?_) | (with_reducible refine Stuck.h (A := LoopG _ _ _ _ _ _ _ _) ?_) | (with_reducible refine Stuck.h (A := DrawG _ _ _ _ _ _ _ _) ?_)
  | (with_reducible refine Stuck.h (A := WrapG _ _ _) ?_) | (with_reducible refine Stuck.h (A := DivG _ _ _ _) ?_) | (with_reducible refine Stuck.h (A := ModG _ _ _) ?_) | (with_reducible refine Stuck.h (A := ShlG _ _ _ _) ?_) | (with_reducible refine Stuck.h (A := ShrG _ _ _ _) ?_) | (with_reducible refine Stuck.h (A := BitG _ _ _ _ _) ?_)
  | (with_reducible refine Stuck.h (A := IdxG _ _ _) ?_) | (with_reducible refine Stuck.h (A := IdxL _ _ _) ?_) | (with_reducible refine Stuck.h (A := SlcG _ _ _ _ _) ?_) | (with_reducible refine Stuck.h (A := MakG _ _ _ _) ?_) | (with_reducible refine Stuck.h (A := AppG _ _ _ _ _ _ _) ?_) | (with_reducible refine Stuck.h (A := FzG _ _ _ _) ?_)
  | (with_reducible refine Stuck.h (A := RawG _) ?_) | (with_reducible refine Stuck.h (A := TabG _ _ _ _ _) ?_) | (with_reducible refine Stuck.h (A := ExtF _ _ _ _) ?_) | (with_reducible refine Stuck.h (A := Chk _ _) ?_) | (with_reducible refine Stuck.h (A := False) ?_))
    all_goals exact ⟨ret_e rfl⟩
  | true =>
  cases h2 : nearB b2 l2 e2 with
  | false =>
    rw [h1] at m1
    rw [h2] at m2
    refine FC.intro (X := XX) tok Tryz.func3 rfl Tryz.ntmps3 (by rw [Tryz.results3]) (by kernel_rfl) rfl ?_; intro F hG hO
    rw [← hG] at n1 n2 n3 a1 a2 a3 q1 q2 m1 m2
    repeat' ((try (conv => whnf)); first
  | ((with_reducible refine cg ?_); refine call_eq (n1) (LpL.refl _) rfl ?_)
  | ((with_reducible refine cg ?_); refine call_eq (n2) (LpL.refl _) rfl ?_)
  | ((with_reducible refine cg ?_); refine call_eq (n3) (LpL.refl _) rfl ?_)
  | ((with_reducible refine cg ?_); refine call_eq (a1) (LpL.refl _) rfl ?_)
  | ((with_reducible refine cg ?_); refine call_eq (a2) (LpL.refl _) rfl ?_)
  | ((with_reducible refine cg ?_); refine call_eq (a3) (LpL.refl _) rfl ?_)
  | ((with_reducible refine cg ?_); refine call_eq (q1) (LpL.refl _) rfl ?_)
  | ((with_reducible refine cg ?_); refine call_eq (q2) (LpL.refl _) rfl ?_)
  | ((with_reducible refine cg ?_); refine call_eq (m1) (LpL.refl _) rfl ?_)
  | ((with_reducible refine cg ?_); refine call_eq (m2) (LpL.refl _) rfl ?_)
  
  | (with_reducible refine draw_g (id := 2) [[0, 1, 2, 3, 4, 5, 6, 7, 8]] tok mixed (by kernel_rfl) ?_)
  | (with_reducible refine Chk.mk' (by first | omega | exact trivial | (simp only [List.length_append, List.length_set, List.length_replicate, List.length_take, List.length_drop, List.length_cons, List.length_nil, List.length_map]; omega)) ?_)
  | (with_reducible refine wrap_g (by dsimp only [inR]; omega) ?_)
  | (with_reducible refine idx_g (by omega) ?_)
  | (with_reducible refine idx_l _ rfl (by decide) ?_)
  | (with_reducible refine BothG.mk ?_ ?_)
  | (with_reducible refine fork_tt ?_) | (with_reducible refine fork_ff ?_)
  | (with_reducible refine fork_e (c := true) (by decide) ?_; with_reducible refine fork_tt ?_) | (with_reducible refine fork_e (c := false) (by decide) ?_; with_reducible refine fork_ff ?_)
  | (with_reducible refine fork_t (by omega) ?_) | (with_reducible refine fork_f (by omega) ?_)
  | (with_reducible refine fork_d ?_ ?_ <;> intro hc)
  | (with_reducible refine fork_n ?_)
  | (with_reducible refine fork_b ?_ ?_ <;> intro hc)
  | (with_reducible refine SlcG.mk (by omega) ?_)
  | (with_reducible refine MakG.mk (by dsimp only; omega) ?_)
  | (with_reducible refine AppG.mk (by first | omega | (simp only [List.length_append, List.length_set, List.length_replicate, List.length_take, List.length_drop, List.length_cons, List.length_nil, List.length_map]; omega)) (by dsimp only [List.length_cons, List.length_nil]; omega) (by omega) ?_)
  | (with_reducible refine div_g (by omega) (by omega) (by dsimp only [inR]; omega) ?_)
  | (with_reducible refine mod_g (by omega) (by omega) ?_)
  | (with_reducible refine mask_g (m := 4294967296) 32 rfl rfl (by decide) (by omega) ?_)
  | (with_reducible refine shr_g (m := 4294967296) 32 rfl (by decide) (by omega) rfl ?_)
  | (with_reducible refine fz_all (by omega) ?_)
  | (with_reducible refine Stuck.h (A := RetE _ _) ?_) | (with_reducible refine Stuck.h (A := RetM _ _ _ _) ?_) | (with_reducible refine Stuck.h (A := Again _ _ _ _ _ _ _ _) ?_) | (with_reducible refine Stuck.h (A := CallF _ _ _ _ _ _ _) ?_) | (with_reducible refine Stuck.h (A := LoopG _ _ _ _ _ _ _ _) ?_) | (with_reducible refine Stuck.h (A := DrawG _ _ _ _ _ _ _ _) ?_)
  | (with_reducible refine Stuck.h (A := WrapG _ _ _) ?_) | (with_reducible refine Stuck.h (A := DivG _ _ _ _) ?_) | (with_reducible refine Stuck.h (A := ModG _ _ _) ?_) | (with_reducible refine Stuck.h (A := ShlG _ _ _ _) ?_) | (with_reducible refine Stuck.h (A := ShrG _ _ _ _) ?_) | (with_reducible refine Stuck.h (A := BitG _ _ _ _ _) ?_)
  | (with_reducible refine Stuck.h (A := IdxG _ _ _) ?_) | (with_reducible refine Stuck.h (A := IdxL _ _ _) ?_) | (with_reducible refine Stuck.h (A := SlcG _ _ _ _ _) ?_) | (with_reducible refine Stuck.h (A := MakG _ _ _ _) ?_) | (with_reducible refine Stuck.h (A := AppG _ _ _ _ _ _ _) ?_) | (with_reducible refine Stuck.h (A := FzG _ _ _ _) ?_)
  | (with_reducible refine Stuck.h (A := RawG _) ?_) | (with_reducible refine Stuck.h (A := TabG _ _ _ _ _) ?_) | (with_reducible refine Stuck.h (A := ExtF _ _ _ _) ?_) | (with_reducible refine Stuck.h (A := Chk _ _) ?_) | (with_reducible refine Stuck.h (A := False) ?_))
    all_goals exact ⟨ret_e rfl⟩
  | true =>
  rw [h1] at m1
  rw [h2] at m2
  clear q1 q2
  obtain ⟨n, ga, d1, t1⟩ := near_ex o1 h1
  obtain ⟨m, gb, d2, t2⟩ := near_ex o2 h2
  rw [d1] at m1 ⊢
  rw [d2] at m2 ⊢
  clear h1 h2 d1 d2 o1 o2
  have q1 := y_quodown hD p ga gb hp
  have q2 := y_quoup hD p ga gb hp
  have f1 := r_noughtg (G := g) m e2
  by_cases hm : m = 0
  · rw [quoS_4 hp3 hm] at q1 q2
    refine FC.intro (X := XX) tok Tryz.func3 rfl Tryz.ntmps3 (by rw [Tryz.results3]) (by kernel_rfl) rfl ?_; intro F hG hO
    rw [← hG] at n1 n2 n3 a1 a2 a3 q1 q2 m1 m2 f1
    repeat' ((try (conv => whnf)); first
  | ((with_reducible refine cg ?_); refine call_eq (n1) (LpL.refl _) rfl ?_)
  | ((with_reducible refine cg ?_); refine call_eq (n2) (LpL.refl _) rfl ?_)
  | ((with_reducible refine cg ?_); refine call_eq (n3) (LpL.refl _) rfl ?_)
  | ((with_reducible refine cg ?_); refine call_eq (a1) (LpL.refl _) rfl ?_)
  | ((with_reducible refine cg ?_); refine call_eq (a2) (LpL.refl _) rfl ?_)
  | ((with_reducible refine cg ?_); refine call_eq (a3) (LpL.refl _) rfl ?_)
  | ((with_reducible refine cg ?_); refine call_eq (q1) (LpL.refl _) rfl ?_)
  | ((with_reducible refine cg ?_); refine call_eq (q2) (LpL.refl _) rfl ?_)
  | ((with_reducible refine cg ?_); refine call_eq (m1) (LpL.refl _) rfl ?_)
  | ((with_reducible refine cg ?_); refine call_eq (m2) (LpL.refl _) rfl ?_)
  | ((with_reducible refine cg ?_); refine call_eq (f1) (LpL.refl _) rfl ?_)
  
  | (with_reducible refine draw_g (id := 2) [[0, 1, 2, 3, 4, 5, 6, 7, 8]] tok mixed (by kernel_rfl) ?_)
  | (with_reducible refine Chk.mk' (by first | omega | exact trivial | (simp only [List.length_append, List.length_set, List.length_replicate, List.length_take, List.length_drop, List.length_cons, List.length_nil, List.length_map]; omega)) ?_)
  | (with_reducible refine wrap_g (by dsimp only [inR]; omega) ?_)
  | (with_reducible refine idx_g (by omega) ?_)
  | (with_reducible refine idx_l _ rfl (by decide) ?_)
  | (with_reducible refine BothG.mk ?_ ?_)
  | (with_reducible refine fork_tt ?_) | (with_reducible refine fork_ff ?_)
  | (with_reducible refine fork_e (c := true) (by decide) ?_; with_reducible refine fork_tt ?_) | (with_reducible refine fork_e (c := false) (by decide) ?_; with_reducible refine fork_ff ?_)
  | (with_reducible refine fork_t (by omega) ?_) | (with_reducible refine fork_f (by omega) ?_)
  | (with_reducible refine fork_d ?_ ?_ <;> intro hc)
  | (with_reducible refine fork_n ?_)
  | (with_reducible refine fork_b ?_ ?_ <;> intro hc)
  | (with_reducible refine SlcG.mk (by omega) ?_)
  | (with_reducible refine MakG.mk (by dsimp only; omega) ?_)
  | (with_reducible refine AppG.mk (by first | omega | (simp only [List.length_append, List.length_set, List.length_replicate, List.length_take, List.length_drop, List.length_cons, List.length_nil, List.length_map]; omega)) (by dsimp only [List.length_cons, List.length_nil]; omega) (by omega) ?_)
  | (with_reducible refine div_g (by omega) (by omega) (by dsimp only [inR]; omega) ?_)
  | (with_reducible refine mod_g (by omega) (by omega) ?_)
  | (with_reducible refine mask_g (m := 4294967296) 32 rfl rfl (by decide) (by omega) ?_)
  | (with_reducible refine shr_g (m := 4294967296) 32 rfl (by decide) (by omega) rfl ?_)
  | (with_reducible refine fz_all (by omega) ?_)
  | (with_reducible refine Stuck.h (A := RetE _ _) ?_) | (with_reducible refine Stuck.h (A := RetM _ _ _ _) ?_) | (with_reducible refine Stuck.h (A := Again _ _ _ _ _ _ _ _) ?_) | (with_reducible refine Stuck.h (A := CallF _ _ _ _ _ _ _) ?_) | (with_reducible refine Stuck.h (A := LoopG _ _ _ _ _ _ _ _) ?_) | (with_reducible refine Stuck.h (A := DrawG _ _ _ _ _ _ _ _) ?_)
  | (with_reducible refine Stuck.h (A := WrapG _ _ _) ?_) | (with_reducible refine Stuck.h (A := DivG _ _ _ _) ?_) | (with_reducible refine Stuck.h (A := ModG _ _ _) ?_) | (with_reducible refine Stuck.h (A := ShlG _ _ _ _) ?_) | (with_reducible refine Stuck.h (A := ShrG _ _ _ _) ?_) | (with_reducible refine Stuck.h (A := BitG _ _ _ _ _) ?_)
  | (with_reducible refine Stuck.h (A := IdxG _ _ _) ?_) | (with_reducible refine Stuck.h (A := IdxL _ _ _) ?_) | (with_reducible refine Stuck.h (A := SlcG _ _ _ _ _) ?_) | (with_reducible refine Stuck.h (A := MakG _ _ _ _) ?_) | (with_reducible refine Stuck.h (A := AppG _ _ _ _ _ _ _) ?_) | (with_reducible refine Stuck.h (A := FzG _ _ _ _) ?_)
  | (with_reducible refine Stuck.h (A := RawG _) ?_) | (with_reducible refine Stuck.h (A := TabG _ _ _ _ _) ?_) | (with_reducible refine Stuck.h (A := ExtF _ _ _ _) ?_) | (with_reducible refine Stuck.h (A := Chk _ _) ?_) | (with_reducible refine Stuck.h (A := False) ?_))
    all_goals exact ⟨ret_e rfl⟩
  obtain ⟨x, y, z, w, r1, r2, k1, k2, s1, s2, ⟨u, v, r, s, r3, r4, k3, k4, c1, c2, c3⟩, c4⟩ := quoted_all ga gb t1 t2 hm hp3
  rw [r1] at q1
  rw [r2] at q2
  have f2 := y_mul hD k1 gb
  have f3 := y_mul hD k2 gb
  rw [r3] at f2
  rw [r4] at f3
  clear r1 r2 r3 r4 t1 t2
  by_cases hs : x = z ∧ y = w
  · obtain ⟨⟨e3, e4⟩, e5, e6⟩ := c3 hs
    obtain ⟨e7, e8⟩ := hs
    subst e3 e4 e5 e6 e7 e8
    have f4 := l_between (G := g) ga ga ga (Int.le_refl _) (Int.le_refl _)
    have f5 := l_short hD k1 hp3 s1
    have f6 := r_same_t (G := g) k1
    have f7 := r_same_t (G := g) ga
    clear c1 c2 c3 c4
    refine FC.intro (X := XX) tok Tryz.func3 rfl Tryz.ntmps3 (by rw [Tryz.results3]) (by kernel_rfl) rfl ?_; intro F hG hO
    rw [← hG] at n1 n2 n3 a1 a2 a3 q1 q2 m1 m2 f1 f2 f4 f5 f6 f7
    repeat' ((try (conv => whnf)); first
  | ((with_reducible refine cg ?_); refine call_eq (n1) (LpL.refl _) rfl ?_)
  | ((with_reducible refine cg ?_); refine call_eq (n2) (LpL.refl _) rfl ?_)
  | ((with_reducible refine cg ?_); refine call_eq (n3) (LpL.refl _) rfl ?_)
  | ((with_reducible refine cg ?_); refine call_eq (a1) (LpL.refl _) rfl ?_)
  | ((with_reducible refine cg ?_); refine call_eq (a2) (LpL.refl _) rfl ?_)
  | ((with_reducible refine cg ?_); refine call_eq (a3) (LpL.refl _) rfl ?_)
  | ((with_reducible refine cg ?_); refine call_eq (q1) (LpL.refl _) rfl ?_)
  | ((with_reducible refine cg ?_); refine call_eq (q2) (LpL.refl _) rfl ?_)
  | ((with_reducible refine cg ?_); refine call_eq (m1) (LpL.refl _) rfl ?_)
  | ((with_reducible refine cg ?_); refine call_eq (m2) (LpL.refl _) rfl ?_)
  | ((with_reducible refine cg ?_); refine call_eq (f1) (LpL.refl _) rfl ?_)
  | ((with_reducible refine cg ?_); refine call_eq (f2) (LpL.refl _) rfl ?_)
  | ((with_reducible refine cg ?_); refine call_eq (f4) (LpL.refl _) rfl ?_)
  | ((with_reducible refine cg ?_); refine call_eq (f5) (LpL.refl _) rfl ?_)
  | ((with_reducible refine cg ?_); refine call_eq (f6) (LpL.refl _) rfl ?_)
  | ((with_reducible refine cg ?_); refine call_eq (f7) (LpL.refl _) rfl ?_)
  
  | (with_reducible refine draw_g (id := 2) [[0, 1, 2, 3, 4, 5, 6, 7, 8]] tok mixed (by kernel_rfl) ?_)
  | (with_reducible refine Chk.mk' (by first | omega | exact trivial | (simp only [List.length_append, List.length_set, List.length_replicate, List.length_take, List.length_drop, List.length_cons, List.length_nil, List.length_map]; omega)) ?_)
  | (with_reducible refine wrap_g (by dsimp only [inR]; omega) ?_)
  | (with_reducible refine idx_g (by omega) ?_)
  | (with_reducible refine idx_l _ rfl (by decide) ?_)
  | (with_reducible refine BothG.mk ?_ ?_)
  | (with_reducible refine fork_tt ?_) | (with_reducible refine fork_ff ?_)
  | (with_reducible refine fork_e (c := true) (by decide) ?_; with_reducible refine fork_tt ?_) | (with_reducible refine fork_e (c := false) (by decide) ?_; with_reducible refine fork_ff ?_)
  | (with_reducible refine fork_t (by omega) ?_) | (with_reducible refine fork_f (by omega) ?_)
  | (with_reducible refine fork_d ?_ ?_ <;> intro hc)
  | (with_reducible refine fork_n ?_)
  | (with_reducible refine fork_b ?_ ?_ <;> intro hc)
  | (with_reducible refine SlcG.mk (by omega) ?_)
  | (with_reducible refine MakG.mk (by dsimp only; omega) ?_)
  | (with_reducible refine AppG.mk (by first | omega | (simp only [List.length_append, List.length_set, List.length_replicate, List.length_take, List.length_drop, List.length_cons, List.length_nil, List.length_map]; omega)) (by dsimp only [List.length_cons, List.length_nil]; omega) (by omega) ?_)
  | (with_reducible refine div_g (by omega) (by omega) (by dsimp only [inR]; omega) ?_)
  | (with_reducible refine mod_g (by omega) (by omega) ?_)
  | (with_reducible refine mask_g (m := 4294967296) 32 rfl rfl (by decide) (by omega) ?_)
  | (with_reducible refine shr_g (m := 4294967296) 32 rfl (by decide) (by omega) rfl ?_)
  | (with_reducible refine fz_all (by omega) ?_)
  | (with_reducible refine Stuck.h (A := RetE _ _) ?_) | (with_reducible refine Stuck.h (A := RetM _ _ _ _) ?_) | (with_reducible refine Stuck.h (A := Again _ _ _ _ _ _ _ _) ?_) | (with_reducible refine Stuck.h (A := CallF _ _ _ _ _ _ _) ?_) | (with_reducible refine Stuck.h (A := LoopG _ _ _ _ _ _ _ _) ?_) | (with_reducible refine Stuck.h (A := DrawG _ _ _ _ _ _ _ _) ?_)
  | (with_reducible refine Stuck.h (A := WrapG _ _ _) ?_) | (with_reducible refine Stuck.h (A := DivG _ _ _ _) ?_) | (with_reducible refine Stuck.h (A := ModG _ _ _) ?_) | (with_reducible refine Stuck.h (A := ShlG _ _ _ _) ?_) | (with_reducible refine Stuck.h (A := ShrG _ _ _ _) ?_) | (with_reducible refine Stuck.h (A := BitG _ _ _ _ _) ?_)
  | (with_reducible refine Stuck.h (A := IdxG _ _ _) ?_) | (with_reducible refine Stuck.h (A := IdxL _ _ _) ?_) | (with_reducible refine Stuck.h (A := SlcG _ _ _ _ _) ?_) | (with_reducible refine Stuck.h (A := MakG _ _ _ _) ?_) | (with_reducible refine Stuck.h (A := AppG _ _ _ _ _ _ _) ?_) | (with_reducible refine Stuck.h (A := FzG _ _ _ _) ?_)
  | (with_reducible refine Stuck.h (A := RawG _) ?_) | (with_reducible refine Stuck.h (A := TabG _ _ _ _ _) ?_) | (with_reducible refine Stuck.h (A := ExtF _ _ _ _) ?_) | (with_reducible refine Stuck.h (A := Chk _ _) ?_) | (with_reducible refine Stuck.h (A := False) ?_))
    all_goals exact ⟨ret_e rfl⟩
  · obtain ⟨hx, hz, b1, b2, ad⟩ := c4 hs
    have f4 := l_short hD k1 hp3 s1
    have f5 := l_short hD k2 hp3 s2
    have f6 := r_same_d (G := g) (m := z) (f := w) k1
    rw [decide_eq_false hs] at f6
    have f7 := y_Top (G := g) k1
    have f8 := y_Top (G := g) k2
    rw [if_neg hx] at f7
    rw [if_neg hz] at f8
    have f9 := y_sub hD k2 k1
    rw [ad] at f9
    have f10 := l_step hD b1 b2
    have f11 := l_same (G := g) (Good.one b1 b2)
    have b3 := topN_bd k1
    have b4 := topN_bd k2
    obtain ⟨ta, hta⟩ : ∃ t, t = topN x y := ⟨_, rfl⟩
    obtain ⟨tb, htb⟩ : ∃ t, t = topN z w := ⟨_, rfl⟩
    rw [← hta] at b1 b2 b3 f7 f9 f10 f11
    rw [← htb] at b1 b2 b4 f8 f9 f10 f11
    clear hta htb ad c3 c4
    by_cases hlt : m < 0
    · have f12 := l_between (G := g) k4 ga k3 (c1 hlt).1 (c1 hlt).2
      clear c1 c2
      refine FC.intro (X := XX) tok Tryz.func3 rfl Tryz.ntmps3 (by rw [Tryz.results3]) (by kernel_rfl) rfl ?_; intro F hG hO
      rw [← hG] at n1 n2 n3 a1 a2 a3 q1 q2 m1 m2 f1 f2 f3 f12 f4 f5 f6 f7 f8 f9 f10 f11
      repeat' ((try (conv => whnf)); first
  | ((with_reducible refine cg ?_); refine call_eq (n1) (LpL.refl _) rfl ?_)
  | ((with_reducible refine cg ?_); refine call_eq (n2) (LpL.refl _) rfl ?_)
  | ((with_reducible refine cg ?_); refine call_eq (n3) (LpL.refl _) rfl ?_)
  | ((with_reducible refine cg ?_); refine call_eq (a1) (LpL.refl _) rfl ?_)
  | ((with_reducible refine cg ?_); refine call_eq (a2) (LpL.refl _) rfl ?_)
  | ((with_reducible refine cg ?_); refine call_eq (a3) (LpL.refl _) rfl ?_)
  | ((with_reducible refine cg ?_); refine call_eq (q1) (LpL.refl _) rfl ?_)
  | ((with_reducible refine cg ?_); refine call_eq (q2) (LpL.refl _) rfl ?_)
  | ((with_reducible refine cg ?_); refine call_eq (m1) (LpL.refl _) rfl ?_)
  | ((with_reducible refine cg ?_); refine call_eq (m2) (LpL.refl _) rfl ?_)
  | ((with_reducible refine cg ?_); refine call_eq (f1) (LpL.refl _) rfl ?_)
  | ((with_reducible refine cg ?_); refine call_eq (f2) (LpL.refl _) rfl ?_)
  | ((with_reducible refine cg ?_); refine call_eq (f3) (LpL.refl _) rfl ?_)
  | ((with_reducible refine cg ?_); refine call_eq (f12) (LpL.refl _) rfl ?_)
  | ((with_reducible refine cg ?_); refine call_eq (f4) (LpL.refl _) rfl ?_)
  | ((with_reducible refine cg ?_); refine call_eq (f5) (LpL.refl _) rfl ?_)
  | ((with_reducible refine cg ?_); refine call_eq (f6) (LpL.refl _) rfl ?_)
  | ((with_reducible refine cg ?_); refine call_eq (f7) (LpL.refl _) rfl ?_)
  | ((with_reducible refine cg ?_); refine call_eq (f8) (LpL.refl _) rfl ?_)
  | ((with_reducible refine cg ?_); refine call_eq (f9) (LpL.refl _) rfl ?_)
  | ((with_reducible refine cg ?_); refine call_eq (f10) (LpL.refl _) rfl ?_)
  | ((with_reducible refine cg ?_); refine call_eq (f11) (LpL.refl _) rfl ?_)
  
  | (with_reducible refine draw_g (id := 2) [[0, 1, 2, 3, 4, 5, 6, 7, 8]] tok mixed (by kernel_rfl) ?_)
  | (with_reducible refine Chk.mk' (by first | omega | exact trivial | (simp only [List.length_append, List.length_set, List.length_replicate, List.length_take, List.length_drop, List.length_cons, List.length_nil, List.length_map]; omega)) ?_)
  | (with_reducible refine wrap_g (by dsimp only [inR]; omega) ?_)
  | (with_reducible refine idx_g (by omega) ?_)
  | (with_reducible refine idx_l _ rfl (by decide) ?_)
  | (with_reducible refine BothG.mk ?_ ?_)
  | (with_reducible refine fork_tt ?_) | (with_reducible refine fork_ff ?_)
  | (with_reducible refine fork_e (c := true) (by decide) ?_; with_reducible refine fork_tt ?_) | (with_reducible refine fork_e (c := false) (by decide) ?_; with_reducible refine fork_ff ?_)
  | (with_reducible refine fork_t (by omega) ?_) | (with_reducible refine fork_f (by omega) ?_)
  | (with_reducible refine fork_d ?_ ?_ <;> intro hc)
  | (with_reducible refine fork_n ?_)
  | (with_reducible refine fork_b ?_ ?_ <;> intro hc)
  | (with_reducible refine SlcG.mk (by omega) ?_)
  | (with_reducible refine MakG.mk (by dsimp only; omega) ?_)
  | (with_reducible refine AppG.mk (by first | omega | (simp only [List.length_append, List.length_set, List.length_replicate, List.length_take, List.length_drop, List.length_cons, List.length_nil, List.length_map]; omega)) (by dsimp only [List.length_cons, List.length_nil]; omega) (by omega) ?_)
  | (with_reducible refine div_g (by omega) (by omega) (by dsimp only [inR]; omega) ?_)
  | (with_reducible refine mod_g (by omega) (by omega) ?_)
  | (with_reducible refine mask_g (m := 4294967296) 32 rfl rfl (by decide) (by omega) ?_)
  | (with_reducible refine shr_g (m := 4294967296) 32 rfl (by decide) (by omega) rfl ?_)
  | (with_reducible refine fz_all (by omega) ?_)
  | (with_reducible refine Stuck.h (A := RetE _ _) ?_) | (with_reducible refine Stuck.h (A := RetM _ _ _ _) ?_) | (with_reducible refine Stuck.h (A := Again _ _ _ _ _ _ _ _) ?_) | (with_reducible refine Stuck.h (A := CallF _ _ _ _ _ _ _) ?_) | (with_reducible refine Stuck.h (A := LoopG _ _ _ _ _ _ _ _) ?_) | (with_reducible refine Stuck.h (A := DrawG _ _ _ _ _ _ _ _) ?_)
  | (with_reducible refine Stuck.h (A := WrapG _ _ _) ?_) | (with_reducible refine Stuck.h (A := DivG _ _ _ _) ?_) | (with_reducible refine Stuck.h (A := ModG _ _ _) ?_) | (with_reducible refine Stuck.h (A := ShlG _ _ _ _) ?_) | (with_reducible refine Stuck.h (A := ShrG _ _ _ _) ?_) | (with_reducible refine Stuck.h (A := BitG _ _ _ _ _) ?_)
  | (with_reducible refine Stuck.h (A := IdxG _ _ _) ?_) | (with_reducible refine Stuck.h (A := IdxL _ _ _) ?_) | (with_reducible refine Stuck.h (A := SlcG _ _ _ _ _) ?_) | (with_reducible refine Stuck.h (A := MakG _ _ _ _) ?_) | (with_reducible refine Stuck.h (A := AppG _ _ _ _ _ _ _) ?_) | (with_reducible refine Stuck.h (A := FzG _ _ _ _) ?_)
  | (with_reducible refine Stuck.h (A := RawG _) ?_) | (with_reducible refine Stuck.h (A := TabG _ _ _ _ _) ?_) | (with_reducible refine Stuck.h (A := ExtF _ _ _ _) ?_) | (with_reducible refine Stuck.h (A := Chk _ _) ?_) | (with_reducible refine Stuck.h (A := False) ?_))
      all_goals exact ⟨ret_e rfl⟩
    · have f12 := l_between (G := g) k3 ga k4 (c2 (by omega)).1 (c2 (by omega)).2
      clear c1 c2
      refine FC.intro (X := XX) tok Tryz.func3 rfl Tryz.ntmps3 (by rw [Tryz.results3]) (by kernel_rfl) rfl ?_; intro F hG hO
      rw [← hG] at n1 n2 n3 a1 a2 a3 q1 q2 m1 m2 f1 f2 f3 f12 f4 f5 f6 f7 f8 f9 f10 f11
      repeat' ((try (conv => whnf)); first
  | ((with_reducible refine cg ?_); refine call_eq (n1) (LpL.refl _) rfl ?_)
  | ((with_reducible refine cg ?_); refine call_eq (n2) (LpL.refl _) rfl ?_)
  | ((with_reducible refine cg ?_); refine call_eq (n3) (LpL.refl _) rfl ?_)
  | ((with_reducible refine cg ?_); refine call_eq (a1) (LpL.refl _) rfl ?_)
  | ((with_reducible refine cg ?_); refine call_eq (a2) (LpL.refl _) rfl ?_)
  | ((with_reducible refine cg ?_); refine call_eq (a3) (LpL.refl _) rfl ?_)
  | ((with_reducible refine cg ?_); refine call_eq (q1) (LpL.refl _) rfl ?_)
  | ((with_reducible refine cg ?_); refine call_eq (q2) (LpL.refl _) rfl ?_)
  | ((with_reducible refine cg ?_); refine call_eq (m1) (LpL.refl _) rfl ?_)
  | ((with_reducible refine cg ?_); refine call_eq (m2) (LpL.refl _) rfl ?_)
  | ((with_reducible refine cg ?_); refine call_eq (f1) (LpL.refl _) rfl ?_)
  | ((with_reducible refine cg ?_); refine call_eq (f2) (LpL.refl _) rfl ?_)
  | ((with_reducible refine cg ?_); refine call_eq (f3) (LpL.refl _) rfl ?_)
  | ((with_reducible refine cg ?_); refine call_eq (f12) (LpL.refl _) rfl ?_)
  | ((with_reducible refine cg ?_); refine call_eq (f4) (LpL.refl _) rfl ?_)
  | ((with_reducible refine cg ?_); refine call_eq (f5) (LpL.refl _) rfl ?_)
  | ((with_reducible refine cg ?_); refine call_eq (f6) (LpL.refl _) rfl ?_)
  | ((with_reducible refine cg ?_); refine call_eq (f7) (LpL.refl _) rfl ?_)
  | ((with_reducible refine cg ?_); refine call_eq (f8) (LpL.refl _) rfl ?_)
  | ((with_reducible refine cg ?_); refine call_eq (f9) (LpL.refl _) rfl ?_)
  | ((with_reducible refine cg ?_); refine call_eq (f10) (LpL.refl _) rfl ?_)
  | ((with_reducible refine cg ?_); refine call_eq (f11) (LpL.refl _) rfl ?_)
  
  | (with_reducible refine draw_g (id := 2) [[0, 1, 2, 3, 4, 5, 6, 7, 8]] tok mixed (by kernel_rfl) ?_)
  | (with_reducible refine Chk.mk' (by first | omega | exact trivial | (simp only [List.length_append, List.length_set, List.length_replicate, List.length_take, List.length_drop, List.length_cons, List.length_nil, List.length_map]; omega)) ?_)
  | (with_reducible refine wrap_g (by dsimp only [inR]; omega) ?_)
  | (with_reducible refine idx_g (by omega) ?_)
  | (with_reducible refine idx_l _ rfl (by decide) ?_)
  | (with_reducible refine BothG.mk ?_ ?_)
  | (with_reducible refine fork_tt ?_) | (with_reducible refine fork_ff ?_)
  | (with_reducible refine fork_e (c := true) (by decide) ?_; with_reducible refine fork_tt ?_) | (with_reducible refine fork_e (c := false) (by decide) ?_; with_reducible refine fork_ff ?_)
  | (with_reducible refine fork_t (by omega) ?_) | (with_reducible refine fork_f (by omega) ?_)
  | (with_reducible refine fork_d ?_ ?_ <;> intro hc)
  | (with_reducible refine fork_n ?_)
  | (with_reducible refine fork_b ?_ ?_ <;> intro hc)
  | (with_reducible refine SlcG.mk (by omega) ?_)
  | (with_reducible refine MakG.mk (by dsimp only; omega) ?_)
  | (with_reducible refine AppG.mk (by first | omega | (simp only [List.length_append, List.length_set, List.length_replicate, List.length_take, List.length_drop, List.length_cons, List.length_nil, List.length_map]; omega)) (by dsimp only [List.length_cons, List.length_nil]; omega) (by omega) ?_)
  | (with_reducible refine div_g (by omega) (by omega) (by dsimp only [inR]; omega) ?_)
  | (with_reducible refine mod_g (by omega) (by omega) ?_)
  | (with_reducible refine mask_g (m := 4294967296) 32 rfl rfl (by decide) (by omega) ?_)
  | (with_reducible refine shr_g (m := 4294967296) 32 rfl (by decide) (by omega) rfl ?_)
  | (with_reducible refine fz_all (by omega) ?_)
  | (with_reducible refine Stuck.h (A := RetE _ _) ?_) | (with_reducible refine Stuck.h (A := RetM _ _ _ _) ?_) | (with_reducible refine Stuck.h (A := Again _ _ _ _ _ _ _ _) ?_) | (with_reducible refine Stuck.h (A := CallF _ _ _ _ _ _ _) ?_) | (with_reducible refine Stuck.h (A := LoopG _ _ _ _ _ _ _ _) ?_) | (with_reducible refine Stuck.h (A := DrawG _ _ _ _ _ _ _ _) ?_)
  | (with_reducible refine Stuck.h (A := WrapG _ _ _) ?_) | (with_reducible refine Stuck.h (A := DivG _ _ _ _) ?_) | (with_reducible refine Stuck.h (A := ModG _ _ _) ?_) | (with_reducible refine Stuck.h (A := ShlG _ _ _ _) ?_) | (with_reducible refine Stuck.h (A := ShrG _ _ _ _) ?_) | (with_reducible refine Stuck.h (A := BitG _ _ _ _ _) ?_)
  | (with_reducible refine Stuck.h (A := IdxG _ _ _) ?_) | (with_reducible refine Stuck.h (A := IdxL _ _ _) ?_) | (with_reducible refine Stuck.h (A := SlcG _ _ _ _ _) ?_) | (with_reducible refine Stuck.h (A := MakG _ _ _ _) ?_) | (with_reducible refine Stuck.h (A := AppG _ _ _ _ _ _ _) ?_) | (with_reducible refine Stuck.h (A := FzG _ _ _ _) ?_)
  | (with_reducible refine Stuck.h (A := RawG _) ?_) | (with_reducible refine Stuck.h (A := TabG _ _ _ _ _) ?_) | (with_reducible refine Stuck.h (A := ExtF _ _ _ _) ?_) | (with_reducible refine Stuck.h (A := Chk _ _) ?_) | (with_reducible refine Stuck.h (A := False) ?_))
      all_goals exact ⟨ret_e rfl⟩
end Go.Proofs.YtbeocnjlepcglaaGreatDoor.Sim
namespace Go.Proofs.YtbeocnjlepcglaaGreatDoor.Sim
open Go.RowKit Go.ChangeShapes Go.WideShapes
section
variable {H : Type} {enc : TypeId × Value → H} {P : Program}
/-- 'post' where nothing has turned below. -/
theorem post_below2 {f : Func} {s : ChangeSpec} {apart fresh handsOn again : Bool} {W W' : World} {args : Array Value} {v : Value} {ds gs : List (DataW H)} {before pa pv : List MemPlace}
    (hW : DataW.Whole enc P f.params.toList s.vars apart W args.toList ds gs before)
    (hres : ∀ (b : Nat) (sp : Nat → Bool) (hd : Bool), DataW.TrodAll enc P W' b sp hd f.resultTypes.toList (v.resultList f.resultTypes.size) (s.fn H (ds ++ gs)).results [])
    (hargs : ∀ sp : Nat → Bool, (∀ p ∈ before, sp p.block = true) → DataW.TrodAll enc P W' 0 sp true f.params.toList args.toList (s.fn H (ds ++ gs)).args pa)
    (hvars : ∀ sp : Nat → Bool, (∀ p ∈ before, sp p.block = true) → DataW.TrodVars enc P W' sp s.vars (s.fn H (ds ++ gs)).vars pv)
    (hps : before = pa ++ pv) (hb : Below W.heap.size W W')
    (hok : ∀ (j : Nat) (t : TypeId) (r : Value), f.resultTypes[j]? = some t → (v.resultList f.resultTypes.size)[j]? = some r → Value.okWide P W' .any 0 t r) :
    s.post enc P f apart fresh handsOn again W args v W' := by
  have hold : ∀ p ∈ before, (fun b => decide (b < W.heap.size)) p.block = true := fun p hp => by simpa using hW.lt p hp
  have hlt := hW.lt
  refine ⟨ds, gs, before, [], pa, pv, hW, hres _ _ _, hargs _ hold, hvars _ hold, hb.frame _, fun _ => ?_⟩
  obtain ⟨_, _, _, _, _, hz, hn⟩ := hW
  refine ⟨hok, _, _, ([] ++ pa) ++ pv, ⟨[] ++ pa, pv, trodAll_append (hargs _ (fun _ _ => rfl)) (hres _ _ _), hvars _ (fun _ _ => rfl), rfl, ?_, ?_⟩, ?_⟩
  · intro b off hp
    have hm : MemPlace.cell b off ∈ before := by rw [hps]; simpa using hp
    rw [hb.frozen (p := ⟨b, off, none⟩) (hlt _ hm)]
    exact hz b off hm
  · intro ha
    have := hn ha
    rw [hps] at this
    simpa using this
  · intro p hp _
    rw [hps]
    simpa using hp
end
end Go.Proofs.YtbeocnjlepcglaaGreatDoor.Sim
