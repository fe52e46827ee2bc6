/-
  Lemmas of SpanPlaysCardSaid, part 11.
-/
import Derived.Test.YtpjbgmafnheomaaGreatDoorPkSpanPlaysCardSaidJ
namespace Go.Proofs.YtpjbgmafnheomaaGreatDoor.Sim
open Go.RowKit
set_option linter.unusedVariables false
set_option linter.unusedSimpArgs false
set_option maxRecDepth 10000
set_option maxHeartbeats 8000000
variable {G : Gs}
theorem b_div (hi lo d : Int) (hd : 0 < d ∧ d < 18446744073709551616) (hh : 0 ≤ hi ∧ hi < d) (hl : 0 ≤ lo ∧ lo < 18446744073709551616) : FC Tryz.prog G 199 [.val (.int .u64 hi), .val (.int .u64 lo), .val (.int .u64 d)] (· = .tup [.val (.int .u64 ((hi * 18446744073709551616 + lo) / d)), .val (.int .u64 ((hi * 18446744073709551616 + lo) % d))]) := by
  obtain ⟨s, y, un, ul, n0, n1, n2, n3, n4, n5, n6, n7, n8, n9, n10, n11, n12, n13, n14, n15, n16⟩ := div_norm hd hh hl
  have f1 := b_lead (G := G) d.toNat (by omega)
  rw [← n0, show ((d.toNat : Nat) : Int) = d by omega] at f1
  obtain ⟨v1, hv1⟩ : ∃ v, v = y / 4294967296 := ⟨_, rfl⟩
  obtain ⟨v0, hv0⟩ : ∃ v, v = y % 4294967296 := ⟨_, rfl⟩
  obtain ⟨u1, hu1⟩ : ∃ v, v = ul / 4294967296 := ⟨_, rfl⟩
  obtain ⟨u0, hu0⟩ : ∃ v, v = ul % 4294967296 := ⟨_, rfl⟩
  have K1 := kn_of (y := y) (v1 := v1) (v0 := v0) (un := un) (u1 := u1) (by omega) (by omega) (by omega) ⟨n8, n9⟩ (by omega)
  obtain ⟨q1, hq1⟩ : ∃ q, q = (un * 4294967296 + u1) / y := ⟨_, rfl⟩
  obtain ⟨r1, hr1⟩ : ∃ q, q = (un * 4294967296 + u1) % y := ⟨_, rfl⟩
  rw [← hq1, ← hr1] at K1
  have kr1 := K1.br
  rw [← K1.ey] at kr1
  have K0 := kn_of (y := y) (v1 := v1) (v0 := v0) (un := r1) (u1 := u0) (by omega) (by omega) (by omega) kr1 (by omega)
  obtain ⟨q0, hq0⟩ : ∃ q, q = (r1 * 4294967296 + u0) / y := ⟨_, rfl⟩
  obtain ⟨r0, hr0⟩ : ∃ q, q = (r1 * 4294967296 + u0) % y := ⟨_, rfl⟩
  rw [← hq0, ← hr0] at K0
  have kr0 := K0.br
  rw [← K0.ey] at kr0
  have kq1 := K1.bq
  have kq0 := K0.bq
  obtain ⟨fin1, fin2⟩ := div_final (p2_posn s) hd.1 n3 n12 (show ul = u1 * 4294967296 + u0 by omega) K1 K0
  rw [← fin1, ← fin2]
  obtain ⟨i1, i2, i3, i4⟩ := K1.start
  obtain ⟨j1, j2, j3, j4⟩ := K0.start
  have bv1 : 2147483648 ≤ v1 ∧ v1 < 4294967296 := K1.bv1
  have bv0 : 0 ≤ v0 ∧ v0 < 4294967296 := K1.bv0
  have bu1 : 0 ≤ u1 ∧ u1 < 4294967296 := K1.bu1
  have bu0 : 0 ≤ u0 ∧ u0 < 4294967296 := K0.bu1
  have st : ((s : Int)).toNat = s := Int.toNat_natCast s
  have st2 : ((64 : Int) - (s : Int)).toNat = 64 - s := by omega
  have hsum : Unit → hi * 2 ^ s % 18446744073709551616 + lo / 2 ^ (64 - s) < 18446744073709551616 := fun _ => by omega
  have N13 : Unit → _ := fun _ => n13
  have N14 : Unit → _ := fun _ => n14
  have N15 : Unit → _ := fun _ => n15
  have N2 : Unit → _ := fun _ => n2
  have N7 : Unit → _ := fun _ => n7
  have N6 : Unit → _ := fun _ => n6
  have FIN1 : Unit → _ := fun _ => fin1
  have FIN2 : Unit → _ := fun _ => fin2
  have N16 : Unit → _ := fun _ => n16
  have hs64 : (s : Int) ≤ 63 := by omega
  have I1 : Unit → _ := fun _ => i1
  have J1 : Unit → _ := fun _ => j1
  clear hq1 hr1 hq0 hr0 n0 n1 n2 n3 n6 n7 n12 n13 n14 n15 n16 fin1 fin2 i1 j1
  refine ax_i Tryz.func199 Tryz.ntmps199 ?_; intro F hG hO
  rw [← hG] at f1
  repeat' ((try (conv => whnf)); first
 | refine ce f1 ?_
 | (with_reducible refine or_g2 s (N13 ()) (N14 ()) (N15 ()) (N16 ()) (hsum ()) ?_; rw [N6 ()])
 | ((with_reducible refine shl_m (by omega) ?_); rw [st]; first | rw [N2 ()] | rw [N7 ()] | skip)
 | ((with_reducible refine shr_g (m := 4294967296) 32 rfl (by decide) (by omega) rfl ?_); first | rw [← hv1] | rw [← hu1])
 | ((with_reducible refine shr_p (by omega) (by dsimp only [IntKind.bits]; omega) ?_); first | rw [st2] | rw [st])
 | ((with_reducible refine mask_g (m := 4294967296) 32 rfl rfl (by decide) (by omega) ?_); first | rw [← hv0] | rw [← hu0])
 | (refine lg ?_; refine loop_g (A := Int × Int) (fun (p2, t2) => KnI v1 r1 q0 p2 t2 ∧ t2 < 4294967296) (fun (p2, t2) => p2.toNat) (fun (p2, t2) => [(2, .val (.int .u64 y)), (8, .val (.int .u64 (s : Int))), (9, .val (.int .u64 v1)), (10, .val (.int .u64 v0)), (14, .val (.int .u64 u0)), (15, .val (.int .u64 q1)), (16, .val (.int .u64 t2)), (17, .val (.int .u64 r1)), (18, .val (.int .u64 p2))]) (fun _ => []) (fun _ => []) (r1 / v1, r1 - r1 / v1 * v1) tok (fun _ => ⟨⟨trivial, trivial, trivial, trivial, trivial, trivial, trivial, trivial, trivial, trivial⟩, trivial, by simp only [List.length_nil]; omega⟩) ⟨J1 (), by omega⟩ ⟨rfl, rfl, rfl, rfl, rfl, iv_eq (by first | exact K1.stop hI (by omega) | exact K1.out (hnx () (by omega)) (by omega) (by have := hI.bp; omega)), rfl, rfl, rfl, trivial⟩ ⟨[], rfl⟩ ⟨[], rfl⟩ ?_; rintro ⟨p2, t2⟩ ⟨hJ, ht2⟩; have hJs := hJ.bs; have hJp := hJ.bp; have hpv2 : Unit → p2 < 4294967296 → 0 ≤ p2 * v0 ∧ p2 * v0 ≤ 18446744065119617025 := (fun _ h => mul_bd32 ⟨by omega, h⟩ bv0); have hnx2 : Unit → (4294967296 ≤ p2 ∨ 4294967296 * t2 + u0 < p2 * v0) → KnI v1 r1 q0 (p2 - 1) (t2 + v1) := (fun _ h => K0.next hJ h))
 | (refine lg ?_; refine loop_g (A := Int × Int) (fun (p, t) => KnI v1 un q1 p t ∧ t < 4294967296) (fun (p, t) => p.toNat) (fun (p, t) => [(2, .val (.int .u64 y)), (8, .val (.int .u64 (s : Int))), (9, .val (.int .u64 v1)), (10, .val (.int .u64 v0)), (11, .val (.int .u64 un)), (13, .val (.int .u64 u1)), (14, .val (.int .u64 u0)), (15, .val (.int .u64 p)), (16, .val (.int .u64 t))]) (fun _ => []) (fun _ => []) (un / v1, un - un / v1 * v1) tok (fun _ => ⟨⟨trivial, trivial, trivial, trivial, trivial, trivial, trivial, trivial, trivial, trivial⟩, trivial, by simp only [List.length_nil]; omega⟩) ⟨I1 (), by omega⟩ ⟨rfl, rfl, rfl, rfl, rfl, rfl, rfl, rfl, rfl, trivial⟩ ⟨[], rfl⟩ ⟨[], rfl⟩ ?_; rintro ⟨p, t⟩ ⟨hI, ht⟩; have hIs := hI.bs; have hIp := hI.bp; have hpv : Unit → p < 4294967296 → 0 ≤ p * v0 ∧ p * v0 ≤ 18446744065119617025 := (fun _ h => mul_bd32 ⟨by omega, h⟩ bv0); have hnx : Unit → (4294967296 ≤ p ∨ 4294967296 * t + u1 < p * v0) → KnI v1 un q1 (p - 1) (t + v1) := (fun _ h => K1.next hI h))
 | (with_reducible refine wrap_g (by have h := hpv2 () (by omega); dsimp only [inR]; omega) ?_)
 | (with_reducible refine wrap_g (by have h := hpv () (by omega); dsimp only [inR]; omega) ?_)
 | (with_reducible refine wrap_g (by have h := (hnx2 () (by omega)).bp; dsimp only [inR]; omega) ?_)
 | (with_reducible refine wrap_g (by have h := (hnx () (by omega)).bp; dsimp only [inR]; omega) ?_)
 | (with_reducible refine wrap_g (by dsimp only [inR]; omega) ?_)
 | (with_reducible refine wrap_e (m := q1 * 4294967296 + q0) (by rw [wrap64]; first | (have e := K0.stop hJ (by omega); rw [e]; omega) | (have e := K0.out (hnx2 () (by omega)) (by omega) (by have := hJ.bp; omega); rw [e]; omega)) ?_)
 | (with_reducible refine wrap_e (m := r0) (by rw [wrap64]; first | (have e := K0.stop hJ (by omega); rw [e]; (rw [K0.left]; have := K0.qr; omega)) | (have e := K0.out (hnx2 () (by omega)) (by omega) (by have := hJ.bp; omega); rw [e]; (rw [K0.left]; have := K0.qr; omega))) ?_)
 | (with_reducible refine wrap_e (m := r1) (by rw [wrap64]; first | (have e := K1.stop hI (by omega); rw [e]; (rw [K1.left]; have := K1.qr; omega)) | (have e := K1.out (hnx () (by omega)) (by omega) (by have := hI.bp; omega); rw [e]; (rw [K1.left]; have := K1.qr; omega))) ?_)
 | ((with_reducible refine wrap_r ?_); rw [wrap64])
 | (refine dG (id := 6) dg27 ?_)
 | with_reducible first | refine ax_s ?_ | (refine ax_f ?_ ?_ <;> try intro hc) | fail)
  · exact ⟨ret_e (tup2_eq (by rw [FIN1 (), hc]; simp) (by rw [FIN2 (), hc]; simp))⟩
  all_goals first
    | exact ⟨ret_e (tup2_eq (by first | rfl | (rw [K0.stop hJ (by omega)]) | (rw [K0.out (hnx2 () (by omega)) (by omega) (by have := hJ.bp; omega)])) rfl)⟩
    | exact ⟨again (p2 - 1, t2 + v1) ⟨hnx2 () (by omega), by omega⟩ (by have h := (hnx2 () (by omega)).bp; dsimp only; omega) ⟨rfl, rfl, rfl, rfl, rfl, rfl, rfl, rfl, rfl, trivial⟩ ⟨[], rfl⟩ ⟨[], rfl⟩⟩
    | exact ⟨again (p - 1, t + v1) ⟨hnx () (by omega), by omega⟩ (by have h := (hnx () (by omega)).bp; dsimp only; omega) ⟨rfl, rfl, rfl, rfl, rfl, rfl, rfl, rfl, rfl, trivial⟩ ⟨[], rfl⟩ ⟨[], rfl⟩⟩
theorem take_round6 {x s v : List Int} {w c e d c2 e2 : Int} (h6 : okD 18446744073709551616 s) (hv : vl 18446744073709551616 s = vl 18446744073709551616 (x.take s.length) - w * vl 18446744073709551616 (v.take s.length) + 18446744073709551616 ^ s.length * (c + e)) (hd : 0 ≤ d ∧ d < 18446744073709551616) (hT : d = rd x s.length - (c + w * rd v s.length) + 18446744073709551616 * c2 - e + 18446744073709551616 * e2) :
    okD 18446744073709551616 (s ++ [d]) ∧ vl 18446744073709551616 (s ++ [d]) = vl 18446744073709551616 (x.take (s.length + 1)) - w * vl 18446744073709551616 (v.take (s.length + 1)) + 18446744073709551616 ^ (s.length + 1) * (c2 + e2) := by
  refine ⟨okD_append.2 ⟨h6, okD_cons.2 ⟨hd, okD_nil _⟩⟩, ?_⟩
  have h := sum_step (B := 18446744073709551616) (vs := 18446744073709551616 ^ s.length * (c + e)) (d := d) (c2 := -(c2 + e2)) (T := rd x s.length - (c + w * rd v s.length) - e) s.length (by omega)
  rw [vl_snoc, vl_take_step, vl_take_step, hv]
  have e1 : w * (vl 18446744073709551616 (v.take s.length) + 18446744073709551616 ^ s.length * rd v s.length) = w * vl 18446744073709551616 (v.take s.length) + 18446744073709551616 ^ s.length * (w * rd v s.length) := by rw [Int.mul_add, Int.mul_left_comm]
  have e2 : (18446744073709551616 : Int) ^ s.length * (rd x s.length - (c + w * rd v s.length) - e) = 18446744073709551616 ^ s.length * rd x s.length - 18446744073709551616 ^ s.length * (c + e) - 18446744073709551616 ^ s.length * (w * rd v s.length) := by
    rw [← Int.mul_sub, ← Int.mul_sub]; congr 1; omega
  rw [e2, Int.mul_neg] at h
  rw [e1]
  omega
theorem give_round6 {x s v : List Int} {c d c2 : Int} (h6 : okD 18446744073709551616 s) (hv : vl 18446744073709551616 s + 18446744073709551616 ^ s.length * c = vl 18446744073709551616 (x.take s.length) + vl 18446744073709551616 (v.take s.length)) (hd : 0 ≤ d ∧ d < 18446744073709551616) (hT : d + 18446744073709551616 * c2 = c + rd x s.length + rd v s.length) :
    okD 18446744073709551616 (s ++ [d]) ∧ vl 18446744073709551616 (s ++ [d]) + 18446744073709551616 ^ (s.length + 1) * c2 = vl 18446744073709551616 (x.take (s.length + 1)) + vl 18446744073709551616 (v.take (s.length + 1)) := by
  refine ⟨okD_append.2 ⟨h6, okD_cons.2 ⟨hd, okD_nil _⟩⟩, ?_⟩
  rw [vl_snoc, sum_step (T := c + rd x s.length + rd v s.length) s.length hT, vl_take_step, vl_take_step, Int.mul_add, Int.mul_add]
  omega
def DigI6 (x v : List Int) (w : Int) (s : List Int) (c e : Int) : Prop := s.length ≤ v.length + 1 ∧ okD 18446744073709551616 s ∧ (0 ≤ c ∧ c < 18446744073709551616) ∧ (0 ≤ e ∧ e ≤ 1) ∧ (s.length = v.length + 1 → c = 0) ∧ vl 18446744073709551616 s = vl 18446744073709551616 (x.take s.length) - w * vl 18446744073709551616 (v.take s.length) + 18446744073709551616 ^ s.length * (c + e)
theorem DigI6.step {x v s : List Int} {w c e d e2 T : Int} (h : DigI6 x v w s c e) (hlt : s.length ≤ v.length) (hw : 0 ≤ w ∧ w < 18446744073709551616) (okv : okD 18446744073709551616 v) (hT0 : T = c + w * rd v s.length) (hd : 0 ≤ d ∧ d < 18446744073709551616) (he2 : 0 ≤ e2 ∧ e2 ≤ 1) (hT : d = rd x s.length - T % 18446744073709551616 - e + 18446744073709551616 * e2) : DigI6 x v w (s ++ [d]) (T / 18446744073709551616) e2 := by
  obtain ⟨h1, h2, h3, h4, h5, h6⟩ := h
  have hv := rd_bd (by decide) okv (s.length : Int)
  have hm := mul_bd64 hw hv
  have el : (s ++ [d]).length = s.length + 1 := by simp
  obtain ⟨g1, g2⟩ := take_round6 (x := x) (v := v) (w := w) (c := c) (e := e) (d := d) (c2 := T / 18446744073709551616) (e2 := e2) h2 h6 hd (by omega)
  refine ⟨by omega, g1, by omega, he2, fun hl => ?_, by rw [el]; exact g2⟩
  have hs : s.length = v.length := by omega
  have hz := rd_out v s.length (by omega)
  rw [hz, Int.mul_zero, Int.add_zero] at hT0
  omega
def GivI6 (y v r : List Int) (c : Int) : Prop := r.length ≤ v.length + 1 ∧ okD 18446744073709551616 r ∧ (0 ≤ c ∧ c ≤ 1) ∧ vl 18446744073709551616 r + 18446744073709551616 ^ r.length * c = vl 18446744073709551616 (y.take r.length) + vl 18446744073709551616 (v.take r.length)
theorem GivI6.step {y v r : List Int} {c T : Int} (h : GivI6 y v r c) (hlt : r.length ≤ v.length) (oky : okD 18446744073709551616 y) (okv : okD 18446744073709551616 v) (hT : T = c + rd y r.length + rd v r.length) : GivI6 y v (r ++ [T % 18446744073709551616]) (T / 18446744073709551616) := by
  obtain ⟨h1, h2, h3, h4⟩ := h
  have hv := rd_bd (by decide) okv (r.length : Int)
  have hy := rd_bd (by decide) oky (r.length : Int)
  have el : (r ++ [T % 18446744073709551616]).length = r.length + 1 := by simp
  obtain ⟨g1, g2⟩ := give_round6 (x := y) (v := v) (c := c) (d := T % 18446744073709551616) (c2 := T / 18446744073709551616) h2 h4 (by omega) (by omega)
  exact ⟨by omega, g1, by omega, by rw [el]; exact g2⟩
theorem guess_ge6 {x v : List Int} {V : Int} {m : Nat} (okx : okD 18446744073709551616 x) (okv : okD 18446744073709551616 v) (vv : vl 18446744073709551616 v = V) (hl : v.length = m + 1) (hx : m + 2 ≤ x.length) (hv : 0 < rd v m) (hU : vl 18446744073709551616 (x.take (m + 2)) < 18446744073709551616 * V) :
    vl 18446744073709551616 (x.take (m + 2)) / V ≤ min ((rd x ((m + 1 : Nat) : Int) * 18446744073709551616 + rd x m) / rd v m) 18446744073709551615 := by
  have hV : 0 < V := by
    have h1 := vl_split 18446744073709551616 v m (by omega)
    have h2 := vl_nonneg (B := 18446744073709551616) (by decide) (okv.take m)
    rw [drop_rd v m (by omega), vl, List.drop_eq_nil_of_le (by omega)] at h1
    simp only [vl] at h1
    have h3 : 0 < (18446744073709551616 : Int) ^ m := Int.pow_pos (by decide)
    have h4 := Int.mul_pos h3 hv
    rw [Int.mul_zero, Int.add_zero] at h1
    rw [← vv]
    omega
  have hU0 := vl_nonneg (B := 18446744073709551616) (by decide) (okx.take (m + 2))
  obtain ⟨q, hq⟩ : ∃ q, q = vl 18446744073709551616 (x.take (m + 2)) / V := ⟨_, rfl⟩
  have hd := Int.mul_ediv_add_emod (vl 18446744073709551616 (x.take (m + 2))) V
  have hm := Int.emod_nonneg (vl 18446744073709551616 (x.take (m + 2))) (show V ≠ 0 by omega)
  have hq0 : 0 ≤ q := by rw [hq]; exact Int.ediv_nonneg hU0 (by omega)
  rw [← hq] at hd ⊢
  have h1 : q ≤ 18446744073709551615 := by
    rcases Int.lt_or_le 18446744073709551615 q with h | h
    · exfalso
      have : V * 18446744073709551616 ≤ V * q := Int.mul_le_mul_of_nonneg_left (by omega) (by omega)
      omega
    · exact h
  have h2 : q ≤ (rd x ((m + 1 : Nat) : Int) * 18446744073709551616 + rd x m) / rd v m := by
    refine Int.le_ediv_of_mul_le hv ?_
    have hp : 0 < (18446744073709551616 : Int) ^ m := Int.pow_pos (by decide)
    have a1 : 18446744073709551616 ^ m * rd v m ≤ V := by
      have h1 := vl_split 18446744073709551616 v m (by omega)
      have h2 := vl_nonneg (B := 18446744073709551616) (by decide) (okv.take m)
      rw [drop_rd v m (by omega), vl, List.drop_eq_nil_of_le (by omega)] at h1
      simp only [vl] at h1
      rw [← vv]
      have : (18446744073709551616 : Int) ^ m * (rd v m + 18446744073709551616 * 0) = 18446744073709551616 ^ m * rd v m := by rw [Int.mul_zero, Int.add_zero]
      omega
    have a2 : vl 18446744073709551616 (x.take (m + 2)) < 18446744073709551616 ^ m * (rd x ((m + 1 : Nat) : Int) * 18446744073709551616 + rd x m + 1) := by
      have h1 := vl_take_step 18446744073709551616 x (m + 1)
      have h2 := vl_take_step 18446744073709551616 x m
      have h3 := vl_lt (B := 18446744073709551616) (by decide) (okx.take m)
      rw [List.length_take, Nat.min_eq_left (by omega)] at h3
      rw [h1, h2, Int.pow_succ]
      rw [Int.mul_add, Int.mul_add, Int.mul_one]
      have e1 : (18446744073709551616 : Int) ^ m * 18446744073709551616 * rd x ((m + 1 : Nat) : Int) = 18446744073709551616 ^ m * (rd x ((m + 1 : Nat) : Int) * 18446744073709551616) := by rw [Int.mul_assoc, Int.mul_comm 18446744073709551616]
      rw [e1]
      omega
    have a3 : q * (18446744073709551616 ^ m * rd v m) ≤ q * V := Int.mul_le_mul_of_nonneg_left a1 hq0
    have a4 : 18446744073709551616 ^ m * (q * rd v m) < 18446744073709551616 ^ m * (rd x ((m + 1 : Nat) : Int) * 18446744073709551616 + rd x m + 1) := by
      rw [Int.mul_left_comm]
      rw [Int.mul_comm V q] at hd
      omega
    have := Int.lt_of_mul_lt_mul_left a4 (Int.le_of_lt hp)
    omega
  omega
theorem ins_row1 {T : TypeId} {p s : List Int} {lo k : Nat} {w d : Int} (hk : k = lo + s.length) (hw : w = d) (h : lo + s.length < p.length) : (some (⟨1, T, .w .u64 ((ins p lo s).set k w)⟩ : Row)) = some ⟨1, T, .w .u64 (ins p lo (s ++ [d]))⟩ := by
  subst hk; subst hw; rw [ins_set _ h]
theorem ins_row {T : TypeId} {p s : List Int} {lo k : Nat} {w d : Int} (hk : k = lo + s.length) (hw : w = d) (h : lo + s.length < p.length) : ([some (⟨1, T, .w .u64 ((ins p lo s).set k w)⟩ : Row)] : List (Option Row)) = [some ⟨1, T, .w .u64 (ins p lo (s ++ [d]))⟩] ++ [] := by
  rw [ins_row1 hk hw h]; rfl
theorem d_trial (hi lo d : Int) (hd : 0 < d ∧ d < 18446744073709551616) (hh : 0 ≤ hi ∧ hi < 18446744073709551616) (hl : 0 ≤ lo ∧ lo < 18446744073709551616) : FC Tryz.prog G 200 [.val (.int .u64 hi), .val (.int .u64 lo), .val (.int .u64 d)] (· = .val (.int .u64 (min ((hi * 18446744073709551616 + lo) / d) 18446744073709551615))) := by
  by_cases hc : hi < d
  · have f1 := b_div (G := G) hi lo d hd ⟨hh.1, hc⟩ hl
    have hq : (hi * 18446744073709551616 + lo) / d < 18446744073709551616 := Int.ediv_lt_of_lt_mul (by omega) (by omega)
    obtain ⟨q, hq2⟩ : ∃ q, q = (hi * 18446744073709551616 + lo) / d := ⟨_, rfl⟩
    rw [← hq2] at f1 hq ⊢
    rw [show min q 18446744073709551615 = q by omega]
    refine ax_i Tryz.func200 Tryz.ntmps200 ?_; intro F hG hO
    rw [← hG] at f1
    repeat' ((try (conv => whnf)); first
 | refine ce f1 ?_
 | with_reducible first | refine ax_s ?_ | (refine ax_f ?_ ?_ <;> try intro hc) | fail)
    exact ⟨ret_e rfl⟩
  · have hq : 18446744073709551616 ≤ (hi * 18446744073709551616 + lo) / d := Int.le_ediv_of_mul_le hd.1 (by omega)
    obtain ⟨q, hq2⟩ : ∃ q, q = (hi * 18446744073709551616 + lo) / d := ⟨_, rfl⟩
    rw [← hq2] at hq ⊢
    rw [show min q 18446744073709551615 = 18446744073709551615 by omega]
    refine ax_i Tryz.func200 Tryz.ntmps200 ?_; intro F hG hO
    repeat' ((try (conv => whnf)); first
 | with_reducible first | refine ax_s ?_ | (refine ax_f ?_ ?_ <;> try intro hc) | fail)
    exact ⟨ret_e rfl⟩
theorem d_takemul (p v : List Int) (lo n : Nat) (w : Int) (hvl : v.length = n) (hl : lo + n + 1 ≤ p.length) (hp : p.length ≤ 1073741824) (ok : okD 18446744073709551616 p) (okv : okD 18446744073709551616 v) (hw : 0 ≤ w ∧ w < 18446744073709551616) :
    PM Tryz.prog G 201 [.arr 0 lo (n + 1), .ws .u64 v, .val (.int .u64 w)] [⟨1, 82, .w .u64 p⟩] fun r rs => ∃ (e : Int) (s : List Int), r = .val (.int .u64 e) ∧ (0 ≤ e ∧ e ≤ 1) ∧ s.length = n + 1 ∧ okD 18446744073709551616 s ∧ vl 18446744073709551616 s = vl 18446744073709551616 ((p.drop lo).take (n + 1)) - w * vl 18446744073709551616 v + 18446744073709551616 ^ (n + 1) * e ∧ rs = [some ⟨1, 82, .w .u64 (ins p lo s)⟩] := by
  subst hvl
  obtain ⟨x, hx⟩ : ∃ x, x = p.drop lo := ⟨_, rfl⟩
  have okx : okD 18446744073709551616 x := by rw [hx]; exact ok.drop lo
  have hxl : v.length + 1 ≤ x.length := by rw [hx, List.length_drop]; omega
  rw [← hx]
  refine PM.intro (X := XX) tok Tryz.func201 rfl Tryz.ntmps201 (by rw [Tryz.results201]) (by kernel_rfl) rfl ?_; intro F hG hO; simp only [List.length_cons, List.length_nil, Nat.zero_add, Nat.reduceAdd] at hO
  repeat' ((try (conv => whnf)); first
 | (with_reducible refine sub64_g (by omega) (by omega) (by omega) ?_)
 | (with_reducible refine add64_g (by omega) (by omega) (by omega) ?_)
 | (refine cg ?_; refine ce (b_mul (rd v (s.length : Int)) w iv hw) ?_)
 | (refine lg ?_; refine loop_g (A := List Int × Int × Int) (fun (s, c, e) => DigI6 x v w s c e ∧ s.length ≤ v.length) (fun (s, c, e) => v.length - s.length) (fun (s, c, e) => [(0, .arr 0 lo (v.length + 1)), (1, .ws .u64 v), (2, .val (.int .u64 w)), (7, .val (.int .u64 c)), (8, .val (.int .u64 e)), (14, .val (.int .i64 (v.length : Int))), (15, .val (.int .i64 (s.length : Int)))]) (fun _ => []) (fun (s, c, e) => [some ⟨1, 82, .w .u64 (ins p lo s)⟩]) ([], 0, 0) tok (fun (s, c, e) => ⟨⟨Nat.one_pos, trivial, trivial, trivial, trivial, trivial, trivial, trivial⟩, trivial, by simp only [List.length_cons, List.length_nil]; omega⟩) ?_ ⟨rfl, rfl, rfl, rfl, rfl, rfl, rfl, trivial⟩ ⟨[], rfl⟩ ⟨[], (by dsimp only; rw [ins_nil]; rfl)⟩ ?_; rotate_left; rintro ⟨s, c, e⟩ ⟨hI, hs⟩; have iI2 := hI; obtain ⟨i1, i2, i3, i4, i5, i6⟩ := iI2; have ix := rd_bd (by decide) okx (s.length : Int); have iv := rd_bd (by decide) okv (s.length : Int); have im := mul_bd64 iv hw; have ig : (ins p lo s).getD (lo + (s.length : Int).toNat) 0 = rd x (s.length : Int) := (by rw [Int.toNat_natCast, ins_get (by omega), ← rd_drop, hx]); have il : (ins p lo s).length = p.length := ins_len (by omega); have ig2 : s.length = v.length → (ins p lo s).getD (lo + (v.length : Int).toNat) 0 = rd x (s.length : Int) := (fun h => by rw [← h]; exact ig))
 | with_reducible first | refine ax_s ?_ | (refine ax_f ?_ ?_ <;> try intro hc) | fail)
  · obtain ⟨T, hT⟩ : ∃ T : Int, T = c + w * rd v (s.length : Int) := ⟨_, rfl⟩
    have hP : rd v (s.length : Int) * w = w * rd v (s.length : Int) := Int.mul_comm _ _
    rw [hP] at im
    have hst := DigI6.step (d := (rd x (s.length : Int) - T % 18446744073709551616 - e) % 18446744073709551616) (e2 := -((rd x (s.length : Int) - T % 18446744073709551616 - e) / 18446744073709551616)) hI (by omega) hw okv hT (by omega) (by omega) (by omega)
    refine ⟨again (s ++ [(rd x (s.length : Int) - T % 18446744073709551616 - e) % 18446744073709551616], T / 18446744073709551616, -((rd x (s.length : Int) - T % 18446744073709551616 - e) / 18446744073709551616)) ⟨hst, by rw [len_snoc]; omega⟩ (by dsimp only; rw [len_snoc]; omega) ⟨rfl, rfl, rfl, iv_eq (by rw [hP]; omega), iv_eq (by rw [hP, ig]; omega), rfl, iv_eq (by rw [len_snoc]; omega), trivial⟩ ⟨[], rfl⟩ ⟨[], by dsimp only; exact ins_row (by omega) (by rw [hP, ig]; omega) (by omega)⟩⟩
  · have hsl : s.length = v.length := by omega
    have hz : rd v (s.length : Int) = 0 := rd_out v s.length (by omega)
    have hst := DigI6.step (T := c) (d := (rd x (s.length : Int) - c - e) % 18446744073709551616) (e2 := -((rd x (s.length : Int) - c - e) / 18446744073709551616)) hI (by omega) hw okv (by rw [hz]; omega) (by omega) (by omega) (by omega)
    obtain ⟨k1, k2, k3, k4, k5, k6⟩ := hst
    have kl := len_snoc s ((rd x (s.length : Int) - c - e) % 18446744073709551616)
    have kc : c / 18446744073709551616 = 0 := by omega
    rw [kl, List.take_of_length_le (l := v) (by omega), hsl, kc, Int.zero_add] at k6
    rw [hsl] at k2 k4 kl
    have ig3 := ig2 hsl
    rw [hsl] at ig3
    refine ⟨ret_m [0] _ [some ⟨1, 82, .w .u64 (ins p lo (s ++ [(rd x (v.length : Int) - c - e) % 18446744073709551616]))⟩] rfl rfl (by simp) (fun i h => one_row h) (congrArg (fun l => [some l]) (ins_row1 (by omega) (by rw [ig3]) (by omega))) ⟨_, _, iv_eq ?_, k4, by omega, k2, k6, rfl⟩⟩
    rw [ig3]
  · exact ⟨⟨Nat.zero_le _, okD_nil _, by decide, by decide, fun _ => rfl, by simp [vl]⟩, Nat.zero_le _⟩
theorem tail_zero6 {l : List Int} {k : Nat} (ok : okD 18446744073709551616 l) (h : vl 18446744073709551616 l < 18446744073709551616 ^ k) : vl 18446744073709551616 (l.drop k) = 0 := by
  rcases Nat.lt_or_ge l.length k with h1 | h1
  · rw [List.drop_eq_nil_of_le (by omega)]; rfl
  · have h2 := vl_split 18446744073709551616 l k h1
    have h3 := vl_nonneg (B := 18446744073709551616) (by decide) (ok.take k)
    have h4 := vl_nonneg (B := 18446744073709551616) (by decide) (ok.drop k)
    have hp : 0 < (18446744073709551616 : Int) ^ k := Int.pow_pos (by decide)
    rcases Int.lt_or_le 0 (vl 18446744073709551616 (l.drop k)) with h5 | h5
    · have : 18446744073709551616 ^ k * 1 ≤ 18446744073709551616 ^ k * vl 18446744073709551616 (l.drop k) := Int.mul_le_mul_of_nonneg_left (by omega) (by omega)
      omega
    · omega
theorem div_step6 {u q s : List Int} {V X d : Int} {j n : Nat} (oku : okD 18446744073709551616 u) (hV : 0 < V) (hVn : V < 18446744073709551616 ^ n) (hj : j + n + 1 ≤ u.length) (hq : j < q.length) (hr : vl 18446744073709551616 (u.drop (j + 1)) < V)
    (hX : X = V * (18446744073709551616 ^ (j + 1) * vl 18446744073709551616 (q.drop (j + 1))) + vl 18446744073709551616 u) :
    vl 18446744073709551616 ((u.drop j).take (n + 1)) < 18446744073709551616 * V ∧ (s.length = n + 1 → vl 18446744073709551616 s = vl 18446744073709551616 ((u.drop j).take (n + 1)) % V → d = vl 18446744073709551616 ((u.drop j).take (n + 1)) / V →
      vl 18446744073709551616 ((ins u j s).drop j) < V ∧ X = V * (18446744073709551616 ^ j * vl 18446744073709551616 ((q.set j d).drop j)) + vl 18446744073709551616 (ins u j s)) := by
  have z1 := tail_zero6 (oku.drop (j + 1)) (Int.lt_trans hr hVn)
  rw [List.drop_drop] at z1
  have w1 := vl_split 18446744073709551616 (u.drop j) (n + 1) (by rw [List.length_drop]; omega)
  rw [List.drop_drop, show j + (n + 1) = j + 1 + n by omega, z1, Int.mul_zero, Int.add_zero] at w1
  have w2 := drop_rd u j (by omega)
  have bu := rd_bd (by decide) oku (j : Int)
  have w3 : vl 18446744073709551616 (u.drop j) = rd u j + 18446744073709551616 * vl 18446744073709551616 (u.drop (j + 1)) := by rw [w2]; rfl
  rw [← w1]
  refine ⟨by omega, fun hs hv hd => ?_⟩
  have hle : j + s.length ≤ u.length := by omega
  have i1 := ins_drop hle
  have i2 := ins_vl 18446744073709551616 hle
  rw [hs, show j + (n + 1) = j + 1 + n by omega, z1, Int.mul_zero, Int.add_zero] at i2
  have i3 := ins_mid hle
  have i4 := vl_split 18446744073709551616 ((ins u j s).drop j) s.length (by rw [List.length_drop, ins_len hle]; omega)
  rw [i3, List.drop_drop, i1, hs, show j + (n + 1) = j + 1 + n by omega, z1, Int.mul_zero, Int.add_zero] at i4
  have hm := Int.emod_lt_of_pos (vl 18446744073709551616 (u.drop j)) hV
  refine ⟨by rw [i4, hv]; exact hm, ?_⟩
  have e2 : (q.set j d).drop j = d :: q.drop (j + 1) := by
    rw [List.drop_eq_getElem_cons (by simp; omega)]
    simp
    exact List.drop_set_of_lt (by omega)
  have u1 := vl_split 18446744073709551616 u j (by omega)
  have hdm := Int.mul_ediv_add_emod (vl 18446744073709551616 (u.drop j)) V
  rw [e2, i2]
  simp only [vl]
  rw [hX, hv]
  rw [← hd] at hdm
  rw [u1]
  have e3 : V * ((18446744073709551616 : Int) ^ j * (d + 18446744073709551616 * vl 18446744073709551616 (q.drop (j + 1)))) = 18446744073709551616 ^ j * (V * d) + V * (18446744073709551616 ^ (j + 1) * vl 18446744073709551616 (q.drop (j + 1))) := by
    rw [Int.mul_add, Int.mul_add, Int.mul_left_comm V, Int.pow_succ, Int.mul_assoc]
  rw [e3]
  have e4 : (18446744073709551616 : Int) ^ j * vl 18446744073709551616 (u.drop j) = 18446744073709551616 ^ j * (V * d) + 18446744073709551616 ^ j * (vl 18446744073709551616 (u.drop j) % V) := by rw [← Int.mul_add, hdm]
  rw [e4]
  omega
theorem d_give (p v : List Int) (lo n : Nat) (hvl : v.length = n) (hl : lo + n + 1 ≤ p.length) (hp : p.length ≤ 1073741824) (ok : okD 18446744073709551616 p) (okv : okD 18446744073709551616 v) :
    PM Tryz.prog G 202 [.arr 0 lo (n + 1), .ws .u64 v] [⟨1, 82, .w .u64 p⟩] fun r rs => ∃ (c : Int) (s : List Int), r = .val (.int .u64 c) ∧ (0 ≤ c ∧ c ≤ 1) ∧ s.length = n + 1 ∧ okD 18446744073709551616 s ∧ vl 18446744073709551616 s + 18446744073709551616 ^ (n + 1) * c = vl 18446744073709551616 ((p.drop lo).take (n + 1)) + vl 18446744073709551616 v ∧ rs = [some ⟨1, 82, .w .u64 (ins p lo s)⟩] := by
  subst hvl
  obtain ⟨x, hx⟩ : ∃ x, x = p.drop lo := ⟨_, rfl⟩
  have okx : okD 18446744073709551616 x := by rw [hx]; exact ok.drop lo
  have hxl : v.length + 1 ≤ x.length := by rw [hx, List.length_drop]; omega
  rw [← hx]
  refine PM.intro (X := XX) tok Tryz.func202 rfl Tryz.ntmps202 (by rw [Tryz.results202]) (by kernel_rfl) rfl ?_; intro F hG hO; simp only [List.length_cons, List.length_nil, Nat.zero_add, Nat.reduceAdd] at hO
  repeat' ((try (conv => whnf)); first
 | (with_reducible refine add64_g (by omega) (by omega) (by omega) ?_)
 | (refine lg ?_; refine loop_g (A := List Int × Int) (fun (s, c) => GivI6 x v s c ∧ s.length ≤ v.length) (fun (s, c) => v.length - s.length) (fun (s, c) => [(0, .arr 0 lo (v.length + 1)), (1, .ws .u64 v), (5, .val (.int .u64 c)), (8, .val (.int .i64 (v.length : Int))), (9, .val (.int .i64 (s.length : Int)))]) (fun _ => []) (fun (s, c) => [some ⟨1, 82, .w .u64 (ins p lo s)⟩]) ([], 0) tok (fun (s, c) => ⟨⟨Nat.one_pos, trivial, trivial, trivial, trivial, trivial⟩, trivial, by simp only [List.length_cons, List.length_nil]; omega⟩) ?_ ⟨rfl, rfl, rfl, rfl, rfl, trivial⟩ ⟨[], rfl⟩ ⟨[], (by dsimp only; rw [ins_nil]; rfl)⟩ ?_; rotate_left; rintro ⟨s, c⟩ ⟨hI, hs⟩; have iI2 := hI; obtain ⟨i1, i2, i3, i4⟩ := iI2; have ix := rd_bd (by decide) okx (s.length : Int); have iv := rd_bd (by decide) okv (s.length : Int); have ig : (ins p lo s).getD (lo + (s.length : Int).toNat) 0 = rd x (s.length : Int) := (by rw [Int.toNat_natCast, ins_get (by omega), ← rd_drop, hx]); have il : (ins p lo s).length = p.length := ins_len (by omega); have iz := gd_bd (by decide) (ins_okD (lo := lo) ok i2) (lo + (v.length : Int).toNat); have ig2 : Unit → s.length = v.length → (ins p lo s).getD (lo + (v.length : Int).toNat) 0 = rd x (s.length : Int) := (fun _ h => by rw [← h]; exact ig))
 | (refine dG (id := 5) dg66 ?_)
 | with_reducible first | refine ax_s ?_ | (refine ax_f ?_ ?_ <;> try intro hc) | fail)
  · have hst := GivI6.step (T := c + rd x (s.length : Int) + rd v (s.length : Int)) hI (by omega) okx okv rfl
    refine ⟨again (s ++ [(c + rd x (s.length : Int) + rd v (s.length : Int)) % 18446744073709551616], (c + rd x (s.length : Int) + rd v (s.length : Int)) / 18446744073709551616) ⟨hst, by rw [len_snoc]; omega⟩ (by dsimp only; rw [len_snoc]; omega) ⟨rfl, rfl, iv_eq (by rw [ig]; omega), rfl, iv_eq (by rw [len_snoc]; omega), trivial⟩ ⟨[], rfl⟩ ⟨[], by dsimp only; exact ins_row (by omega) (by rw [ig]; omega) (by omega)⟩⟩
  · have hsl : s.length = v.length := by omega
    have hz : rd v (s.length : Int) = 0 := rd_out v s.length (by omega)
    have hst := GivI6.step (T := c + rd x (s.length : Int)) hI (by omega) okx okv (by rw [hz]; omega)
    obtain ⟨k1, k2, k3, k4⟩ := hst
    have kl := len_snoc s ((c + rd x (s.length : Int)) % 18446744073709551616)
    rw [kl, List.take_of_length_le (l := v) (by omega), hsl] at k4
    rw [hsl] at k2 k3 kl
    have ig3 := ig2 () hsl
    rw [hsl] at ig3
    refine ⟨ret_m [0] _ [some ⟨1, 82, .w .u64 (ins p lo (s ++ [(c + rd x (v.length : Int)) % 18446744073709551616]))⟩] rfl rfl (by simp) (fun i h => one_row h) (congrArg (fun l => [some l]) (ins_row1 (by omega) (by rw [ig3]; omega) (by omega))) ⟨_, _, iv_eq ?_, k3, by omega, k2, k4, rfl⟩⟩
    rw [ig3]
    omega
  · exact ⟨⟨Nat.zero_le _, okD_nil _, by decide, by simp [vl]⟩, Nat.zero_le _⟩
def DivJ (X V : Int) (L n : Nat) (u q : List Int) (m : Nat) : Prop := u.length = L + n ∧ okD 18446744073709551616 u ∧ q.length = L ∧ okD 18446744073709551616 q ∧ m ≤ L ∧ vl 18446744073709551616 (u.drop m) < V ∧ X = V * (18446744073709551616 ^ m * vl 18446744073709551616 (q.drop m)) + vl 18446744073709551616 u
theorem DivJ.step {X V : Int} {L n : Nat} {u q : List Int} {m : Nat} (h : DivJ X V L n u q m) (hV : 0 < V) (hVn : V < 18446744073709551616 ^ n) (hm : 0 < m) :
    vl 18446744073709551616 ((u.drop (m - 1)).take (n + 1)) < 18446744073709551616 * V ∧ ∀ w d, okD 18446744073709551616 w → w.length = n + 1 → vl 18446744073709551616 w = vl 18446744073709551616 ((u.drop (m - 1)).take (n + 1)) % V → d = vl 18446744073709551616 ((u.drop (m - 1)).take (n + 1)) / V → DivJ X V L n (ins u (m - 1) w) (q.set (m - 1) d) (m - 1) := by
  obtain ⟨i1, i2, i3, i4, i5, i6, i7⟩ := h
  have e : m - 1 + 1 = m := by omega
  have hst := fun w d => div_step6 (X := X) (V := V) (s := w) (d := d) (j := m - 1) (n := n) (u := u) (q := q) i2 hV hVn (by omega) (by omega) (by rw [e]; exact i6) (by rw [e]; exact i7)
  have h1 := (hst [] 0).1
  refine ⟨h1, fun w d k1 k2 k3 k4 => ?_⟩
  obtain ⟨g1, g2⟩ := (hst w d).2 k2 k3 k4
  have hu := i2.drop (m - 1) |>.take (n + 1)
  have hd : 0 ≤ d ∧ d < 18446744073709551616 := by
    rw [k4]
    have := vl_nonneg (B := 18446744073709551616) (by decide) hu
    exact ⟨Int.ediv_nonneg this (Int.le_of_lt hV), Int.ediv_lt_of_lt_mul hV h1⟩
  exact ⟨by rw [ins_len (by omega), i1], ins_okD i2 k1, by rw [List.length_set, i3], okD_set i4 hd, by omega, g1, g2⟩
theorem DivJ.done {X V : Int} {L n : Nat} {u q : List Int} (h : DivJ X V L n u q 0) (hV : 0 < V) (hVn : V < 18446744073709551616 ^ n) : vl 18446744073709551616 q = X / V ∧ vl 18446744073709551616 (u.take n) = X % V := by
  obtain ⟨i1, i2, i3, i4, i5, i6, i7⟩ := h
  rw [List.drop_zero] at i6 i7
  rw [Int.pow_zero, Int.one_mul] at i7
  have z := tail_zero6 (k := n) i2 (Int.lt_trans i6 hVn)
  have w := vl_split 18446744073709551616 u n (by omega)
  rw [z, Int.mul_zero, Int.add_zero] at w
  rw [← w]
  have h0 := vl_nonneg (B := 18446744073709551616) (by decide) i2
  rw [i7, Int.add_comm]
  constructor
  · rw [Int.add_mul_ediv_left _ _ (by omega), Int.ediv_eq_zero_of_lt h0 i6, Int.zero_add]
  · rw [Int.add_mul_emod_self_left, Int.emod_eq_of_lt h0 i6]
theorem DivJ.init {V : Int} {L n : Nat} {u : List Int} (h1 : u.length = L + n) (ok : okD 18446744073709551616 u) (h2 : vl 18446744073709551616 (u.drop L) < V) : DivJ (vl 18446744073709551616 u) V L n u (List.replicate L 0) L := by
  refine ⟨h1, ok, by simp, fun x hx => by rw [List.eq_of_mem_replicate hx]; decide, Nat.le_refl _, h2, ?_⟩
  rw [List.drop_eq_nil_of_le (by simp)]
  simp only [vl]
  rw [Int.mul_zero, Int.mul_zero, Int.zero_add]
theorem arr_eq {q a b a' b' : Nat} (h1 : a = a') (h2 : b = b') : PV.arr q a b = PV.arr q a' b' := by rw [h1, h2]
theorem d_guess {u v : List Int} {j m : Nat} {V : Int} (hi lo d : Int) (okx : okD 18446744073709551616 u) (okv : okD 18446744073709551616 v) (vv : vl 18446744073709551616 v = V) (hl : v.length = m + 1) (hx : j + m + 2 ≤ u.length) (ht : 0 < rd v m) (hU : vl 18446744073709551616 ((u.drop j).take (m + 2)) < 18446744073709551616 * V) (e1 : hi = u.getD (j + m + 1) 0) (e2 : lo = u.getD (j + m) 0) (e3 : d = rd v m) :
    FC Tryz.prog G 200 [.val (.int .u64 hi), .val (.int .u64 lo), .val (.int .u64 d)] fun r => ∃ w : Int, r = .val (.int .u64 w) ∧ (0 ≤ w ∧ w < 18446744073709551616) ∧ vl 18446744073709551616 ((u.drop j).take (m + 2)) / V ≤ w := by
  have b1 := gd_bd (by decide) okx (j + m + 1)
  have b2 := gd_bd (by decide) okx (j + m)
  have b3 := rd_bd (by decide) okv (m : Int)
  have hg := guess_ge6 (m := m) (okx.drop j) okv vv hl (by rw [List.length_drop]; omega) ht hU
  rw [rd_drop, rd_drop, show j + (m + 1) = j + m + 1 by omega, ← gd_rd, ← gd_rd, ← e1, ← e2, ← e3] at hg
  rw [← e1] at b1
  rw [← e2] at b2
  rw [← e3] at b3 ht
  have f1 := d_trial (G := G) hi lo d ⟨ht, b3.2⟩ b1 b2
  refine f1.mono fun r h => ⟨_, h, ?_, hg⟩
  have : 0 ≤ (hi * 18446744073709551616 + lo) / d := Int.ediv_nonneg (by omega) (by omega)
  omega
theorem d_long (u v : List Int) (L m : Nat) (V : Int) (hvl : v.length = m + 1) (hu : u.length = L + (m + 1)) (hL : 0 < L) (hp : u.length ≤ 1073741824) (ok : okD 18446744073709551616 u) (okv : okD 18446744073709551616 v) (vv : vl 18446744073709551616 v = V) (ht : 0 < rd v m) (hr : vl 18446744073709551616 (u.drop L) < V) :
    PM Tryz.prog G 180 [.arr 0 0 (L + (m + 1)), .ws .u64 v] [⟨1, 82, .w .u64 u⟩] fun r rs => r = .arr 1 0 L ∧ ∃ u2 q : List Int, u2.length = L + (m + 1) ∧ okD 18446744073709551616 u2 ∧ q.length = L ∧ okD 18446744073709551616 q ∧ vl 18446744073709551616 q = vl 18446744073709551616 u / V ∧ vl 18446744073709551616 (u2.take (m + 1)) = vl 18446744073709551616 u % V ∧ rs = [some ⟨1, 82, .w .u64 u2⟩, some ⟨1, 82, .w .u64 q⟩] := by
  have hVn : V < 18446744073709551616 ^ (m + 1) := by
    have := vl_lt (B := 18446744073709551616) (by decide) okv
    rw [hvl, vv] at this
    exact this
  have hV : 0 < V := by
    have h1 := vl_split 18446744073709551616 v m (by omega)
    have h2 := vl_nonneg (B := 18446744073709551616) (by decide) (okv.take m)
    rw [drop_rd v m (by omega), vl, List.drop_eq_nil_of_le (by omega)] at h1
    simp only [vl] at h1
    have h3 : 0 < (18446744073709551616 : Int) ^ m := Int.pow_pos (by decide)
    have h4 := Int.mul_pos h3 ht
    rw [Int.mul_zero, Int.add_zero] at h1
    rw [← vv]
    omega
  have hini := DivJ.init (V := V) (n := m + 1) hu ok hr
  obtain ⟨X, hX⟩ : ∃ X, X = vl 18446744073709551616 u := ⟨_, rfl⟩
  rw [← hX] at hini ⊢
  have hP : (18446744073709551616 : Int) ^ (m + 2) = 18446744073709551616 ^ (m + 1 + 1) := rfl
  refine PM.intro (X := XX) tok Tryz.func180 rfl Tryz.ntmps180 (by rw [Tryz.results180]) (by kernel_rfl) rfl ?_; intro F hG hO; simp only [List.length_cons, List.length_nil, Nat.zero_add, Nat.reduceAdd] at hO
  repeat' ((try (conv => whnf)); first
 | (refine lg ?_; refine loop_g (A := List Int × Int) (fun (s2, w2) => s2.length = m + 2 ∧ okD 18446744073709551616 s2 ∧ (qq + 1 ≤ w2 ∧ w2 < 18446744073709551616) ∧ vl 18446744073709551616 s2 = U - w2 * V + 18446744073709551616 ^ (m + 2)) (fun (s2, w2) => w2.toNat) (fun (s2, w2) => [(0, .arr 0 0 (L + (m + 1))), (1, .ws .u64 v), (5, .val (.int .i64 ((m + 1 : Nat) : Int))), (6, .arr 1 0 L), (7, .val (.int .i64 ((k : Int) - 1))), (8, .val (.int .u64 w2)), (9, .arr 0 (k - 1) (m + 2))]) (fun _ => []) (fun (s2, w2) => [some ⟨1, 82, .w .u64 (ins p (k - 1) s2)⟩, some ⟨1, 82, .w .u64 q⟩]) (s, w) tok (fun (s2, w2) => ⟨⟨Nat.zero_lt_succ _, trivial, trivial, Nat.lt_succ_self 1, trivial, trivial, Nat.zero_lt_succ _, trivial⟩, trivial, by simp only [List.length_cons, List.length_nil]; omega⟩) ?_ ⟨rfl, rfl, iv_eq (by omega), rfl, rfl, rfl, arr_eq (by omega) (by omega), trivial⟩ ⟨[], rfl⟩ ⟨[], rfl⟩ ?_; rotate_left; rintro ⟨s2, w2⟩ ⟨j1, j2, j3, j4⟩)
 | (refine lg ?_; refine loop_g (A := List Int × List Int × Nat) (fun (p, q, k) => DivJ X V L (m + 1) p q k) (fun (p, q, k) => k) (fun (p, q, k) => [(0, .arr 0 0 (L + (m + 1))), (1, .ws .u64 v), (5, .val (.int .i64 ((m + 1 : Nat) : Int))), (6, .arr 1 0 L), (7, .val (.int .i64 ((k : Int) - 1)))]) (fun _ => []) (fun (p, q, k) => [some ⟨1, 82, .w .u64 p⟩, some ⟨1, 82, .w .u64 q⟩]) (u, List.replicate L 0, L) tok (fun (p, q, k) => ⟨⟨Nat.zero_lt_succ _, trivial, trivial, Nat.lt_succ_self 1, trivial, trivial⟩, trivial, by simp only [List.length_cons, List.length_nil]; omega⟩) ?_ ⟨rfl, rfl, iv_eq (by omega), arr_eq rfl (by omega), iv_eq (by omega), trivial⟩ ⟨[], rfl⟩ ⟨[], (by rw [show (((L + (m + 1) : Nat) : Int) - (v.length : Int)).toNat = L by omega]; rfl)⟩ ?_; rotate_left; rintro ⟨p, q, k⟩ hI; have hI2 := hI; obtain ⟨i1, i2, i3, i4, i5, i6, i7⟩ := hI2)
 | (refine cg ?_; have hst := hI.step hV hVn (by omega); refine call_pc (d_guess (u := p) (v := v) (j := k - 1) (m := m) _ _ _ i2 okv vv hvl (by omega) ht hst.1 (by congr 1; omega) (by congr 1; omega) (by congr 1; omega)) rfl ?_; rintro _ ⟨w, rfl, hw, hge⟩; obtain ⟨U, hU⟩ : ∃ U, U = vl 18446744073709551616 ((p.drop (k - 1)).take (m + 2)) := ⟨_, rfl⟩; obtain ⟨qq, hqq⟩ : ∃ qq, qq = U / V := ⟨_, rfl⟩; rw [← hU, ← hqq] at hge; have hst1 := hst.1; have hst2 := hst.2; rw [← hU] at hst1; rw [← hU, ← hqq] at hst2; have hqq0 : 0 ≤ qq := (by rw [hqq, hU]; exact Int.ediv_nonneg (vl_nonneg (by decide) ((i2.drop _).take _)) (by omega)))
 | (refine cg ?_; rw [show 0 + ((k : Int) - 1).toNat = k - 1 by omega]; (first | rw [show ((k : Int) - 1 + ((m + 1 : Nat) : Int) + 1).toNat - ((k : Int) - 1).toNat = m + 2 by omega] | skip); refine call_pm [0] (d_takemul p v (k - 1) (m + 1) w hvl (by omega) (by omega) i2 okv hw) rfl rfl rfl (by simp) ?_; rintro r rs ⟨e, s, rfl, he, hs, oks, vs, rfl⟩; rw [vv, ← hU] at vs; have je := dig_end hV hqq hge ⟨vl_nonneg (B := 18446744073709551616) (by decide) oks, (by have := vl_lt (B := 18446744073709551616) (by decide) oks; rw [hs] at this; exact this)⟩ vs he)
 | (refine cg ?_; refine call_pm [0] (d_give (ins p (k - 1) s2) v (k - 1) (m + 1) hvl (by rw [ins_len (by omega)]; omega) (by rw [ins_len (by omega)]; omega) (ins_okD i2 j2) okv) rfl rfl rfl (by simp) ?_; rintro r rs ⟨c, s3, rfl, hc3, hs3, oks3, vs3, rfl⟩; have hmid := ins_mid (p := p) (s := s2) (lo := k - 1) (by omega); rw [j1] at hmid; rw [hmid, vv, j4, hP] at vs3; rw [ins_ins (by omega) (by omega)])
 | (refine dG (id := 6) [[0, 1, 2, 3, 4, 5, 6, 7, 8, 9, 10, 11, 12, 13, 14, 15, 16, 17, 18, 19]] ?_)
 | with_reducible first | refine ax_s ?_ | (refine ax_f ?_ ?_ <;> try intro hc) | fail)
  · obtain ⟨f1, f2⟩ := je.1 (by omega)
    refine ⟨again (ins p (k - 1) s, q.set (k - 1) w, k - 1) (hst2 s w oks hs f2 f1) (by dsimp only; omega) ⟨rfl, rfl, rfl, rfl, iv_eq (by omega), trivial⟩ ⟨[], rfl⟩ ⟨[], ?_⟩⟩
    dsimp only
    rw [show 0 + ((k : Int) - 1).toNat = k - 1 by omega]; rfl
  · have hb3 := vl_lt (B := 18446744073709551616) (by decide) oks3
    have hb4 := vl_nonneg (B := 18446744073709551616) (by decide) oks3
    rw [hs3] at hb3
    rw [hc, Int.mul_one] at vs3
    obtain ⟨f1, f2⟩ := (dig_end (w := w2 - 1) (e := 0) hV hqq (by omega) ⟨hb4, hb3⟩ (by rw [Int.sub_mul, Int.one_mul, Int.mul_zero]; omega) (by decide)).1 rfl
    refine ⟨again (ins p (k - 1) s3, q.set (k - 1) (w2 - 1), k - 1) (hst2 s3 (w2 - 1) oks3 hs3 f2 f1) (by dsimp only; omega) ⟨rfl, rfl, rfl, rfl, iv_eq (by omega), trivial⟩ ⟨[], rfl⟩ ⟨[], ?_⟩⟩
    dsimp only
    rw [show 0 + ((k : Int) - 1).toNat = k - 1 by omega]; rfl
  · have hb3 := vl_lt (B := 18446744073709551616) (by decide) oks3
    have hb4 := vl_nonneg (B := 18446744073709551616) (by decide) oks3
    rw [hs3] at hb3
    rw [show c = 0 by omega, Int.mul_zero, Int.add_zero] at vs3
    have vs4 : vl 18446744073709551616 s3 = U - (w2 - 1) * V + 18446744073709551616 ^ (m + 1 + 1) := by
      rw [Int.sub_mul, Int.one_mul]; omega
    have f1 := (dig_end (w := w2 - 1) (e := 1) hV hqq (by omega) ⟨hb4, hb3⟩ (by rw [Int.mul_one]; exact vs4) (by decide)).2 (by decide)
    refine ⟨again (s3, w2 - 1) ⟨hs3, oks3, ⟨f1, by omega⟩, hP ▸ vs4⟩ (by dsimp only; omega) ⟨rfl, rfl, rfl, rfl, rfl, rfl, rfl, trivial⟩ ⟨[], rfl⟩ ⟨[], rfl⟩⟩
  · refine ⟨hs, oks, ⟨je.2 (by omega), hw.2⟩, ?_⟩
    rw [vs, show e = 1 by omega, Int.mul_one]
  · obtain rfl : k = 0 := by omega
    have hdn := hI.done hV hVn
    refine ⟨ret_m [0, 1] (.arr 1 0 L) [some ⟨1, 82, .w .u64 p⟩, some ⟨1, 82, .w .u64 q⟩] rfl rfl (by simp) (fun i h => ?_) rfl ⟨rfl, p, q, i1, i2, i3, i4, hdn.1, hdn.2, rfl⟩⟩
    have : i = 0 := by simp at h; omega
    subst this; rfl
  · exact hini
theorem copy_all (l : List Int) : (List.replicate l.length (0 : Int)).take 0 ++ l.take l.length ++ (List.replicate l.length (0 : Int)).drop (0 + min l.length l.length) = l := by
  rw [copy_row l l.length (Nat.le_refl _), Nat.sub_self]
  simp
theorem n_norm (a : List Int) (ok : okD 18446744073709551616 a) (hl : a.length ≤ 1152921504606846976) : FC Tryz.prog G 176 [.ws .u64 a] (· = natT (vl 18446744073709551616 a).toNat) := by
  have f1 := n_trim (G := G) a hl
  rw [trim64 ok] at f1
  obtain ⟨X, hX⟩ : ∃ X, X = (vl 18446744073709551616 a).toNat := ⟨_, rfl⟩
  rw [← hX] at f1 ⊢
  have hl : (d64 X).length = L64 X := rfl
  have hcp := copy_all (d64 X)
  refine ax_i Tryz.func176 Tryz.ntmps176 ?_; intro F hG hO
  rw [← hG] at f1
  repeat' ((try (conv => whnf)); first
 | refine ce f1 ?_
 | with_reducible first | refine ax_s ?_ | (refine ax_f ?_ ?_ <;> try intro hc) | fail)
  · exact ⟨ret_l _ (lp_natE 5) (natT_no (by omega)).symm⟩
  · refine ⟨fz_all (by simp) (ret_e ?_)⟩
    rw [natT_ok (by omega)]
    simp [natR]
def DwI (X w : Nat) (q : List Int) (m : Nat) (left : Int) : Prop := q.length = L64 X ∧ okD 18446744073709551616 q ∧ m ≤ L64 X ∧ left = ((X / 2 ^ (64 * m) % w : Nat) : Int) ∧ vl 18446744073709551616 (q.drop m) = ((X / 2 ^ (64 * m) / w : Nat) : Int)
theorem DwI.init (X w : Nat) : DwI X w (List.replicate (L64 X) 0) (L64 X) 0 := by
  have h := L64_lt X
  refine ⟨by simp, fun x hx => by rw [List.eq_of_mem_replicate hx]; decide, Nat.le_refl _, ?_, ?_⟩
  · rw [Nat.div_eq_of_lt h, Nat.zero_mod]; rfl
  · rw [Nat.div_eq_of_lt h, Nat.zero_div, List.drop_eq_nil_of_le (by simp)]; rfl
theorem DwI.step {X w : Nat} {q : List Int} {m : Nat} {left : Int} (h : DwI X w q m left) (hw : 0 < w) (hwb : w < 18446744073709551616) (hm : 0 < m) : (0 ≤ left ∧ left < w) ∧ DwI X w (q.set (m - 1) ((left * 18446744073709551616 + rd (d64 X) ((m - 1 : Nat) : Int)) / w)) (m - 1) ((left * 18446744073709551616 + rd (d64 X) ((m - 1 : Nat) : Int)) % w) := by
  obtain ⟨h1, h2, h3, h4, h5⟩ := h
  obtain ⟨Y, hY⟩ : ∃ Y, Y = X / 2 ^ (64 * m) := ⟨_, rfl⟩
  obtain ⟨a, ha⟩ : ∃ a, a = X / 2 ^ (64 * (m - 1)) % 18446744073709551616 := ⟨_, rfl⟩
  have ha2 : a < 18446744073709551616 := by rw [ha]; exact Nat.mod_lt _ (by decide)
  have e1 : X / 2 ^ (64 * (m - 1)) = 18446744073709551616 * Y + a := by
    have : X / 2 ^ (64 * m) = X / 2 ^ (64 * (m - 1)) / 18446744073709551616 := by
      rw [Nat.div_div_eq_div_mul, show (18446744073709551616 : Nat) = 2 ^ 64 by decide, ← Nat.pow_add, show 64 * (m - 1) + 64 = 64 * m by omega]
    rw [hY, this, ha]
    omega
  rw [d64_rd, ← ha, h4, ← hY]
  have hm2 := Nat.mod_lt Y hw
  obtain ⟨d, hd⟩ : ∃ d, d = (Y % w * 18446744073709551616 + a) / w := ⟨_, rfl⟩
  have hd2 : d < 18446744073709551616 := by
    rw [hd, Nat.div_lt_iff_lt_mul hw]
    have : (Y % w + 1) * 18446744073709551616 ≤ w * 18446744073709551616 := Nat.mul_le_mul_right _ hm2
    omega
  have c1 : ((Y % w : Nat) : Int) * 18446744073709551616 + (a : Int) = ((Y % w * 18446744073709551616 + a : Nat) : Int) := by simp
  have c2 : ((Y % w : Nat) : Int) * 18446744073709551616 + ((a : Nat) : Int) = ((Y % w * 18446744073709551616 + a : Nat) : Int) := c1
  rw [c1, ← Int.natCast_ediv, ← Int.natCast_emod, ← hd]
  have e2 : 18446744073709551616 * Y + a = w * (18446744073709551616 * (Y / w)) + (Y % w * 18446744073709551616 + a) := by
    have := Nat.div_add_mod Y w
    rw [Nat.mul_left_comm]
    omega
  refine ⟨by omega, by rw [List.length_set, h1], okD_set h2 (by omega), by omega, ?_, ?_⟩
  · rw [e1, e2, Nat.mul_add_mod]
  · rw [e1, e2, Nat.mul_add_div hw, ← hd]
    have e3 : (q.set (m - 1) (d : Int)).drop (m - 1) = (d : Int) :: q.drop m := by
      rw [List.drop_eq_getElem_cons (by simp; omega)]
      simp
      rw [show m - 1 + 1 = m by omega]
      exact List.drop_set_of_lt (by omega)
    rw [e3, vl, h5, ← hY]
    simp
    omega
theorem DwI.done {X w : Nat} {q : List Int} {left : Int} (h : DwI X w q 0 left) : (vl 18446744073709551616 q).toNat = X / w ∧ left = ((X % w : Nat) : Int) := by
  obtain ⟨h1, h2, h3, h4, h5⟩ := h
  rw [Nat.mul_zero, Nat.pow_zero, Nat.div_one] at h4 h5
  rw [List.drop_zero] at h5
  exact ⟨by rw [h5, Int.toNat_natCast], h4⟩
theorem n_divword (X : Nat) (w : Nat) (hX : L64 X ≤ 8192) (hw : 0 < w) (hwb : w < 18446744073709551616) : FC Tryz.prog G 177 [.ws .u64 (d64 X), .val (.int .u64 (w : Int))] (· = .tup [.ws .u64 (d64 (X / w)), .val (.int .u64 ((X % w : Nat) : Int)), .val (.int .i64 0)]) := by
  have fa := n_formN (G := G) X hX
  have hl : (d64 X).length = L64 X := rfl
  have hq8 : L64 (X / w) ≤ 8192 := Nat.le_trans (L64_mono (Nat.div_le_self _ _)) hX
  refine ax_i Tryz.func177 Tryz.ntmps177 ?_; intro F hG hO
  rw [← hG] at fa
  repeat' ((try (conv => whnf)); first
 | refine ce fa ?_
 | (refine lg ?_; refine loop_g (A := List Int × Int × Nat) (fun (q, c, m) => DwI X w q m c) (fun (q, c, m) => m) (fun (q, c, m) => [(0, .ws .u64 (d64 X)), (1, .val (.int .u64 (w : Int))), (7, .arr 0 0 (L64 X)), (8, .val (.int .u64 c)), (9, .val (.int .i64 ((m : Int) - 1)))]) (fun _ => []) (fun (q, c, m) => [some ⟨1, 82, .w .u64 q⟩]) (List.replicate (L64 X) 0, 0, L64 X) tok (fun (q, c, m) => ⟨⟨trivial, trivial, Nat.one_pos, trivial, trivial, trivial⟩, trivial, by simp only [List.length_cons, List.length_nil]; omega⟩) ?_ ⟨rfl, rfl, congrArg (PV.arr 0 0) (by omega), rfl, iv_eq (by omega), trivial⟩ ⟨[], rfl⟩ ⟨[], (by dsimp only; rw [hl, Int.toNat_natCast]; rfl)⟩ ?_; rotate_left; rintro ⟨q, c, m⟩ hI; have hI2 := hI; obtain ⟨i1, i2, i3, i4, i5⟩ := hI2)
 | (refine cg ?_; have hst := hI.step hw hwb (by omega); have hrd := rd_bd (by decide) (d64_ok X).1 ((m - 1 : Nat) : Int); rw [show (m : Int) - 1 = ((m - 1 : Nat) : Int) by omega]; refine ce (b_div c (rd (d64 X) ((m - 1 : Nat) : Int)) w (by omega) hst.1 hrd) ?_)
 | (refine cg ?_; obtain rfl : m = 0 := (by omega); have hdn := hI.done; refine call_fz 0 (A := q) (B := q) rfl rfl (by omega) (by rw [List.drop_zero]; exact List.take_of_length_le (by omega)) (by omega) ?_; refine ce (n_told q i2 (by omega)) ?_; rw [hdn.1, natT_ok hq8]; unfold natR)
 | with_reducible first | refine ax_s ?_ | (refine ax_f ?_ ?_ <;> try intro hc) | fail)
  · have hst := hI.step hw hwb (by omega)
    refine ⟨again (q.set (m - 1) ((c * 18446744073709551616 + rd (d64 X) ((m - 1 : Nat) : Int)) / w), (c * 18446744073709551616 + rd (d64 X) ((m - 1 : Nat) : Int)) % w, m - 1) hst.2 (by dsimp only; omega) ⟨rfl, rfl, rfl, rfl, iv_eq (by omega), trivial⟩ ⟨[], rfl⟩ ⟨[], ?_⟩⟩
    dsimp only
    rw [show 0 + ((m - 1 : Nat) : Int).toNat = m - 1 by omega]; rfl
  · exact ⟨ret_e (by rw [hdn.2])⟩
  · exact DwI.init X w
theorem d_shifted (X n : Nat) (s : Nat) (hs : s < 64) (hn : L64 X ≤ n) (hnb : n ≤ 1073741824) (hlt : X * 2 ^ s < 2 ^ (64 * n)) : PM Tryz.prog G 179 [.ws .u64 (d64 X), .val (.int .i64 (s : Int)), .val (.int .i64 (n : Int))] [] (fun r rs => r = .arr 0 0 n ∧ RowOf n (X * 2 ^ s) rs) := by
  have hl : (d64 X).length = L64 X := rfl
  have hcp := copy_row (d64 X) n hn
  have hpk := pad_ok hn
  obtain ⟨pa, hpa⟩ : ∃ p, p = d64 X ++ List.replicate (n - L64 X) (0 : Int) := ⟨_, rfl⟩
  rw [hl, ← hpa, ← hl] at hcp
  rw [← hpa] at hpk
  obtain ⟨p1, p2, p3⟩ := hpk
  have hw := pw64 hs
  refine PM.intro (X := XX) tok Tryz.func179 rfl Tryz.ntmps179 (by rw [Tryz.results179]) (by kernel_rfl) rfl ?_; intro F hG hO; simp only [List.length_cons, List.length_nil, Nat.zero_add, Nat.reduceAdd] at hO
  repeat' ((try (conv => whnf)); first
 | (refine lg ?_; refine loop_g (A := List Int × Int) (fun (t, c) => ShlI pa t s c) (fun (t, c) => n - t.length) (fun (t, c) => [(1, .val (.int .i64 (s : Int))), (7, .arr 0 0 n), (8, .val (.int .u64 c)), (19, .val (.int .i64 (n : Int))), (20, .val (.int .i64 (t.length : Int)))]) (fun _ => []) (fun (t, c) => [some ⟨1, 82, .w .u64 (ins pa 0 t)⟩]) ([], 0) tok (fun (t, c) => ⟨⟨trivial, Nat.one_pos, trivial, trivial, trivial, trivial⟩, trivial, by simp only [List.length_cons, List.length_nil]; omega⟩) ?_ ⟨rfl, congrArg (PV.arr 0 0) (by omega), rfl, iv_eq (by omega), rfl, trivial⟩ ⟨[], rfl⟩ ⟨[], (by dsimp only; rw [ins_nil, Int.toNat_natCast, hcp]; rfl)⟩ ?_; rotate_left; rintro ⟨t, c⟩ hI; have hI2 := hI; obtain ⟨i1, i2, i3, i4⟩ := hI2; have ra := rd_bd (by decide) p2 (t.length : Int); have hil : (ins pa 0 t).length = n := (by rw [ins_len (by omega), p1]); have ig : (ins pa 0 t).getD (0 + (t.length : Int).toNat) 0 = rd pa (t.length : Int) := (by rw [Int.toNat_natCast, ins_get (by omega), Nat.zero_add]))
 | (with_reducible refine shl_m (by omega) ?_)
 | (with_reducible refine shr_p (by omega) (by dsimp only [IntKind.bits]; omega) ?_)
 | (have hst := hI.step (by omega) p2 hs; rw [ig, Int.toNat_natCast]; refine or_g2 s hst.1 (by omega) i3.2 hst.2.1 (by omega) ?_)
 | (refine draw_q (id := 9) (.take 0 (.take 1 (.take 2 (.take 3 (.take 6 (.take 8 (.take 10 (.take 11 (.take 14 (.take 15 (.two 4 (.two 5 (.take 7 (.take 9 (.one 12 (.one 13 (.take 16 (.one 17 (.one 18 (.one 19 (.fin))))))))) 12 (.two 5 (.take 7 (.take 9 (.one 13 (.take 16 (.one 17 (.one 18 (.one 19 (.fin)))))))) 13 (.take 16 (.one 5 (.take 7 (.take 9 (.one 17 (.one 18 (.one 19 (.fin)))))))))) 12 (.two 4 (.two 5 (.take 7 (.take 9 (.one 13 (.take 16 (.one 17 (.one 18 (.one 19 (.fin)))))))) 13 (.take 16 (.one 5 (.take 7 (.take 9 (.one 17 (.one 18 (.one 19 (.fin))))))))) 13 (.take 16 (.one 4 (.one 5 (.take 7 (.take 9 (.one 17 (.one 18 (.one 19 (.fin))))))))))))))))))))) tok mixed (by kernel_rfl) (by kernel_rfl) ?_)
 | with_reducible first | refine ax_s ?_ | (refine ax_f ?_ ?_ <;> try intro hc) | fail)
  all_goals first
    | (
      have hst := hI.step (by omega) p2 hs
      have e3 : rd pa (t.length : Int) / 2 ^ (64 - (s : Int)).toNat = rd pa (t.length : Int) / 2 / 2 ^ (63 - s) := by
        rw [Int.ediv_ediv_of_nonneg (by decide), show (64 - (s : Int)).toNat = 63 - s + 1 by omega, Int.pow_succ, Int.mul_comm]
      refine ⟨again (t ++ [c + rd pa (t.length : Int) * 2 ^ s % 18446744073709551616], rd pa (t.length : Int) / 2 / 2 ^ (63 - s)) hst.2.2.2 (by dsimp only; rw [len_snoc]; omega) ⟨rfl, rfl, iv_eq (by first | rw [ig, e3] | rw [e3] | omega), rfl, iv_eq (by rw [len_snoc]; omega), trivial⟩ ⟨[], rfl⟩ ⟨[], by dsimp only; exact ins_row (by omega) (by omega) (by omega)⟩⟩)
    | (
      obtain rfl : s = 0 := by omega
      refine ⟨ret_m [0] (.arr 0 0 n) [some ⟨1, 82, .w .u64 pa⟩] (by rw [Int.toNat_natCast]; rfl) rfl (by simp) (fun i h => absurd h (Nat.not_lt_zero i)) (by dsimp only [List.map_cons, List.map_nil]; rw [Int.toNat_natCast, hcp]; rfl) ⟨rfl, pa, p1, p2, ?_, rfl⟩⟩
      rw [p3, Nat.pow_zero, Nat.mul_one])
    | (
      have htl : t.length = n := by omega
      rw [List.take_of_length_le (by omega), htl, p3] at i4
      have h1 := vl_nonneg (B := 18446744073709551616) (by decide) i2
      have e1 : (X : Int) * 2 ^ s = ((X * 2 ^ s : Nat) : Int) := by simp
      rw [e1] at i4
      have hc0 : c = 0 := by
        have h2 : ((X * 2 ^ s : Nat) : Int) < 18446744073709551616 ^ n := by rw [pow64i]; exact Int.ofNat_lt.2 hlt
        have hp : 0 < (18446744073709551616 : Int) ^ n := Int.pow_pos (by decide)
        rcases Int.lt_or_le 0 c with h3 | h3
        · have : 18446744073709551616 ^ n * 1 ≤ (18446744073709551616 : Int) ^ n * c := Int.mul_le_mul_of_nonneg_left (by omega) (by omega)
          omega
        · omega
      rw [hc0, Int.mul_zero, Int.add_zero] at i4
      have hins : ins pa 0 t = t := by rw [ins_end (by omega), List.take_zero, List.nil_append]
      refine ⟨ret_m [0] (.arr 0 0 n) [some ⟨1, 82, .w .u64 t⟩] rfl rfl (by simp) (fun i h => absurd h (Nat.not_lt_zero i)) (by dsimp only [List.map_cons, List.map_nil]; rw [hins]; rfl) ⟨rfl, t, htl, i2, i4, rfl⟩⟩)
    | (
      exact ⟨Nat.zero_le _, okD_nil _, ⟨Int.le_refl _, hw.1⟩, by simp [vl]⟩)
theorem d64_one {Y : Nat} (h : L64 Y = 1) : rd (d64 Y) 0 = (Y : Int) ∧ 0 < Y ∧ Y < 18446744073709551616 := by
  have h1 := d64_rd Y 0
  have h2 := L64_lt Y
  rw [h] at h2
  have h3 : Y ≠ 0 := fun h0 => by subst h0; rw [L64, lenB_zero] at h; omega
  refine ⟨?_, by omega, by omega⟩
  rw [show ((0 : Nat) : Int) = 0 by rfl] at h1
  rw [h1, Nat.mul_zero, Nat.pow_zero, Nat.div_one]
  omega
theorem top_pos {v : List Int} {m : Nat} {V : Int} (ok : okD 18446744073709551616 v) (hl : v.length = m + 1) (hv : vl 18446744073709551616 v = V) (h : 18446744073709551616 ^ m ≤ V) : 0 < rd v m := by
  have h1 := vl_split 18446744073709551616 v m (by omega)
  have h2 := vl_lt (B := 18446744073709551616) (by decide) (ok.take m)
  rw [List.length_take, Nat.min_eq_left (by omega)] at h2
  rw [drop_rd v m (by omega), vl, List.drop_eq_nil_of_le (by omega)] at h1
  simp only [vl] at h1
  rw [Int.mul_zero, Int.add_zero] at h1
  have h3 := (rd_bd (B := 18446744073709551616) (by decide) ok (m : Int)).1
  rcases Int.lt_or_le 0 (rd v m) with h4 | h4
  · exact h4
  · exfalso
    rw [show rd v m = 0 by omega, Int.mul_zero, Int.add_zero] at h1
    omega
theorem above_lt {u : List Int} {U V : Nat} {L : Nat} (ok : okD 18446744073709551616 u) (hu : vl 18446744073709551616 u = (U : Int)) (hl : L ≤ u.length) (h : U < 2 ^ (64 * L) * V) : vl 18446744073709551616 (u.drop L) < (V : Int) := by
  have h1 := vl_split 18446744073709551616 u L hl
  have h2 := vl_nonneg (B := 18446744073709551616) (by decide) (ok.take L)
  obtain ⟨Z, hZ⟩ := Int.eq_ofNat_of_zero_le (vl_nonneg (B := 18446744073709551616) (by decide) (ok.drop L))
  rw [hu, hZ] at h1
  rw [hZ]
  have h3 : 18446744073709551616 ^ L * Z ≤ U := by
    have : ((18446744073709551616 ^ L * Z : Nat) : Int) ≤ (U : Int) := by
      rw [h1]; simp only [Int.natCast_mul, Int.natCast_pow]; exact Int.le_add_of_nonneg_left h2
    exact Int.ofNat_le.1 this
  rw [pow64] at h3
  have h4 : Z < V := Nat.lt_of_mul_lt_mul_left (Nat.lt_of_le_of_lt h3 h)
  exact Int.ofNat_lt.2 h4
def qrT (q r : Nat) : PV := .tup [.ws .u64 (d64 q), .ws .u64 (d64 r), .val (.int .i64 0)]
theorem d_quorem (X Y : Nat) (hX : L64 X ≤ 8192) (hY : L64 Y ≤ 8192) (h0 : Y ≠ 0) : FC Tryz.prog G 141 [.ws .u64 (d64 X), .ws .u64 (d64 Y)] (· = qrT (X / Y) (X % Y)) := by
  have fa := n_formN (G := G) X hX
  have fb := n_formN (G := G) Y hY
  have fc := n_cmp (G := G) X Y (by omega) (by omega)
  have hlx : (d64 X).length = L64 X := rfl
  have hly : (d64 Y).length = L64 Y := rfl
  have hYp : 0 < L64 Y := lenB_pos (B := 18446744073709551616) (by decide) h0
  obtain ⟨T, hT⟩ : ∃ T, T = Y / 2 ^ (64 * (L64 Y - 1)) := ⟨_, rfl⟩
  have htop := top64 h0
  rw [← hT] at htop
  have hrd : rd (d64 Y) ((L64 Y : Int) - 1) = (T : Int) := by
    have := d64_rd Y (L64 Y - 1)
    rw [← hT, Nat.mod_eq_of_lt htop.1] at this
    rw [← this]; congr 1; omega
  have hTb : 0 < bl T ∧ bl T ≤ 64 := ⟨bl_pos htop.2, bl_le (k := 64) (by omega)⟩
  have hlead := b_lead (G := G) T htop.1
  obtain ⟨s, hs⟩ : ∃ s : Nat, s = 64 - bl T := ⟨_, rfl⟩
  rw [show (64 - (bl T : Int)) = (s : Int) by omega] at hlead
  have hs64 : s < 64 := by omega
  have hp2 : 0 < 2 ^ s := Nat.pow_pos (by decide)
  have hYlt : Y * 2 ^ s < 2 ^ (64 * L64 Y) := by
    have h2 : bl Y = 64 * (L64 Y - 1) + bl T := by rw [hT]; exact bl_top Y _ (by rw [← hT]; exact htop.2)
    have h6 : Y * 2 ^ s < 2 ^ bl Y * 2 ^ s := Nat.mul_lt_mul_of_pos_right (lt_bl Y) hp2
    rw [← Nat.pow_add] at h6
    exact Nat.lt_of_lt_of_le h6 (Nat.pow_le_pow_right (by decide) (by omega))
  have hYge : 2 ^ (64 * (L64 Y - 1)) ≤ Y := by
    have h2 : bl Y = 64 * (L64 Y - 1) + bl T := by rw [hT]; exact bl_top Y _ (by rw [← hT]; exact htop.2)
    exact Nat.le_trans (Nat.pow_le_pow_right (by decide) (by omega)) (le_of_bl h0)
  have hXlt : X * 2 ^ s < 2 ^ (64 * L64 X) * 2 ^ s := Nat.mul_lt_mul_of_pos_right (L64_lt X) hp2
  have hXlt2 : X * 2 ^ s < 2 ^ (64 * (L64 X + 1)) := by
    rw [← Nat.pow_add] at hXlt
    exact Nat.lt_of_lt_of_le hXlt (Nat.pow_le_pow_right (by decide) (by omega))
  have hcl : Unit → ¬ cmpN X Y < 0 → Y ≤ X ∧ L64 Y ≤ L64 X := fun _ h => by
    have : Y ≤ X := by
      unfold cmpN at h
      split at h
      · exact absurd (by decide) h
      · omega
    exact ⟨this, L64_mono this⟩
  have fu := d_shifted (G := G) X (L64 X + 1) s hs64 (by omega) (by omega) hXlt2
  have fv := d_shifted (G := G) Y (L64 Y) s hs64 (Nat.le_refl _) (by omega) hYlt
  have hab : Unit → L64 Y ≤ L64 X → X * 2 ^ s < 2 ^ (64 * (L64 X + 1 - L64 Y)) * (Y * 2 ^ s) := fun _ h => by
    refine Nat.lt_of_lt_of_le hXlt ?_
    have e : 64 * L64 X = 64 * (L64 X + 1 - L64 Y) + 64 * (L64 Y - 1) := by omega
    rw [e, Nat.pow_add, Nat.mul_assoc]
    exact Nat.mul_le_mul_left _ (Nat.mul_le_mul_right _ hYge)
  have hlow : (18446744073709551616 : Int) ^ (L64 Y - 1) ≤ ((Y * 2 ^ s : Nat) : Int) := by
    rw [pow64i]
    exact Int.ofNat_le.2 (Nat.le_trans hYge (Nat.le_mul_of_pos_right _ hp2))
  have hrl : L64 (X % Y) ≤ 8192 := Nat.le_trans (L64_mono (Nat.mod_le _ _)) hX
  have hql : L64 (X / Y) ≤ 8192 := Nat.le_trans (L64_mono (Nat.div_le_self _ _)) hX
  have hrl2 : L64 (X % Y * 2 ^ s) ≤ 8192 := by
    have h1 : X % Y * 2 ^ s ≤ Y * 2 ^ s := Nat.mul_le_mul_right _ (Nat.le_of_lt (Nat.mod_lt _ (by omega)))
    exact Nat.le_trans (L64_le (Nat.lt_of_le_of_lt h1 hYlt)) hY
  have hq2 : (((X * 2 ^ s : Nat) : Int) / ((Y * 2 ^ s : Nat) : Int)).toNat = X / Y := by
    rw [← Int.natCast_ediv, Int.toNat_natCast, Nat.mul_div_mul_right _ _ hp2]
  have hr2 : (((X * 2 ^ s : Nat) : Int) % ((Y * 2 ^ s : Nat) : Int)).toNat = X % Y * 2 ^ s := by
    rw [← Int.natCast_emod, Int.toNat_natCast, Nat.mul_mod_mul_right]
  have fsh := n_shr (G := G) (X % Y * 2 ^ s) (s : Int) hrl2 (by dsimp only [inR]; omega)
  rw [show shrT (X % Y * 2 ^ s) (s : Int) = natR (X % Y) by
    unfold shrT natR
    rw [if_neg (by omega), if_neg (by omega), Int.toNat_natCast, Nat.mul_div_cancel _ hp2]] at fsh
  have fw : Unit → X % Y < 18446744073709551616 → FC Tryz.prog G 143 [.val (.int .u64 ((X % Y : Nat) : Int))] (· = .ws .u64 (d64 (X % Y))) := fun _ h => by
    have := n_word (G := G) ((X % Y : Nat) : Int) (by omega)
    rw [Int.toNat_natCast] at this
    exact this
  refine ax_i Tryz.func141 Tryz.ntmps141 ?_; intro F hG hO
  rw [← hG] at fa fb fc hlead fu fv fsh fw
  repeat' ((try (conv => whnf)); first
 | refine ce fa ?_ | refine ce fb ?_ | refine ce fc ?_
 | (refine cg ?_; refine ce (n_norm (d64 X) (d64_ok X).1 (by omega)) ?_; rw [vl_d64, natT_ok hX]; unfold natR)
 | (refine cg ?_; have h1 := d64_one (Y := Y) (by omega); rw [h1.1]; refine ce (n_divword X Y hX h1.2.1 h1.2.2) ?_)
 | (refine cg ?_; have h1 := d64_one (Y := Y) (by omega); refine call_eq (fw () (by have := Nat.mod_lt X h1.2.1; omega)) (LpL.refl _) rfl ?_)
 | (refine cg ?_; rw [hly, hrd]; refine ce hlead ?_)
 | (refine cg ?_; rw [show ((d64 X).length : Int) + 1 = ((L64 X + 1 : Nat) : Int) by omega]; refine call_row (m := 0) fu rfl rfl rfl ?_; intro u u1 u2 u3)
 | (refine cg ?_; refine call_row (m := 1) fv rfl rfl rfl ?_; intro v v1 v2 v3)
 | (refine cg ?_; have hcl2 := hcl () (by assumption); refine call_fz 1 (q := 1) (A := v) (B := v) rfl rfl (by omega) (by rw [List.drop_zero]; exact List.take_of_length_le (by omega)) (by omega) ?_; have dl := d_long (G := F.G) u v (L64 X + 1 - L64 Y) (L64 Y - 1) ((Y * 2 ^ s : Nat) : Int) (by omega) (by omega) (by omega) (by omega) u2 v2 v3 (top_pos v2 (by omega) v3 hlow) (above_lt u2 u3 (by omega) (hab () hcl2.2)); rw [show L64 X + 1 - L64 Y + (L64 Y - 1 + 1) = L64 X + 1 by omega, show L64 Y - 1 + 1 = L64 Y by omega, u3] at dl; refine call_pm [0] dl rfl rfl rfl (by simp) ?_; rintro r rs ⟨rfl, z, q, w1, w2, w3, w4, w5, w6, rfl⟩)
 | (refine cg ?_; refine call_fz 0 (q := 0) (A := z) (B := z.take (L64 Y)) rfl rfl (by omega) (by rw [List.drop_zero]; first | rfl | rw [v1] | (rw [Int.toNat_natCast])) (by omega) ?_; refine call_eq (n_norm (z.take (L64 Y)) (w2.take _) (by rw [List.length_take]; omega)) (LpL.refl _) rfl ?_; rw [w6, hr2, natT_ok hrl2]; unfold natR)
 | refine ce fsh ?_
 | (refine cg ?_; refine call_fz 0 (q := 2) (A := q) (B := q) rfl rfl (by omega) (by rw [List.drop_zero]; exact List.take_of_length_le (by omega)) (by omega) ?_; refine ce (n_norm q w4 (by omega)) ?_; rw [w5, hq2, natT_ok hql]; unfold natR)
 | with_reducible first | refine ax_s ?_ | (refine ax_f ?_ ?_ <;> try intro hc) | fail)
  · have : X < Y := by
      unfold cmpN at hc
      split at hc
      · assumption
      · split at hc <;> omega
    refine ⟨ret_l _ (.tup (.cons (.nil .u64) (.cons (.refl _) (.cons (.refl _) .nil)))) ?_⟩
    rw [Nat.div_eq_of_lt this, Nat.mod_eq_of_lt this]
    unfold qrT
    rw [d64_0]
  · exact ⟨ret_e rfl⟩
  · exact ⟨ret_e rfl⟩
theorem rdv_L32 (aw : Bool) (x d : Nat) (hd : 0 < d) : L32 (rdv aw x d) ≤ L32 x := L32_mono (rdv_le aw x d hd)
theorem docQ_L (n m : Int) (s : Nat) (up : Bool) (hm : m ≠ 0) : LZ (docQ n m s up) ≤ LZ n + s / 32 + 1 := by
  rw [docQ_eq n m s up hm]
  unfold LZ
  rw [sg_abs]
  exact Nat.le_trans (rdv_L32 _ _ _ (by omega)) (L32_shl _ _)
theorem r_quo {n e m f : Int} (p : Int) (up : Bool) (h : Good n e) (g : Good m f) (hp : inR .i64 p) : FC Tryz.prog G 198 [DY n e, DY m f, .val (.int .i64 p), .val (.bool up)] (· = quoS n e m f p up) := by
  dsimp only [inR] at hp
  have l1 := h.lz
  have l2 := g.lz
  have u1 : LZ n = L32 n.natAbs := rfl
  have u2 : LZ m = L32 m.natAbs := rfl
  have e1 := h.2.1
  have e2 := h.2.2.1
  have e3 := g.2.1
  have e4 := g.2.2.1
  have b1 := h.bl
  have b2 := g.bl
  have z1 := r_bits (G := G) n.natAbs (by omega)
  have z2 := r_bits (G := G) m.natAbs (by omega)
  obtain ⟨K, hK⟩ : ∃ K, K = quoK n m p 1 := ⟨_, rfl⟩
  have hK2 : K = max 0 (p + 1 + bl m.natAbs - bl n.natAbs) := hK
  have z3 : Unit → 1 ≤ p ∧ p ≤ 70000 → FC Tryz.prog G 78 [ZI n, .val (.int .i64 K)] (· = ZI (n * 2 ^ K.toNat)) := fun _ hp => r_zshl (G := G) n K (by omega) (by dsimp only [inR]; omega) (by omega)
  have hs := LZ_shl n K.toNat
  have z4 : Unit → 1 ≤ p ∧ p ≤ 70000 → FC Tryz.prog G 210 [ZI (n * 2 ^ K.toNat), ZI m] (· = ZI (docQ n m K.toNat false)) := fun _ hp => r_zfdiv (G := G) (n * 2 ^ K.toNat) m (by omega) (by omega)
  have z5 : Unit → 1 ≤ p ∧ p ≤ 70000 → FC Tryz.prog G 211 [ZI (n * 2 ^ K.toNat), ZI m] (· = ZI (docQ n m K.toNat true)) := fun _ hp => r_zcdiv (G := G) (n * 2 ^ K.toNat) m (by omega) (by omega)
  obtain ⟨x, y, c, hr, hgd, hcc⟩ := cut_form (docQ n m K.toNat up) (e - f - K) p up
  have z6 : Unit → 1 ≤ p ∧ p ≤ 70000 → m ≠ 0 → FC Tryz.prog G 212 [ZI (docQ n m K.toNat up), .val (.int .i64 (e - f - K)), .val (.int .i64 p), .val (.bool up)] (· = .tup [DY x y, .val (.int .i64 c)]) := fun _ hp hm => by
    have hq := docQ_L n m K.toNat up hm
    rw [← hr]
    exact r_cut (G := G) _ _ _ _ (by omega) (by omega) (by omega)
  have hlx : (d64 n.natAbs).length = L64 n.natAbs := rfl
  have hly : (d64 m.natAbs).length = L64 m.natAbs := rfl
  have hok : Unit → 1 ≤ p ∧ p ≤ 70000 → m ≠ 0 → L64 n.natAbs ≤ 4096 → L64 m.natAbs ≤ 4096 → quoS n e m f p up = .tup [DY x y, .val (.int .i64 c)] := fun _ a b c d => by rw [quoS_ok a b c d, ← hK, hr]
  refine ax_i Tryz.func198 Tryz.ntmps198 ?_; intro F hG hO
  rw [← hG] at z1 z2 z3 z4 z5 z6
  repeat' ((try (conv => whnf)); first
 | (refine cg ?_; refine ce (r_formg h) ?_)
 | (refine cg ?_; refine ce (r_formg g) ?_)
 | (refine cg ?_; refine ce (r_noughtg m f) ?_)
 | (refine cg ?_; refine ce (r_zfromN n (Nat.le_trans h.1 (by decide))) ?_)
 | (refine cg ?_; refine ce (r_zfromN m (Nat.le_trans g.1 (by decide))) ?_)
 | refine ce z1 ?_ | refine ce z2 ?_
 | (refine cg ?_; rw [← hK2]; refine ce (z3 () (by omega)) ?_)
 | (refine cg ?_; refine ce (z3 () (by omega)) ?_)
 | (refine cg ?_; refine ce (z4 () (by omega)) ?_)
 | (refine cg ?_; refine ce (z5 () (by omega)) ?_)
 | (refine cg ?_; subst hc; refine ce (z6 () (by omega) (by omega)) ?_)
 | (refine dT (id := 9) (.one 0 (.one 1 (.one 3 (.one 4 (.two (.one 2 (.two (.one 5 (.two (.one 6 (.one 7 (.st (.one 8 (.st (.one 9 (.fin))))))) (.one 7 (.one 6 (.st (.one 8 (.st (.one 9 (.fin))))))))) (.two (.one 6 (.two (.one 5 (.one 7 (.st (.one 8 (.st (.one 9 (.fin))))))) (.one 7 (.one 5 (.st (.one 8 (.st (.one 9 (.fin))))))))) (.one 7 (.two (.one 5 (.one 6 (.st (.one 8 (.st (.one 9 (.fin))))))) (.one 6 (.one 5 (.st (.one 8 (.st (.one 9 (.fin)))))))))))) (.two (.one 6 (.two (.one 2 (.two (.one 5 (.one 7 (.st (.one 8 (.st (.one 9 (.fin))))))) (.one 7 (.one 5 (.st (.one 8 (.st (.one 9 (.fin))))))))) (.one 7 (.one 2 (.one 5 (.st (.one 8 (.st (.one 9 (.fin)))))))))) (.one 7 (.two (.one 2 (.two (.one 5 (.one 6 (.st (.one 8 (.st (.one 9 (.fin))))))) (.one 6 (.one 5 (.st (.one 8 (.st (.one 9 (.fin))))))))) (.one 6 (.one 2 (.one 5 (.st (.one 8 (.st (.one 9 (.fin)))))))))))))))) ?_)
 | (refine dG (id := 10) [[0, 1, 2, 3, 6, 7, 4, 5, 8, 9, 10, 11]] ?_)
 | (refine dT (id := 11) (.one 0 (.one 1 (.one 3 (.two (.one 2 (.two (.one 4 (.one 5 (.st (.one 6 (.fin))))) (.one 5 (.one 4 (.st (.one 6 (.fin))))))) (.one 5 (.one 2 (.one 4 (.st (.one 6 (.fin)))))))))) ?_)
 | (refine dG (id := 13) [[0, 1, 3, 2, 4], [5]] ?_)
 | with_reducible first | refine ax_s ?_ | (refine ax_f ?_ ?_ <;> try intro hc) | fail)
  all_goals first
    | exact ⟨ret_l _ (lp_dyE 1) (quoS_1 (by omega)).symm⟩
    | exact ⟨ret_l _ (lp_dyE 4) (quoS_4 (by omega) (by omega)).symm⟩
    | exact ⟨ret_l _ (lp_dyE 5) (quoS_5 (by omega) (by omega) (by omega)).symm⟩
    | exact ⟨ret_e (hok () (by omega) (by omega) (by omega) (by omega)).symm⟩
theorem r_docquodown {n e m f : Int} (p : Int) (h : Good n e) (g : Good m f) (hp : inR .i64 p) : FC Tryz.prog G 166 [DY n e, DY m f, .val (.int .i64 p)] (· = quoS n e m f p false) := by
  have f1 := r_quo (G := G) p false h g hp
  obtain ⟨x, y, c, hr, hgd⟩ := quo_form n e m f p false
  rw [hr] at f1 ⊢
  refine ax_i Tryz.func166 Tryz.ntmps166 ?_; intro F hG hO
  rw [← hG] at f1
  repeat' ((try (conv => whnf)); first
 | refine ce f1 ?_
 | with_reducible first | refine ax_s ?_ | (refine ax_f ?_ ?_ <;> try intro hc) | fail)
  exact ⟨ret_e rfl⟩
theorem r_docquoup {n e m f : Int} (p : Int) (h : Good n e) (g : Good m f) (hp : inR .i64 p) : FC Tryz.prog G 167 [DY n e, DY m f, .val (.int .i64 p)] (· = quoS n e m f p true) := by
  have f1 := r_quo (G := G) p true h g hp
  obtain ⟨x, y, c, hr, hgd⟩ := quo_form n e m f p true
  rw [hr] at f1 ⊢
  refine ax_i Tryz.func167 Tryz.ntmps167 ?_; intro F hG hO
  rw [← hG] at f1
  repeat' ((try (conv => whnf)); first
 | refine ce f1 ?_
 | with_reducible first | refine ax_s ?_ | (refine ax_f ?_ ?_ <;> try intro hc) | fail)
  exact ⟨ret_e rfl⟩
theorem shlT_nat {X : Nat} {k : Int} (hk : 0 ≤ k) (h : (bl X : Int) + k ≤ 524288) : shlT X k = natR (X * 2 ^ k.toNat) := by
  by_cases h0 : X = 0
  · rw [shlT_0 (by omega) h0, h0, Nat.zero_mul]
    unfold natE natR
    rw [d64_0]
  · rw [shlT_ok (by omega) h0 (by omega), natT_ok]
    rw [L64_bl, bl_mul_pow X k.toNat h0]
    omega
theorem NI_sg {b : Bool} {M : Nat} (h : b = true → M ≠ 0) : NI (sg b M) = .agg [.val (.bool b), .ws .u64 (d64 M)] := by
  unfold NI
  rw [sg_abs]
  have : decide (sg b M < 0) = b := by
    cases b
    · simp only [sg]; exact decide_eq_false (by omega)
    · have := h rfl
      simp only [sg]; exact decide_eq_true (by omega)
  rw [this]; rfl
theorem bl_succ (n : Nat) : bl (n + 1) ≤ bl n + 1 := bl_le (by have := lt_bl n; have : 0 < 2 ^ bl n := Nat.pow_pos (by decide); rw [Nat.pow_succ]; omega)
theorem bl_div (x d : Nat) : bl (x / d) ≤ bl x := bl_mono (Nat.div_le_self _ _)
theorem y_quotient {g : Gs} (hD : (0, debT.map (Value.int .u8)) ∈ g) {n e m f : Int} (p : Int) (up : Bool) (h : Good n e) (k : Good m f) (hp : inR .i64 p) : FC Tryz.prog g 96 [DY n e, DY m f, .val (.int .i64 p), .val (.bool up)] (· = quoS n e m f p up) := by
  dsimp only [inR] at hp
  have f0 := y_precise (G := g) p
  have f1 := y_form (G := g) h
  have f2 := y_form (G := g) k
  have f3 := y_noughtg (G := g) m f
  have hlx : (d64 n.natAbs).length = L64 n.natAbs := rfl
  have hly : (d64 m.natAbs).length = L64 m.natAbs := rfl
  by_cases hp2 : 1 ≤ p ∧ p ≤ 70000
  rotate_left
  · rw [show (decide (1 ≤ p) && decide (p ≤ 70000)) = false by
      rw [← Bool.not_eq_true, Bool.and_eq_true, decide_eq_true_eq, decide_eq_true_eq]; exact hp2] at f0
    rw [quoS_1 (by omega)]
    refine ax_i Tryz.func96 Tryz.ntmps96 ?_; intro F hG hO
    rw [← hG] at f0
    repeat' ((try (conv => whnf)); first
 | refine ce f0 ?_
 | (refine dG (id := 9) dg32 ?_)
 | with_reducible first | refine ax_s ?_ | (refine ax_f ?_ ?_ <;> try intro hc) | fail)
    exact ⟨ret_l _ (lp_dyE 1) rfl⟩
  rw [show (decide (1 ≤ p) && decide (p ≤ 70000)) = true by
    rw [Bool.and_eq_true, decide_eq_true_eq, decide_eq_true_eq]; exact hp2] at f0
  by_cases hm : m = 0
  · rw [quoS_4 hp2 hm]
    rw [decide_eq_true hm] at f3
    refine ax_i Tryz.func96 Tryz.ntmps96 ?_; intro F hG hO
    rw [← hG] at f0 f1 f2 f3
    repeat' ((try (conv => whnf)); first
 | refine ce f0 ?_ | refine ce f1 ?_ | refine ce f2 ?_ | refine ce f3 ?_
 | (refine dG (id := 9) dg32 ?_)
 | with_reducible first | refine ax_s ?_ | (refine ax_f ?_ ?_ <;> try intro hc) | fail)
    exact ⟨ret_l _ (lp_dyE 4) rfl⟩
  rw [decide_eq_false hm] at f3
  by_cases hl : L64 n.natAbs ≤ 4096 ∧ L64 m.natAbs ≤ 4096
  rotate_left
  · rw [quoS_5 hp2 hm (by omega)]
    refine ax_i Tryz.func96 Tryz.ntmps96 ?_; intro F hG hO
    rw [← hG] at f0 f1 f2 f3
    repeat' ((try (conv => whnf)); first
 | refine ce f0 ?_ | refine ce f1 ?_ | refine ce f2 ?_ | refine ce f3 ?_
 | (refine dG (id := 9) dg32 ?_)
 | with_reducible first | refine ax_s ?_ | (refine ax_f ?_ ?_ <;> try intro hc) | fail)
    all_goals exact ⟨ret_l _ (lp_dyE 5) rfl⟩
  have b1 := bl_L64 n.natAbs
  have b2 := bl_L64 m.natAbs
  have e1 := h.2.1
  have e2 := h.2.2.1
  have e3 := k.2.1
  have e4 := k.2.2.1
  rw [quoS_ok hp2 hm hl.1 hl.2, ← quo_code up hp2 hm (by omega) (by omega) ⟨e1, e2⟩ ⟨e3, e4⟩]
  obtain ⟨K, hK⟩ : ∃ K, K = quoK n m p 2 := ⟨_, rfl⟩
  have hK2 : K = max 0 (p + 2 + bl m.natAbs - bl n.natAbs) := hK
  rw [← hK]
  have hm0 : m.natAbs ≠ 0 := by omega
  obtain ⟨x, hx⟩ : ∃ x, x = n.natAbs * 2 ^ K.toNat := ⟨_, rfl⟩
  have hbx : bl x ≤ 400000 := by
    by_cases h0 : n.natAbs = 0
    · rw [hx, h0, Nat.zero_mul, bl_zero]; omega
    · rw [hx, bl_mul_pow _ _ h0]; omega
  have f4 := n_bits (G := g) n.natAbs (by omega)
  have f5 := n_bits (G := g) m.natAbs (by omega)
  have f6 := n_shl (G := g) n.natAbs K (by omega) (by dsimp only [inR]; omega)
  rw [shlT_nat (by omega) (by omega), ← hx] at f6
  have hxl : L64 x ≤ 8192 := by rw [L64_bl]; omega
  have f7 := d_quorem (G := g) x m.natAbs hxl (by omega) hm0
  have hbq := bl_div x m.natAbs
  obtain ⟨Q, hQ⟩ : ∃ Q, Q = x / m.natAbs := ⟨_, rfl⟩
  obtain ⟨R, hR⟩ : ∃ R, R = x % m.natAbs := ⟨_, rfl⟩
  have hst : stk x m.natAbs = 2 * Q + (if R = 0 then 0 else 1) := by rw [hQ, hR]; rfl
  rw [← hQ, ← hR] at f7
  rw [← hQ] at hbq
  rw [← hx, hst]
  have hQl : L64 Q ≤ 8192 := by rw [L64_bl]; omega
  have f8 := n_shl (G := g) Q 1 hQl (by dsimp only [inR]; omega)
  rw [shlT_nat (by decide) (by omega), show (1 : Int).toNat = 1 from rfl, Nat.pow_one, Nat.mul_comm] at f8
  have hlr := len64_pos R
  have hlR : (d64 R).length = L64 R := rfl
  have hb2 : bl (2 * Q) ≤ 400001 := by
    by_cases h0 : Q = 0
    · rw [h0]; decide
    · have := bl_mul_pow Q 1 h0
      rw [Nat.pow_one, Nat.mul_comm] at this
      omega
  have h2l : L64 (2 * Q) ≤ 8192 := by rw [L64_bl]; omega
  have hb3 : bl (2 * Q + 1) ≤ 400002 := by have := bl_succ (2 * Q); omega
  have h3l : L64 (2 * Q + 1) ≤ 8192 := by rw [L64_bl]; omega
  have f9 := n_word (G := g) 1 (by decide)
  have f10 := n_add (G := g) (2 * Q) 1 h2l (Nat.le_trans (L64_le (n := 1) (by decide)) (by decide))
  rw [natT_ok h3l] at f10
  obtain ⟨s1, hs1⟩ : ∃ b, b = decide (n < 0) := ⟨_, rfl⟩
  obtain ⟨s2, hs2⟩ : ∃ b, b = decide (m < 0) := ⟨_, rfl⟩
  obtain ⟨M, hM⟩ : ∃ M, M = 2 * Q + (if R = 0 then 0 else 1) := ⟨_, rfl⟩
  have hMl : L64 M ≤ 8192 := by
    rw [hM]
    split
    · exact h2l
    · exact h3l
  have hlM := len64_pos M
  have hlM2 : (d64 M).length = L64 M := rfl
  rw [← hM]
  have f11 := y_short hD (sg (s1 != s2) M) (e - f - K - 1) p up (by rw [sg_abs]; exact hMl) (by omega) (by omega)
  obtain ⟨y, z, c, hr, hgd, hcc⟩ := cut_form (sg (s1 != s2) M) (e - f - K - 1) p up
  rw [hr] at f11
  rw [← hs1, ← hs2, hr]
  unfold DY at f1 f2 f3
  unfold DY
  rw [← hs1] at f1
  rw [← hs2] at f2 f3
  rw [← hs1, ← hs2]
  have f12 : Unit → ((s1 != s2) = true → M ≠ 0) → FC Tryz.prog g 144 [.agg [.val (.bool (s1 != s2)), .ws .u64 (d64 M)], .val (.int .i64 (e - f - K - 1)), .val (.int .i64 p), .val (.bool up)] (· = .tup [DY y z, .val (.int .i64 c)]) := fun _ hh => by rw [← NI_sg hh]; exact f11
  have f13 : Unit → M = 0 → FC Tryz.prog g 144 [.agg [.val (.bool false), .ws .u64 (d64 M)], .val (.int .i64 (e - f - K - 1)), .val (.int .i64 p), .val (.bool up)] (· = .tup [DY y z, .val (.int .i64 c)]) := fun _ hh => by
    have e0 : sg (s1 != s2) M = sg false M := by rw [hh]; cases (s1 != s2) <;> rfl
    rw [← NI_sg (b := false) (fun h => by cases h), ← e0]
    exact f11
  have f14 : Unit → (s1 != s2) = true → FC Tryz.prog g 144 [.agg [.val (.bool (decide ((0 : Int) < ((d64 M).length : Int)))), .ws .u64 (d64 M)], .val (.int .i64 (e - f - K - 1)), .val (.int .i64 p), .val (.bool up)] (· = .tup [DY y z, .val (.int .i64 c)]) := fun _ hh => by
    by_cases hM0 : M = 0
    · rw [decide_eq_false (show ¬ (0 : Int) < ((d64 M).length : Int) by omega)]
      exact f13 () hM0
    · rw [decide_eq_true (show (0 : Int) < ((d64 M).length : Int) by omega)]
      have := f12 () (fun _ => hM0)
      rw [hh] at this
      exact this
  unfold DY at f12 f13 f14
  by_cases hR0 : R = 0
  · rw [if_pos hR0, Nat.add_zero] at hM
    rw [← hM] at f8
    cases s1 <;> cases s2
    all_goals
      refine ax_i Tryz.func96 Tryz.ntmps96 ?_; intro F hG hO
      rw [← hG] at f0 f1 f2 f3 f4 f5 f6 f7 f8 f12 f13 f14
      repeat' ((try (conv => whnf)); first
 | refine ce f0 ?_ | refine ce f1 ?_ | refine ce f2 ?_ | refine ce f3 ?_ | refine ce f4 ?_ | refine ce f5 ?_
 | (refine cg ?_; rw [← hK2]; refine ce f6 ?_)
 | refine ce f7 ?_ | refine ce f8 ?_
 | (refine cg ?_; refine ce (f14 () rfl) ?_)
 | (refine cg ?_; refine ce (f12 () (fun h => absurd h (by decide))) ?_)
 | (refine dG (id := 9) dg32 ?_)
 | with_reducible first | refine ax_s ?_ | (refine ax_f ?_ ?_ <;> try intro hc) | fail)
      all_goals exact ⟨ret_e rfl⟩
  · rw [if_neg hR0] at hM
    rw [← hM] at f10
    cases s1 <;> cases s2
    all_goals
      refine ax_i Tryz.func96 Tryz.ntmps96 ?_; intro F hG hO
      rw [← hG] at f0 f1 f2 f3 f4 f5 f6 f7 f8 f9 f10 f12 f14
      repeat' ((try (conv => whnf)); first
 | refine ce f0 ?_ | refine ce f1 ?_ | refine ce f2 ?_ | refine ce f3 ?_ | refine ce f4 ?_ | refine ce f5 ?_
 | (refine cg ?_; rw [← hK2]; refine ce f6 ?_)
 | refine ce f7 ?_ | refine ce f8 ?_ | refine ce f9 ?_ | refine ce f10 ?_
 | (refine cg ?_; refine ce (f14 () rfl) ?_)
 | (refine cg ?_; refine ce (f12 () (fun h => absurd h (by decide))) ?_)
 | (refine dG (id := 9) dg32 ?_)
 | with_reducible first | refine ax_s ?_ | (refine ax_f ?_ ?_ <;> try intro hc) | fail)
      all_goals exact ⟨ret_e rfl⟩
theorem y_quodown {g : Gs} (hD : (0, debT.map (Value.int .u8)) ∈ g) {n e m f : Int} (p : Int) (h : Good n e) (k : Good m f) (hp : inR .i64 p) : FC Tryz.prog g 56 [DY n e, DY m f, .val (.int .i64 p)] (· = quoS n e m f p false) := by
  have f1 := y_quotient hD p false h k hp
  obtain ⟨x, y, c, hr, hgd⟩ := quo_form n e m f p false
  rw [hr] at f1 ⊢
  refine ax_i Tryz.func56 Tryz.ntmps56 ?_; intro F hG hO
  rw [← hG] at f1
  repeat' ((try (conv => whnf)); first
 | refine ce f1 ?_
 | with_reducible first | refine ax_s ?_ | (refine ax_f ?_ ?_ <;> try intro hc) | fail)
  exact ⟨ret_e rfl⟩
theorem y_quoup {g : Gs} (hD : (0, debT.map (Value.int .u8)) ∈ g) {n e m f : Int} (p : Int) (h : Good n e) (k : Good m f) (hp : inR .i64 p) : FC Tryz.prog g 57 [DY n e, DY m f, .val (.int .i64 p)] (· = quoS n e m f p true) := by
  have f1 := y_quotient hD p true h k hp
  obtain ⟨x, y, c, hr, hgd⟩ := quo_form n e m f p true
  rw [hr] at f1 ⊢
  refine ax_i Tryz.func57 Tryz.ntmps57 ?_; intro F hG hO
  rw [← hG] at f1
  repeat' ((try (conv => whnf)); first
 | refine ce f1 ?_
 | with_reducible first | refine ax_s ?_ | (refine ax_f ?_ ?_ <;> try intro hc) | fail)
  exact ⟨ret_e rfl⟩
theorem precise_no {p : Int} (h : ¬ (1 ≤ p ∧ p ≤ 70000)) : (decide (1 ≤ p) && decide (p ≤ 70000)) = false := by
  rw [← Bool.not_eq_true, Bool.and_eq_true, decide_eq_true_eq, decide_eq_true_eq]; exact h
theorem lp_sp0 : Lp (.agg [.val (.bool false), .nil, .val (.int .i64 0), .val (.bool false), .nil, .val (.int .i64 0)]) (SP (0, 0) (0, 0)) := by
  have e : SP (0, 0) (0, 0) = .agg [.val (.bool false), .ws .u64 [], .val (.int .i64 0), .val (.bool false), .ws .u64 [], .val (.int .i64 0)] := by
    unfold SP
    rw [show d64 (Int.natAbs ((0, 0) : D2).1) = [] from d64_0]
    rfl
  rw [e]
  exact .agg (.cons (.refl _) (.cons (.nil _) (.cons (.refl _) (.cons (.refl _) (.cons (.nil _) (.cons (.refl _) .nil))))))
theorem lp_spE (c : Int) : Lp (.tup [.agg [.val (.bool false), .nil, .val (.int .i64 0), .val (.bool false), .nil, .val (.int .i64 0)], .val (.int .i64 c)]) (spE c) := .tup (.cons lp_sp0 (.cons (.refl _) .nil))
theorem p_cmp {a b : D2} (h : a.good) (g : b.good) : FC Tryz.prog G 70 [DY a.1 a.2, DY b.1 b.2] (· = .val (.int .i64 (cmpV a.1 a.2 b.1 b.2))) := by
  have f1 := y_cmp (G := G) h g
  rw [cmp_V h g] at f1
  refine ax_i Tryz.func70 Tryz.ntmps70 ?_; intro F hG hO
  rw [← hG] at f1
  repeat' ((try (conv => whnf)); first
 | refine ce f1 ?_
 | with_reducible first | refine ax_s ?_ | (refine ax_f ?_ ?_ <;> try intro hc) | fail)
  exact ⟨ret_e rfl⟩
theorem cmpV_0 (n e : Int) : cmpV n e 0 0 = n.sign := by
  have h := VV_sign (n := n) (e := e)
  have h0 := VV_zero 0
  unfold cmpV
  rcases Int.lt_trichotomy n 0 with hn | hn | hn
  · rw [if_pos (by omega), Int.sign_eq_neg_one_of_neg hn]
  · rw [if_neg (by omega), if_neg (by omega), hn]; rfl
  · rw [if_neg (by omega), if_pos (by omega), Int.sign_eq_one_of_pos hn]
theorem p_sign {a : D2} (h : a.good) : FC Tryz.prog G 55 [DY a.1 a.2] (· = .val (.int .i64 a.1.sign)) := by
  have f1 := p_cmp (G := G) (b := (0, 0)) h Good.zero
  rw [cmpV_0] at f1
  refine ax_i Tryz.func55 Tryz.ntmps55 ?_; intro F hG hO
  rw [← hG] at f1
  repeat' ((try (conv => whnf)); first
 | (refine cg ?_; refine call_eq f1 (.cons (.refl _) (.cons lp_dy0 .nil)) rfl ?_)
 | with_reducible first | refine ax_s ?_ | (refine ax_f ?_ ?_ <;> try intro hc) | fail)
  exact ⟨ret_e rfl⟩
theorem q_below {a b : D2} (h : a.good) (g : b.good) : FC Tryz.prog G 65 [DY a.1 a.2, DY b.1 b.2] (· = .val (.bool (decide (a.v < b.v)))) := by
  have f1 := r_doccmp (G := G) h g
  rw [cmp_V h g] at f1
  have hc := cmpV_neg (n := a.1) (e := a.2) (m := b.1) (f := b.2)
  refine ax_i Tryz.func65 Tryz.ntmps65 ?_; intro F hG hO
  rw [← hG] at f1
  repeat' ((try (conv => whnf)); first
 | refine ce f1 ?_
 | with_reducible first | refine ax_s ?_ | (refine ax_f ?_ ?_ <;> try intro hc) | fail)
  exact ⟨ret_e (bv_eq (decide_eq_decide.2 hc))⟩
def sgv (b : Bool) (l : List Int) : Int := sg b (vl 18446744073709551616 l).toNat
def spF (b1 : Bool) (l1 : List Int) (e1 : Int) (b2 : Bool) (l2 : List Int) (e2 : Int) : Bool := dyF b1 l1 e1 && (dyF b2 l2 e2 && decide (VV (sgv b1 l1) e1 ≤ VV (sgv b2 l2) e2))
theorem dyF_ex2 {b : Bool} {l : List Int} {e : Int} (ok : okD 18446744073709551616 l) (h : dyF b l e = true) : ∃ n, Good n e ∧ b = decide (n < 0) ∧ l = d64 n.natAbs ∧ sgv b l = n := by
  obtain ⟨n, hg, hd⟩ := dyF_ex ok h
  unfold Dy DY at hd
  simp only [PV.agg.injEq, List.cons.injEq, PV.val.injEq, Value.bool.injEq, PV.ws.injEq, true_and, and_true] at hd
  refine ⟨n, hg, hd.1, hd.2, ?_⟩
  unfold sgv
  rw [hd.1, hd.2, vl_d64, sg_of]
theorem spF_ex {b1 : Bool} {l1 : List Int} {e1 : Int} {b2 : Bool} {l2 : List Int} {e2 : Int} (o1 : okD 18446744073709551616 l1) (o2 : okD 18446744073709551616 l2) (h : spF b1 l1 e1 b2 l2 e2 = true) : ∃ a b : D2, Sp b1 l1 e1 b2 l2 e2 = SP a b ∧ GoodS a b := by
  unfold spF at h
  simp only [Bool.and_eq_true, decide_eq_true_eq] at h
  obtain ⟨h1, h2, h3⟩ := h
  obtain ⟨n, g1, rfl, rfl, s1⟩ := dyF_ex2 o1 h1
  obtain ⟨m, g2, rfl, rfl, s2⟩ := dyF_ex2 o2 h2
  rw [s1, s2] at h3
  exact ⟨(n, e1), (m, e2), rfl, g1, g2, h3⟩
theorem p_form {a b : D2} (h : GoodS a b) : FC Tryz.prog G 66 [SP a b] (· = .val (.bool true)) := by
  obtain ⟨g1, g2, hv⟩ := h
  have f1 := y_form (G := G) g1
  have f2 := y_form (G := G) g2
  have f3 := p_cmp (G := G) g1 g2
  have hc := cmpV_pos (n := a.1) (e := a.2) (m := b.1) (f := b.2)
  have hle : cmpV a.1 a.2 b.1 b.2 ≤ 0 := by unfold D2.v at hv; omega
  refine ax_i Tryz.func66 Tryz.ntmps66 ?_; intro F hG hO
  rw [← hG] at f1 f2 f3
  repeat' ((try (conv => whnf)); first
 | refine ce f1 ?_ | refine ce f2 ?_ | refine ce f3 ?_
 | with_reducible first | refine ax_s ?_ | (refine ax_f ?_ ?_ <;> try intro hc) | fail)
  exact ⟨ret_e (bv_eq (decide_eq_true hle))⟩
theorem p_formX (b1 : Bool) (l1 : List Int) (e1 : Int) (b2 : Bool) (l2 : List Int) (e2 : Int) (o1 : okD 18446744073709551616 l1) (o2 : okD 18446744073709551616 l2) : FC Tryz.prog G 66 [Sp b1 l1 e1 b2 l2 e2] (· = .val (.bool (spF b1 l1 e1 b2 l2 e2))) := by
  have hs : spF b1 l1 e1 b2 l2 e2 = (dyF b1 l1 e1 && (dyF b2 l2 e2 && decide (VV (sgv b1 l1) e1 ≤ VV (sgv b2 l2) e2))) := rfl
  cases h1 : dyF b1 l1 e1 with
 | false =>
    rw [hs, h1]
    have f1 := y_formN (G := G) b1 l1 e1 o1 h1
    refine ax_i Tryz.func66 Tryz.ntmps66 ?_; intro F hG hO
    rw [← hG] at f1
    repeat' ((try (conv => whnf)); first
 | refine ce f1 ?_
 | with_reducible first | refine ax_s ?_ | (refine ax_f ?_ ?_ <;> try intro hc) | fail)
    exact ⟨ret_e rfl⟩
 | true =>
    obtain ⟨n, g1, rfl, rfl, s1⟩ := dyF_ex2 o1 h1
    have f1 := y_form (G := G) g1
    cases h2 : dyF b2 l2 e2 with
    | false =>
      rw [hs, h1, h2]
      have f2 := y_formN (G := G) b2 l2 e2 o2 h2
      refine ax_i Tryz.func66 Tryz.ntmps66 ?_; intro F hG hO
      rw [← hG] at f1 f2
      repeat' ((try (conv => whnf)); first
 | refine ce f1 ?_ | refine ce f2 ?_
 | with_reducible first | refine ax_s ?_ | (refine ax_f ?_ ?_ <;> try intro hc) | fail)
      exact ⟨ret_e rfl⟩
    | true =>
      obtain ⟨m, g2, rfl, rfl, s2⟩ := dyF_ex2 o2 h2
      rw [hs, h1, h2, s1, s2]
      have f2 := y_form (G := G) g2
      have f3 := p_cmp (G := G) (a := (n, e1)) (b := (m, e2)) g1 g2
      have hc := cmpV_pos (n := n) (e := e1) (m := m) (f := e2)
      refine ax_i Tryz.func66 Tryz.ntmps66 ?_; intro F hG hO
      rw [← hG] at f1 f2 f3
      repeat' ((try (conv => whnf)); first
 | refine ce f1 ?_ | refine ce f2 ?_ | refine ce f3 ?_
 | with_reducible first | refine ax_s ?_ | (refine ax_f ?_ ?_ <;> try intro hc) | fail)
      all_goals (refine ⟨ret_e (bv_eq ?_)⟩; simp only [Bool.true_and]; exact decide_eq_decide.2 (by omega))
theorem not_dec (x y : Int) : (!decide (x < y)) = (true && (true && decide (y ≤ x))) := by
  simp only [Bool.true_and]
  by_cases h : x < y
  · rw [decide_eq_true h, decide_eq_false (by omega)]; rfl
  · rw [decide_eq_false h, decide_eq_true (by omega)]; rfl
theorem q_form {a b : D2} (h : GoodS a b) : FC Tryz.prog G 20 [SP a b] (· = .val (.bool true)) := by
  obtain ⟨g1, g2, hv⟩ := h
  have f1 := r_formg (G := G) g1
  have f2 := r_formg (G := G) g2
  have f3 := q_below (G := G) g2 g1
  rw [decide_eq_false (by omega)] at f3
  refine ax_i Tryz.func20 Tryz.ntmps20 ?_; intro F hG hO
  rw [← hG] at f1 f2 f3
  repeat' ((try (conv => whnf)); first
 | refine ce f1 ?_ | refine ce f2 ?_ | refine ce f3 ?_
 | with_reducible first | refine ax_s ?_ | (refine ax_f ?_ ?_ <;> try intro hc) | fail)
  exact ⟨ret_e rfl⟩
theorem q_formX (b1 : Bool) (l1 : List Int) (e1 : Int) (b2 : Bool) (l2 : List Int) (e2 : Int) (o1 : okD 18446744073709551616 l1) (o2 : okD 18446744073709551616 l2) : FC Tryz.prog G 20 [Sp b1 l1 e1 b2 l2 e2] (· = .val (.bool (spF b1 l1 e1 b2 l2 e2))) := by
  have hs : spF b1 l1 e1 b2 l2 e2 = (dyF b1 l1 e1 && (dyF b2 l2 e2 && decide (VV (sgv b1 l1) e1 ≤ VV (sgv b2 l2) e2))) := rfl
  cases h1 : dyF b1 l1 e1 with
 | false =>
    rw [hs, h1]
    have f1 := r_formN (G := G) b1 l1 e1 o1 h1
    refine ax_i Tryz.func20 Tryz.ntmps20 ?_; intro F hG hO
    rw [← hG] at f1
    repeat' ((try (conv => whnf)); first
 | refine ce f1 ?_
 | with_reducible first | refine ax_s ?_ | (refine ax_f ?_ ?_ <;> try intro hc) | fail)
    exact ⟨ret_e rfl⟩
 | true =>
    obtain ⟨n, g1, rfl, rfl, s1⟩ := dyF_ex2 o1 h1
    have f1 := r_formg (G := G) g1
    cases h2 : dyF b2 l2 e2 with
    | false =>
      rw [hs, h1, h2]
      have f2 := r_formN (G := G) b2 l2 e2 o2 h2
      refine ax_i Tryz.func20 Tryz.ntmps20 ?_; intro F hG hO
      rw [← hG] at f1 f2
      repeat' ((try (conv => whnf)); first
 | refine ce f1 ?_ | refine ce f2 ?_
 | with_reducible first | refine ax_s ?_ | (refine ax_f ?_ ?_ <;> try intro hc) | fail)
      exact ⟨ret_e rfl⟩
    | true =>
      obtain ⟨m, g2, rfl, rfl, s2⟩ := dyF_ex2 o2 h2
      rw [hs, h1, h2, s1, s2]
      have f2 := r_formg (G := G) g2
      have f3 := q_below (G := G) (a := (m, e2)) (b := (n, e1)) g2 g1
      refine ax_i Tryz.func20 Tryz.ntmps20 ?_; intro F hG hO
      rw [← hG] at f1 f2 f3
      repeat' ((try (conv => whnf)); first
 | refine ce f1 ?_ | refine ce f2 ?_ | refine ce f3 ?_
 | with_reducible first | refine ax_s ?_ | (refine ax_f ?_ ?_ <;> try intro hc) | fail)
      all_goals (refine ⟨ret_e (bv_eq ?_)⟩; exact not_dec _ _)
def chkE (p : Int) (b : Bool) : Int := if p < 1 ∨ 70000 < p then 1 else if b then 0 else 2
theorem p_precise (p : Int) : FC Tryz.prog G 95 [.val (.int .i64 p)] (· = .val (.bool (decide (1 ≤ p) && decide (p ≤ 70000)))) := by
  refine ax_i Tryz.func95 Tryz.ntmps95 ?_; intro F hG hO
  repeat' ((try (conv => whnf)); first
 | with_reducible first | refine ax_s ?_ | (refine ax_f ?_ ?_ <;> try intro hc) | fail)
  · exact ⟨ret_e (bv_eq (by rw [decide_eq_true hc]; rfl))⟩
  · exact ⟨ret_e (bv_eq (by rw [decide_eq_false hc]; rfl))⟩
theorem p_check1 (p : Int) (b1 : Bool) (l1 : List Int) (e1 : Int) (b2 : Bool) (l2 : List Int) (e2 : Int) (o1 : okD 18446744073709551616 l1) (o2 : okD 18446744073709551616 l2) :
    FC Tryz.prog G 53 [.val (.int .i64 p), .sl 6 [.val (.bool b1), .ws .u64 l1, .val (.int .i64 e1), .val (.bool b2), .ws .u64 l2, .val (.int .i64 e2)]] (· = .val (.int .i64 (chkE p (spF b1 l1 e1 b2 l2 e2)))) := by
  have f1 := p_precise (G := G) p
  have f2 := p_formX (G := G) b1 l1 e1 b2 l2 e2 o1 o2
  unfold chkE
  by_cases hp : p < 1 ∨ 70000 < p
  · rw [precise_no (by omega)] at f1
    rw [if_pos hp]
    refine ax_i Tryz.func53 Tryz.ntmps53 ?_; intro F hG hO
    rw [← hG] at f1
    repeat' ((try (conv => whnf)); first
 | refine ce f1 ?_
 | with_reducible first | refine ax_s ?_ | (refine ax_f ?_ ?_ <;> try intro hc) | fail)
    exact ⟨ret_e rfl⟩
  · rw [show (decide (1 ≤ p) && decide (p ≤ 70000)) = true by rw [decide_eq_true (by omega), decide_eq_true (by omega)]; rfl] at f1
    rw [if_neg hp]
    cases hs : spF b1 l1 e1 b2 l2 e2 with
    | false =>
      rw [hs] at f2
      refine ax_i Tryz.func53 Tryz.ntmps53 ?_; intro F hG hO
      rw [← hG] at f1 f2
      repeat' ((try (conv => whnf)); first
 | refine ce f1 ?_ | refine ce f2 ?_
 | (refine ax_l ?_)
 | (refine ax_r ?_)
 | (refine lg ?_; refine rounds_g 2 tok ?_)
 | with_reducible first | refine ax_s ?_ | (refine ax_f ?_ ?_ <;> try intro hc) | fail)
      exact ⟨ret_e rfl⟩
    | true =>
      rw [hs] at f2
      refine ax_i Tryz.func53 Tryz.ntmps53 ?_; intro F hG hO
      rw [← hG] at f1 f2
      repeat' ((try (conv => whnf)); first
 | refine ce f1 ?_ | refine ce f2 ?_
 | (refine ax_l ?_)
 | (refine ax_r ?_)
 | (refine lg ?_; refine rounds_g 2 tok ?_)
 | with_reducible first | refine ax_s ?_ | (refine ax_f ?_ ?_ <;> try intro hc) | fail)
      exact ⟨ret_e rfl⟩
theorem p_check2 (p : Int) (b1 : Bool) (l1 : List Int) (e1 : Int) (b2 : Bool) (l2 : List Int) (e2 : Int) (b3 : Bool) (l3 : List Int) (e3 : Int) (b4 : Bool) (l4 : List Int) (e4 : Int) (o1 : okD 18446744073709551616 l1) (o2 : okD 18446744073709551616 l2) (o3 : okD 18446744073709551616 l3) (o4 : okD 18446744073709551616 l4) :
    FC Tryz.prog G 53 [.val (.int .i64 p), .sl 6 [.val (.bool b1), .ws .u64 l1, .val (.int .i64 e1), .val (.bool b2), .ws .u64 l2, .val (.int .i64 e2), .val (.bool b3), .ws .u64 l3, .val (.int .i64 e3), .val (.bool b4), .ws .u64 l4, .val (.int .i64 e4)]] (· = .val (.int .i64 (chkE p (spF b1 l1 e1 b2 l2 e2 && spF b3 l3 e3 b4 l4 e4)))) := by
  have f1 := p_precise (G := G) p
  have f2 := p_formX (G := G) b1 l1 e1 b2 l2 e2 o1 o2
  have f3 := p_formX (G := G) b3 l3 e3 b4 l4 e4 o3 o4
  unfold chkE
  by_cases hp : p < 1 ∨ 70000 < p
  · rw [precise_no (by omega)] at f1
    rw [if_pos hp]
    refine ax_i Tryz.func53 Tryz.ntmps53 ?_; intro F hG hO
    rw [← hG] at f1
    repeat' ((try (conv => whnf)); first
 | refine ce f1 ?_
 | with_reducible first | refine ax_s ?_ | (refine ax_f ?_ ?_ <;> try intro hc) | fail)
    exact ⟨ret_e rfl⟩
  · rw [show (decide (1 ≤ p) && decide (p ≤ 70000)) = true by rw [decide_eq_true (by omega), decide_eq_true (by omega)]; rfl] at f1
    rw [if_neg hp]
    cases hs : spF b1 l1 e1 b2 l2 e2 with
    | false =>
      rw [hs] at f2
      refine ax_i Tryz.func53 Tryz.ntmps53 ?_; intro F hG hO
      rw [← hG] at f1 f2
      repeat' ((try (conv => whnf)); first
 | refine ce f1 ?_ | refine ce f2 ?_
 | (refine ax_l ?_)
 | (refine ax_r ?_)
 | (refine lg ?_; refine rounds_g 3 tok ?_)
 | with_reducible first | refine ax_s ?_ | (refine ax_f ?_ ?_ <;> try intro hc) | fail)
      exact ⟨ret_e rfl⟩
    | true =>
      rw [hs] at f2
      cases ht : spF b3 l3 e3 b4 l4 e4 with
      | false =>
        rw [ht] at f3
        refine ax_i Tryz.func53 Tryz.ntmps53 ?_; intro F hG hO
        rw [← hG] at f1 f2 f3
        repeat' ((try (conv => whnf)); first
 | refine ce f1 ?_ | refine ce f2 ?_ | refine ce f3 ?_
 | (refine ax_l ?_)
 | (refine ax_r ?_)
 | (refine lg ?_; refine rounds_g 3 tok ?_)
 | with_reducible first | refine ax_s ?_ | (refine ax_f ?_ ?_ <;> try intro hc) | fail)
        exact ⟨ret_e rfl⟩
      | true =>
        rw [ht] at f3
        refine ax_i Tryz.func53 Tryz.ntmps53 ?_; intro F hG hO
        rw [← hG] at f1 f2 f3
        repeat' ((try (conv => whnf)); first
 | refine ce f1 ?_ | refine ce f2 ?_ | refine ce f3 ?_
 | (refine ax_l ?_)
 | (refine ax_r ?_)
 | (refine lg ?_; refine rounds_g 3 tok ?_)
 | with_reducible first | refine ax_s ?_ | (refine ax_f ?_ ?_ <;> try intro hc) | fail)
        exact ⟨ret_e rfl⟩
theorem good_len {n e : Int} (h : Good n e) : (d64 n.natAbs).length ≤ 17592186044415 := by
  have : (d64 n.natAbs).length = L64 n.natAbs := rfl
  have := h.1
  omega
theorem p_twin {a : D2} (h : a.good) : FC Tryz.prog G 112 [DY a.1 a.2] (· = DY a.1 a.2) := by
  have f1 := s_clone (G := G) (d64 a.1.natAbs) (good_len h)
  refine ax_i Tryz.func112 Tryz.ntmps112 ?_; intro F hG hO
  rw [← hG] at f1
  repeat' ((try (conv => whnf)); first
 | refine ce f1 ?_
 | with_reducible first | refine ax_s ?_ | (refine ax_f ?_ ?_ <;> try intro hc) | fail)
  exact ⟨ret_e rfl⟩
theorem p_twins {a b : D2} (h : a.good) (g : b.good) : FC Tryz.prog G 71 [SP a b] (· = SP a b) := by
  have f1 := p_twin (G := G) h
  have f2 := p_twin (G := G) g
  refine ax_i Tryz.func71 Tryz.ntmps71 ?_; intro F hG hO
  rw [← hG] at f1 f2
  repeat' ((try (conv => whnf)); first
 | refine ce f1 ?_ | refine ce f2 ?_
 | (refine dG (id := 1) [[0, 1, 3, 4, 2, 5, 6], [7]] ?_)
 | with_reducible first | refine ax_s ?_ | (refine ax_f ?_ ?_ <;> try intro hc) | fail)
  exact ⟨ret_e rfl⟩
theorem bothA_ok {a b : An} (h : a.c = 0) (g : b.c = 0) : bothA a b = spR a.d b.d := if_neg (by omega)
theorem bothA_no {a b : An} (h : a.c ≠ 0 ∨ b.c ≠ 0) : bothA a b = spE 5 := if_pos h
theorem p_both (u v : An) (hu : u.c = 0 ∨ u.c = 5) (hv : v.c = 0 ∨ v.c = 5) : FC Tryz.prog G 58 [DY u.x u.y, .val (.int .i64 u.c), DY v.x v.y, .val (.int .i64 v.c)] (· = bothA u v) := by
  obtain ⟨x, y, c⟩ := u
  obtain ⟨z, w, d⟩ := v
  simp only at hu hv
  show FC Tryz.prog G 58 [DY x y, .val (.int .i64 c), DY z w, .val (.int .i64 d)] (· = bothA ⟨x, y, c⟩ ⟨z, w, d⟩)
  rcases hu with rfl | rfl
  · rcases hv with rfl | rfl
    · rw [bothA_ok rfl rfl]
      refine ax_i Tryz.func58 Tryz.ntmps58 ?_; intro F hG hO
      repeat' ((try (conv => whnf)); first
 | with_reducible first | refine ax_s ?_ | (refine ax_f ?_ ?_ <;> try intro hc) | fail)
      exact ⟨ret_e rfl⟩
    · rw [bothA_no (.inr (show (5 : Int) ≠ 0 by decide))]
      refine ax_i Tryz.func58 Tryz.ntmps58 ?_; intro F hG hO
      repeat' ((try (conv => whnf)); first
 | with_reducible first | refine ax_s ?_ | (refine ax_f ?_ ?_ <;> try intro hc) | fail)
      exact ⟨ret_l _ (lp_spE 5) rfl⟩
  · rcases hv with rfl | rfl
    · rw [bothA_no (.inl (show (5 : Int) ≠ 0 by decide))]
      refine ax_i Tryz.func58 Tryz.ntmps58 ?_; intro F hG hO
      repeat' ((try (conv => whnf)); first
 | with_reducible first | refine ax_s ?_ | (refine ax_f ?_ ?_ <;> try intro hc) | fail)
      exact ⟨ret_l _ (lp_spE 5) rfl⟩
    · rw [bothA_no (.inl (show (5 : Int) ≠ 0 by decide))]
      refine ax_i Tryz.func58 Tryz.ntmps58 ?_; intro F hG hO
      repeat' ((try (conv => whnf)); first
 | with_reducible first | refine ax_s ?_ | (refine ax_f ?_ ?_ <;> try intro hc) | fail)
      exact ⟨ret_l _ (lp_spE 5) rfl⟩
theorem q_told (u v : An) (hu : u.c = 0 ∨ u.c = 5) (hv : v.c = 0 ∨ v.c = 5) : FC Tryz.prog G 159 [DY u.x u.y, .val (.int .i64 u.c), DY v.x v.y, .val (.int .i64 v.c)] (· = bothA u v) := by
  obtain ⟨x, y, c⟩ := u
  obtain ⟨z, w, d⟩ := v
  simp only at hu hv
  show FC Tryz.prog G 159 [DY x y, .val (.int .i64 c), DY z w, .val (.int .i64 d)] (· = bothA ⟨x, y, c⟩ ⟨z, w, d⟩)
  rcases hu with rfl | rfl
  · rcases hv with rfl | rfl
    · rw [bothA_ok rfl rfl]
      refine ax_i Tryz.func159 Tryz.ntmps159 ?_; intro F hG hO
      repeat' ((try (conv => whnf)); first
 | with_reducible first | refine ax_s ?_ | (refine ax_f ?_ ?_ <;> try intro hc) | fail)
      exact ⟨ret_e rfl⟩
    · rw [bothA_no (.inr (show (5 : Int) ≠ 0 by decide))]
      refine ax_i Tryz.func159 Tryz.ntmps159 ?_; intro F hG hO
      repeat' ((try (conv => whnf)); first
 | with_reducible first | refine ax_s ?_ | (refine ax_f ?_ ?_ <;> try intro hc) | fail)
      exact ⟨ret_l _ (lp_spE 5) rfl⟩
  · rcases hv with rfl | rfl
    · rw [bothA_no (.inl (show (5 : Int) ≠ 0 by decide))]
      refine ax_i Tryz.func159 Tryz.ntmps159 ?_; intro F hG hO
      repeat' ((try (conv => whnf)); first
 | with_reducible first | refine ax_s ?_ | (refine ax_f ?_ ?_ <;> try intro hc) | fail)
      exact ⟨ret_l _ (lp_spE 5) rfl⟩
    · rw [bothA_no (.inl (show (5 : Int) ≠ 0 by decide))]
      refine ax_i Tryz.func159 Tryz.ntmps159 ?_; intro F hG hO
      repeat' ((try (conv => whnf)); first
 | with_reducible first | refine ax_s ?_ | (refine ax_f ?_ ?_ <;> try intro hc) | fail)
      exact ⟨ret_l _ (lp_spE 5) rfl⟩
theorem tup_eta {P : Program} {f : FuncId} {args : List PV} {p : PV} (h : FC P G f args (· = p)) (hp : Ans p) : FC P G f args (· = .tup [DY (toAn p).x (toAn p).y, .val (.int .i64 (toAn p).c)]) := by
  have := hp.eq.1
  rw [this] at h
  rw [An.pv] at h
  exact h
theorem bothA_form (u v : An) : ∃ x y c, bothA u v = .tup [SP x y, .val (.int .i64 c)] := by
  unfold bothA
  split
  · exact ⟨(0, 0), (0, 0), 5, rfl⟩
  · exact ⟨u.d, v.d, 0, rfl⟩
theorem p_outward {g : Gs} (hD : (0, debT.map (Value.int .u8)) ∈ g) {a b : D2} (h : a.good) (k : b.good) (p : Int) (hp : 1 ≤ p ∧ p ≤ 70000) : FC Tryz.prog g 59 [DY a.1 a.2, DY b.1 b.2, .val (.int .i64 p)] (· = outP a b p) := by
  have f1 := tup_eta (y_down hD p h) (cuts_ans a hp false)
  have f2 := tup_eta (y_up hD p k) (cuts_ans b hp true)
  have c1 := (cuts_ans a hp false).eq.2.2
  have c2 := (cuts_ans b hp true).eq.2.2
  unfold outP
  obtain ⟨u, hu⟩ : ∃ u, u = toAn (cutsS a.1 a.2 p false) := ⟨_, rfl⟩
  obtain ⟨v, hv⟩ : ∃ v, v = toAn (cutsS b.1 b.2 p true) := ⟨_, rfl⟩
  rw [← hu] at f1 c1 ⊢
  rw [← hv] at f2 c2 ⊢
  have f3 := p_both (G := g) u v c1 c2
  obtain ⟨x, y, c, hr⟩ := bothA_form u v
  rw [hr] at f3 ⊢
  clear hu hv hr
  refine ax_i Tryz.func59 Tryz.ntmps59 ?_; intro F hG hO
  rw [← hG] at f1 f2 f3
  repeat' ((try (conv => whnf)); first
 | refine ce f1 ?_ | refine ce f2 ?_ | refine ce f3 ?_
 | with_reducible first | refine ax_s ?_ | (refine ax_f ?_ ?_ <;> try intro hc) | fail)
  exact ⟨ret_e rfl⟩
theorem least4_v (a b c d : D2) : (least4 a b c d).v = min (min (min a.v b.v) c.v) d.v := by unfold least4; rw [lst2_v, lst2_v, lst2_v]
theorem least4_good {a b c d : D2} (h1 : a.good) (h2 : b.good) (h3 : c.good) (h4 : d.good) : (least4 a b c d).good := lst2_good (lst2_good (lst2_good h1 h2) h3) h4
theorem p_leastf {a b : D2} (h : a.good) (g : b.good) : FC Tryz.prog G 103 [DY a.1 a.2, DY b.1 b.2] (· = .val (.bool (decide (a.v < b.v)))) := by
  have f1 := p_cmp (G := G) h g
  have hc := cmpV_neg (n := a.1) (e := a.2) (m := b.1) (f := b.2)
  refine ax_i Tryz.func103 Tryz.ntmps103 ?_; intro F hG hO
  rw [← hG] at f1
  repeat' ((try (conv => whnf)); first
 | refine ce f1 ?_
 | with_reducible first | refine ax_s ?_ | (refine ax_f ?_ ?_ <;> try intro hc) | fail)
  exact ⟨ret_e (bv_eq (decide_eq_decide.2 hc))⟩
theorem p_firstl2 {a b : D2} (ka : a.good) (kb : b.good) : FC Tryz.prog G 102 [.sl 3 [.val (.bool (decide (a.1 < 0))), .ws .u64 (d64 a.1.natAbs), .val (.int .i64 a.2), .val (.bool (decide (b.1 < 0))), .ws .u64 (d64 b.1.natAbs), .val (.int .i64 b.2)], .val (.func (.func 103) #[] #[])] (· = DY (lst2 a b).1 (lst2 a b).2) := by
  have fba := p_leastf (G := G) kb ka
  refine ax_i Tryz.func102 Tryz.ntmps102 ?_; intro F hG hO
  rw [← hG] at fba
  repeat' ((try (conv => whnf)); first
 | refine ce fba ?_
 | (refine ax_l ?_)
 | (refine ax_r ?_)
 | (refine lg ?_; refine rounds_g 2 tok ?_)
 | with_reducible first | refine ax_s ?_ | (refine ax_f ?_ ?_ <;> try intro hc) | fail)
  all_goals (refine ⟨ret_e ?_⟩; first
    | exact congrArg D2.pv (D2.eq ka (lst2_good ka kb) (by rw [lst2_v]; omega))
    | exact congrArg D2.pv (D2.eq kb (lst2_good ka kb) (by rw [lst2_v]; omega)))
theorem p_least2 {a b : D2} (ka : a.good) (kb : b.good) : FC Tryz.prog G 62 [.sl 3 [.val (.bool (decide (a.1 < 0))), .ws .u64 (d64 a.1.natAbs), .val (.int .i64 a.2), .val (.bool (decide (b.1 < 0))), .ws .u64 (d64 b.1.natAbs), .val (.int .i64 b.2)]] (· = DY (lst2 a b).1 (lst2 a b).2) := by
  have f1 := p_firstl2 (G := G) ka kb
  obtain ⟨r, hr⟩ : ∃ r, r = lst2 a b := ⟨_, rfl⟩
  rw [← hr] at f1 ⊢
  clear hr
  refine ax_i Tryz.func62 Tryz.ntmps62 ?_; intro F hG hO
  rw [← hG] at f1
  repeat' ((try (conv => whnf)); first
 | refine ce f1 ?_
 | with_reducible first | refine ax_s ?_ | (refine ax_f ?_ ?_ <;> try intro hc) | fail)
  exact ⟨ret_e rfl⟩
theorem p_firstl4 {a b c d : D2} (ka : a.good) (kb : b.good) (kc : c.good) (kd : d.good) : FC Tryz.prog G 102 [.sl 3 [.val (.bool (decide (a.1 < 0))), .ws .u64 (d64 a.1.natAbs), .val (.int .i64 a.2), .val (.bool (decide (b.1 < 0))), .ws .u64 (d64 b.1.natAbs), .val (.int .i64 b.2), .val (.bool (decide (c.1 < 0))), .ws .u64 (d64 c.1.natAbs), .val (.int .i64 c.2), .val (.bool (decide (d.1 < 0))), .ws .u64 (d64 d.1.natAbs), .val (.int .i64 d.2)], .val (.func (.func 103) #[] #[])] (· = DY (least4 a b c d).1 (least4 a b c d).2) := by
  have fba := p_leastf (G := G) kb ka
  have fca := p_leastf (G := G) kc ka
  have fcb := p_leastf (G := G) kc kb
  have fda := p_leastf (G := G) kd ka
  have fdb := p_leastf (G := G) kd kb
  have fdc := p_leastf (G := G) kd kc
  refine ax_i Tryz.func102 Tryz.ntmps102 ?_; intro F hG hO
  rw [← hG] at fba fca fcb fda fdb fdc
  repeat' ((try (conv => whnf)); first
 | refine ce fba ?_ | refine ce fca ?_ | refine ce fcb ?_ | refine ce fda ?_ | refine ce fdb ?_ | refine ce fdc ?_
 | (refine ax_l ?_)
 | (refine ax_r ?_)
 | (refine lg ?_; refine rounds_g 4 tok ?_)
 | with_reducible first | refine ax_s ?_ | (refine ax_f ?_ ?_ <;> try intro hc) | fail)
  all_goals (refine ⟨ret_e ?_⟩; first
    | exact congrArg D2.pv (D2.eq ka (least4_good ka kb kc kd) (by rw [least4_v]; omega))
    | exact congrArg D2.pv (D2.eq kb (least4_good ka kb kc kd) (by rw [least4_v]; omega))
    | exact congrArg D2.pv (D2.eq kc (least4_good ka kb kc kd) (by rw [least4_v]; omega))
    | exact congrArg D2.pv (D2.eq kd (least4_good ka kb kc kd) (by rw [least4_v]; omega)))
theorem p_least4 {a b c d : D2} (ka : a.good) (kb : b.good) (kc : c.good) (kd : d.good) : FC Tryz.prog G 62 [.sl 3 [.val (.bool (decide (a.1 < 0))), .ws .u64 (d64 a.1.natAbs), .val (.int .i64 a.2), .val (.bool (decide (b.1 < 0))), .ws .u64 (d64 b.1.natAbs), .val (.int .i64 b.2), .val (.bool (decide (c.1 < 0))), .ws .u64 (d64 c.1.natAbs), .val (.int .i64 c.2), .val (.bool (decide (d.1 < 0))), .ws .u64 (d64 d.1.natAbs), .val (.int .i64 d.2)]] (· = DY (least4 a b c d).1 (least4 a b c d).2) := by
  have f1 := p_firstl4 (G := G) ka kb kc kd
  obtain ⟨r, hr⟩ : ∃ r, r = least4 a b c d := ⟨_, rfl⟩
  rw [← hr] at f1 ⊢
  clear hr
  refine ax_i Tryz.func62 Tryz.ntmps62 ?_; intro F hG hO
  rw [← hG] at f1
  repeat' ((try (conv => whnf)); first
 | refine ce f1 ?_
 | with_reducible first | refine ax_s ?_ | (refine ax_f ?_ ?_ <;> try intro hc) | fail)
  exact ⟨ret_e rfl⟩
theorem great4_v (a b c d : D2) : (great4 a b c d).v = max (max (max a.v b.v) c.v) d.v := by unfold great4; rw [gst2_v, gst2_v, gst2_v]
theorem great4_good {a b c d : D2} (h1 : a.good) (h2 : b.good) (h3 : c.good) (h4 : d.good) : (great4 a b c d).good := gst2_good (gst2_good (gst2_good h1 h2) h3) h4
theorem p_greatestf {a b : D2} (h : a.good) (g : b.good) : FC Tryz.prog G 104 [DY a.1 a.2, DY b.1 b.2] (· = .val (.bool (decide (b.v < a.v)))) := by
  have f1 := p_cmp (G := G) h g
  have hc := cmpV_pos (n := a.1) (e := a.2) (m := b.1) (f := b.2)
  refine ax_i Tryz.func104 Tryz.ntmps104 ?_; intro F hG hO
  rw [← hG] at f1
  repeat' ((try (conv => whnf)); first
 | refine ce f1 ?_
 | with_reducible first | refine ax_s ?_ | (refine ax_f ?_ ?_ <;> try intro hc) | fail)
  exact ⟨ret_e (bv_eq (decide_eq_decide.2 hc))⟩
theorem p_firstg2 {a b : D2} (ka : a.good) (kb : b.good) : FC Tryz.prog G 102 [.sl 3 [.val (.bool (decide (a.1 < 0))), .ws .u64 (d64 a.1.natAbs), .val (.int .i64 a.2), .val (.bool (decide (b.1 < 0))), .ws .u64 (d64 b.1.natAbs), .val (.int .i64 b.2)], .val (.func (.func 104) #[] #[])] (· = DY (gst2 a b).1 (gst2 a b).2) := by
  have fba := p_greatestf (G := G) kb ka
  refine ax_i Tryz.func102 Tryz.ntmps102 ?_; intro F hG hO
  rw [← hG] at fba
  repeat' ((try (conv => whnf)); first
 | refine ce fba ?_
 | (refine ax_l ?_)
 | (refine ax_r ?_)
 | (refine lg ?_; refine rounds_g 2 tok ?_)
 | with_reducible first | refine ax_s ?_ | (refine ax_f ?_ ?_ <;> try intro hc) | fail)
  all_goals (refine ⟨ret_e ?_⟩; first
    | exact congrArg D2.pv (D2.eq ka (gst2_good ka kb) (by rw [gst2_v]; omega))
    | exact congrArg D2.pv (D2.eq kb (gst2_good ka kb) (by rw [gst2_v]; omega)))
theorem p_greatest2 {a b : D2} (ka : a.good) (kb : b.good) : FC Tryz.prog G 63 [.sl 3 [.val (.bool (decide (a.1 < 0))), .ws .u64 (d64 a.1.natAbs), .val (.int .i64 a.2), .val (.bool (decide (b.1 < 0))), .ws .u64 (d64 b.1.natAbs), .val (.int .i64 b.2)]] (· = DY (gst2 a b).1 (gst2 a b).2) := by
  have f1 := p_firstg2 (G := G) ka kb
  obtain ⟨r, hr⟩ : ∃ r, r = gst2 a b := ⟨_, rfl⟩
  rw [← hr] at f1 ⊢
  clear hr
  refine ax_i Tryz.func63 Tryz.ntmps63 ?_; intro F hG hO
  rw [← hG] at f1
  repeat' ((try (conv => whnf)); first
 | refine ce f1 ?_
 | with_reducible first | refine ax_s ?_ | (refine ax_f ?_ ?_ <;> try intro hc) | fail)
  exact ⟨ret_e rfl⟩
theorem p_firstg4 {a b c d : D2} (ka : a.good) (kb : b.good) (kc : c.good) (kd : d.good) : FC Tryz.prog G 102 [.sl 3 [.val (.bool (decide (a.1 < 0))), .ws .u64 (d64 a.1.natAbs), .val (.int .i64 a.2), .val (.bool (decide (b.1 < 0))), .ws .u64 (d64 b.1.natAbs), .val (.int .i64 b.2), .val (.bool (decide (c.1 < 0))), .ws .u64 (d64 c.1.natAbs), .val (.int .i64 c.2), .val (.bool (decide (d.1 < 0))), .ws .u64 (d64 d.1.natAbs), .val (.int .i64 d.2)], .val (.func (.func 104) #[] #[])] (· = DY (great4 a b c d).1 (great4 a b c d).2) := by
  have fba := p_greatestf (G := G) kb ka
  have fca := p_greatestf (G := G) kc ka
  have fcb := p_greatestf (G := G) kc kb
  have fda := p_greatestf (G := G) kd ka
  have fdb := p_greatestf (G := G) kd kb
  have fdc := p_greatestf (G := G) kd kc
  refine ax_i Tryz.func102 Tryz.ntmps102 ?_; intro F hG hO
  rw [← hG] at fba fca fcb fda fdb fdc
  repeat' ((try (conv => whnf)); first
 | refine ce fba ?_ | refine ce fca ?_ | refine ce fcb ?_ | refine ce fda ?_ | refine ce fdb ?_ | refine ce fdc ?_
 | (refine ax_l ?_)
 | (refine ax_r ?_)
 | (refine lg ?_; refine rounds_g 4 tok ?_)
 | with_reducible first | refine ax_s ?_ | (refine ax_f ?_ ?_ <;> try intro hc) | fail)
  all_goals (refine ⟨ret_e ?_⟩; first
    | exact congrArg D2.pv (D2.eq ka (great4_good ka kb kc kd) (by rw [great4_v]; omega))
    | exact congrArg D2.pv (D2.eq kb (great4_good ka kb kc kd) (by rw [great4_v]; omega))
    | exact congrArg D2.pv (D2.eq kc (great4_good ka kb kc kd) (by rw [great4_v]; omega))
    | exact congrArg D2.pv (D2.eq kd (great4_good ka kb kc kd) (by rw [great4_v]; omega)))
theorem p_greatest4 {a b c d : D2} (ka : a.good) (kb : b.good) (kc : c.good) (kd : d.good) : FC Tryz.prog G 63 [.sl 3 [.val (.bool (decide (a.1 < 0))), .ws .u64 (d64 a.1.natAbs), .val (.int .i64 a.2), .val (.bool (decide (b.1 < 0))), .ws .u64 (d64 b.1.natAbs), .val (.int .i64 b.2), .val (.bool (decide (c.1 < 0))), .ws .u64 (d64 c.1.natAbs), .val (.int .i64 c.2), .val (.bool (decide (d.1 < 0))), .ws .u64 (d64 d.1.natAbs), .val (.int .i64 d.2)]] (· = DY (great4 a b c d).1 (great4 a b c d).2) := by
  have f1 := p_firstg4 (G := G) ka kb kc kd
  obtain ⟨r, hr⟩ : ∃ r, r = great4 a b c d := ⟨_, rfl⟩
  rw [← hr] at f1 ⊢
  clear hr
  refine ax_i Tryz.func63 Tryz.ntmps63 ?_; intro F hG hO
  rw [← hG] at f1
  repeat' ((try (conv => whnf)); first
 | refine ce f1 ?_
 | with_reducible first | refine ax_s ?_ | (refine ax_f ?_ ?_ <;> try intro hc) | fail)
  exact ⟨ret_e rfl⟩
theorem spF_SP {a b : D2} (h : GoodS a b) : spF (decide (a.1 < 0)) (d64 a.1.natAbs) a.2 (decide (b.1 < 0)) (d64 b.1.natAbs) b.2 = true := by
  obtain ⟨h1, h2, h3⟩ := h
  unfold spF
  rw [dyF_DY _ _ h1, dyF_DY _ _ h2]
  have e : ∀ n : Int, sgv (decide (n < 0)) (d64 n.natAbs) = n := fun n => by unfold sgv; rw [vl_d64, sg_of]
  rw [e, e]
  simp only [Bool.true_and]
  exact decide_eq_true h3
theorem chkE_ok {p : Int} (hp : 1 ≤ p ∧ p ≤ 70000) : chkE p true = 0 := by unfold chkE; rw [if_neg (by omega)]; rfl
theorem okD64 (n : Nat) : okD 18446744073709551616 (d64 n) := (d64_ok n).1
theorem outP_form (a b : D2) (p : Int) : ∃ x y c, outP a b p = .tup [SP x y, .val (.int .i64 c)] := bothA_form _ _
theorem p_check1g {a b : D2} (h : GoodS a b) {p : Int} (hp : 1 ≤ p ∧ p ≤ 70000) : FC Tryz.prog G 53 [.val (.int .i64 p), .sl 6 [.val (.bool (decide (a.1 < 0))), .ws .u64 (d64 a.1.natAbs), .val (.int .i64 a.2), .val (.bool (decide (b.1 < 0))), .ws .u64 (d64 b.1.natAbs), .val (.int .i64 b.2)]] (· = .val (.int .i64 0)) := by
  have f := p_check1 (G := G) p (decide (a.1 < 0)) (d64 a.1.natAbs) a.2 (decide (b.1 < 0)) (d64 b.1.natAbs) b.2 (okD64 a.1.natAbs) (okD64 b.1.natAbs)
  rw [spF_SP h, chkE_ok hp] at f
  exact f
theorem p_check2g {a b c d : D2} (h : GoodS a b) (k : GoodS c d) {p : Int} (hp : 1 ≤ p ∧ p ≤ 70000) : FC Tryz.prog G 53 [.val (.int .i64 p), .sl 6 [.val (.bool (decide (a.1 < 0))), .ws .u64 (d64 a.1.natAbs), .val (.int .i64 a.2), .val (.bool (decide (b.1 < 0))), .ws .u64 (d64 b.1.natAbs), .val (.int .i64 b.2), .val (.bool (decide (c.1 < 0))), .ws .u64 (d64 c.1.natAbs), .val (.int .i64 c.2), .val (.bool (decide (d.1 < 0))), .ws .u64 (d64 d.1.natAbs), .val (.int .i64 d.2)]] (· = .val (.int .i64 0)) := by
  have f := p_check2 (G := G) p (decide (a.1 < 0)) (d64 a.1.natAbs) a.2 (decide (b.1 < 0)) (d64 b.1.natAbs) b.2 (decide (c.1 < 0)) (d64 c.1.natAbs) c.2 (decide (d.1 < 0)) (d64 d.1.natAbs) d.2 (okD64 a.1.natAbs) (okD64 b.1.natAbs) (okD64 c.1.natAbs) (okD64 d.1.natAbs)
  rw [spF_SP h, spF_SP k, Bool.and_self, chkE_ok hp] at f
  exact f
theorem p_Sign {a b : D2} (h : GoodS a b) : FC Tryz.prog G 54 [SP a b] (· = .tup [.val (.int .i64 (if b.1 < 0 then -1 else if 0 < a.1 then 1 else 0)), .val (.int .i64 0)]) := by
  have f0 := p_form (G := G) h
  have f1 := p_sign (G := G) h.1
  have f2 := p_sign (G := G) h.2.1
  by_cases hb : b.1 < 0
  · rw [if_pos hb]
    rw [Int.sign_eq_neg_one_of_neg hb] at f2
    refine ax_i Tryz.func54 Tryz.ntmps54 ?_; intro F hG hO
    rw [← hG] at f0 f2
    repeat' ((try (conv => whnf)); first
 | refine ce f0 ?_ | refine ce f2 ?_
 | with_reducible first | refine ax_s ?_ | (refine ax_f ?_ ?_ <;> try intro hc) | fail)
    all_goals exact ⟨ret_e rfl⟩
  · rw [if_neg hb]
    have s2 : 0 ≤ b.1.sign := by rcases Int.lt_trichotomy b.1 0 with h | h | h <;> first | omega | (rw [h]; decide) | (rw [Int.sign_eq_one_of_pos h]; decide)
    obtain ⟨t, ht⟩ : ∃ t, t = b.1.sign := ⟨_, rfl⟩
    rw [← ht] at f2 s2
    clear ht
    by_cases ha : 0 < a.1
    · rw [if_pos ha]
      rw [Int.sign_eq_one_of_pos ha] at f1
      refine ax_i Tryz.func54 Tryz.ntmps54 ?_; intro F hG hO
      rw [← hG] at f0 f1 f2
      repeat' ((try (conv => whnf)); first
 | refine ce f0 ?_ | refine ce f1 ?_ | refine ce f2 ?_
 | with_reducible first | refine ax_s ?_ | (refine ax_f ?_ ?_ <;> try intro hc) | fail)
      all_goals exact ⟨ret_e rfl⟩
    · rw [if_neg ha]
      have s1 : a.1.sign ≤ 0 := by rcases Int.lt_trichotomy a.1 0 with h | h | h <;> first | omega | (rw [Int.sign_eq_neg_one_of_neg h]; decide) | (rw [h]; decide)
      obtain ⟨u, hu⟩ : ∃ t, t = a.1.sign := ⟨_, rfl⟩
      rw [← hu] at f1 s1
      clear hu
      refine ax_i Tryz.func54 Tryz.ntmps54 ?_; intro F hG hO
      rw [← hG] at f0 f1 f2
      repeat' ((try (conv => whnf)); first
 | refine ce f0 ?_ | refine ce f1 ?_ | refine ce f2 ?_
 | with_reducible first | refine ax_s ?_ | (refine ax_f ?_ ?_ <;> try intro hc) | fail)
      all_goals exact ⟨ret_e rfl⟩
theorem GoodS.neg {a b : D2} (h : GoodS a b) : GoodS b.neg a.neg := ⟨D2.neg_good h.2.1, D2.neg_good h.1, by rw [D2.neg_v, D2.neg_v]; have := h.2.2; omega⟩
theorem p_neg {a b : D2} (h : GoodS a b) : FC Tryz.prog G 22 [SP a b] (· = spR b.neg a.neg) := by
  have f0 := p_form (G := G) h
  have f1 : FC Tryz.prog G 67 [DY a.1 a.2] (· = dyR a.neg.1 a.neg.2) := y_neg (G := G) h.1
  have f2 : FC Tryz.prog G 67 [DY b.1 b.2] (· = dyR b.neg.1 b.neg.2) := y_neg (G := G) h.2.1
  obtain ⟨u, hu⟩ : ∃ u, u = a.neg := ⟨_, rfl⟩
  obtain ⟨v, hv⟩ : ∃ v, v = b.neg := ⟨_, rfl⟩
  rw [← hu] at f1 ⊢
  rw [← hv] at f2 ⊢
  clear hu hv
  refine ax_i Tryz.func22 Tryz.ntmps22 ?_; intro F hG hO
  rw [← hG] at f0 f1 f2
  repeat' ((try (conv => whnf)); first
 | refine ce f0 ?_ | refine ce f1 ?_ | refine ce f2 ?_
 | with_reducible first | refine ax_s ?_ | (refine ax_f ?_ ?_ <;> try intro hc) | fail)
  exact ⟨ret_e rfl⟩
theorem y_scaleP {g : Gs} (hD : (0, debT.map (Value.int .u8)) ∈ g) {a : D2} (h : a.good) (k : Int) (hk : inR .i64 k) : FC Tryz.prog g 136 [DY a.1 a.2, .val (.int .i64 k)] (· = .tup [DY (toAn (scaleS a.1 a.2 k)).x (toAn (scaleS a.1 a.2 k)).y, .val (.int .i64 (toAn (scaleS a.1 a.2 k)).c)]) := tup_eta (y_scale k h hk) (scale_ans a k)
theorem y_addP {g : Gs} (hD : (0, debT.map (Value.int .u8)) ∈ g) {a c : D2} (h : a.good) (k : c.good) : FC Tryz.prog g 69 [DY a.1 a.2, DY c.1 c.2] (· = .tup [DY (toAn (addP a c)).x (toAn (addP a c)).y, .val (.int .i64 (toAn (addP a c)).c)]) := tup_eta (y_add hD h k) (add_ans h k)
theorem y_subP {g : Gs} (hD : (0, debT.map (Value.int .u8)) ∈ g) {a c : D2} (h : a.good) (k : c.good) : FC Tryz.prog g 68 [DY a.1 a.2, DY c.1 c.2] (· = .tup [DY (toAn (addP a c.neg)).x (toAn (addP a c.neg)).y, .val (.int .i64 (toAn (addP a c.neg)).c)]) := tup_eta (y_sub hD h k) (add_ans h (D2.neg_good k))
theorem y_mulP {g : Gs} (hD : (0, debT.map (Value.int .u8)) ∈ g) {a c : D2} (h : a.good) (k : c.good) : FC Tryz.prog g 61 [DY a.1 a.2, DY c.1 c.2] (· = .tup [DY (toAn (mulP a c)).x (toAn (mulP a c)).y, .val (.int .i64 (toAn (mulP a c)).c)]) := tup_eta (y_mul hD h k) (mul_ans a c)
theorem y_quoP {g : Gs} (hD : (0, debT.map (Value.int .u8)) ∈ g) {a c : D2} (h : a.good) (k : c.good) {p : Int} (hp : 1 ≤ p ∧ p ≤ 70000) (h0 : c.1 ≠ 0) : FC Tryz.prog g 56 [DY a.1 a.2, DY c.1 c.2, .val (.int .i64 p)] (· = .tup [DY (toAn (quoP a c p false)).x (toAn (quoP a c p false)).y, .val (.int .i64 (toAn (quoP a c p false)).c)])
    ∧ FC Tryz.prog g 57 [DY a.1 a.2, DY c.1 c.2, .val (.int .i64 p)] (· = .tup [DY (toAn (quoP a c p true)).x (toAn (quoP a c p true)).y, .val (.int .i64 (toAn (quoP a c p true)).c)]) :=
  ⟨tup_eta (y_quodown hD p h k (by dsimp only [inR]; omega)) (quo_ans hp h0 false), tup_eta (y_quoup hD p h k (by dsimp only [inR]; omega)) (quo_ans hp h0 true)⟩
theorem p_scale {g : Gs} (hD : (0, debT.map (Value.int .u8)) ∈ g) {a b : D2} (h : GoodS a b) (k : Int) (hk : inR .i64 k) : FC Tryz.prog g 89 [SP a b, .val (.int .i64 k)] (· = spScale a b k) := by
  have f0 := p_form (G := g) h
  have f1 := y_scaleP hD h.1 k hk
  have f2 := y_scaleP hD h.2.1 k hk
  have c1 := (scale_ans a k).eq.2.2
  have c2 := (scale_ans b k).eq.2.2
  unfold spScale
  obtain ⟨u, hu⟩ : ∃ u, u = toAn (scaleS a.1 a.2 k) := ⟨_, rfl⟩
  obtain ⟨v, hv⟩ : ∃ v, v = toAn (scaleS b.1 b.2 k) := ⟨_, rfl⟩
  rw [← hu] at f1 c1 ⊢
  rw [← hv] at f2 c2 ⊢
  have f3 := p_both (G := g) u v c1 c2
  obtain ⟨x, y, c, hr⟩ := bothA_form u v
  rw [hr] at f3 ⊢
  clear hu hv hr c1 c2
  refine ax_i Tryz.func89 Tryz.ntmps89 ?_; intro F hG hO
  rw [← hG] at f0 f1 f2 f3
  repeat' ((try (conv => whnf)); first
 | refine ce f0 ?_ | refine ce f1 ?_ | refine ce f2 ?_ | refine ce f3 ?_
 | with_reducible first | refine ax_s ?_ | (refine ax_f ?_ ?_ <;> try intro hc) | fail)
  exact ⟨ret_e rfl⟩
theorem p_out {g : Gs} (hD : (0, debT.map (Value.int .u8)) ∈ g) {a b : D2} (h : GoodS a b) {p : Int} (hp : 1 ≤ p ∧ p ≤ 70000) : FC Tryz.prog g 17 [SP a b, .val (.int .i64 p)] (· = outP a b p) := by
  have f0 := p_check1g (G := g) h hp
  have f1 := p_outward hD h.1 h.2.1 p hp
  obtain ⟨x, y, c, hr⟩ := outP_form a b p
  rw [hr] at f1 ⊢
  clear hr
  refine ax_i Tryz.func17 Tryz.ntmps17 ?_; intro F hG hO
  rw [← hG] at f0 f1
  repeat' ((try (conv => whnf)); first
 | refine ce f0 ?_ | refine ce f1 ?_
 | with_reducible first | refine ax_s ?_ | (refine ax_f ?_ ?_ <;> try intro hc) | fail)
  exact ⟨ret_e rfl⟩
theorem p_add {g : Gs} (hD : (0, debT.map (Value.int .u8)) ∈ g) {a b c d : D2} (h : GoodS a b) (k : GoodS c d) {p : Int} (hp : 1 ≤ p ∧ p ≤ 70000) : FC Tryz.prog g 24 [SP a b, SP c d, .val (.int .i64 p)] (· = sumP a b c d p) := by
  have f0 := p_check2g (G := g) h k hp
  have f1 := y_addP hD h.1 k.1
  have f2 := y_addP hD h.2.1 k.2.1
  obtain ⟨_, g1, c1⟩ := (add_ans h.1 k.1).eq
  obtain ⟨_, g2, c2⟩ := (add_ans h.2.1 k.2.1).eq
  unfold sumP
  obtain ⟨u, hu⟩ : ∃ u, u = toAn (addP a c) := ⟨_, rfl⟩
  obtain ⟨v, hv⟩ : ∃ v, v = toAn (addP b d) := ⟨_, rfl⟩
  rw [← hu] at f1 g1 c1 ⊢
  rw [← hv] at f2 g2 c2 ⊢
  clear hu hv
  by_cases z1 : u.c = 0
  · by_cases z2 : v.c = 0
    · rw [if_neg (by omega)]
      have f3 := p_outward hD (a := u.d) (b := v.d) g1 g2 p hp
      obtain ⟨x, y, c, hr⟩ := outP_form u.d v.d p
      rw [hr] at f3 ⊢
      rw [z1] at f1
      rw [z2] at f2
      clear hr c1 c2
      refine ax_i Tryz.func24 Tryz.ntmps24 ?_; intro F hG hO
      rw [← hG] at f0 f1 f2 f3
      repeat' ((try (conv => whnf)); first
 | refine ce f0 ?_ | refine ce f1 ?_ | refine ce f2 ?_ | refine ce f3 ?_
 | with_reducible first | refine ax_s ?_ | (refine ax_f ?_ ?_ <;> try intro hc) | fail)
      exact ⟨ret_e rfl⟩
    · rw [if_pos (by omega)]
      rw [z1] at f1
      rw [show v.c = 5 by omega] at f2
      clear c1 c2
      refine ax_i Tryz.func24 Tryz.ntmps24 ?_; intro F hG hO
      rw [← hG] at f0 f1 f2
      repeat' ((try (conv => whnf)); first
 | refine ce f0 ?_ | refine ce f1 ?_ | refine ce f2 ?_
 | with_reducible first | refine ax_s ?_ | (refine ax_f ?_ ?_ <;> try intro hc) | fail)
      exact ⟨ret_l _ (lp_spE 5) rfl⟩
  · rw [if_pos (by omega)]
    rw [show u.c = 5 by omega] at f1
    rcases c2 with c2 | c2
    · rw [c2] at f2
      clear c1
      refine ax_i Tryz.func24 Tryz.ntmps24 ?_; intro F hG hO
      rw [← hG] at f0 f1 f2
      repeat' ((try (conv => whnf)); first
 | refine ce f0 ?_ | refine ce f1 ?_ | refine ce f2 ?_
 | with_reducible first | refine ax_s ?_ | (refine ax_f ?_ ?_ <;> try intro hc) | fail)
      exact ⟨ret_l _ (lp_spE 5) rfl⟩
    · rw [c2] at f2
      clear c1
      refine ax_i Tryz.func24 Tryz.ntmps24 ?_; intro F hG hO
      rw [← hG] at f0 f1 f2
      repeat' ((try (conv => whnf)); first
 | refine ce f0 ?_ | refine ce f1 ?_ | refine ce f2 ?_
 | with_reducible first | refine ax_s ?_ | (refine ax_f ?_ ?_ <;> try intro hc) | fail)
      exact ⟨ret_l _ (lp_spE 5) rfl⟩
theorem p_sub {g : Gs} (hD : (0, debT.map (Value.int .u8)) ∈ g) {a b c d : D2} (h : GoodS a b) (k : GoodS c d) {p : Int} (hp : 1 ≤ p ∧ p ≤ 70000) : FC Tryz.prog g 23 [SP a b, SP c d, .val (.int .i64 p)] (· = sumP a b d.neg c.neg p) := by
  have f0 := p_check2g (G := g) h k hp
  have f1 := y_subP hD h.1 k.2.1
  have f2 := y_subP hD h.2.1 k.1
  obtain ⟨_, g1, c1⟩ := (add_ans h.1 (D2.neg_good k.2.1)).eq
  obtain ⟨_, g2, c2⟩ := (add_ans h.2.1 (D2.neg_good k.1)).eq
  unfold sumP
  obtain ⟨u, hu⟩ : ∃ u, u = toAn (addP a d.neg) := ⟨_, rfl⟩
  obtain ⟨v, hv⟩ : ∃ v, v = toAn (addP b c.neg) := ⟨_, rfl⟩
  rw [← hu] at f1 g1 c1 ⊢
  rw [← hv] at f2 g2 c2 ⊢
  clear hu hv
  by_cases z1 : u.c = 0
  · by_cases z2 : v.c = 0
    · rw [if_neg (by omega)]
      have f3 := p_outward hD (a := u.d) (b := v.d) g1 g2 p hp
      obtain ⟨x, y, c, hr⟩ := outP_form u.d v.d p
      rw [hr] at f3 ⊢
      rw [z1] at f1
      rw [z2] at f2
      clear hr c1 c2
      refine ax_i Tryz.func23 Tryz.ntmps23 ?_; intro F hG hO
      rw [← hG] at f0 f1 f2 f3
      repeat' ((try (conv => whnf)); first
 | refine ce f0 ?_ | refine ce f1 ?_ | refine ce f2 ?_ | refine ce f3 ?_
 | with_reducible first | refine ax_s ?_ | (refine ax_f ?_ ?_ <;> try intro hc) | fail)
      exact ⟨ret_e rfl⟩
    · rw [if_pos (by omega)]
      rw [z1] at f1
      rw [show v.c = 5 by omega] at f2
      clear c1 c2
      refine ax_i Tryz.func23 Tryz.ntmps23 ?_; intro F hG hO
      rw [← hG] at f0 f1 f2
      repeat' ((try (conv => whnf)); first
 | refine ce f0 ?_ | refine ce f1 ?_ | refine ce f2 ?_
 | with_reducible first | refine ax_s ?_ | (refine ax_f ?_ ?_ <;> try intro hc) | fail)
      exact ⟨ret_l _ (lp_spE 5) rfl⟩
  · rw [if_pos (by omega)]
    rw [show u.c = 5 by omega] at f1
    rcases c2 with c2 | c2
    · rw [c2] at f2
      clear c1
      refine ax_i Tryz.func23 Tryz.ntmps23 ?_; intro F hG hO
      rw [← hG] at f0 f1 f2
      repeat' ((try (conv => whnf)); first
 | refine ce f0 ?_ | refine ce f1 ?_ | refine ce f2 ?_
 | with_reducible first | refine ax_s ?_ | (refine ax_f ?_ ?_ <;> try intro hc) | fail)
      exact ⟨ret_l _ (lp_spE 5) rfl⟩
    · rw [c2] at f2
      clear c1
      refine ax_i Tryz.func23 Tryz.ntmps23 ?_; intro F hG hO
      rw [← hG] at f0 f1 f2
      repeat' ((try (conv => whnf)); first
 | refine ce f0 ?_ | refine ce f1 ?_ | refine ce f2 ?_
 | with_reducible first | refine ax_s ?_ | (refine ax_f ?_ ?_ <;> try intro hc) | fail)
      exact ⟨ret_l _ (lp_spE 5) rfl⟩
def qTQ : Tm := .take 0 (.take 2 (.alt 1 (.alt 3 (.alt 4 (.alt 5 (.alt 6 (.alt 7 (.fin) (.non)) (.non)) (.non)) (.alt 5 (.alt 4 (.alt 6 (.alt 7 (.fin) (.non)) (.non)) (.non)) (.non))) (.alt 4 (.alt 3 (.alt 5 (.alt 6 (.alt 7 (.fin) (.non)) (.non)) (.non)) (.alt 5 (.alt 3 (.alt 6 (.alt 7 (.fin) (.non)) (.non)) (.alt 6 (.alt 3 (.alt 7 (.fin) (.non)) (.non)) (.non))) (.non))) (.alt 5 (.alt 3 (.alt 4 (.alt 6 (.alt 7 (.fin) (.non)) (.non)) (.non)) (.alt 4 (.alt 3 (.alt 6 (.alt 7 (.fin) (.non)) (.non)) (.alt 6 (.alt 3 (.alt 7 (.fin) (.non)) (.non)) (.non))) (.non))) (.non)))) (.alt 3 (.alt 1 (.alt 4 (.alt 5 (.alt 6 (.alt 7 (.fin) (.non)) (.non)) (.non)) (.alt 5 (.alt 4 (.alt 6 (.alt 7 (.fin) (.non)) (.non)) (.non)) (.non))) (.alt 4 (.alt 1 (.alt 5 (.alt 6 (.alt 7 (.fin) (.non)) (.non)) (.non)) (.alt 5 (.alt 1 (.alt 6 (.alt 7 (.fin) (.non)) (.non)) (.non)) (.non))) (.alt 5 (.alt 1 (.alt 4 (.alt 6 (.alt 7 (.fin) (.non)) (.non)) (.non)) (.alt 4 (.alt 1 (.alt 6 (.alt 7 (.fin) (.non)) (.non)) (.non)) (.non))) (.non)))) (.alt 4 (.alt 1 (.alt 3 (.alt 5 (.alt 6 (.alt 7 (.fin) (.non)) (.non)) (.non)) (.alt 5 (.alt 3 (.alt 6 (.alt 7 (.fin) (.non)) (.non)) (.alt 6 (.alt 3 (.alt 7 (.fin) (.non)) (.non)) (.non))) (.non))) (.alt 3 (.alt 1 (.alt 5 (.alt 6 (.alt 7 (.fin) (.non)) (.non)) (.non)) (.alt 5 (.alt 1 (.alt 6 (.alt 7 (.fin) (.non)) (.non)) (.non)) (.non))) (.alt 5 (.alt 1 (.alt 3 (.alt 6 (.alt 7 (.fin) (.non)) (.non)) (.alt 6 (.alt 3 (.alt 7 (.fin) (.non)) (.non)) (.non))) (.alt 3 (.alt 1 (.alt 6 (.alt 7 (.fin) (.non)) (.non)) (.non)) (.non))) (.non)))) (.alt 5 (.alt 1 (.alt 3 (.alt 4 (.alt 6 (.alt 7 (.fin) (.non)) (.non)) (.non)) (.alt 4 (.alt 3 (.alt 6 (.alt 7 (.fin) (.non)) (.non)) (.alt 6 (.alt 3 (.alt 7 (.fin) (.non)) (.non)) (.non))) (.non))) (.alt 3 (.alt 1 (.alt 4 (.alt 6 (.alt 7 (.fin) (.non)) (.non)) (.non)) (.alt 4 (.alt 1 (.alt 6 (.alt 7 (.fin) (.non)) (.non)) (.non)) (.non))) (.alt 4 (.alt 1 (.alt 3 (.alt 6 (.alt 7 (.fin) (.non)) (.non)) (.alt 6 (.alt 3 (.alt 7 (.fin) (.non)) (.non)) (.non))) (.alt 3 (.alt 1 (.alt 6 (.alt 7 (.fin) (.non)) (.non)) (.non)) (.non))) (.non)))) (.non))))))
theorem elDy : elT Tryz.prog 94 = some (26, 3) := by kernel_rfl
theorem zeDy : zeroT Tryz.prog 26 = some [.val (.bool false), .nil, .val (.int .i64 0)] := by kernel_rfl
theorem sign3 (n : Int) : (n.sign = -1 ∧ n < 0) ∨ (n.sign = 0 ∧ n = 0) ∨ (n.sign = 1 ∧ 0 < n) := by
  rcases Int.lt_trichotomy n 0 with h | h | h
  · exact .inl ⟨Int.sign_eq_neg_one_of_neg h, h⟩
  · exact .inr (.inl ⟨by rw [h]; rfl, h⟩)
  · exact .inr (.inr ⟨Int.sign_eq_one_of_pos h, h⟩)
theorem byDy : byT Tryz.prog 26 = some 40 := by kernel_rfl
theorem p_mul {g : Gs} (hD : (0, debT.map (Value.int .u8)) ∈ g) {a b c d : D2} (h : GoodS a b) (k : GoodS c d) {p : Int} (hp : 1 ≤ p ∧ p ≤ 70000) : FC Tryz.prog g 19 [SP a b, SP c d, .val (.int .i64 p)] (· = spMul a b c d p) := by
  have f0 := p_check2g (G := g) h k hp
  have f1 := y_mulP hD h.1 k.1
  obtain ⟨_, g1, c1⟩ := (mul_ans a c).eq
  have f2 := y_mulP hD h.1 k.2.1
  obtain ⟨_, g2, c2⟩ := (mul_ans a d).eq
  have f3 := y_mulP hD h.2.1 k.1
  obtain ⟨_, g3, c3⟩ := (mul_ans b c).eq
  have f4 := y_mulP hD h.2.1 k.2.1
  obtain ⟨_, g4, c4⟩ := (mul_ans b d).eq
  unfold spMul
  obtain ⟨u1, hu1⟩ : ∃ u, u = toAn (mulP a c) := ⟨_, rfl⟩
  rw [← hu1] at f1 g1 c1 ⊢
  clear hu1
  obtain ⟨u2, hu2⟩ : ∃ u, u = toAn (mulP a d) := ⟨_, rfl⟩
  rw [← hu2] at f2 g2 c2 ⊢
  clear hu2
  obtain ⟨u3, hu3⟩ : ∃ u, u = toAn (mulP b c) := ⟨_, rfl⟩
  rw [← hu3] at f3 g3 c3 ⊢
  clear hu3
  obtain ⟨u4, hu4⟩ : ∃ u, u = toAn (mulP b d) := ⟨_, rfl⟩
  rw [← hu4] at f4 g4 c4 ⊢
  clear hu4
  by_cases z1 : u1.c = 0
  · skip
    by_cases z2 : u2.c = 0
    · skip
      by_cases z3 : u3.c = 0
      · skip
        by_cases z4 : u4.c = 0
        · skip
          rw [if_neg (by omega)]
          have e1 := p_least4 (G := g) (a := u1.d) (b := u2.d) (c := u3.d) (d := u4.d) g1 g2 g3 g4
          have e2 := p_greatest4 (G := g) (a := u1.d) (b := u2.d) (c := u3.d) (d := u4.d) g1 g2 g3 g4
          have gl := least4_good (a := u1.d) (b := u2.d) (c := u3.d) (d := u4.d) g1 g2 g3 g4
          have gg := great4_good (a := u1.d) (b := u2.d) (c := u3.d) (d := u4.d) g1 g2 g3 g4
          obtain ⟨lo, hlo⟩ : ∃ r, r = least4 u1.d u2.d u3.d u4.d := ⟨_, rfl⟩
          obtain ⟨hi, hhi⟩ : ∃ r, r = great4 u1.d u2.d u3.d u4.d := ⟨_, rfl⟩
          rw [← hlo] at e1 gl ⊢
          rw [← hhi] at e2 gg ⊢
          have e3 := p_outward hD gl gg p hp
          obtain ⟨x, y, c, hr⟩ := outP_form lo hi p
          rw [hr] at e3 ⊢
          rw [z1] at f1
          rw [z2] at f2
          rw [z3] at f3
          rw [z4] at f4
          clear hr hlo hhi c1 c2 c3 c4
          refine ax_i Tryz.func19 Tryz.ntmps19 ?_; intro F hG hO
          rw [← hG] at f0 f1 f2 f3 f4 e1 e2 e3
          repeat' ((try (conv => whnf)); first
 | refine ce f0 ?_ | refine ce f1 ?_ | refine ce f2 ?_ | refine ce f3 ?_ | refine ce f4 ?_
 | (refine cg ?_; refine call_frz 0 (z := 3) rfl (by decide) (by rw [hO]; exact Nat.zero_le _) ?_; refine ce e1 ?_)
 | refine ce e2 ?_ | refine ce e3 ?_
 | (refine RawG.mk ?_; refine Sem.wr rfl (Does.appN (z := 3) (m := 1) rfl rfl rfl elDy zeDy rfl byDy rfl (by decide) (by decide) rfl rfl ?_))
 | (refine RawG.mk ?_; refine Sem.wr rfl (Does.appG (z := 3) (m := 1) rfl rfl rfl rfl elDy zeDy rfl byDy rfl rfl (by decide) rfl (by decide) (by rw [hO]; exact Nat.zero_le _) rfl rfl ?_))
 | (refine ax_l ?_)
 | (refine ax_r ?_)
 | (refine lg ?_; refine rounds_g 3 tok ?_)
 | with_reducible first | refine ax_s ?_ | (refine ax_f ?_ ?_ <;> try intro hc) | fail)
          all_goals exact ⟨ret_e rfl⟩
        · rw [if_pos (by omega)]
          rw [z1] at f1
          rw [z2] at f2
          rw [z3] at f3
          rw [show u4.c = 5 by omega] at f4
          clear c1 c2 c3 c4
          refine ax_i Tryz.func19 Tryz.ntmps19 ?_; intro F hG hO
          rw [← hG] at f0 f1 f2 f3 f4
          repeat' ((try (conv => whnf)); first
 | refine ce f0 ?_ | refine ce f1 ?_ | refine ce f2 ?_ | refine ce f3 ?_ | refine ce f4 ?_
 | (refine RawG.mk ?_; refine Sem.wr rfl (Does.appN (z := 3) (m := 1) rfl rfl rfl elDy zeDy rfl byDy rfl (by decide) (by decide) rfl rfl ?_))
 | (refine RawG.mk ?_; refine Sem.wr rfl (Does.appG (z := 3) (m := 1) rfl rfl rfl rfl elDy zeDy rfl byDy rfl rfl (by decide) rfl (by decide) (by rw [hO]; exact Nat.zero_le _) rfl rfl ?_))
 | (refine ax_l ?_)
 | (refine ax_r ?_)
 | (refine lg ?_; refine rounds_g 3 tok ?_)
 | with_reducible first | refine ax_s ?_ | (refine ax_f ?_ ?_ <;> try intro hc) | fail)
          all_goals exact ⟨ret_l _ (lp_spE 5) rfl⟩
      · rw [if_pos (by omega)]
        rw [z1] at f1
        rw [z2] at f2
        rw [show u3.c = 5 by omega] at f3
        clear c1 c2 c3 c4
        refine ax_i Tryz.func19 Tryz.ntmps19 ?_; intro F hG hO
        rw [← hG] at f0 f1 f2 f3
        repeat' ((try (conv => whnf)); first
 | refine ce f0 ?_ | refine ce f1 ?_ | refine ce f2 ?_ | refine ce f3 ?_
 | (refine RawG.mk ?_; refine Sem.wr rfl (Does.appN (z := 3) (m := 1) rfl rfl rfl elDy zeDy rfl byDy rfl (by decide) (by decide) rfl rfl ?_))
 | (refine RawG.mk ?_; refine Sem.wr rfl (Does.appG (z := 3) (m := 1) rfl rfl rfl rfl elDy zeDy rfl byDy rfl rfl (by decide) rfl (by decide) (by rw [hO]; exact Nat.zero_le _) rfl rfl ?_))
 | (refine ax_l ?_)
 | (refine ax_r ?_)
 | (refine lg ?_; refine rounds_g 3 tok ?_)
 | with_reducible first | refine ax_s ?_ | (refine ax_f ?_ ?_ <;> try intro hc) | fail)
        all_goals exact ⟨ret_l _ (lp_spE 5) rfl⟩
    · rw [if_pos (by omega)]
      rw [z1] at f1
      rw [show u2.c = 5 by omega] at f2
      clear c1 c2 c3 c4
      refine ax_i Tryz.func19 Tryz.ntmps19 ?_; intro F hG hO
      rw [← hG] at f0 f1 f2
      repeat' ((try (conv => whnf)); first
 | refine ce f0 ?_ | refine ce f1 ?_ | refine ce f2 ?_
 | (refine RawG.mk ?_; refine Sem.wr rfl (Does.appN (z := 3) (m := 1) rfl rfl rfl elDy zeDy rfl byDy rfl (by decide) (by decide) rfl rfl ?_))
 | (refine RawG.mk ?_; refine Sem.wr rfl (Does.appG (z := 3) (m := 1) rfl rfl rfl rfl elDy zeDy rfl byDy rfl rfl (by decide) rfl (by decide) (by rw [hO]; exact Nat.zero_le _) rfl rfl ?_))
 | (refine ax_l ?_)
 | (refine ax_r ?_)
 | (refine lg ?_; refine rounds_g 3 tok ?_)
 | with_reducible first | refine ax_s ?_ | (refine ax_f ?_ ?_ <;> try intro hc) | fail)
      all_goals exact ⟨ret_l _ (lp_spE 5) rfl⟩
  · rw [if_pos (by omega)]
    rw [show u1.c = 5 by omega] at f1
    clear c1 c2 c3 c4
    refine ax_i Tryz.func19 Tryz.ntmps19 ?_; intro F hG hO
    rw [← hG] at f0 f1
    repeat' ((try (conv => whnf)); first
 | refine ce f0 ?_ | refine ce f1 ?_
 | (refine RawG.mk ?_; refine Sem.wr rfl (Does.appN (z := 3) (m := 1) rfl rfl rfl elDy zeDy rfl byDy rfl (by decide) (by decide) rfl rfl ?_))
 | (refine RawG.mk ?_; refine Sem.wr rfl (Does.appG (z := 3) (m := 1) rfl rfl rfl rfl elDy zeDy rfl byDy rfl rfl (by decide) rfl (by decide) (by rw [hO]; exact Nat.zero_le _) rfl rfl ?_))
 | (refine ax_l ?_)
 | (refine ax_r ?_)
 | (refine lg ?_; refine rounds_g 3 tok ?_)
 | with_reducible first | refine ax_s ?_ | (refine ax_f ?_ ?_ <;> try intro hc) | fail)
    all_goals exact ⟨ret_l _ (lp_spE 5) rfl⟩
theorem p_sqr {g : Gs} (hD : (0, debT.map (Value.int .u8)) ∈ g) {a b : D2} (h : GoodS a b) {p : Int} (hp : 1 ≤ p ∧ p ≤ 70000) : FC Tryz.prog g 36 [SP a b, .val (.int .i64 p)] (· = spSqr a b p) := by
  have f0 := p_check1g (G := g) h hp
  have f1 := y_mulP hD h.1 h.1
  obtain ⟨_, g1, c1⟩ := (mul_ans a a).eq
  have f2 := y_mulP hD h.2.1 h.2.1
  obtain ⟨_, g2, c2⟩ := (mul_ans b b).eq
  have s1 := p_sign (G := g) h.1
  have s2 := p_sign (G := g) h.2.1
  have sa := sign3 a.1
  have sb := sign3 b.1
  unfold spSqr
  obtain ⟨u1, hu1⟩ : ∃ u, u = toAn (mulP a a) := ⟨_, rfl⟩
  rw [← hu1] at f1 g1 c1 ⊢
  clear hu1
  obtain ⟨u2, hu2⟩ : ∃ u, u = toAn (mulP b b) := ⟨_, rfl⟩
  rw [← hu2] at f2 g2 c2 ⊢
  clear hu2
  obtain ⟨t1, ht1⟩ : ∃ t, t = a.1.sign := ⟨_, rfl⟩
  obtain ⟨t2, ht2⟩ : ∃ t, t = b.1.sign := ⟨_, rfl⟩
  rw [← ht1] at s1 sa
  rw [← ht2] at s2 sb
  clear ht1 ht2
  have e1 := p_least2 (G := g) (a := u1.d) (b := u2.d) g1 g2
  have e2 := p_greatest2 (G := g) (a := u1.d) (b := u2.d) g1 g2
  have gl := lst2_good (a := u1.d) (b := u2.d) g1 g2
  have gg := gst2_good (a := u1.d) (b := u2.d) g1 g2
  obtain ⟨lo, hlo⟩ : ∃ r, r = lst2 u1.d u2.d := ⟨_, rfl⟩
  obtain ⟨hi, hhi⟩ : ∃ r, r = gst2 u1.d u2.d := ⟨_, rfl⟩
  rw [← hlo] at e1 gl ⊢
  rw [← hhi] at e2 gg ⊢
  clear hlo hhi
  by_cases z1 : u1.c = 0
  · by_cases z2 : u2.c = 0
    · rw [if_neg (by omega)]
      rw [z1] at f1
      rw [z2] at f2
      clear c1 c2
      by_cases hz : a.1 ≤ 0 ∧ 0 ≤ b.1
      · rw [if_pos hz]
        have q1 : t1 ≤ 0 := by omega
        have q2 : 0 ≤ t2 := by omega
        have e3 := p_outward hD (a := (0, 0)) Good.zero gg p hp
        obtain ⟨x, y, c, hr⟩ := outP_form (0, 0) hi p
        rw [hr] at e3 ⊢
        clear hr hz sa sb
        refine ax_i Tryz.func36 Tryz.ntmps36 ?_; intro F hG hO
        rw [← hG] at f0 f1 f2 s1 s2 e1 e2 e3
        repeat' ((try (conv => whnf)); first
 | refine ce f0 ?_ | refine ce f1 ?_ | refine ce f2 ?_ | refine ce s1 ?_ | refine ce s2 ?_ | refine ce e1 ?_ | refine ce e2 ?_
 | (refine cg ?_; refine call_eq e3 (.cons lp_dy0 (.cons (.refl _) (.cons (.refl _) .nil))) rfl ?_)
 | (refine dG (id := 11) dg39 ?_)
 | with_reducible first | refine ax_s ?_ | (refine ax_f ?_ ?_ <;> try intro hc) | fail)
        all_goals exact ⟨ret_e rfl⟩
      · rw [if_neg hz]
        have e3 := p_outward hD gl gg p hp
        obtain ⟨x, y, c, hr⟩ := outP_form lo hi p
        rw [hr] at e3 ⊢
        by_cases q1 : t1 ≤ 0
        · have q2 : t2 < 0 := by omega
          clear hr hz sa sb
          refine ax_i Tryz.func36 Tryz.ntmps36 ?_; intro F hG hO
          rw [← hG] at f0 f1 f2 s1 s2 e1 e2 e3
          repeat' ((try (conv => whnf)); first
 | refine ce f0 ?_ | refine ce f1 ?_ | refine ce f2 ?_ | refine ce s1 ?_ | refine ce s2 ?_ | refine ce e1 ?_ | refine ce e2 ?_ | refine ce e3 ?_
 | (refine dG (id := 11) dg39 ?_)
 | with_reducible first | refine ax_s ?_ | (refine ax_f ?_ ?_ <;> try intro hc) | fail)
          all_goals exact ⟨ret_e rfl⟩
        · clear hr hz sa sb
          refine ax_i Tryz.func36 Tryz.ntmps36 ?_; intro F hG hO
          rw [← hG] at f0 f1 f2 s1 s2 e1 e2 e3
          repeat' ((try (conv => whnf)); first
 | refine ce f0 ?_ | refine ce f1 ?_ | refine ce f2 ?_ | refine ce s1 ?_ | refine ce s2 ?_ | refine ce e1 ?_ | refine ce e2 ?_ | refine ce e3 ?_
 | (refine dG (id := 11) dg39 ?_)
 | with_reducible first | refine ax_s ?_ | (refine ax_f ?_ ?_ <;> try intro hc) | fail)
          all_goals exact ⟨ret_e rfl⟩
    · rw [if_pos (by omega)]
      rw [z1] at f1
      rw [show u2.c = 5 by omega] at f2
      clear c1 c2 sa sb
      refine ax_i Tryz.func36 Tryz.ntmps36 ?_; intro F hG hO
      rw [← hG] at f0 f1 f2
      repeat' ((try (conv => whnf)); first
 | refine ce f0 ?_ | refine ce f1 ?_ | refine ce f2 ?_
 | (refine dG (id := 11) dg39 ?_)
 | with_reducible first | refine ax_s ?_ | (refine ax_f ?_ ?_ <;> try intro hc) | fail)
      all_goals exact ⟨ret_l _ (lp_spE 5) rfl⟩
  · rw [if_pos (by omega)]
    rw [show u1.c = 5 by omega] at f1
    rcases c2 with c2 | c2
    · rw [c2] at f2
      clear c1 sa sb
      refine ax_i Tryz.func36 Tryz.ntmps36 ?_; intro F hG hO
      rw [← hG] at f0 f1 f2
      repeat' ((try (conv => whnf)); first
 | refine ce f0 ?_ | refine ce f1 ?_ | refine ce f2 ?_
 | (refine dG (id := 11) dg39 ?_)
 | with_reducible first | refine ax_s ?_ | (refine ax_f ?_ ?_ <;> try intro hc) | fail)
      all_goals exact ⟨ret_l _ (lp_spE 5) rfl⟩
    · rw [c2] at f2
      clear c1 sa sb
      refine ax_i Tryz.func36 Tryz.ntmps36 ?_; intro F hG hO
      rw [← hG] at f0 f1 f2
      repeat' ((try (conv => whnf)); first
 | refine ce f0 ?_ | refine ce f1 ?_ | refine ce f2 ?_
 | (refine dG (id := 11) dg39 ?_)
 | with_reducible first | refine ax_s ?_ | (refine ax_f ?_ ?_ <;> try intro hc) | fail)
      all_goals exact ⟨ret_l _ (lp_spE 5) rfl⟩
theorem p_quo {g : Gs} (hD : (0, debT.map (Value.int .u8)) ∈ g) {a b c d : D2} (h : GoodS a b) (k : GoodS c d) {p : Int} (hp : 1 ≤ p ∧ p ≤ 70000) : FC Tryz.prog g 14 [SP a b, SP c d, .val (.int .i64 p)] (· = spQuo a b c d p) := by
  have f0 := p_check2g (G := g) h k hp
  have f1 := p_Sign (G := g) k
  have hcd : ∀ z : Int, (z = 1 → 0 < c.1 → ¬ d.1 < 0) := fun z _ hh hd => by
    have e1 := VV_pos (e := c.2) hh
    have e2 := VV_negs (e := d.2) hd
    have e3 := k.2.2
    unfold D2.v at e3
    omega
  unfold spQuo
  by_cases hc : 0 < c.1
  · have hd0 : ¬ d.1 < 0 := hcd 1 rfl hc
    have hdp : 0 < d.1 := by
      have e1 := VV_pos (e := c.2) hc
      have e2 := k.2.2
      have e3 := VV_sign (n := d.1) (e := d.2)
      unfold D2.v at e2
      exact e3.1.1 (by omega)
    clear hcd
    rw [if_pos hc]
    rw [if_neg hd0, if_pos hc] at f1
    have s1 := p_sign (G := g) h.1
    have s2 := p_sign (G := g) h.2.1
    have sa := sign3 a.1
    have sb := sign3 b.1
    obtain ⟨t1, ht1⟩ : ∃ t, t = a.1.sign := ⟨_, rfl⟩
    obtain ⟨t2, ht2⟩ : ∃ t, t = b.1.sign := ⟨_, rfl⟩
    rw [← ht1] at s1 sa
    rw [← ht2] at s2 sb
    clear ht1 ht2
    by_cases ha : a.1 < 0
    · by_cases hb : b.1 < 0
      · skip
        have w1 := (y_quoP hD h.1 k.1 hp (show c.1 ≠ 0 by omega)).1
        have w2 := (y_quoP hD h.2.1 k.2.1 hp (show d.1 ≠ 0 by omega)).2
        have c1 := (quo_ans (a := a) (b := c) hp (show c.1 ≠ 0 by omega) false).eq.2.2
        have c2' := (quo_ans (a := b) (b := d) hp (show d.1 ≠ 0 by omega) true).eq.2.2
        unfold spQuoPos
        rw [if_pos ha, if_pos hb]
        obtain ⟨u, hu⟩ : ∃ u, u = toAn (quoP a c p false) := ⟨_, rfl⟩
        obtain ⟨v, hv⟩ : ∃ v, v = toAn (quoP b d p true) := ⟨_, rfl⟩
        rw [← hu] at w1 c1 ⊢
        rw [← hv] at w2 c2' ⊢
        have w3 := p_both (G := g) u v c1 c2'
        obtain ⟨x, y, c0, hr⟩ := bothA_form u v
        rw [hr] at w3 ⊢
        clear hu hv hr c1 c2'
        have q1 : t1 < 0 := by omega
        have q2 : t2 < 0 := by omega
        clear sa sb
        refine ax_i Tryz.func14 Tryz.ntmps14 ?_; intro F hG hO
        rw [← hG] at f0 f1 s1 s2 w1 w2 w3
        repeat' ((try (conv => whnf)); first
 | refine ce f0 ?_ | refine ce f1 ?_ | refine ce s1 ?_ | refine ce s2 ?_ | refine ce w1 ?_ | refine ce w2 ?_ | refine ce w3 ?_
 | (refine dg ?_; refine draw_j (A := Bool) (id := 11) (N := 86) (fun x => [(2, .val (.int .i64 p)), (3, .ptr 0 0), (4, .ptr 1 0), (6, .ptr 2 0), (7, .val (.int .i64 0)), (11, .ptr (cond x 3 4) 0), (12, .ptr (cond x 4 3) 0)]) (fun x => [[vB a, vW a, vE a, vB b, vW b, vE b], [vB c, vW c, vE c, vB d, vW d, vE d], [.val (.bool false), .nil, .val (.int .i64 0), .val (.bool false), .nil, .val (.int .i64 0)], [.val (.bool (decide ((cond x d c).1 < 0))), .ws .u64 (d64 (cond x d c).1.natAbs), .val (.int .i64 (cond x d c).2)], [.val (.bool (decide ((cond x c d).1 < 0))), .ws .u64 (d64 (cond x c d).1.natAbs), .val (.int .i64 (cond x c d).2)]]) (fun _ => []) (qTQ) tok mixed (by kernel_rfl) (by kernel_rfl) (by intro x; cases x <;> (refine ⟨?_, ?_, ?_⟩ <;> simp [inS, inBB, inBL, inB, hO])) ?_ ?_; rotate_left; intro x; cases x)
 | exact join true ⟨rfl, rfl, rfl, rfl, rfl, rfl, rfl, trivial⟩ ⟨[], rfl⟩ ⟨[], rfl⟩
 | exact join false ⟨rfl, rfl, rfl, rfl, rfl, rfl, rfl, trivial⟩ ⟨[], rfl⟩ ⟨[], rfl⟩
 | with_reducible first | refine ax_s ?_ | (refine ax_f ?_ ?_ <;> try intro hc) | fail)
        all_goals exact ⟨ret_e rfl⟩
      · skip
        have w1 := (y_quoP hD h.1 k.1 hp (show c.1 ≠ 0 by omega)).1
        have w2 := (y_quoP hD h.2.1 k.1 hp (show c.1 ≠ 0 by omega)).2
        have c1 := (quo_ans (a := a) (b := c) hp (show c.1 ≠ 0 by omega) false).eq.2.2
        have c2' := (quo_ans (a := b) (b := c) hp (show c.1 ≠ 0 by omega) true).eq.2.2
        unfold spQuoPos
        rw [if_pos ha, if_neg hb]
        obtain ⟨u, hu⟩ : ∃ u, u = toAn (quoP a c p false) := ⟨_, rfl⟩
        obtain ⟨v, hv⟩ : ∃ v, v = toAn (quoP b c p true) := ⟨_, rfl⟩
        rw [← hu] at w1 c1 ⊢
        rw [← hv] at w2 c2' ⊢
        have w3 := p_both (G := g) u v c1 c2'
        obtain ⟨x, y, c0, hr⟩ := bothA_form u v
        rw [hr] at w3 ⊢
        clear hu hv hr c1 c2'
        have q1 : t1 < 0 := by omega
        have q2 : ¬ t2 < 0 := by omega
        clear sa sb
        refine ax_i Tryz.func14 Tryz.ntmps14 ?_; intro F hG hO
        rw [← hG] at f0 f1 s1 s2 w1 w2 w3
        repeat' ((try (conv => whnf)); first
 | refine ce f0 ?_ | refine ce f1 ?_ | refine ce s1 ?_ | refine ce s2 ?_ | refine ce w1 ?_ | refine ce w2 ?_ | refine ce w3 ?_
 | (refine dg ?_; refine draw_j (A := Bool) (id := 11) (N := 86) (fun x => [(2, .val (.int .i64 p)), (3, .ptr 0 0), (4, .ptr 1 0), (6, .ptr 2 0), (7, .val (.int .i64 0)), (11, .ptr (cond x 3 4) 0), (12, .ptr (cond x 4 3) 0)]) (fun x => [[vB a, vW a, vE a, vB b, vW b, vE b], [vB c, vW c, vE c, vB d, vW d, vE d], [.val (.bool false), .nil, .val (.int .i64 0), .val (.bool false), .nil, .val (.int .i64 0)], [.val (.bool (decide ((cond x d c).1 < 0))), .ws .u64 (d64 (cond x d c).1.natAbs), .val (.int .i64 (cond x d c).2)], [.val (.bool (decide ((cond x c d).1 < 0))), .ws .u64 (d64 (cond x c d).1.natAbs), .val (.int .i64 (cond x c d).2)]]) (fun _ => []) (qTQ) tok mixed (by kernel_rfl) (by kernel_rfl) (by intro x; cases x <;> (refine ⟨?_, ?_, ?_⟩ <;> simp [inS, inBB, inBL, inB, hO])) ?_ ?_; rotate_left; intro x; cases x)
 | exact join true ⟨rfl, rfl, rfl, rfl, rfl, rfl, rfl, trivial⟩ ⟨[], rfl⟩ ⟨[], rfl⟩
 | exact join false ⟨rfl, rfl, rfl, rfl, rfl, rfl, rfl, trivial⟩ ⟨[], rfl⟩ ⟨[], rfl⟩
 | with_reducible first | refine ax_s ?_ | (refine ax_f ?_ ?_ <;> try intro hc) | fail)
        all_goals exact ⟨ret_e rfl⟩
    · have hb : ¬ b.1 < 0 := fun hh => by have := VV_negs (e := b.2) hh; have := VV_sign (n := a.1) (e := a.2); have := h.2.2; unfold D2.v at this; omega
      have w1 := (y_quoP hD h.1 k.2.1 hp (show d.1 ≠ 0 by omega)).1
      have w2 := (y_quoP hD h.2.1 k.1 hp (show c.1 ≠ 0 by omega)).2
      have c1 := (quo_ans (a := a) (b := d) hp (show d.1 ≠ 0 by omega) false).eq.2.2
      have c2' := (quo_ans (a := b) (b := c) hp (show c.1 ≠ 0 by omega) true).eq.2.2
      unfold spQuoPos
      rw [if_neg ha, if_neg hb]
      obtain ⟨u, hu⟩ : ∃ u, u = toAn (quoP a d p false) := ⟨_, rfl⟩
      obtain ⟨v, hv⟩ : ∃ v, v = toAn (quoP b c p true) := ⟨_, rfl⟩
      rw [← hu] at w1 c1 ⊢
      rw [← hv] at w2 c2' ⊢
      have w3 := p_both (G := g) u v c1 c2'
      obtain ⟨x, y, c0, hr⟩ := bothA_form u v
      rw [hr] at w3 ⊢
      clear hu hv hr c1 c2'
      have q1 : ¬ t1 < 0 := by omega
      have q2 : ¬ t2 < 0 := by omega
      clear sa sb
      refine ax_i Tryz.func14 Tryz.ntmps14 ?_; intro F hG hO
      rw [← hG] at f0 f1 s1 s2 w1 w2 w3
      repeat' ((try (conv => whnf)); first
 | refine ce f0 ?_ | refine ce f1 ?_ | refine ce s1 ?_ | refine ce s2 ?_ | refine ce w1 ?_ | refine ce w2 ?_ | refine ce w3 ?_
 | (refine dg ?_; refine draw_j (A := Bool) (id := 11) (N := 86) (fun x => [(2, .val (.int .i64 p)), (3, .ptr 0 0), (4, .ptr 1 0), (6, .ptr 2 0), (7, .val (.int .i64 0)), (11, .ptr (cond x 3 4) 0), (12, .ptr (cond x 4 3) 0)]) (fun x => [[vB a, vW a, vE a, vB b, vW b, vE b], [vB c, vW c, vE c, vB d, vW d, vE d], [.val (.bool false), .nil, .val (.int .i64 0), .val (.bool false), .nil, .val (.int .i64 0)], [.val (.bool (decide ((cond x d c).1 < 0))), .ws .u64 (d64 (cond x d c).1.natAbs), .val (.int .i64 (cond x d c).2)], [.val (.bool (decide ((cond x c d).1 < 0))), .ws .u64 (d64 (cond x c d).1.natAbs), .val (.int .i64 (cond x c d).2)]]) (fun _ => []) (qTQ) tok mixed (by kernel_rfl) (by kernel_rfl) (by intro x; cases x <;> (refine ⟨?_, ?_, ?_⟩ <;> simp [inS, inBB, inBL, inB, hO])) ?_ ?_; rotate_left; intro x; cases x)
 | exact join true ⟨rfl, rfl, rfl, rfl, rfl, rfl, rfl, trivial⟩ ⟨[], rfl⟩ ⟨[], rfl⟩
 | exact join false ⟨rfl, rfl, rfl, rfl, rfl, rfl, rfl, trivial⟩ ⟨[], rfl⟩ ⟨[], rfl⟩
 | with_reducible first | refine ax_s ?_ | (refine ax_f ?_ ?_ <;> try intro hc) | fail)
      all_goals exact ⟨ret_e rfl⟩
  · rw [if_neg hc]
    clear hcd
    by_cases hdn : d.1 < 0
    · rw [if_pos hdn]
      rw [if_pos hdn] at f1
      have hcn : c.1 < 0 := by
        have e1 := VV_negs (e := d.2) hdn
        have e2 := k.2.2
        have e3 := VV_sign (n := c.1) (e := c.2)
        unfold D2.v at e2
        exact e3.2.1 (by omega)
      have n1 := p_neg (G := g) h
      have n2 := p_neg (G := g) k
      have h2 := h.neg
      have k2 := k.neg
      have hc2 : 0 < d.neg.1 := by show 0 < -d.1; omega
      have hd2 : 0 < c.neg.1 := by show 0 < -c.1; omega
      obtain ⟨a2, ha2⟩ : ∃ r, r = b.neg := ⟨_, rfl⟩
      obtain ⟨b2, hb2⟩ : ∃ r, r = a.neg := ⟨_, rfl⟩
      obtain ⟨c2, hc2e⟩ : ∃ r, r = d.neg := ⟨_, rfl⟩
      obtain ⟨d2, hd2e⟩ : ∃ r, r = c.neg := ⟨_, rfl⟩
      rw [← ha2, ← hb2] at n1 h2 ⊢
      rw [← hc2e, ← hd2e] at n2 k2 ⊢
      rw [← hc2e] at hc2
      rw [← hd2e] at hd2
      clear ha2 hb2 hc2e hd2e
      have s1 := p_sign (G := g) h2.1
      have s2 := p_sign (G := g) h2.2.1
      have sa := sign3 a2.1
      have sb := sign3 b2.1
      obtain ⟨t1, ht1⟩ : ∃ t, t = a2.1.sign := ⟨_, rfl⟩
      obtain ⟨t2, ht2⟩ : ∃ t, t = b2.1.sign := ⟨_, rfl⟩
      rw [← ht1] at s1 sa
      rw [← ht2] at s2 sb
      clear ht1 ht2
      by_cases ha : a2.1 < 0
      · by_cases hb : b2.1 < 0
        · skip
          have w1 := (y_quoP hD h2.1 k2.1 hp (show c2.1 ≠ 0 by omega)).1
          have w2 := (y_quoP hD h2.2.1 k2.2.1 hp (show d2.1 ≠ 0 by omega)).2
          have c1 := (quo_ans (a := a2) (b := c2) hp (show c2.1 ≠ 0 by omega) false).eq.2.2
          have c2' := (quo_ans (a := b2) (b := d2) hp (show d2.1 ≠ 0 by omega) true).eq.2.2
          unfold spQuoPos
          rw [if_pos ha, if_pos hb]
          obtain ⟨u, hu⟩ : ∃ u, u = toAn (quoP a2 c2 p false) := ⟨_, rfl⟩
          obtain ⟨v, hv⟩ : ∃ v, v = toAn (quoP b2 d2 p true) := ⟨_, rfl⟩
          rw [← hu] at w1 c1 ⊢
          rw [← hv] at w2 c2' ⊢
          have w3 := p_both (G := g) u v c1 c2'
          obtain ⟨x, y, c0, hr⟩ := bothA_form u v
          rw [hr] at w3 ⊢
          clear hu hv hr c1 c2'
          have q1 : t1 < 0 := by omega
          have q2 : t2 < 0 := by omega
          clear sa sb
          refine ax_i Tryz.func14 Tryz.ntmps14 ?_; intro F hG hO
          rw [← hG] at f0 f1 n1 n2 s1 s2 w1 w2 w3
          repeat' ((try (conv => whnf)); first
 | refine ce f0 ?_ | refine ce f1 ?_ | refine ce n1 ?_ | refine ce n2 ?_ | refine ce s1 ?_ | refine ce s2 ?_ | refine ce w1 ?_ | refine ce w2 ?_ | refine ce w3 ?_
 | (refine dg ?_; refine draw_j (A := Bool) (id := 11) (N := 86) (fun x => [(2, .val (.int .i64 p)), (3, .ptr 0 0), (4, .ptr 1 0), (6, .ptr 2 0), (7, .val (.int .i64 0)), (11, .ptr (cond x 3 4) 0), (12, .ptr (cond x 4 3) 0)]) (fun x => [[vB a2, vW a2, vE a2, vB b2, vW b2, vE b2], [vB c2, vW c2, vE c2, vB d2, vW d2, vE d2], [.val (.bool false), .nil, .val (.int .i64 0), .val (.bool false), .nil, .val (.int .i64 0)], [.val (.bool (decide ((cond x d2 c2).1 < 0))), .ws .u64 (d64 (cond x d2 c2).1.natAbs), .val (.int .i64 (cond x d2 c2).2)], [.val (.bool (decide ((cond x c2 d2).1 < 0))), .ws .u64 (d64 (cond x c2 d2).1.natAbs), .val (.int .i64 (cond x c2 d2).2)]]) (fun _ => []) (qTQ) tok mixed (by kernel_rfl) (by kernel_rfl) (by intro x; cases x <;> (refine ⟨?_, ?_, ?_⟩ <;> simp [inS, inBB, inBL, inB, hO])) ?_ ?_; rotate_left; intro x; cases x)
 | exact join true ⟨rfl, rfl, rfl, rfl, rfl, rfl, rfl, trivial⟩ ⟨[], rfl⟩ ⟨[], rfl⟩
 | exact join false ⟨rfl, rfl, rfl, rfl, rfl, rfl, rfl, trivial⟩ ⟨[], rfl⟩ ⟨[], rfl⟩
 | with_reducible first | refine ax_s ?_ | (refine ax_f ?_ ?_ <;> try intro hc) | fail)
          all_goals exact ⟨ret_e rfl⟩
        · skip
          have w1 := (y_quoP hD h2.1 k2.1 hp (show c2.1 ≠ 0 by omega)).1
          have w2 := (y_quoP hD h2.2.1 k2.1 hp (show c2.1 ≠ 0 by omega)).2
          have c1 := (quo_ans (a := a2) (b := c2) hp (show c2.1 ≠ 0 by omega) false).eq.2.2
          have c2' := (quo_ans (a := b2) (b := c2) hp (show c2.1 ≠ 0 by omega) true).eq.2.2
          unfold spQuoPos
          rw [if_pos ha, if_neg hb]
          obtain ⟨u, hu⟩ : ∃ u, u = toAn (quoP a2 c2 p false) := ⟨_, rfl⟩
          obtain ⟨v, hv⟩ : ∃ v, v = toAn (quoP b2 c2 p true) := ⟨_, rfl⟩
          rw [← hu] at w1 c1 ⊢
          rw [← hv] at w2 c2' ⊢
          have w3 := p_both (G := g) u v c1 c2'
          obtain ⟨x, y, c0, hr⟩ := bothA_form u v
          rw [hr] at w3 ⊢
          clear hu hv hr c1 c2'
          have q1 : t1 < 0 := by omega
          have q2 : ¬ t2 < 0 := by omega
          clear sa sb
          refine ax_i Tryz.func14 Tryz.ntmps14 ?_; intro F hG hO
          rw [← hG] at f0 f1 n1 n2 s1 s2 w1 w2 w3
          repeat' ((try (conv => whnf)); first
 | refine ce f0 ?_ | refine ce f1 ?_ | refine ce n1 ?_ | refine ce n2 ?_ | refine ce s1 ?_ | refine ce s2 ?_ | refine ce w1 ?_ | refine ce w2 ?_ | refine ce w3 ?_
 | (refine dg ?_; refine draw_j (A := Bool) (id := 11) (N := 86) (fun x => [(2, .val (.int .i64 p)), (3, .ptr 0 0), (4, .ptr 1 0), (6, .ptr 2 0), (7, .val (.int .i64 0)), (11, .ptr (cond x 3 4) 0), (12, .ptr (cond x 4 3) 0)]) (fun x => [[vB a2, vW a2, vE a2, vB b2, vW b2, vE b2], [vB c2, vW c2, vE c2, vB d2, vW d2, vE d2], [.val (.bool false), .nil, .val (.int .i64 0), .val (.bool false), .nil, .val (.int .i64 0)], [.val (.bool (decide ((cond x d2 c2).1 < 0))), .ws .u64 (d64 (cond x d2 c2).1.natAbs), .val (.int .i64 (cond x d2 c2).2)], [.val (.bool (decide ((cond x c2 d2).1 < 0))), .ws .u64 (d64 (cond x c2 d2).1.natAbs), .val (.int .i64 (cond x c2 d2).2)]]) (fun _ => []) (qTQ) tok mixed (by kernel_rfl) (by kernel_rfl) (by intro x; cases x <;> (refine ⟨?_, ?_, ?_⟩ <;> simp [inS, inBB, inBL, inB, hO])) ?_ ?_; rotate_left; intro x; cases x)
 | exact join true ⟨rfl, rfl, rfl, rfl, rfl, rfl, rfl, trivial⟩ ⟨[], rfl⟩ ⟨[], rfl⟩
 | exact join false ⟨rfl, rfl, rfl, rfl, rfl, rfl, rfl, trivial⟩ ⟨[], rfl⟩ ⟨[], rfl⟩
 | with_reducible first | refine ax_s ?_ | (refine ax_f ?_ ?_ <;> try intro hc) | fail)
          all_goals exact ⟨ret_e rfl⟩
      · have hb : ¬ b2.1 < 0 := fun hh => by have := VV_negs (e := b2.2) hh; have := VV_sign (n := a2.1) (e := a2.2); have := h2.2.2; unfold D2.v at this; omega
        have w1 := (y_quoP hD h2.1 k2.2.1 hp (show d2.1 ≠ 0 by omega)).1
        have w2 := (y_quoP hD h2.2.1 k2.1 hp (show c2.1 ≠ 0 by omega)).2
        have c1 := (quo_ans (a := a2) (b := d2) hp (show d2.1 ≠ 0 by omega) false).eq.2.2
        have c2' := (quo_ans (a := b2) (b := c2) hp (show c2.1 ≠ 0 by omega) true).eq.2.2
        unfold spQuoPos
        rw [if_neg ha, if_neg hb]
        obtain ⟨u, hu⟩ : ∃ u, u = toAn (quoP a2 d2 p false) := ⟨_, rfl⟩
        obtain ⟨v, hv⟩ : ∃ v, v = toAn (quoP b2 c2 p true) := ⟨_, rfl⟩
        rw [← hu] at w1 c1 ⊢
        rw [← hv] at w2 c2' ⊢
        have w3 := p_both (G := g) u v c1 c2'
        obtain ⟨x, y, c0, hr⟩ := bothA_form u v
        rw [hr] at w3 ⊢
        clear hu hv hr c1 c2'
        have q1 : ¬ t1 < 0 := by omega
        have q2 : ¬ t2 < 0 := by omega
        clear sa sb
        refine ax_i Tryz.func14 Tryz.ntmps14 ?_; intro F hG hO
        rw [← hG] at f0 f1 n1 n2 s1 s2 w1 w2 w3
        repeat' ((try (conv => whnf)); first
 | refine ce f0 ?_ | refine ce f1 ?_ | refine ce n1 ?_ | refine ce n2 ?_ | refine ce s1 ?_ | refine ce s2 ?_ | refine ce w1 ?_ | refine ce w2 ?_ | refine ce w3 ?_
 | (refine dg ?_; refine draw_j (A := Bool) (id := 11) (N := 86) (fun x => [(2, .val (.int .i64 p)), (3, .ptr 0 0), (4, .ptr 1 0), (6, .ptr 2 0), (7, .val (.int .i64 0)), (11, .ptr (cond x 3 4) 0), (12, .ptr (cond x 4 3) 0)]) (fun x => [[vB a2, vW a2, vE a2, vB b2, vW b2, vE b2], [vB c2, vW c2, vE c2, vB d2, vW d2, vE d2], [.val (.bool false), .nil, .val (.int .i64 0), .val (.bool false), .nil, .val (.int .i64 0)], [.val (.bool (decide ((cond x d2 c2).1 < 0))), .ws .u64 (d64 (cond x d2 c2).1.natAbs), .val (.int .i64 (cond x d2 c2).2)], [.val (.bool (decide ((cond x c2 d2).1 < 0))), .ws .u64 (d64 (cond x c2 d2).1.natAbs), .val (.int .i64 (cond x c2 d2).2)]]) (fun _ => []) (qTQ) tok mixed (by kernel_rfl) (by kernel_rfl) (by intro x; cases x <;> (refine ⟨?_, ?_, ?_⟩ <;> simp [inS, inBB, inBL, inB, hO])) ?_ ?_; rotate_left; intro x; cases x)
 | exact join true ⟨rfl, rfl, rfl, rfl, rfl, rfl, rfl, trivial⟩ ⟨[], rfl⟩ ⟨[], rfl⟩
 | exact join false ⟨rfl, rfl, rfl, rfl, rfl, rfl, rfl, trivial⟩ ⟨[], rfl⟩ ⟨[], rfl⟩
 | with_reducible first | refine ax_s ?_ | (refine ax_f ?_ ?_ <;> try intro hc) | fail)
        all_goals exact ⟨ret_e rfl⟩
    · rw [if_neg hdn]
      rw [if_neg hdn, if_neg hc] at f1
      refine ax_i Tryz.func14 Tryz.ntmps14 ?_; intro F hG hO
      rw [← hG] at f0 f1
      repeat' ((try (conv => whnf)); first
 | refine ce f0 ?_ | refine ce f1 ?_
 | with_reducible first | refine ax_s ?_ | (refine ax_f ?_ ?_ <;> try intro hc) | fail)
      exact ⟨ret_l _ (lp_spE 4) rfl⟩
theorem p_addX (b1 : Bool) (l1 : List Int) (e1 : Int) (b2 : Bool) (l2 : List Int) (e2 : Int) (o1 : okD 18446744073709551616 l1) (o2 : okD 18446744073709551616 l2) (b3 : Bool) (l3 : List Int) (e3 : Int) (b4 : Bool) (l4 : List Int) (e4 : Int) (o3 : okD 18446744073709551616 l3) (o4 : okD 18446744073709551616 l4) (p : Int) (h : chkE p (spF b1 l1 e1 b2 l2 e2 && spF b3 l3 e3 b4 l4 e4) ≠ 0) : FC Tryz.prog G 24 [Sp b1 l1 e1 b2 l2 e2, Sp b3 l3 e3 b4 l4 e4, .val (.int .i64 p)] (· = spE (chkE p (spF b1 l1 e1 b2 l2 e2 && spF b3 l3 e3 b4 l4 e4))) := by
  have f0 := p_check2 (G := G) p b1 l1 e1 b2 l2 e2 b3 l3 e3 b4 l4 e4 o1 o2 o3 o4
  obtain ⟨c, hc⟩ : ∃ c, c = chkE p (spF b1 l1 e1 b2 l2 e2 && spF b3 l3 e3 b4 l4 e4) := ⟨_, rfl⟩
  rw [← hc] at f0 h ⊢
  clear hc
  refine ax_i Tryz.func24 Tryz.ntmps24 ?_; intro F hG hO
  rw [← hG] at f0
  repeat' ((try (conv => whnf)); first
 | refine ce f0 ?_
 | with_reducible first | refine ax_s ?_ | (refine ax_f ?_ ?_ <;> try intro hc) | fail)
  exact ⟨ret_l _ (lp_spE c) rfl⟩
theorem p_subX (b1 : Bool) (l1 : List Int) (e1 : Int) (b2 : Bool) (l2 : List Int) (e2 : Int) (o1 : okD 18446744073709551616 l1) (o2 : okD 18446744073709551616 l2) (b3 : Bool) (l3 : List Int) (e3 : Int) (b4 : Bool) (l4 : List Int) (e4 : Int) (o3 : okD 18446744073709551616 l3) (o4 : okD 18446744073709551616 l4) (p : Int) (h : chkE p (spF b1 l1 e1 b2 l2 e2 && spF b3 l3 e3 b4 l4 e4) ≠ 0) : FC Tryz.prog G 23 [Sp b1 l1 e1 b2 l2 e2, Sp b3 l3 e3 b4 l4 e4, .val (.int .i64 p)] (· = spE (chkE p (spF b1 l1 e1 b2 l2 e2 && spF b3 l3 e3 b4 l4 e4))) := by
  have f0 := p_check2 (G := G) p b1 l1 e1 b2 l2 e2 b3 l3 e3 b4 l4 e4 o1 o2 o3 o4
  obtain ⟨c, hc⟩ : ∃ c, c = chkE p (spF b1 l1 e1 b2 l2 e2 && spF b3 l3 e3 b4 l4 e4) := ⟨_, rfl⟩
  rw [← hc] at f0 h ⊢
  clear hc
  refine ax_i Tryz.func23 Tryz.ntmps23 ?_; intro F hG hO
  rw [← hG] at f0
  repeat' ((try (conv => whnf)); first
 | refine ce f0 ?_
 | with_reducible first | refine ax_s ?_ | (refine ax_f ?_ ?_ <;> try intro hc) | fail)
  exact ⟨ret_l _ (lp_spE c) rfl⟩
theorem p_mulX (b1 : Bool) (l1 : List Int) (e1 : Int) (b2 : Bool) (l2 : List Int) (e2 : Int) (o1 : okD 18446744073709551616 l1) (o2 : okD 18446744073709551616 l2) (b3 : Bool) (l3 : List Int) (e3 : Int) (b4 : Bool) (l4 : List Int) (e4 : Int) (o3 : okD 18446744073709551616 l3) (o4 : okD 18446744073709551616 l4) (p : Int) (h : chkE p (spF b1 l1 e1 b2 l2 e2 && spF b3 l3 e3 b4 l4 e4) ≠ 0) : FC Tryz.prog G 19 [Sp b1 l1 e1 b2 l2 e2, Sp b3 l3 e3 b4 l4 e4, .val (.int .i64 p)] (· = spE (chkE p (spF b1 l1 e1 b2 l2 e2 && spF b3 l3 e3 b4 l4 e4))) := by
  have f0 := p_check2 (G := G) p b1 l1 e1 b2 l2 e2 b3 l3 e3 b4 l4 e4 o1 o2 o3 o4
  obtain ⟨c, hc⟩ : ∃ c, c = chkE p (spF b1 l1 e1 b2 l2 e2 && spF b3 l3 e3 b4 l4 e4) := ⟨_, rfl⟩
  rw [← hc] at f0 h ⊢
  clear hc
  refine ax_i Tryz.func19 Tryz.ntmps19 ?_; intro F hG hO
  rw [← hG] at f0
  repeat' ((try (conv => whnf)); first
 | refine ce f0 ?_
 | with_reducible first | refine ax_s ?_ | (refine ax_f ?_ ?_ <;> try intro hc) | fail)
  exact ⟨ret_l _ (lp_spE c) rfl⟩
theorem p_quoX (b1 : Bool) (l1 : List Int) (e1 : Int) (b2 : Bool) (l2 : List Int) (e2 : Int) (o1 : okD 18446744073709551616 l1) (o2 : okD 18446744073709551616 l2) (b3 : Bool) (l3 : List Int) (e3 : Int) (b4 : Bool) (l4 : List Int) (e4 : Int) (o3 : okD 18446744073709551616 l3) (o4 : okD 18446744073709551616 l4) (p : Int) (h : chkE p (spF b1 l1 e1 b2 l2 e2 && spF b3 l3 e3 b4 l4 e4) ≠ 0) : FC Tryz.prog G 14 [Sp b1 l1 e1 b2 l2 e2, Sp b3 l3 e3 b4 l4 e4, .val (.int .i64 p)] (· = spE (chkE p (spF b1 l1 e1 b2 l2 e2 && spF b3 l3 e3 b4 l4 e4))) := by
  have f0 := p_check2 (G := G) p b1 l1 e1 b2 l2 e2 b3 l3 e3 b4 l4 e4 o1 o2 o3 o4
  obtain ⟨c, hc⟩ : ∃ c, c = chkE p (spF b1 l1 e1 b2 l2 e2 && spF b3 l3 e3 b4 l4 e4) := ⟨_, rfl⟩
  rw [← hc] at f0 h ⊢
  clear hc
  refine ax_i Tryz.func14 Tryz.ntmps14 ?_; intro F hG hO
  rw [← hG] at f0
  repeat' ((try (conv => whnf)); first
 | refine ce f0 ?_
 | (refine dT (id := 11) dt7 ?_)
 | with_reducible first | refine ax_s ?_ | (refine ax_f ?_ ?_ <;> try intro hc) | fail)
  exact ⟨ret_l _ (lp_spE c) rfl⟩
theorem p_sqrX (b1 : Bool) (l1 : List Int) (e1 : Int) (b2 : Bool) (l2 : List Int) (e2 : Int) (o1 : okD 18446744073709551616 l1) (o2 : okD 18446744073709551616 l2) (p : Int) (h : chkE p (spF b1 l1 e1 b2 l2 e2) ≠ 0) : FC Tryz.prog G 36 [Sp b1 l1 e1 b2 l2 e2, .val (.int .i64 p)] (· = spE (chkE p (spF b1 l1 e1 b2 l2 e2))) := by
  have f0 := p_check1 (G := G) p b1 l1 e1 b2 l2 e2 o1 o2
  obtain ⟨c, hc⟩ : ∃ c, c = chkE p (spF b1 l1 e1 b2 l2 e2) := ⟨_, rfl⟩
  rw [← hc] at f0 h ⊢
  clear hc
  refine ax_i Tryz.func36 Tryz.ntmps36 ?_; intro F hG hO
  rw [← hG] at f0
  repeat' ((try (conv => whnf)); first
 | refine ce f0 ?_
 | (refine dG (id := 11) dg39 ?_)
 | with_reducible first | refine ax_s ?_ | (refine ax_f ?_ ?_ <;> try intro hc) | fail)
  exact ⟨ret_l _ (lp_spE c) rfl⟩
theorem p_outX (b1 : Bool) (l1 : List Int) (e1 : Int) (b2 : Bool) (l2 : List Int) (e2 : Int) (o1 : okD 18446744073709551616 l1) (o2 : okD 18446744073709551616 l2) (p : Int) (h : chkE p (spF b1 l1 e1 b2 l2 e2) ≠ 0) : FC Tryz.prog G 17 [Sp b1 l1 e1 b2 l2 e2, .val (.int .i64 p)] (· = spE (chkE p (spF b1 l1 e1 b2 l2 e2))) := by
  have f0 := p_check1 (G := G) p b1 l1 e1 b2 l2 e2 o1 o2
  obtain ⟨c, hc⟩ : ∃ c, c = chkE p (spF b1 l1 e1 b2 l2 e2) := ⟨_, rfl⟩
  rw [← hc] at f0 h ⊢
  clear hc
  refine ax_i Tryz.func17 Tryz.ntmps17 ?_; intro F hG hO
  rw [← hG] at f0
  repeat' ((try (conv => whnf)); first
 | refine ce f0 ?_
 | with_reducible first | refine ax_s ?_ | (refine ax_f ?_ ?_ <;> try intro hc) | fail)
  exact ⟨ret_l _ (lp_spE c) rfl⟩
theorem p_thinX (b1 : Bool) (l1 : List Int) (e1 : Int) (b2 : Bool) (l2 : List Int) (e2 : Int) (o1 : okD 18446744073709551616 l1) (o2 : okD 18446744073709551616 l2) (p : Int) (h : chkE p (spF b1 l1 e1 b2 l2 e2) ≠ 0) : FC Tryz.prog G 91 [Sp b1 l1 e1 b2 l2 e2, .val (.int .i64 p)] (· = .tup [.val (.bool false), .val (.int .i64 (chkE p (spF b1 l1 e1 b2 l2 e2)))]) := by
  have f0 := p_check1 (G := G) p b1 l1 e1 b2 l2 e2 o1 o2
  obtain ⟨c, hc⟩ : ∃ c, c = chkE p (spF b1 l1 e1 b2 l2 e2) := ⟨_, rfl⟩
  rw [← hc] at f0 h ⊢
  clear hc
  refine ax_i Tryz.func91 Tryz.ntmps91 ?_; intro F hG hO
  rw [← hG] at f0
  repeat' ((try (conv => whnf)); first
 | refine ce f0 ?_
 | with_reducible first | refine ax_s ?_ | (refine ax_f ?_ ?_ <;> try intro hc) | fail)
  exact ⟨ret_e rfl⟩
theorem p_negX (b1 : Bool) (l1 : List Int) (e1 : Int) (b2 : Bool) (l2 : List Int) (e2 : Int) (o1 : okD 18446744073709551616 l1) (o2 : okD 18446744073709551616 l2) (h : spF b1 l1 e1 b2 l2 e2 = false) : FC Tryz.prog G 22 [Sp b1 l1 e1 b2 l2 e2] (· = spE 2) := by
  have f0 := p_formX (G := G) b1 l1 e1 b2 l2 e2 o1 o2
  rw [h] at f0
  refine ax_i Tryz.func22 Tryz.ntmps22 ?_; intro F hG hO
  rw [← hG] at f0
  repeat' ((try (conv => whnf)); first
 | refine ce f0 ?_
 | with_reducible first | refine ax_s ?_ | (refine ax_f ?_ ?_ <;> try intro hc) | fail)
  exact ⟨ret_l _ (lp_spE 2) rfl⟩
theorem p_scaleX (b1 : Bool) (l1 : List Int) (e1 : Int) (b2 : Bool) (l2 : List Int) (e2 : Int) (o1 : okD 18446744073709551616 l1) (o2 : okD 18446744073709551616 l2) (k : Int) (h : spF b1 l1 e1 b2 l2 e2 = false) : FC Tryz.prog G 89 [Sp b1 l1 e1 b2 l2 e2, .val (.int .i64 k)] (· = spE 2) := by
  have f0 := p_formX (G := G) b1 l1 e1 b2 l2 e2 o1 o2
  rw [h] at f0
  refine ax_i Tryz.func89 Tryz.ntmps89 ?_; intro F hG hO
  rw [← hG] at f0
  repeat' ((try (conv => whnf)); first
 | refine ce f0 ?_
 | with_reducible first | refine ax_s ?_ | (refine ax_f ?_ ?_ <;> try intro hc) | fail)
  exact ⟨ret_l _ (lp_spE 2) rfl⟩
theorem p_SignX (b1 : Bool) (l1 : List Int) (e1 : Int) (b2 : Bool) (l2 : List Int) (e2 : Int) (o1 : okD 18446744073709551616 l1) (o2 : okD 18446744073709551616 l2) (h : spF b1 l1 e1 b2 l2 e2 = false) : FC Tryz.prog G 54 [Sp b1 l1 e1 b2 l2 e2] (· = .tup [.val (.int .i64 0), .val (.int .i64 2)]) := by
  have f0 := p_formX (G := G) b1 l1 e1 b2 l2 e2 o1 o2
  rw [h] at f0
  refine ax_i Tryz.func54 Tryz.ntmps54 ?_; intro F hG hO
  rw [← hG] at f0
  repeat' ((try (conv => whnf)); first
 | refine ce f0 ?_
 | with_reducible first | refine ax_s ?_ | (refine ax_f ?_ ?_ <;> try intro hc) | fail)
  exact ⟨ret_e rfl⟩
theorem p_widthX (b1 : Bool) (l1 : List Int) (e1 : Int) (b2 : Bool) (l2 : List Int) (e2 : Int) (o1 : okD 18446744073709551616 l1) (o2 : okD 18446744073709551616 l2) (h : spF b1 l1 e1 b2 l2 e2 = false) : FC Tryz.prog G 90 [Sp b1 l1 e1 b2 l2 e2] (· = dyE 2) := by
  have f0 := p_formX (G := G) b1 l1 e1 b2 l2 e2 o1 o2
  rw [h] at f0
  refine ax_i Tryz.func90 Tryz.ntmps90 ?_; intro F hG hO
  rw [← hG] at f0
  repeat' ((try (conv => whnf)); first
 | refine ce f0 ?_
 | with_reducible first | refine ax_s ?_ | (refine ax_f ?_ ?_ <;> try intro hc) | fail)
  exact ⟨ret_l _ (lp_dyE 2) rfl⟩
theorem p_hullX (b1 : Bool) (l1 : List Int) (e1 : Int) (b2 : Bool) (l2 : List Int) (e2 : Int) (o1 : okD 18446744073709551616 l1) (o2 : okD 18446744073709551616 l2) (b3 : Bool) (l3 : List Int) (e3 : Int) (b4 : Bool) (l4 : List Int) (e4 : Int) (o3 : okD 18446744073709551616 l3) (o4 : okD 18446744073709551616 l4) (h : (spF b1 l1 e1 b2 l2 e2 && spF b3 l3 e3 b4 l4 e4) = false) : FC Tryz.prog G 26 [Sp b1 l1 e1 b2 l2 e2, Sp b3 l3 e3 b4 l4 e4] (· = spE 2) := by
  have f0 := p_formX (G := G) b1 l1 e1 b2 l2 e2 o1 o2
  have f1 := p_formX (G := G) b3 l3 e3 b4 l4 e4 o3 o4
  obtain ⟨x, hx⟩ : ∃ x, x = spF b1 l1 e1 b2 l2 e2 := ⟨_, rfl⟩
  obtain ⟨y, hy⟩ : ∃ y, y = spF b3 l3 e3 b4 l4 e4 := ⟨_, rfl⟩
  rw [← hx] at f0 h
  rw [← hy] at f1 h
  clear hx hy
  cases x
  · clear f1 h
    refine ax_i Tryz.func26 Tryz.ntmps26 ?_; intro F hG hO
    rw [← hG] at f0
    repeat' ((try (conv => whnf)); first
 | refine ce f0 ?_
 | (refine dT (id := 3) dt5 ?_)
 | with_reducible first | refine ax_s ?_ | (refine ax_f ?_ ?_ <;> try intro hc) | fail)
    exact ⟨ret_l _ (lp_spE 2) rfl⟩
  · rw [Bool.true_and] at h
    subst h
    refine ax_i Tryz.func26 Tryz.ntmps26 ?_; intro F hG hO
    rw [← hG] at f0 f1
    repeat' ((try (conv => whnf)); first
 | refine ce f0 ?_ | refine ce f1 ?_
 | (refine dT (id := 3) dt5 ?_)
 | with_reducible first | refine ax_s ?_ | (refine ax_f ?_ ?_ <;> try intro hc) | fail)
    exact ⟨ret_l _ (lp_spE 2) rfl⟩
theorem p_meetX (b1 : Bool) (l1 : List Int) (e1 : Int) (b2 : Bool) (l2 : List Int) (e2 : Int) (o1 : okD 18446744073709551616 l1) (o2 : okD 18446744073709551616 l2) (b3 : Bool) (l3 : List Int) (e3 : Int) (b4 : Bool) (l4 : List Int) (e4 : Int) (o3 : okD 18446744073709551616 l3) (o4 : okD 18446744073709551616 l4) (h : (spF b1 l1 e1 b2 l2 e2 && spF b3 l3 e3 b4 l4 e4) = false) : FC Tryz.prog G 25 [Sp b1 l1 e1 b2 l2 e2, Sp b3 l3 e3 b4 l4 e4] (· = .tup [SP (0, 0) (0, 0), .val (.bool false), .val (.int .i64 2)]) := by
  have f0 := p_formX (G := G) b1 l1 e1 b2 l2 e2 o1 o2
  have f1 := p_formX (G := G) b3 l3 e3 b4 l4 e4 o3 o4
  obtain ⟨x, hx⟩ : ∃ x, x = spF b1 l1 e1 b2 l2 e2 := ⟨_, rfl⟩
  obtain ⟨y, hy⟩ : ∃ y, y = spF b3 l3 e3 b4 l4 e4 := ⟨_, rfl⟩
  rw [← hx] at f0 h
  rw [← hy] at f1 h
  clear hx hy
  cases x
  · clear f1 h
    refine ax_i Tryz.func25 Tryz.ntmps25 ?_; intro F hG hO
    rw [← hG] at f0
    repeat' ((try (conv => whnf)); first
 | refine ce f0 ?_
 | (refine dT (id := 3) dt6 ?_)
 | with_reducible first | refine ax_s ?_ | (refine ax_f ?_ ?_ <;> try intro hc) | fail)
    exact ⟨ret_l _ (.tup (.cons lp_sp0 (.cons (.refl _) (.cons (.refl _) .nil)))) rfl⟩
  · rw [Bool.true_and] at h
    subst h
    refine ax_i Tryz.func25 Tryz.ntmps25 ?_; intro F hG hO
    rw [← hG] at f0 f1
    repeat' ((try (conv => whnf)); first
 | refine ce f0 ?_ | refine ce f1 ?_
 | (refine dT (id := 3) dt6 ?_)
 | with_reducible first | refine ax_s ?_ | (refine ax_f ?_ ?_ <;> try intro hc) | fail)
    exact ⟨ret_l _ (.tup (.cons lp_sp0 (.cons (.refl _) (.cons (.refl _) .nil)))) rfl⟩
theorem GoodS.hull {a b c d : D2} (h : GoodS a b) (k : GoodS c d) : GoodS (lst2 a c) (gst2 b d) := ⟨lst2_good h.1 k.1, gst2_good h.2.1 k.2.1, by rw [lst2_v, gst2_v]; have := h.2.2; omega⟩
theorem p_hull {a b c d : D2} (h : GoodS a b) (k : GoodS c d) : FC Tryz.prog G 26 [SP a b, SP c d] (· = spR (lst2 a c) (gst2 b d)) := by
  have f0 := p_form (G := G) h
  have f1 := p_form (G := G) k
  have f2 := p_least2 (G := G) h.1 k.1
  have f3 := p_greatest2 (G := G) h.2.1 k.2.1
  have f4 := p_twins (G := G) (h.hull k).1 (h.hull k).2.1
  obtain ⟨u, hu⟩ : ∃ u, u = lst2 a c := ⟨_, rfl⟩
  obtain ⟨v, hv⟩ : ∃ v, v = gst2 b d := ⟨_, rfl⟩
  rw [← hu] at f2 f4 ⊢
  rw [← hv] at f3 f4 ⊢
  clear hu hv
  refine ax_i Tryz.func26 Tryz.ntmps26 ?_; intro F hG hO
  rw [← hG] at f0 f1 f2 f3 f4
  repeat' ((try (conv => whnf)); first
 | refine ce f0 ?_ | refine ce f1 ?_ | refine ce f2 ?_ | refine ce f3 ?_ | refine ce f4 ?_
 | (refine dT (id := 3) dt5 ?_)
 | with_reducible first | refine ax_s ?_ | (refine ax_f ?_ ?_ <;> try intro hc) | fail)
  all_goals exact ⟨ret_e rfl⟩
theorem p_meet {a b c d : D2} (h : GoodS a b) (k : GoodS c d) : FC Tryz.prog G 25 [SP a b, SP c d] (· = if (gst2 a c).v ≤ (lst2 b d).v then .tup [SP (gst2 a c) (lst2 b d), .val (.bool true), .val (.int .i64 0)] else .tup [SP (0, 0) (0, 0), .val (.bool false), .val (.int .i64 0)]) := by
  have f0 := p_form (G := G) h
  have f1 := p_form (G := G) k
  have f2 := p_greatest2 (G := G) h.1 k.1
  have f3 := p_least2 (G := G) h.2.1 k.2.1
  have gu := gst2_good h.1 k.1
  have gv := lst2_good h.2.1 k.2.1
  obtain ⟨u, hu⟩ : ∃ u, u = gst2 a c := ⟨_, rfl⟩
  obtain ⟨v, hv⟩ : ∃ v, v = lst2 b d := ⟨_, rfl⟩
  rw [← hu] at f2 gu ⊢
  rw [← hv] at f3 gv ⊢
  clear hu hv
  have f4 := p_twins (G := G) gu gv
  have f5 := p_cmp (G := G) gu gv
  have hp := cmpV_pos (n := u.1) (e := u.2) (m := v.1) (f := v.2)
  obtain ⟨z, hz⟩ : ∃ z, z = cmpV u.1 u.2 v.1 v.2 := ⟨_, rfl⟩
  rw [← hz] at f5 hp
  clear hz
  by_cases hle : u.v ≤ v.v
  · rw [if_pos hle]
    have q : ¬ 0 < z := fun hh => by have := hp.1 hh; unfold D2.v at hle; omega
    clear hp
    refine ax_i Tryz.func25 Tryz.ntmps25 ?_; intro F hG hO
    rw [← hG] at f0 f1 f2 f3 f4 f5
    repeat' ((try (conv => whnf)); first
 | refine ce f0 ?_ | refine ce f1 ?_ | refine ce f2 ?_ | refine ce f3 ?_ | refine ce f4 ?_ | refine ce f5 ?_
 | (refine dT (id := 3) dt6 ?_)
 | with_reducible first | refine ax_s ?_ | (refine ax_f ?_ ?_ <;> try intro hc) | fail)
    all_goals exact ⟨ret_e rfl⟩
  · rw [if_neg hle]
    have q : 0 < z := hp.2 (by unfold D2.v at hle; omega)
    clear hp
    refine ax_i Tryz.func25 Tryz.ntmps25 ?_; intro F hG hO
    rw [← hG] at f0 f1 f2 f3 f5
    repeat' ((try (conv => whnf)); first
 | refine ce f0 ?_ | refine ce f1 ?_ | refine ce f2 ?_ | refine ce f3 ?_ | refine ce f5 ?_
 | (refine dT (id := 3) dt6 ?_)
 | with_reducible first | refine ax_s ?_ | (refine ax_f ?_ ?_ <;> try intro hc) | fail)
    all_goals exact ⟨ret_l _ (.tup (.cons lp_sp0 (.cons (.refl _) (.cons (.refl _) .nil)))) rfl⟩
def hasV (a b d : D2) : Bool := decide (a.v ≤ d.v) && decide (d.v ≤ b.v)
theorem p_has {a b d : D2} (h : GoodS a b) (k : d.good) : FC Tryz.prog G 27 [SP a b, DY d.1 d.2] (· = .tup [.val (.bool (hasV a b d)), .val (.int .i64 0)]) := by
  have f0 := p_form (G := G) h
  have f1 := y_form (G := G) k
  have f2 := p_cmp (G := G) h.1 k
  have f3 := p_cmp (G := G) k h.2.1
  have h2 := cmpV_pos (n := a.1) (e := a.2) (m := d.1) (f := d.2)
  have h3 := cmpV_pos (n := d.1) (e := d.2) (m := b.1) (f := b.2)
  obtain ⟨y, hy⟩ : ∃ z, z = cmpV a.1 a.2 d.1 d.2 := ⟨_, rfl⟩
  obtain ⟨z, hz⟩ : ∃ z, z = cmpV d.1 d.2 b.1 b.2 := ⟨_, rfl⟩
  rw [← hy] at f2 h2
  rw [← hz] at f3 h3
  clear hy hz
  have e : hasV a b d = (decide (y ≤ 0) && decide (z ≤ 0)) := by
    unfold hasV D2.v
    congr 1
    · refine decide_eq_decide.2 ⟨fun hh => ?_, fun hh => ?_⟩
      · rcases Int.lt_or_le 0 y with h | h
        · have := h2.1 h; omega
        · exact h
      · rcases Int.lt_or_le (VV d.1 d.2) (VV a.1 a.2) with h | h
        · have := h2.2 h; omega
        · exact h
    · refine decide_eq_decide.2 ⟨fun hh => ?_, fun hh => ?_⟩
      · rcases Int.lt_or_le 0 z with h | h
        · have := h3.1 h; omega
        · exact h
      · rcases Int.lt_or_le (VV b.1 b.2) (VV d.1 d.2) with h | h
        · have := h3.2 h; omega
        · exact h
  rw [e]
  clear e h2 h3
  by_cases q : y ≤ 0
  · rw [decide_eq_true q]
    refine ax_i Tryz.func27 Tryz.ntmps27 ?_; intro F hG hO
    rw [← hG] at f0 f1 f2 f3
    repeat' ((try (conv => whnf)); first
 | refine ce f0 ?_ | refine ce f1 ?_ | refine ce f2 ?_ | refine ce f3 ?_
 | with_reducible first | refine ax_s ?_ | (refine ax_f ?_ ?_ <;> try intro hc) | fail)
    all_goals exact ⟨ret_e rfl⟩
  · rw [decide_eq_false q]
    refine ax_i Tryz.func27 Tryz.ntmps27 ?_; intro F hG hO
    rw [← hG] at f0 f1 f2 f3
    repeat' ((try (conv => whnf)); first
 | refine ce f0 ?_ | refine ce f1 ?_ | refine ce f2 ?_ | refine ce f3 ?_
 | with_reducible first | refine ax_s ?_ | (refine ax_f ?_ ?_ <;> try intro hc) | fail)
    all_goals exact ⟨ret_e rfl⟩
theorem p_hasX (b1 : Bool) (l1 : List Int) (e1 : Int) (b2 : Bool) (l2 : List Int) (e2 : Int) (o1 : okD 18446744073709551616 l1) (o2 : okD 18446744073709551616 l2) (b3 : Bool) (l3 : List Int) (e3 : Int) (o3 : okD 18446744073709551616 l3) (h : (spF b1 l1 e1 b2 l2 e2 && dyF b3 l3 e3) = false) : FC Tryz.prog G 27 [Sp b1 l1 e1 b2 l2 e2, Dy b3 l3 e3] (· = .tup [.val (.bool false), .val (.int .i64 2)]) := by
  have f0 := p_formX (G := G) b1 l1 e1 b2 l2 e2 o1 o2
  obtain ⟨x, hx⟩ : ∃ x, x = spF b1 l1 e1 b2 l2 e2 := ⟨_, rfl⟩
  rw [← hx] at f0 h
  clear hx
  cases x
  · clear h
    refine ax_i Tryz.func27 Tryz.ntmps27 ?_; intro F hG hO
    rw [← hG] at f0
    repeat' ((try (conv => whnf)); first
 | refine ce f0 ?_
 | with_reducible first | refine ax_s ?_ | (refine ax_f ?_ ?_ <;> try intro hc) | fail)
    exact ⟨ret_e rfl⟩
  · rw [Bool.true_and] at h
    have f1 := y_formN (G := G) b3 l3 e3 o3 h
    refine ax_i Tryz.func27 Tryz.ntmps27 ?_; intro F hG hO
    rw [← hG] at f0 f1
    repeat' ((try (conv => whnf)); first
 | refine ce f0 ?_ | refine ce f1 ?_
 | with_reducible first | refine ax_s ?_ | (refine ax_f ?_ ?_ <;> try intro hc) | fail)
    exact ⟨ret_e rfl⟩
theorem p_make {a b : D2} (h : GoodS a b) : FC Tryz.prog G 84 [DY a.1 a.2, DY b.1 b.2] (· = spR a b) := by
  have f0 := p_form (G := G) h
  have f1 := p_twins (G := G) h.1 h.2.1
  refine ax_i Tryz.func84 Tryz.ntmps84 ?_; intro F hG hO
  rw [← hG] at f0 f1
  repeat' ((try (conv => whnf)); first
 | refine ce f0 ?_ | refine ce f1 ?_
 | with_reducible first | refine ax_s ?_ | (refine ax_f ?_ ?_ <;> try intro hc) | fail)
  exact ⟨ret_e rfl⟩
theorem p_makeX (b1 : Bool) (l1 : List Int) (e1 : Int) (b2 : Bool) (l2 : List Int) (e2 : Int) (o1 : okD 18446744073709551616 l1) (o2 : okD 18446744073709551616 l2) (h : spF b1 l1 e1 b2 l2 e2 = false) : FC Tryz.prog G 84 [Dy b1 l1 e1, Dy b2 l2 e2] (· = spE 2) := by
  have f0 := p_formX (G := G) b1 l1 e1 b2 l2 e2 o1 o2
  rw [h] at f0
  refine ax_i Tryz.func84 Tryz.ntmps84 ?_; intro F hG hO
  rw [← hG] at f0
  repeat' ((try (conv => whnf)); first
 | refine ce f0 ?_
 | with_reducible first | refine ax_s ?_ | (refine ax_f ?_ ?_ <;> try intro hc) | fail)
  exact ⟨ret_l _ (lp_spE 2) rfl⟩
theorem p_point {a : D2} (h : a.good) : FC Tryz.prog G 41 [DY a.1 a.2] (· = spR a a) := by
  have f0 := p_make (G := G) (a := a) (b := a) ⟨h, h, Int.le_refl _⟩
  refine ax_i Tryz.func41 Tryz.ntmps41 ?_; intro F hG hO
  rw [← hG] at f0
  repeat' ((try (conv => whnf)); first
 | refine ce f0 ?_
 | with_reducible first | refine ax_s ?_ | (refine ax_f ?_ ?_ <;> try intro hc) | fail)
  exact ⟨ret_e rfl⟩
theorem p_pointX (b : Bool) (l : List Int) (e : Int) (o : okD 18446744073709551616 l) (h : dyF b l e = false) : FC Tryz.prog G 41 [Dy b l e] (· = spE 2) := by
  have f0 := p_makeX (G := G) b l e b l e o o (by unfold spF; rw [h]; rfl)
  have e0 : spE 2 = .tup [SP (0, 0) (0, 0), .val (.int .i64 2)] := rfl
  rw [e0] at f0 ⊢
  refine ax_i Tryz.func41 Tryz.ntmps41 ?_; intro F hG hO
  rw [← hG] at f0
  repeat' ((try (conv => whnf)); first
 | refine ce f0 ?_
 | with_reducible first | refine ax_s ?_ | (refine ax_f ?_ ?_ <;> try intro hc) | fail)
  exact ⟨ret_e rfl⟩
theorem p_width {g : Gs} (hD : (0, debT.map (Value.int .u8)) ∈ g) {a b : D2} (h : GoodS a b) : FC Tryz.prog g 90 [SP a b] (· = addP b a.neg) := by
  have f0 := p_form (G := g) h
  have f1 := y_sub hD h.2.1 h.1
  obtain ⟨x, y, c, hr, _, _⟩ := add_ans h.2.1 (D2.neg_good h.1)
  have e : addS b.1 b.2 (-a.1) a.2 = addP b a.neg := rfl
  rw [e, hr] at f1
  rw [hr]
  clear hr e
  refine ax_i Tryz.func90 Tryz.ntmps90 ?_; intro F hG hO
  rw [← hG] at f0 f1
  repeat' ((try (conv => whnf)); first
 | refine ce f0 ?_ | refine ce f1 ?_
 | with_reducible first | refine ax_s ?_ | (refine ax_f ?_ ?_ <;> try intro hc) | fail)
  exact ⟨ret_e rfl⟩
def oT1 : Tm := .take 0 (.take 1 (.take 3 (.take 4 (.alt 2 (.alt 5 (.alt 6 (.alt 7 (.alt 8 (.alt 9 (.fin) (.non)) (.non)) (.non)) (.alt 7 (.alt 6 (.alt 8 (.alt 9 (.fin) (.non)) (.non)) (.non)) (.non))) (.alt 6 (.alt 5 (.alt 7 (.alt 8 (.alt 9 (.fin) (.non)) (.non)) (.non)) (.alt 7 (.alt 5 (.alt 8 (.alt 9 (.fin) (.non)) (.non)) (.alt 8 (.alt 5 (.alt 9 (.fin) (.non)) (.non)) (.non))) (.non))) (.alt 7 (.alt 5 (.alt 6 (.alt 8 (.alt 9 (.fin) (.non)) (.non)) (.non)) (.alt 6 (.alt 5 (.alt 8 (.alt 9 (.fin) (.non)) (.non)) (.alt 8 (.alt 5 (.alt 9 (.fin) (.non)) (.non)) (.non))) (.non))) (.non)))) (.alt 5 (.alt 2 (.alt 6 (.alt 7 (.alt 8 (.alt 9 (.fin) (.non)) (.non)) (.non)) (.alt 7 (.alt 6 (.alt 8 (.alt 9 (.fin) (.non)) (.non)) (.non)) (.non))) (.alt 6 (.alt 2 (.alt 7 (.alt 8 (.alt 9 (.fin) (.non)) (.non)) (.non)) (.alt 7 (.alt 2 (.alt 8 (.alt 9 (.fin) (.non)) (.non)) (.non)) (.non))) (.alt 7 (.alt 2 (.alt 6 (.alt 8 (.alt 9 (.fin) (.non)) (.non)) (.non)) (.alt 6 (.alt 2 (.alt 8 (.alt 9 (.fin) (.non)) (.non)) (.non)) (.non))) (.non)))) (.alt 6 (.alt 2 (.alt 5 (.alt 7 (.alt 8 (.alt 9 (.fin) (.non)) (.non)) (.non)) (.alt 7 (.alt 5 (.alt 8 (.alt 9 (.fin) (.non)) (.non)) (.alt 8 (.alt 5 (.alt 9 (.fin) (.non)) (.non)) (.non))) (.non))) (.alt 5 (.alt 2 (.alt 7 (.alt 8 (.alt 9 (.fin) (.non)) (.non)) (.non)) (.alt 7 (.alt 2 (.alt 8 (.alt 9 (.fin) (.non)) (.non)) (.non)) (.non))) (.alt 7 (.alt 2 (.alt 5 (.alt 8 (.alt 9 (.fin) (.non)) (.non)) (.alt 8 (.alt 5 (.alt 9 (.fin) (.non)) (.non)) (.non))) (.alt 5 (.alt 2 (.alt 8 (.alt 9 (.fin) (.non)) (.non)) (.non)) (.non))) (.non)))) (.alt 7 (.alt 2 (.alt 5 (.alt 6 (.alt 8 (.alt 9 (.fin) (.non)) (.non)) (.non)) (.alt 6 (.alt 5 (.alt 8 (.alt 9 (.fin) (.non)) (.non)) (.alt 8 (.alt 5 (.alt 9 (.fin) (.non)) (.non)) (.non))) (.non))) (.alt 5 (.alt 2 (.alt 6 (.alt 8 (.alt 9 (.fin) (.non)) (.non)) (.non)) (.alt 6 (.alt 2 (.alt 8 (.alt 9 (.fin) (.non)) (.non)) (.non)) (.non))) (.alt 6 (.alt 2 (.alt 5 (.alt 8 (.alt 9 (.fin) (.non)) (.non)) (.alt 8 (.alt 5 (.alt 9 (.fin) (.non)) (.non)) (.non))) (.alt 5 (.alt 2 (.alt 8 (.alt 9 (.fin) (.non)) (.non)) (.non)) (.non))) (.non)))) (.non))))))))
theorem q_out2 {a b : D2} (ka : a.good) (kb : b.good) (p : Int) (hp : 1 ≤ p ∧ p ≤ 70000) : FC Tryz.prog G 160 [.sl 3 [.val (.bool (decide (a.1 < 0))), .ws .u64 (d64 a.1.natAbs), .val (.int .i64 a.2), .val (.bool (decide (b.1 < 0))), .ws .u64 (d64 b.1.natAbs), .val (.int .i64 b.2)], .val (.int .i64 p)] (· = outP (lst2 a b) (gst2 a b) p) := by
  obtain ⟨lo2, hl2⟩ : ∃ r, r = lst2 a b := ⟨_, rfl⟩
  obtain ⟨hi2, hh2⟩ : ∃ r, r = gst2 a b := ⟨_, rfl⟩
  rw [← hl2, ← hh2]
  have gl2 : lo2.good := hl2 ▸ lst2_good ka kb
  have gh2 : hi2.good := hh2 ▸ gst2_good ka kb
  have u2 := q_below (G := G) kb ka
  have w2 := q_below (G := G) ka kb
  have g1 := tup_eta (r_docdown (G := G) p gl2 (by dsimp only [inR]; omega)) (cuts_ans lo2 hp false)
  have g2 := tup_eta (r_docup (G := G) p gh2 (by dsimp only [inR]; omega)) (cuts_ans hi2 hp true)
  have c1 := (cuts_ans lo2 hp false).eq.2.2
  have c2 := (cuts_ans hi2 hp true).eq.2.2
  unfold outP
  obtain ⟨u, hu⟩ : ∃ u, u = toAn (cutsS lo2.1 lo2.2 p false) := ⟨_, rfl⟩
  obtain ⟨v, hv⟩ : ∃ v, v = toAn (cutsS hi2.1 hi2.2 p true) := ⟨_, rfl⟩
  rw [← hu] at g1 c1 ⊢
  rw [← hv] at g2 c2 ⊢
  have g3 := q_told (G := G) u v c1 c2
  obtain ⟨x, y, c0, hr⟩ := bothA_form u v
  rw [hr] at g3 ⊢
  clear hu hv hr c1 c2 hp
  refine ax_i Tryz.func160 Tryz.ntmps160 ?_; intro F hG hO
  rw [← hG] at u2 w2 g1 g2 g3
  repeat' ((try (conv => whnf)); first
 | refine ce u2 ?_ | refine ce w2 ?_ | refine ce g1 ?_ | refine ce g2 ?_ | refine ce g3 ?_
 | (refine dg ?_; refine draw_j (A := Bool) (id := 1) (N := 64) (fun x => [(0, .sl 3 [vB a, vW a, vE a, vB b, vW b, vE b]), (1, .val (.int .i64 p)), (4, .ptr 0 0), (6, .ptr (cond x 1 2) 0), (7, .ptr (cond x 2 1) 0)]) (fun _ => [[.val (.bool false), .nil, .val (.int .i64 0), .val (.bool false), .nil, .val (.int .i64 0)], [vB a, vW a, vE a], [vB a, vW a, vE a]]) (fun _ => []) (oT1) tok mixed (by kernel_rfl) (by kernel_rfl) (by intro ju; cases ju <;> (refine ⟨?_, ?_, ?_⟩ <;> simp [inS, inBB, inBL, inB, hO])) ?_ ?_; rotate_left; intro ju; cases ju)
 | exact join true ⟨rfl, rfl, rfl, rfl, rfl, trivial⟩ ⟨[], rfl⟩ ⟨[], rfl⟩
 | exact join false ⟨rfl, rfl, rfl, rfl, rfl, trivial⟩ ⟨[], rfl⟩ ⟨[], rfl⟩
 | (refine lg ?_; refine loop_g (A := Nat) (fun m => 1 ≤ m ∧ m ≤ 2) (fun m => 2 - m) (fun m => [(0, .sl 3 [vB a, vW a, vE a, vB b, vW b, vE b]), (1, .val (.int .i64 p)), (4, .ptr 0 0), (6, .ptr 1 0), (7, .ptr 2 0), (8, .val (.int .i64 (m : Int)))]) (fun m => [[.val (.bool false), .nil, .val (.int .i64 0), .val (.bool false), .nil, .val (.int .i64 0)], [.val (.bool (decide ((match m with | 1 => a  | _ => lo2).1 < 0))), .ws .u64 (d64 (match m with | 1 => a  | _ => lo2).1.natAbs), .val (.int .i64 (match m with | 1 => a  | _ => lo2).2)], [.val (.bool (decide ((match m with | 1 => a  | _ => hi2).1 < 0))), .ws .u64 (d64 (match m with | 1 => a  | _ => hi2).1.natAbs), .val (.int .i64 (match m with | 1 => a  | _ => hi2).2)]]) (fun _ => []) 1 tok (by intro m; (refine ⟨?_, ?_, ?_⟩ <;> simp [inS, inBB, inBL, inB, hO])) ⟨Nat.le_refl _, by decide⟩ ⟨rfl, rfl, rfl, rfl, rfl, rfl, trivial⟩ ⟨[], rfl⟩ ⟨[], rfl⟩ ?_; rintro m ⟨m1, m2⟩; have m3 : m = 1 ∨ m = 2 := (by omega); clear m1 m2; rcases m3 with rfl | rfl)
 | (refine lg ?_; refine loop_g (A := Nat) (fun m => 1 ≤ m ∧ m ≤ 2) (fun m => 2 - m) (fun m => [(0, .sl 3 [vB a, vW a, vE a, vB b, vW b, vE b]), (1, .val (.int .i64 p)), (4, .ptr 0 0), (6, .ptr 2 0), (7, .ptr 1 0), (8, .val (.int .i64 (m : Int)))]) (fun m => [[.val (.bool false), .nil, .val (.int .i64 0), .val (.bool false), .nil, .val (.int .i64 0)], [.val (.bool (decide ((match m with | 1 => a  | _ => hi2).1 < 0))), .ws .u64 (d64 (match m with | 1 => a  | _ => hi2).1.natAbs), .val (.int .i64 (match m with | 1 => a  | _ => hi2).2)], [.val (.bool (decide ((match m with | 1 => a  | _ => lo2).1 < 0))), .ws .u64 (d64 (match m with | 1 => a  | _ => lo2).1.natAbs), .val (.int .i64 (match m with | 1 => a  | _ => lo2).2)]]) (fun _ => []) 1 tok (by intro m; (refine ⟨?_, ?_, ?_⟩ <;> simp [inS, inBB, inBL, inB, hO])) ⟨Nat.le_refl _, by decide⟩ ⟨rfl, rfl, rfl, rfl, rfl, rfl, trivial⟩ ⟨[], rfl⟩ ⟨[], rfl⟩ ?_; rintro m ⟨m1, m2⟩; have m3 : m = 1 ∨ m = 2 := (by omega); clear m1 m2; rcases m3 with rfl | rfl)
 | (refine ax_l ?_)
 | (refine ax_r ?_)
 | (refine dG (id := 5) [[0, 1, 2, 3, 4, 5]] ?_)
 | (refine dG (id := 7) [[0, 1, 2, 3, 4, 5]] ?_)
 | with_reducible first | refine ax_s ?_ | (refine ax_f ?_ ?_ <;> try intro hc) | fail)
  all_goals first
    | exact ⟨ret_e rfl⟩
    | (obtain rfl := hl2.trans (lst2_lt (by omega)); obtain rfl := hh2.trans (gst2_lt (by omega)); exact ⟨again 2 ⟨by decide, by decide⟩ (by decide) ⟨rfl, rfl, rfl, rfl, rfl, rfl, trivial⟩ ⟨[], rfl⟩ ⟨[], rfl⟩⟩)
    | (obtain rfl := hl2.trans (lst2_lt (by omega)); obtain rfl := hh2.trans (gst2_ge (by omega)); exact ⟨again 2 ⟨by decide, by decide⟩ (by decide) ⟨rfl, rfl, rfl, rfl, rfl, rfl, trivial⟩ ⟨[], rfl⟩ ⟨[], rfl⟩⟩)
    | (obtain rfl := hl2.trans (lst2_ge (by omega)); obtain rfl := hh2.trans (gst2_lt (by omega)); exact ⟨again 2 ⟨by decide, by decide⟩ (by decide) ⟨rfl, rfl, rfl, rfl, rfl, rfl, trivial⟩ ⟨[], rfl⟩ ⟨[], rfl⟩⟩)
    | (obtain rfl := hl2.trans (lst2_ge (by omega)); obtain rfl := hh2.trans (gst2_ge (by omega)); exact ⟨again 2 ⟨by decide, by decide⟩ (by decide) ⟨rfl, rfl, rfl, rfl, rfl, rfl, trivial⟩ ⟨[], rfl⟩ ⟨[], rfl⟩⟩)
theorem q_out3 {a b c : D2} (ka : a.good) (kb : b.good) (kc : c.good) (p : Int) (hp : 1 ≤ p ∧ p ≤ 70000) : FC Tryz.prog G 160 [.sl 3 [.val (.bool (decide (a.1 < 0))), .ws .u64 (d64 a.1.natAbs), .val (.int .i64 a.2), .val (.bool (decide (b.1 < 0))), .ws .u64 (d64 b.1.natAbs), .val (.int .i64 b.2), .val (.bool (decide (c.1 < 0))), .ws .u64 (d64 c.1.natAbs), .val (.int .i64 c.2)], .val (.int .i64 p)] (· = outP (lst2 (lst2 a b) c) (gst2 (gst2 a b) c) p) := by
  obtain ⟨lo2, hl2⟩ : ∃ r, r = lst2 a b := ⟨_, rfl⟩
  obtain ⟨hi2, hh2⟩ : ∃ r, r = gst2 a b := ⟨_, rfl⟩
  rw [← hl2, ← hh2]
  have gl2 : lo2.good := hl2 ▸ lst2_good ka kb
  have gh2 : hi2.good := hh2 ▸ gst2_good ka kb
  have u2 := q_below (G := G) kb ka
  have w2 := q_below (G := G) ka kb
  obtain ⟨lo3, hl3⟩ : ∃ r, r = lst2 lo2 c := ⟨_, rfl⟩
  obtain ⟨hi3, hh3⟩ : ∃ r, r = gst2 hi2 c := ⟨_, rfl⟩
  rw [← hl3, ← hh3]
  have gl3 : lo3.good := hl3 ▸ lst2_good gl2 kc
  have gh3 : hi3.good := hh3 ▸ gst2_good gh2 kc
  have u3 := q_below (G := G) kc gl2
  have w3 := q_below (G := G) gh2 kc
  have g1 := tup_eta (r_docdown (G := G) p gl3 (by dsimp only [inR]; omega)) (cuts_ans lo3 hp false)
  have g2 := tup_eta (r_docup (G := G) p gh3 (by dsimp only [inR]; omega)) (cuts_ans hi3 hp true)
  have c1 := (cuts_ans lo3 hp false).eq.2.2
  have c2 := (cuts_ans hi3 hp true).eq.2.2
  unfold outP
  obtain ⟨u, hu⟩ : ∃ u, u = toAn (cutsS lo3.1 lo3.2 p false) := ⟨_, rfl⟩
  obtain ⟨v, hv⟩ : ∃ v, v = toAn (cutsS hi3.1 hi3.2 p true) := ⟨_, rfl⟩
  rw [← hu] at g1 c1 ⊢
  rw [← hv] at g2 c2 ⊢
  have g3 := q_told (G := G) u v c1 c2
  obtain ⟨x, y, c0, hr⟩ := bothA_form u v
  rw [hr] at g3 ⊢
  clear hu hv hr c1 c2 hp
  refine ax_i Tryz.func160 Tryz.ntmps160 ?_; intro F hG hO
  rw [← hG] at u2 w2 u3 w3 g1 g2 g3
  repeat' ((try (conv => whnf)); first
 | refine ce u2 ?_ | refine ce w2 ?_ | refine ce u3 ?_ | refine ce w3 ?_ | refine ce g1 ?_ | refine ce g2 ?_ | refine ce g3 ?_
 | (refine dg ?_; refine draw_j (A := Bool) (id := 1) (N := 64) (fun x => [(0, .sl 3 [vB a, vW a, vE a, vB b, vW b, vE b, vB c, vW c, vE c]), (1, .val (.int .i64 p)), (4, .ptr 0 0), (6, .ptr (cond x 1 2) 0), (7, .ptr (cond x 2 1) 0)]) (fun _ => [[.val (.bool false), .nil, .val (.int .i64 0), .val (.bool false), .nil, .val (.int .i64 0)], [vB a, vW a, vE a], [vB a, vW a, vE a]]) (fun _ => []) (oT1) tok mixed (by kernel_rfl) (by kernel_rfl) (by intro ju; cases ju <;> (refine ⟨?_, ?_, ?_⟩ <;> simp [inS, inBB, inBL, inB, hO])) ?_ ?_; rotate_left; intro ju; cases ju)
 | exact join true ⟨rfl, rfl, rfl, rfl, rfl, trivial⟩ ⟨[], rfl⟩ ⟨[], rfl⟩
 | exact join false ⟨rfl, rfl, rfl, rfl, rfl, trivial⟩ ⟨[], rfl⟩ ⟨[], rfl⟩
 | (refine lg ?_; refine loop_g (A := Nat) (fun m => 1 ≤ m ∧ m ≤ 3) (fun m => 3 - m) (fun m => [(0, .sl 3 [vB a, vW a, vE a, vB b, vW b, vE b, vB c, vW c, vE c]), (1, .val (.int .i64 p)), (4, .ptr 0 0), (6, .ptr 1 0), (7, .ptr 2 0), (8, .val (.int .i64 (m : Int)))]) (fun m => [[.val (.bool false), .nil, .val (.int .i64 0), .val (.bool false), .nil, .val (.int .i64 0)], [.val (.bool (decide ((match m with | 1 => a | 2 => lo2 | _ => lo3).1 < 0))), .ws .u64 (d64 (match m with | 1 => a | 2 => lo2 | _ => lo3).1.natAbs), .val (.int .i64 (match m with | 1 => a | 2 => lo2 | _ => lo3).2)], [.val (.bool (decide ((match m with | 1 => a | 2 => hi2 | _ => hi3).1 < 0))), .ws .u64 (d64 (match m with | 1 => a | 2 => hi2 | _ => hi3).1.natAbs), .val (.int .i64 (match m with | 1 => a | 2 => hi2 | _ => hi3).2)]]) (fun _ => []) 1 tok (by intro m; (refine ⟨?_, ?_, ?_⟩ <;> simp [inS, inBB, inBL, inB, hO])) ⟨Nat.le_refl _, by decide⟩ ⟨rfl, rfl, rfl, rfl, rfl, rfl, trivial⟩ ⟨[], rfl⟩ ⟨[], rfl⟩ ?_; rintro m ⟨m1, m2⟩; have m3 : m = 1 ∨ m = 2 ∨ m = 3 := (by omega); clear m1 m2; rcases m3 with rfl | rfl | rfl)
 | (refine lg ?_; refine loop_g (A := Nat) (fun m => 1 ≤ m ∧ m ≤ 3) (fun m => 3 - m) (fun m => [(0, .sl 3 [vB a, vW a, vE a, vB b, vW b, vE b, vB c, vW c, vE c]), (1, .val (.int .i64 p)), (4, .ptr 0 0), (6, .ptr 2 0), (7, .ptr 1 0), (8, .val (.int .i64 (m : Int)))]) (fun m => [[.val (.bool false), .nil, .val (.int .i64 0), .val (.bool false), .nil, .val (.int .i64 0)], [.val (.bool (decide ((match m with | 1 => a | 2 => hi2 | _ => hi3).1 < 0))), .ws .u64 (d64 (match m with | 1 => a | 2 => hi2 | _ => hi3).1.natAbs), .val (.int .i64 (match m with | 1 => a | 2 => hi2 | _ => hi3).2)], [.val (.bool (decide ((match m with | 1 => a | 2 => lo2 | _ => lo3).1 < 0))), .ws .u64 (d64 (match m with | 1 => a | 2 => lo2 | _ => lo3).1.natAbs), .val (.int .i64 (match m with | 1 => a | 2 => lo2 | _ => lo3).2)]]) (fun _ => []) 1 tok (by intro m; (refine ⟨?_, ?_, ?_⟩ <;> simp [inS, inBB, inBL, inB, hO])) ⟨Nat.le_refl _, by decide⟩ ⟨rfl, rfl, rfl, rfl, rfl, rfl, trivial⟩ ⟨[], rfl⟩ ⟨[], rfl⟩ ?_; rintro m ⟨m1, m2⟩; have m3 : m = 1 ∨ m = 2 ∨ m = 3 := (by omega); clear m1 m2; rcases m3 with rfl | rfl | rfl)
 | (refine ax_l ?_)
 | (refine ax_r ?_)
 | (refine dG (id := 5) [[0, 1, 2, 3, 4, 5]] ?_)
 | (refine dG (id := 7) [[0, 1, 2, 3, 4, 5]] ?_)
 | with_reducible first | refine ax_s ?_ | (refine ax_f ?_ ?_ <;> try intro hc) | fail)
  all_goals first
    | exact ⟨ret_e rfl⟩
    | (obtain rfl := hl2.trans (lst2_lt (by omega)); obtain rfl := hh2.trans (gst2_lt (by omega)); exact ⟨again 2 ⟨by decide, by decide⟩ (by decide) ⟨rfl, rfl, rfl, rfl, rfl, rfl, trivial⟩ ⟨[], rfl⟩ ⟨[], rfl⟩⟩)
    | (obtain rfl := hl2.trans (lst2_lt (by omega)); obtain rfl := hh2.trans (gst2_ge (by omega)); exact ⟨again 2 ⟨by decide, by decide⟩ (by decide) ⟨rfl, rfl, rfl, rfl, rfl, rfl, trivial⟩ ⟨[], rfl⟩ ⟨[], rfl⟩⟩)
    | (obtain rfl := hl2.trans (lst2_ge (by omega)); obtain rfl := hh2.trans (gst2_lt (by omega)); exact ⟨again 2 ⟨by decide, by decide⟩ (by decide) ⟨rfl, rfl, rfl, rfl, rfl, rfl, trivial⟩ ⟨[], rfl⟩ ⟨[], rfl⟩⟩)
    | (obtain rfl := hl2.trans (lst2_ge (by omega)); obtain rfl := hh2.trans (gst2_ge (by omega)); exact ⟨again 2 ⟨by decide, by decide⟩ (by decide) ⟨rfl, rfl, rfl, rfl, rfl, rfl, trivial⟩ ⟨[], rfl⟩ ⟨[], rfl⟩⟩)
    | (obtain rfl := hl3.trans (lst2_lt (by omega)); obtain rfl := hh3.trans (gst2_lt (by omega)); exact ⟨again 3 ⟨by decide, by decide⟩ (by decide) ⟨rfl, rfl, rfl, rfl, rfl, rfl, trivial⟩ ⟨[], rfl⟩ ⟨[], rfl⟩⟩)
    | (obtain rfl := hl3.trans (lst2_lt (by omega)); obtain rfl := hh3.trans (gst2_ge (by omega)); exact ⟨again 3 ⟨by decide, by decide⟩ (by decide) ⟨rfl, rfl, rfl, rfl, rfl, rfl, trivial⟩ ⟨[], rfl⟩ ⟨[], rfl⟩⟩)
    | (obtain rfl := hl3.trans (lst2_ge (by omega)); obtain rfl := hh3.trans (gst2_lt (by omega)); exact ⟨again 3 ⟨by decide, by decide⟩ (by decide) ⟨rfl, rfl, rfl, rfl, rfl, rfl, trivial⟩ ⟨[], rfl⟩ ⟨[], rfl⟩⟩)
    | (obtain rfl := hl3.trans (lst2_ge (by omega)); obtain rfl := hh3.trans (gst2_ge (by omega)); exact ⟨again 3 ⟨by decide, by decide⟩ (by decide) ⟨rfl, rfl, rfl, rfl, rfl, rfl, trivial⟩ ⟨[], rfl⟩ ⟨[], rfl⟩⟩)
theorem q_out4 {a b c d : D2} (ka : a.good) (kb : b.good) (kc : c.good) (kd : d.good) (p : Int) (hp : 1 ≤ p ∧ p ≤ 70000) : FC Tryz.prog G 160 [.sl 3 [.val (.bool (decide (a.1 < 0))), .ws .u64 (d64 a.1.natAbs), .val (.int .i64 a.2), .val (.bool (decide (b.1 < 0))), .ws .u64 (d64 b.1.natAbs), .val (.int .i64 b.2), .val (.bool (decide (c.1 < 0))), .ws .u64 (d64 c.1.natAbs), .val (.int .i64 c.2), .val (.bool (decide (d.1 < 0))), .ws .u64 (d64 d.1.natAbs), .val (.int .i64 d.2)], .val (.int .i64 p)] (· = outP (lst2 (lst2 (lst2 a b) c) d) (gst2 (gst2 (gst2 a b) c) d) p) := by
  obtain ⟨lo2, hl2⟩ : ∃ r, r = lst2 a b := ⟨_, rfl⟩
  obtain ⟨hi2, hh2⟩ : ∃ r, r = gst2 a b := ⟨_, rfl⟩
  rw [← hl2, ← hh2]
  have gl2 : lo2.good := hl2 ▸ lst2_good ka kb
  have gh2 : hi2.good := hh2 ▸ gst2_good ka kb
  have u2 := q_below (G := G) kb ka
  have w2 := q_below (G := G) ka kb
  obtain ⟨lo3, hl3⟩ : ∃ r, r = lst2 lo2 c := ⟨_, rfl⟩
  obtain ⟨hi3, hh3⟩ : ∃ r, r = gst2 hi2 c := ⟨_, rfl⟩
  rw [← hl3, ← hh3]
  have gl3 : lo3.good := hl3 ▸ lst2_good gl2 kc
  have gh3 : hi3.good := hh3 ▸ gst2_good gh2 kc
  have u3 := q_below (G := G) kc gl2
  have w3 := q_below (G := G) gh2 kc
  obtain ⟨lo4, hl4⟩ : ∃ r, r = lst2 lo3 d := ⟨_, rfl⟩
  obtain ⟨hi4, hh4⟩ : ∃ r, r = gst2 hi3 d := ⟨_, rfl⟩
  rw [← hl4, ← hh4]
  have gl4 : lo4.good := hl4 ▸ lst2_good gl3 kd
  have gh4 : hi4.good := hh4 ▸ gst2_good gh3 kd
  have u4 := q_below (G := G) kd gl3
  have w4 := q_below (G := G) gh3 kd
  have g1 := tup_eta (r_docdown (G := G) p gl4 (by dsimp only [inR]; omega)) (cuts_ans lo4 hp false)
  have g2 := tup_eta (r_docup (G := G) p gh4 (by dsimp only [inR]; omega)) (cuts_ans hi4 hp true)
  have c1 := (cuts_ans lo4 hp false).eq.2.2
  have c2 := (cuts_ans hi4 hp true).eq.2.2
  unfold outP
  obtain ⟨u, hu⟩ : ∃ u, u = toAn (cutsS lo4.1 lo4.2 p false) := ⟨_, rfl⟩
  obtain ⟨v, hv⟩ : ∃ v, v = toAn (cutsS hi4.1 hi4.2 p true) := ⟨_, rfl⟩
  rw [← hu] at g1 c1 ⊢
  rw [← hv] at g2 c2 ⊢
  have g3 := q_told (G := G) u v c1 c2
  obtain ⟨x, y, c0, hr⟩ := bothA_form u v
  rw [hr] at g3 ⊢
  clear hu hv hr c1 c2 hp
  refine ax_i Tryz.func160 Tryz.ntmps160 ?_; intro F hG hO
  rw [← hG] at u2 w2 u3 w3 u4 w4 g1 g2 g3
  repeat' ((try (conv => whnf)); first
 | refine ce u2 ?_ | refine ce w2 ?_ | refine ce u3 ?_ | refine ce w3 ?_ | refine ce u4 ?_ | refine ce w4 ?_ | refine ce g1 ?_ | refine ce g2 ?_ | refine ce g3 ?_
 | (refine dg ?_; refine draw_j (A := Bool) (id := 1) (N := 64) (fun x => [(0, .sl 3 [vB a, vW a, vE a, vB b, vW b, vE b, vB c, vW c, vE c, vB d, vW d, vE d]), (1, .val (.int .i64 p)), (4, .ptr 0 0), (6, .ptr (cond x 1 2) 0), (7, .ptr (cond x 2 1) 0)]) (fun _ => [[.val (.bool false), .nil, .val (.int .i64 0), .val (.bool false), .nil, .val (.int .i64 0)], [vB a, vW a, vE a], [vB a, vW a, vE a]]) (fun _ => []) (oT1) tok mixed (by kernel_rfl) (by kernel_rfl) (by intro ju; cases ju <;> (refine ⟨?_, ?_, ?_⟩ <;> simp [inS, inBB, inBL, inB, hO])) ?_ ?_; rotate_left; intro ju; cases ju)
 | exact join true ⟨rfl, rfl, rfl, rfl, rfl, trivial⟩ ⟨[], rfl⟩ ⟨[], rfl⟩
 | exact join false ⟨rfl, rfl, rfl, rfl, rfl, trivial⟩ ⟨[], rfl⟩ ⟨[], rfl⟩
 | (refine lg ?_; refine loop_g (A := Nat) (fun m => 1 ≤ m ∧ m ≤ 4) (fun m => 4 - m) (fun m => [(0, .sl 3 [vB a, vW a, vE a, vB b, vW b, vE b, vB c, vW c, vE c, vB d, vW d, vE d]), (1, .val (.int .i64 p)), (4, .ptr 0 0), (6, .ptr 1 0), (7, .ptr 2 0), (8, .val (.int .i64 (m : Int)))]) (fun m => [[.val (.bool false), .nil, .val (.int .i64 0), .val (.bool false), .nil, .val (.int .i64 0)], [.val (.bool (decide ((match m with | 1 => a | 2 => lo2 | 3 => lo3 | _ => lo4).1 < 0))), .ws .u64 (d64 (match m with | 1 => a | 2 => lo2 | 3 => lo3 | _ => lo4).1.natAbs), .val (.int .i64 (match m with | 1 => a | 2 => lo2 | 3 => lo3 | _ => lo4).2)], [.val (.bool (decide ((match m with | 1 => a | 2 => hi2 | 3 => hi3 | _ => hi4).1 < 0))), .ws .u64 (d64 (match m with | 1 => a | 2 => hi2 | 3 => hi3 | _ => hi4).1.natAbs), .val (.int .i64 (match m with | 1 => a | 2 => hi2 | 3 => hi3 | _ => hi4).2)]]) (fun _ => []) 1 tok (by intro m; (refine ⟨?_, ?_, ?_⟩ <;> simp [inS, inBB, inBL, inB, hO])) ⟨Nat.le_refl _, by decide⟩ ⟨rfl, rfl, rfl, rfl, rfl, rfl, trivial⟩ ⟨[], rfl⟩ ⟨[], rfl⟩ ?_; rintro m ⟨m1, m2⟩; have m3 : m = 1 ∨ m = 2 ∨ m = 3 ∨ m = 4 := (by omega); clear m1 m2; rcases m3 with rfl | rfl | rfl | rfl)
 | (refine lg ?_; refine loop_g (A := Nat) (fun m => 1 ≤ m ∧ m ≤ 4) (fun m => 4 - m) (fun m => [(0, .sl 3 [vB a, vW a, vE a, vB b, vW b, vE b, vB c, vW c, vE c, vB d, vW d, vE d]), (1, .val (.int .i64 p)), (4, .ptr 0 0), (6, .ptr 2 0), (7, .ptr 1 0), (8, .val (.int .i64 (m : Int)))]) (fun m => [[.val (.bool false), .nil, .val (.int .i64 0), .val (.bool false), .nil, .val (.int .i64 0)], [.val (.bool (decide ((match m with | 1 => a | 2 => hi2 | 3 => hi3 | _ => hi4).1 < 0))), .ws .u64 (d64 (match m with | 1 => a | 2 => hi2 | 3 => hi3 | _ => hi4).1.natAbs), .val (.int .i64 (match m with | 1 => a | 2 => hi2 | 3 => hi3 | _ => hi4).2)], [.val (.bool (decide ((match m with | 1 => a | 2 => lo2 | 3 => lo3 | _ => lo4).1 < 0))), .ws .u64 (d64 (match m with | 1 => a | 2 => lo2 | 3 => lo3 | _ => lo4).1.natAbs), .val (.int .i64 (match m with | 1 => a | 2 => lo2 | 3 => lo3 | _ => lo4).2)]]) (fun _ => []) 1 tok (by intro m; (refine ⟨?_, ?_, ?_⟩ <;> simp [inS, inBB, inBL, inB, hO])) ⟨Nat.le_refl _, by decide⟩ ⟨rfl, rfl, rfl, rfl, rfl, rfl, trivial⟩ ⟨[], rfl⟩ ⟨[], rfl⟩ ?_; rintro m ⟨m1, m2⟩; have m3 : m = 1 ∨ m = 2 ∨ m = 3 ∨ m = 4 := (by omega); clear m1 m2; rcases m3 with rfl | rfl | rfl | rfl)
 | (refine ax_l ?_)
 | (refine ax_r ?_)
 | (refine dG (id := 5) [[0, 1, 2, 3, 4, 5]] ?_)
 | (refine dG (id := 7) [[0, 1, 2, 3, 4, 5]] ?_)
 | with_reducible first | refine ax_s ?_ | (refine ax_f ?_ ?_ <;> try intro hc) | fail)
  all_goals first
    | exact ⟨ret_e rfl⟩
    | (obtain rfl := hl2.trans (lst2_lt (by omega)); obtain rfl := hh2.trans (gst2_lt (by omega)); exact ⟨again 2 ⟨by decide, by decide⟩ (by decide) ⟨rfl, rfl, rfl, rfl, rfl, rfl, trivial⟩ ⟨[], rfl⟩ ⟨[], rfl⟩⟩)
    | (obtain rfl := hl2.trans (lst2_lt (by omega)); obtain rfl := hh2.trans (gst2_ge (by omega)); exact ⟨again 2 ⟨by decide, by decide⟩ (by decide) ⟨rfl, rfl, rfl, rfl, rfl, rfl, trivial⟩ ⟨[], rfl⟩ ⟨[], rfl⟩⟩)
    | (obtain rfl := hl2.trans (lst2_ge (by omega)); obtain rfl := hh2.trans (gst2_lt (by omega)); exact ⟨again 2 ⟨by decide, by decide⟩ (by decide) ⟨rfl, rfl, rfl, rfl, rfl, rfl, trivial⟩ ⟨[], rfl⟩ ⟨[], rfl⟩⟩)
    | (obtain rfl := hl2.trans (lst2_ge (by omega)); obtain rfl := hh2.trans (gst2_ge (by omega)); exact ⟨again 2 ⟨by decide, by decide⟩ (by decide) ⟨rfl, rfl, rfl, rfl, rfl, rfl, trivial⟩ ⟨[], rfl⟩ ⟨[], rfl⟩⟩)
    | (obtain rfl := hl3.trans (lst2_lt (by omega)); obtain rfl := hh3.trans (gst2_lt (by omega)); exact ⟨again 3 ⟨by decide, by decide⟩ (by decide) ⟨rfl, rfl, rfl, rfl, rfl, rfl, trivial⟩ ⟨[], rfl⟩ ⟨[], rfl⟩⟩)
    | (obtain rfl := hl3.trans (lst2_lt (by omega)); obtain rfl := hh3.trans (gst2_ge (by omega)); exact ⟨again 3 ⟨by decide, by decide⟩ (by decide) ⟨rfl, rfl, rfl, rfl, rfl, rfl, trivial⟩ ⟨[], rfl⟩ ⟨[], rfl⟩⟩)
    | (obtain rfl := hl3.trans (lst2_ge (by omega)); obtain rfl := hh3.trans (gst2_lt (by omega)); exact ⟨again 3 ⟨by decide, by decide⟩ (by decide) ⟨rfl, rfl, rfl, rfl, rfl, rfl, trivial⟩ ⟨[], rfl⟩ ⟨[], rfl⟩⟩)
    | (obtain rfl := hl3.trans (lst2_ge (by omega)); obtain rfl := hh3.trans (gst2_ge (by omega)); exact ⟨again 3 ⟨by decide, by decide⟩ (by decide) ⟨rfl, rfl, rfl, rfl, rfl, rfl, trivial⟩ ⟨[], rfl⟩ ⟨[], rfl⟩⟩)
    | (obtain rfl := hl4.trans (lst2_lt (by omega)); obtain rfl := hh4.trans (gst2_lt (by omega)); exact ⟨again 4 ⟨by decide, by decide⟩ (by decide) ⟨rfl, rfl, rfl, rfl, rfl, rfl, trivial⟩ ⟨[], rfl⟩ ⟨[], rfl⟩⟩)
    | (obtain rfl := hl4.trans (lst2_lt (by omega)); obtain rfl := hh4.trans (gst2_ge (by omega)); exact ⟨again 4 ⟨by decide, by decide⟩ (by decide) ⟨rfl, rfl, rfl, rfl, rfl, rfl, trivial⟩ ⟨[], rfl⟩ ⟨[], rfl⟩⟩)
    | (obtain rfl := hl4.trans (lst2_ge (by omega)); obtain rfl := hh4.trans (gst2_lt (by omega)); exact ⟨again 4 ⟨by decide, by decide⟩ (by decide) ⟨rfl, rfl, rfl, rfl, rfl, rfl, trivial⟩ ⟨[], rfl⟩ ⟨[], rfl⟩⟩)
    | (obtain rfl := hl4.trans (lst2_ge (by omega)); obtain rfl := hh4.trans (gst2_ge (by omega)); exact ⟨again 4 ⟨by decide, by decide⟩ (by decide) ⟨rfl, rfl, rfl, rfl, rfl, rfl, trivial⟩ ⟨[], rfl⟩ ⟨[], rfl⟩⟩)
theorem tup_inj {x y c x' y' c' : Int} (h : PV.tup [DY x y, .val (.int .i64 c)] = .tup [DY x' y', .val (.int .i64 c')]) : x = x' ∧ y = y' ∧ c = c' := by
  simp only [PV.tup.injEq, List.cons.injEq, PV.val.injEq, Value.int.injEq, true_and, and_true] at h
  obtain ⟨h1, h2⟩ := h
  obtain ⟨h3, h4⟩ := DY_inj h1
  exact ⟨h3, h4, h2⟩
theorem told_inv {s k x y : Int} (h : toldS s k = .tup [DY x y, .val (.int .i64 0)]) : (s = 0 ∧ x = 0 ∧ y = 0) ∨ (s ≠ 0 ∧ x = s / 2 ^ tz s.natAbs ∧ y = k + tz s.natAbs ∧ s = x * 2 ^ tz s.natAbs) := by
  have hE : dyE 5 ≠ .tup [DY x y, .val (.int .i64 0)] := fun hh => by
    have := (tup_inj hh).2.2
    exact absurd this (by decide)
  unfold toldS at h
  by_cases h0 : s = 0
  · rw [if_pos h0] at h
    have := tup_inj h
    exact .inl ⟨h0, this.1.symm, this.2.1.symm⟩
  · rw [if_neg h0] at h
    split at h
    · exact absurd h hE
    · split at h
      · exact absurd h hE
      · split at h
        · exact absurd h hE
        · split at h
          · exact absurd h hE
          · split at h
            · exact absurd h hE
            · have h1 := tup_inj h
              obtain ⟨h2, _⟩ := odd_div (n := s.natAbs) (by omega)
              obtain ⟨t, ht⟩ : ∃ t, t = tz s.natAbs := ⟨_, rfl⟩
              rw [← ht] at h1 h2 ⊢
              refine .inr ⟨h0, h1.1.symm, h1.2.1.symm, ?_⟩
              have hs : s = sg (decide (s < 0)) (s.natAbs / 2 ^ t) * 2 ^ t := by rw [← sg_pow, ← h2, sg_of]
              rw [← h1.1]
              have hd : s / 2 ^ t = sg (decide (s < 0)) (s.natAbs / 2 ^ t) := by
                conv => lhs; rw [hs]
                exact Int.mul_ediv_cancel _ (Int.ne_of_gt (p2_pos t))
              rw [hd]
              exact hs
theorem told_Vc {c s k x y : Int} (hk : -c ≤ k) (h : toldS s k = .tup [DY x y, .val (.int .i64 0)]) : Vc c x y = Vc c s k := by
  rcases told_inv h with ⟨h1, h2, h3⟩ | ⟨h1, h2, h3, h4⟩
  · rw [h1, h2]; unfold Vc; rw [Int.zero_mul, Int.zero_mul]
  · obtain ⟨t, ht⟩ : ∃ t, t = tz s.natAbs := ⟨_, rfl⟩
    rw [← ht] at h3 h4
    unfold Vc
    rw [h3, show (k + (t : Int) + c).toNat = t + (k + c).toNat by omega, Int.pow_add, ← Int.mul_assoc, ← h4]
def An.neg (a : An) : An := ⟨-a.x, a.y, a.c⟩
theorem An.neg_d (a : An) : a.neg.d = a.d.neg := rfl
theorem dyR_an (n e : Int) : toAn (dyR n e) = ⟨n, e, 0⟩ := toAn_tup n e 0
theorem dyE_an (c : Int) : toAn (dyE c) = ⟨0, 0, c⟩ := toAn_tup 0 0 c
theorem told_neg (s k : Int) : toAn (toldS (-s) k) = (toAn (toldS s k)).neg := by
  have hE : (⟨0, 0, 5⟩ : An) = An.neg ⟨0, 0, 5⟩ := rfl
  unfold toldS
  rw [Int.natAbs_neg]
  by_cases h0 : s = 0
  · rw [if_pos h0, if_pos (by omega), dyE_an]; rfl
  · rw [if_neg h0, if_neg (by omega)]
    repeat' split
    all_goals first
      | (rw [dyE_an]; exact hE)
      | (rw [dyR_an, dyR_an]
         obtain ⟨h2, _⟩ := odd_div (n := s.natAbs) (by omega)
         obtain ⟨t, ht⟩ : ∃ t, t = tz s.natAbs := ⟨_, rfl⟩
         rw [← ht] at h2 ⊢
         have hs : s = sg (decide (s < 0)) (s.natAbs / 2 ^ t) * 2 ^ t := by rw [← sg_pow, ← h2, sg_of]
         have hp : (2 : Int) ^ t ≠ 0 := Int.ne_of_gt (p2_pos t)
         have hd : (-s) / 2 ^ t = -(s / 2 ^ t) := by
           obtain ⟨z, hz⟩ : ∃ z, z = sg (decide (s < 0)) (s.natAbs / 2 ^ t) := ⟨_, rfl⟩
           rw [← hz] at hs
           rw [hs, ← Int.neg_mul, Int.mul_ediv_cancel _ hp, Int.mul_ediv_cancel _ hp]
         rw [hd]
         rfl)
theorem whole_neg (n k : Int) (up : Bool) : wholeS (-n) k up = -wholeS n k (!up) := by
  cases up
  · show (-n) / 2 ^ k.toNat = -(-((-n) / 2 ^ k.toNat)); rw [Int.neg_neg]
  · show -((- -n) / 2 ^ k.toNat) = -(n / 2 ^ k.toNat); rw [Int.neg_neg]
theorem cuts_neg (n e p : Int) (up : Bool) : toAn (cutsS (-n) e p up) = (toAn (cutsS n e p (!up))).neg := by
  unfold cutsS cutS
  rw [Int.natAbs_neg, whole_neg]
  repeat' split
  · rw [dyE_an]; rfl
  · rw [dyE_an]; rfl
  · exact told_neg _ _
  · exact told_neg _ _
theorem cut_low {a : D2} (h : a.good) {p : Int} (hp : 1 ≤ p ∧ p ≤ 70000) (hc : (toAn (cutsS a.1 a.2 p false)).c = 0) : (toAn (cutsS a.1 a.2 p false)).d.v ≤ a.v := by
  obtain ⟨h1, _, _⟩ := (cuts_ans a hp false).eq
  obtain ⟨u, hu⟩ : ∃ u, u = toAn (cutsS a.1 a.2 p false) := ⟨_, rfl⟩
  rw [← hu] at h1 hc ⊢
  unfold An.pv at h1
  rw [hc] at h1
  by_cases hb : (bl a.1.natAbs : Int) ≤ p
  · rw [cuts_same false h hp hb] at h1
    have := tup_inj h1
    show VV u.x u.y ≤ VV a.1 a.2
    rw [← this.1, ← this.2.1]
    exact Int.le_refl _
  · rw [cuts_down hp (by omega)] at h1
    have e1 := h.2.1
    have hv := told_Vc (c := 1048576) (by omega) h1
    obtain ⟨j, hj⟩ : ∃ j : Nat, (j : Int) = (bl a.1.natAbs : Int) - p := ⟨((bl a.1.natAbs : Int) - p).toNat, by omega⟩
    rw [← hj, Int.toNat_natCast] at hv
    show Vc 1048576 u.x u.y ≤ Vc 1048576 a.1 a.2
    rw [hv]
    unfold Vc
    rw [show (a.2 + (j : Int) + 1048576).toNat = j + (a.2 + 1048576).toNat by omega, Int.pow_add, ← Int.mul_assoc]
    exact mr (Int.ediv_mul_le _ (Int.ne_of_gt (p2_pos j))) (Int.le_of_lt (p2_pos _))
theorem cut_high {a : D2} (h : a.good) {p : Int} (hp : 1 ≤ p ∧ p ≤ 70000) (hc : (toAn (cutsS a.1 a.2 p true)).c = 0) : a.v ≤ (toAn (cutsS a.1 a.2 p true)).d.v := by
  have e : toAn (cutsS a.neg.1 a.neg.2 p false) = (toAn (cutsS a.1 a.2 p true)).neg := cuts_neg a.1 a.2 p false
  have h1 := cut_low (D2.neg_good h) hp (by rw [e]; exact hc)
  rw [e, An.neg_d, D2.neg_v, D2.neg_v] at h1
  omega
theorem out_res {a b : D2} (h : a.good) (k : b.good) (hv : a.v ≤ b.v) {p : Int} (hp : 1 ≤ p ∧ p ≤ 70000) : (outP a b p = spE 5 ∧ outP b.neg a.neg p = spE 5) ∨ ∃ x y : D2, outP a b p = spR x y ∧ outP b.neg a.neg p = spR y.neg x.neg ∧ GoodS x y ∧ x.v ≤ a.v ∧ b.v ≤ y.v := by
  have n1 : toAn (cutsS b.neg.1 b.neg.2 p false) = (toAn (cutsS b.1 b.2 p true)).neg := cuts_neg b.1 b.2 p false
  have n2 : toAn (cutsS a.neg.1 a.neg.2 p true) = (toAn (cutsS a.1 a.2 p false)).neg := cuts_neg a.1 a.2 p true
  have l1 := cut_low h hp
  have l2 := cut_high k hp
  obtain ⟨_, g1, _⟩ := (cuts_ans a hp false).eq
  obtain ⟨_, g2, _⟩ := (cuts_ans b hp true).eq
  unfold outP
  rw [n1, n2]
  obtain ⟨u, hu⟩ : ∃ u, u = toAn (cutsS a.1 a.2 p false) := ⟨_, rfl⟩
  obtain ⟨v, hv2⟩ : ∃ v, v = toAn (cutsS b.1 b.2 p true) := ⟨_, rfl⟩
  rw [← hu] at l1 g1 ⊢
  rw [← hv2] at l2 g2 ⊢
  by_cases hc : u.c = 0 ∧ v.c = 0
  · refine .inr ⟨u.d, v.d, bothA_ok hc.1 hc.2, bothA_ok hc.2 hc.1, ⟨g1, g2, ?_⟩, l1 hc.1, l2 hc.2⟩
    have := l1 hc.1
    have := l2 hc.2
    omega
  · refine .inl ⟨bothA_no (by omega), bothA_no ?_⟩
    show v.c ≠ 0 ∨ u.c ≠ 0
    omega
theorem least4_le (a b c d : D2) : (least4 a b c d).v ≤ (great4 a b c d).v := by rw [least4_v, great4_v]; omega
theorem An.d_good {p : PV} (h : Ans p) : (toAn p).d.good := h.eq.2.1
theorem add_V {a c : D2} (h : a.good) (k : c.good) (hc : (toAn (addP a c)).c = 0) : (toAn (addP a c)).d.v = a.v + c.v := by
  obtain ⟨h1, _, _⟩ := (add_ans h k).eq
  obtain ⟨u, hu⟩ : ∃ u, u = toAn (addP a c) := ⟨_, rfl⟩
  rw [← hu] at h1 hc ⊢
  unfold An.pv at h1
  rw [hc] at h1
  have e1 := h.2.1
  have e2 := k.2.1
  have hE : dyE 5 ≠ .tup [DY u.x u.y, .val (.int .i64 0)] := fun hh => absurd (tup_inj hh).2.2 (by decide)
  show VV u.x u.y = VV a.1 a.2 + VV c.1 c.2
  unfold addP addS at h1
  by_cases ha : a.1 = 0
  · rw [if_pos ha] at h1
    have := tup_inj h1
    rw [← this.1, ← this.2.1, ha, VV_zero, Int.zero_add]
  · rw [if_neg ha] at h1
    by_cases hb : c.1 = 0
    · rw [if_pos hb] at h1
      have := tup_inj h1
      rw [← this.1, ← this.2.1, hb, VV_zero, Int.add_zero]
    · rw [if_neg hb] at h1
      split at h1
      · exact absurd h1 hE
      · split at h1
        · exact absurd h1 hE
        · have hv := told_Vc (c := 1048576) (by omega) h1
          have hv2 : VV u.x u.y = VV (a.1 * 2 ^ (a.2 - min a.2 c.2).toNat + c.1 * 2 ^ (c.2 - min a.2 c.2).toNat) (min a.2 c.2) := hv
          rw [hv2, VV_add, ← VV_low (by omega) (by omega), ← VV_low (by omega) (by omega)]
theorem sum_res {a b c d : D2} (h : GoodS a b) (k : GoodS c d) {p : Int} (hp : 1 ≤ p ∧ p ≤ 70000) : sumP a b c d p = spE 5 ∨
    ∃ x y : D2, sumP a b c d p = spR x y ∧ GoodS x y ∧ x.v ≤ a.v + c.v ∧ b.v + d.v ≤ y.v := by
  have v1 := add_V h.1 k.1
  have v2 := add_V h.2.1 k.2.1
  have g1 := An.d_good (add_ans h.1 k.1)
  have g2 := An.d_good (add_ans h.2.1 k.2.1)
  unfold sumP
  obtain ⟨u, hu⟩ : ∃ u, u = toAn (addP a c) := ⟨_, rfl⟩
  obtain ⟨v, hv⟩ : ∃ v, v = toAn (addP b d) := ⟨_, rfl⟩
  rw [← hu] at v1 g1 ⊢
  rw [← hv] at v2 g2 ⊢
  by_cases hz : u.c = 0 ∧ v.c = 0
  · rw [if_neg (by omega)]
    have w1 := v1 hz.1
    have w2 := v2 hz.2
    have h3 := h.2.2
    have k3 := k.2.2
    rcases out_res g1 g2 (by omega) hp with h | ⟨x, y, h1, h2, h3, h4, h5⟩
    · exact .inl h.1
    · exact .inr ⟨x, y, h1, h3, by omega, by omega⟩
  · exact .inl (if_pos (by omega))
theorem q_holds {a b d : D2} (h : GoodS a b) (k : d.good) : FC Tryz.prog G 37 [SP a b, DY d.1 d.2] (· = .val (.bool (hasV a b d))) := by
  have f1 := q_below (G := G) k h.1
  have f2 := q_below (G := G) h.2.1 k
  have e : hasV a b d = (!decide (d.v < a.v) && !decide (b.v < d.v)) := by
    unfold hasV
    have n1 := not_dec d.v a.v
    have n2 := not_dec b.v d.v
    rw [Bool.true_and, Bool.true_and] at n1 n2
    rw [n1, n2]
  rw [e]
  clear e
  by_cases q : d.v < a.v
  · rw [decide_eq_true q]
    refine ax_i Tryz.func37 Tryz.ntmps37 ?_; intro F hG hO
    rw [← hG] at f1 f2
    repeat' ((try (conv => whnf)); first
 | refine ce f1 ?_ | refine ce f2 ?_
 | with_reducible first | refine ax_s ?_ | (refine ax_f ?_ ?_ <;> try intro hc) | fail)
    all_goals exact ⟨ret_e rfl⟩
  · rw [decide_eq_false q]
    refine ax_i Tryz.func37 Tryz.ntmps37 ?_; intro F hG hO
    rw [← hG] at f1 f2
    repeat' ((try (conv => whnf)); first
 | refine ce f1 ?_ | refine ce f2 ?_
 | with_reducible first | refine ax_s ?_ | (refine ax_f ?_ ?_ <;> try intro hc) | fail)
    all_goals exact ⟨ret_e rfl⟩
theorem LZ_bound {a : Int} (h : (bl a.natAbs : Int) ≤ 2097152) : LZ a ≤ 65537 := by
  have := L32_bl a.natAbs
  unfold LZ
  omega
theorem q_hold (a i b j : Int) (ha : (bl a.natAbs : Int) ≤ 2097152) (hb : (bl b.natAbs : Int) ≤ 2097152) (hi : -8388608 ≤ i ∧ i ≤ 8388608) (hj : -8388608 ≤ j ∧ j ≤ 8388608) : FC Tryz.prog G 197 [ZI a, .val (.int .i64 i), ZI b, .val (.int .i64 j)] (· = .val (.int .i64 (holdS a i b j))) := by
  rw [← hold_eq]
  have la := LZ_bound ha
  have lb := LZ_bound hb
  have f1 := r_sign (G := G) a
  have f2 := r_sign (G := G) b
  have sa := sign_bd a
  have sb := sign_bd b
  have f3 := r_of (G := G) a.sign (by dsimp only [inR]; omega)
  have f4 := r_of (G := G) b.sign (by dsimp only [inR]; omega)
  have f5 := r_zcmp (G := G) a.sign b.sign (Nat.le_trans (LZ_small _ (by omega)) (by decide)) (Nat.le_trans (LZ_small _ (by omega)) (by decide))
  have f6 := r_bits (G := G) a.natAbs (by unfold LZ at la; omega)
  have f7 := r_bits (G := G) b.natAbs (by unfold LZ at lb; omega)
  unfold holdC
  by_cases hs : a.sign ≠ b.sign ∨ a.sign = 0
  · rw [if_pos hs]
    obtain ⟨s, hs1⟩ : ∃ s, s = a.sign := ⟨_, rfl⟩
    obtain ⟨t, ht1⟩ : ∃ s, s = b.sign := ⟨_, rfl⟩
    rw [← hs1] at f1 f3 f5 hs sa ⊢
    rw [← ht1] at f2 f4 f5 hs sb ⊢
    clear hs1 ht1
    by_cases hne : s = t
    · have h0 : s = 0 := by omega
      clear hs
      refine ax_i Tryz.func197 Tryz.ntmps197 ?_; intro F hG hO
      rw [← hG] at f1 f2 f3 f4 f5
      repeat' ((try (conv => whnf)); first
 | refine ce f1 ?_ | refine ce f2 ?_ | refine ce f3 ?_ | refine ce f4 ?_ | refine ce f5 ?_
 | (refine dG (id := 3) [[0, 2, 1, 3, 4, 5, 6]] ?_)
 | (refine dG (id := 4) dg54 ?_)
 | (refine dG (id := 10) dg33 ?_)
 | (refine dG (id := 11) dg27 ?_)
 | with_reducible first | refine ax_s ?_ | (refine ax_f ?_ ?_ <;> try intro hc) | fail)
      all_goals exact ⟨ret_e rfl⟩
    · clear hs
      refine ax_i Tryz.func197 Tryz.ntmps197 ?_; intro F hG hO
      rw [← hG] at f1 f2 f3 f4 f5
      repeat' ((try (conv => whnf)); first
 | refine ce f1 ?_ | refine ce f2 ?_ | refine ce f3 ?_ | refine ce f4 ?_ | refine ce f5 ?_
 | (refine dG (id := 3) [[0, 2, 1, 3, 4, 5, 6]] ?_)
 | (refine dG (id := 4) dg54 ?_)
 | (refine dG (id := 10) dg33 ?_)
 | (refine dG (id := 11) dg27 ?_)
 | with_reducible first | refine ax_s ?_ | (refine ax_f ?_ ?_ <;> try intro hc) | fail)
      all_goals exact ⟨ret_e rfl⟩
  · rw [if_neg hs]
    have h1 : a.sign = b.sign := by omega
    have h2 : a.sign ≠ 0 := by omega
    clear hs f3 f4 f5
    have d1 := LZ_shl a (i - j).toNat
    have d2 := LZ_shl b (j - i).toNat
    by_cases ht : (bl a.natAbs : Int) + i = (bl b.natAbs : Int) + j
    · rw [if_neg (by omega)]
      by_cases hij : j ≤ i
      · have g1 := r_zshl (G := G) a (i - j) (by omega) (by dsimp only [inR]; omega) (by omega)
        have g2 := r_zcmp (G := G) (a * 2 ^ (i - j).toNat) b (by omega) (by omega)
        rw [show min i j = j by omega, show (j - j).toNat = 0 by omega, Int.pow_zero, Int.mul_one]
        obtain ⟨s, hs1⟩ : ∃ s, s = a.sign := ⟨_, rfl⟩
        obtain ⟨t, ht1⟩ : ∃ s, s = b.sign := ⟨_, rfl⟩
        rw [← hs1] at f1 h1 h2
        rw [← ht1] at f2 h1
        clear hs1 ht1 d1 d2
        refine ax_i Tryz.func197 Tryz.ntmps197 ?_; intro F hG hO
        rw [← hG] at f1 f2 f6 f7 g1 g2
        repeat' ((try (conv => whnf)); first
 | refine ce f1 ?_ | refine ce f2 ?_ | refine ce f6 ?_ | refine ce f7 ?_ | refine ce g1 ?_ | refine ce g2 ?_
 | (refine dG (id := 3) [[0, 2, 1, 3, 4, 5, 6]] ?_)
 | (refine dG (id := 4) dg54 ?_)
 | (refine dG (id := 10) dg33 ?_)
 | (refine dG (id := 11) dg27 ?_)
 | with_reducible first | refine ax_s ?_ | (refine ax_f ?_ ?_ <;> try intro hc) | fail)
        all_goals exact ⟨ret_e rfl⟩
      · have g1 := r_zshl (G := G) b (j - i) (by omega) (by dsimp only [inR]; omega) (by omega)
        have g2 := r_zcmp (G := G) a (b * 2 ^ (j - i).toNat) (by omega) (by omega)
        rw [show min i j = i by omega, show (i - i).toNat = 0 by omega, Int.pow_zero, Int.mul_one]
        obtain ⟨s, hs1⟩ : ∃ s, s = a.sign := ⟨_, rfl⟩
        obtain ⟨t, ht1⟩ : ∃ s, s = b.sign := ⟨_, rfl⟩
        rw [← hs1] at f1 h1 h2
        rw [← ht1] at f2 h1
        clear hs1 ht1 d1 d2
        refine ax_i Tryz.func197 Tryz.ntmps197 ?_; intro F hG hO
        rw [← hG] at f1 f2 f6 f7 g1 g2
        repeat' ((try (conv => whnf)); first
 | refine ce f1 ?_ | refine ce f2 ?_ | refine ce f6 ?_ | refine ce f7 ?_ | refine ce g1 ?_ | refine ce g2 ?_
 | (refine dG (id := 3) [[0, 2, 1, 3, 4, 5, 6]] ?_)
 | (refine dG (id := 4) dg54 ?_)
 | (refine dG (id := 10) dg33 ?_)
 | (refine dG (id := 11) dg27 ?_)
 | with_reducible first | refine ax_s ?_ | (refine ax_f ?_ ?_ <;> try intro hc) | fail)
        all_goals exact ⟨ret_e rfl⟩
    · rw [if_pos ht]
      obtain ⟨s, hs1⟩ : ∃ s, s = a.sign := ⟨_, rfl⟩
      obtain ⟨t, ht1⟩ : ∃ s, s = b.sign := ⟨_, rfl⟩
      rw [← hs1] at f1 h1 h2 sa ⊢
      rw [← ht1] at f2 h1
      clear hs1 ht1 d1 d2
      by_cases hlt : (bl a.natAbs : Int) + i < (bl b.natAbs : Int) + j
      · rw [if_pos hlt]
        refine ax_i Tryz.func197 Tryz.ntmps197 ?_; intro F hG hO
        rw [← hG] at f1 f2 f6 f7
        repeat' ((try (conv => whnf)); first
 | refine ce f1 ?_ | refine ce f2 ?_ | refine ce f6 ?_ | refine ce f7 ?_
 | (refine dG (id := 3) [[0, 2, 1, 3, 4, 5, 6]] ?_)
 | (refine dG (id := 4) dg54 ?_)
 | (refine dG (id := 10) dg33 ?_)
 | (refine dG (id := 11) dg27 ?_)
 | with_reducible first | refine ax_s ?_ | (refine ax_f ?_ ?_ <;> try intro hc) | fail)
        all_goals exact ⟨ret_e (by rw [show -s = 0 - s by omega])⟩
      · rw [if_neg hlt]
        refine ax_i Tryz.func197 Tryz.ntmps197 ?_; intro F hG hO
        rw [← hG] at f1 f2 f6 f7
        repeat' ((try (conv => whnf)); first
 | refine ce f1 ?_ | refine ce f2 ?_ | refine ce f6 ?_ | refine ce f7 ?_
 | (refine dG (id := 3) [[0, 2, 1, 3, 4, 5, 6]] ?_)
 | (refine dG (id := 4) dg54 ?_)
 | (refine dG (id := 10) dg33 ?_)
 | (refine dG (id := 11) dg27 ?_)
 | with_reducible first | refine ax_s ?_ | (refine ax_f ?_ ?_ <;> try intro hc) | fail)
        all_goals exact ⟨ret_e rfl⟩
end Go.Proofs.YtpjbgmafnheomaaGreatDoor.Sim
