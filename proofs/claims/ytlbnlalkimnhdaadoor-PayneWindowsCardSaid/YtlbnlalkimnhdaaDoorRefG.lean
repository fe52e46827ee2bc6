/-
  gnomonref01: digit: a digit of a quotient, what is left stays in the row. Condition: the window is below 2^32 times the divisor.
-/
import Derived.Test.YtlbnlalkimnhdaaDoorRefF
import Derived.Test.YtlbnlalkimnhdaaDoorRow
namespace Go.Proofs.YtlbnlalkimnhdaaDoor.Sim
open Go.RowKit
set_option linter.unusedVariables false
set_option linter.unusedSimpArgs false
set_option maxRecDepth 10000
set_option maxHeartbeats 4000000
variable {G : List (Nat × List Value)}
/-- Digits that a place takes off: by the rest that is carried and owed. -/
theorem take_round {x s v : List Int} {w c e d c2 e2 : Int} (h6 : okD 4294967296 s) (hv : vl 4294967296 s = vl 4294967296 (x.take s.length) - w * vl 4294967296 (v.take s.length) + 4294967296 ^ s.length * (c + e)) (hd : 0 ≤ d ∧ d < 4294967296) (hT : d = rd x s.length - (c + w * rd v s.length) + 4294967296 * c2 - e + 4294967296 * e2) :
    okD 4294967296 (s ++ [d]) ∧ vl 4294967296 (s ++ [d]) = vl 4294967296 (x.take (s.length + 1)) - w * vl 4294967296 (v.take (s.length + 1)) + 4294967296 ^ (s.length + 1) * (c2 + e2) := by
  refine ⟨okD_append.2 ⟨h6, okD_cons.2 ⟨hd, okD_nil _⟩⟩, ?_⟩
  have h := sum_step (B := 4294967296) (vs := 4294967296 ^ s.length * (c + e)) (d := d) (c2 := -(c2 + e2)) (T := rd x s.length - (c + w * rd v s.length) - e) s.length (by omega)
  rw [vl_snoc, vl_take_step, vl_take_step, hv]
  have e1 : w * (vl 4294967296 (v.take s.length) + 4294967296 ^ s.length * rd v s.length) = w * vl 4294967296 (v.take s.length) + 4294967296 ^ s.length * (w * rd v s.length) := by rw [Int.mul_add, Int.mul_left_comm]
  have e2 : (4294967296 : Int) ^ s.length * (rd x s.length - (c + w * rd v s.length) - e) = 4294967296 ^ s.length * rd x s.length - 4294967296 ^ s.length * (c + e) - 4294967296 ^ s.length * (w * rd v s.length) := by
    rw [← Int.mul_sub, ← Int.mul_sub]; congr 1; omega
  rw [e2, Int.mul_neg] at h
  rw [e1]
  omega
theorem give_round {x s v : List Int} {c d c2 : Int} (h6 : okD 4294967296 s) (hv : vl 4294967296 s + 4294967296 ^ s.length * c = vl 4294967296 (x.take s.length) + vl 4294967296 (v.take s.length)) (hd : 0 ≤ d ∧ d < 4294967296) (hT : d + 4294967296 * c2 = c + rd x s.length + rd v s.length) :
    okD 4294967296 (s ++ [d]) ∧ vl 4294967296 (s ++ [d]) + 4294967296 ^ (s.length + 1) * c2 = vl 4294967296 (x.take (s.length + 1)) + vl 4294967296 (v.take (s.length + 1)) := by
  refine ⟨okD_append.2 ⟨h6, okD_cons.2 ⟨hd, okD_nil _⟩⟩, ?_⟩
  rw [vl_snoc, sum_step (T := c + rd x s.length + rd v s.length) s.length hT, vl_take_step, vl_take_step, Int.mul_add, Int.mul_add]
  omega
def DigI (x v : List Int) (w : Int) (s : List Int) (c e : Int) : Prop := s.length ≤ v.length + 1 ∧ okD 4294967296 s ∧ (0 ≤ c ∧ c < 4294967296) ∧ (0 ≤ e ∧ e ≤ 1) ∧ (s.length = v.length + 1 → c = 0) ∧ vl 4294967296 s = vl 4294967296 (x.take s.length) - w * vl 4294967296 (v.take s.length) + 4294967296 ^ s.length * (c + e)
theorem DigI.step {x v s : List Int} {w c e d e2 T : Int} (h : DigI x v w s c e) (hlt : s.length ≤ v.length) (hw : 0 ≤ w ∧ w < 4294967296) (okv : okD 4294967296 v) (hT0 : T = c + w * rd v s.length) (hd : 0 ≤ d ∧ d < 4294967296) (he2 : 0 ≤ e2 ∧ e2 ≤ 1) (hT : d = rd x s.length - T % 4294967296 - e + 4294967296 * e2) : DigI x v w (s ++ [d]) (T / 4294967296) e2 := by
  obtain ⟨h1, h2, h3, h4, h5, h6⟩ := h
  have hv := rd_bd (by decide) okv (s.length : Int)
  have hm := mul_bd2 hw hv
  have el : (s ++ [d]).length = s.length + 1 := by simp
  obtain ⟨g1, g2⟩ := take_round (x := x) (v := v) (w := w) (c := c) (e := e) (d := d) (c2 := T / 4294967296) (e2 := e2) h2 h6 hd (by omega)
  refine ⟨by omega, g1, by omega, he2, fun hl => ?_, by rw [el]; exact g2⟩
  have hs : s.length = v.length := by omega
  have hz := rd_out v s.length (by omega)
  rw [hz, Int.mul_zero, Int.add_zero] at hT0
  omega
def GivI (y v r : List Int) (c : Int) : Prop := r.length ≤ v.length + 1 ∧ okD 4294967296 r ∧ (0 ≤ c ∧ c ≤ 1) ∧ vl 4294967296 r + 4294967296 ^ r.length * c = vl 4294967296 (y.take r.length) + vl 4294967296 (v.take r.length)
theorem GivI.step {y v r : List Int} {c T : Int} (h : GivI y v r c) (hlt : r.length ≤ v.length) (oky : okD 4294967296 y) (okv : okD 4294967296 v) (hT : T = c + rd y r.length + rd v r.length) : GivI y v (r ++ [T % 4294967296]) (T / 4294967296) := by
  obtain ⟨h1, h2, h3, h4⟩ := h
  have hv := rd_bd (by decide) okv (r.length : Int)
  have hy := rd_bd (by decide) oky (r.length : Int)
  have el : (r ++ [T % 4294967296]).length = r.length + 1 := by simp
  obtain ⟨g1, g2⟩ := give_round (x := y) (v := v) (c := c) (d := T % 4294967296) (c2 := T / 4294967296) h2 h4 (by omega) (by omega)
  exact ⟨by omega, g1, by omega, by rw [el]; exact g2⟩
theorem dig_end {U V w q s B e : Int} (hV : 0 < V) (hq : q = U / V) (hle : q ≤ w) (hs : 0 ≤ s ∧ s < B) (h : s = U - w * V + B * e) (he : 0 ≤ e ∧ e ≤ 1) : (e = 0 → w = q ∧ s = U % V) ∧ (0 < e → q + 1 ≤ w) := by
  have hd := Int.mul_ediv_add_emod U V
  have hm := Int.emod_nonneg U (show V ≠ 0 by omega)
  have hm2 := Int.emod_lt_of_pos U hV
  rw [← hq] at hd
  refine ⟨fun h0 => ?_, fun h1 => ?_⟩
  · subst h0
    have : w = q := by
      rcases Int.lt_or_le q w with h2 | h2
      · exfalso
        have h3 : V * (q + 1) ≤ V * w := Int.mul_le_mul_of_nonneg_left (by omega) (by omega)
        rw [Int.mul_add] at h3
        rw [Int.mul_comm w V] at h
        omega
      · omega
    subst this
    refine ⟨rfl, ?_⟩
    rw [Int.mul_comm w V] at h
    omega
  · have he1 : e = 1 := by omega
    subst he1
    rcases Int.lt_or_le q w with h2 | h2
    · omega
    · exfalso
      have : w = q := by omega
      subst this
      rw [Int.mul_comm w V] at h
      omega
/-- The first guess is not too small. -/
theorem guess_ge {x v : List Int} {V : Int} {m : Nat} (okx : okD 4294967296 x) (okv : okD 4294967296 v) (vv : vl 4294967296 v = V) (hl : v.length = m + 1) (hx : m + 2 ≤ x.length) (hv : 0 < rd v m) (hU : vl 4294967296 (x.take (m + 2)) < 4294967296 * V) :
    vl 4294967296 (x.take (m + 2)) / V ≤ min ((rd x ((m + 1 : Nat) : Int) * 4294967296 + rd x m) / rd v m) 4294967295 := by
  have hV : 0 < V := by
    have h1 := vl_split 4294967296 v m (by omega)
    have h2 := vl_nonneg (B := 4294967296) (by decide) (okv.take m)
    rw [drop_rd v m (by omega), vl, List.drop_eq_nil_of_le (by omega)] at h1
    simp only [vl] at h1
    have h3 : 0 < (4294967296 : Int) ^ m := Int.pow_pos (by decide)
    have h4 := Int.mul_pos h3 hv
    rw [Int.mul_zero, Int.add_zero] at h1
    rw [← vv]
    omega
  have hU0 := vl_nonneg (B := 4294967296) (by decide) (okx.take (m + 2))
  obtain ⟨q, hq⟩ : ∃ q, q = vl 4294967296 (x.take (m + 2)) / V := ⟨_, rfl⟩
  have hd := Int.mul_ediv_add_emod (vl 4294967296 (x.take (m + 2))) V
  have hm := Int.emod_nonneg (vl 4294967296 (x.take (m + 2))) (show V ≠ 0 by omega)
  have hq0 : 0 ≤ q := by rw [hq]; exact Int.ediv_nonneg hU0 (by omega)
  rw [← hq] at hd ⊢
  have h1 : q ≤ 4294967295 := by
    rcases Int.lt_or_le 4294967295 q with h | h
    · exfalso
      have : V * 4294967296 ≤ V * q := Int.mul_le_mul_of_nonneg_left (by omega) (by omega)
      omega
    · exact h
  have h2 : q ≤ (rd x ((m + 1 : Nat) : Int) * 4294967296 + rd x m) / rd v m := by
    refine Int.le_ediv_of_mul_le hv ?_
    have hp : 0 < (4294967296 : Int) ^ m := Int.pow_pos (by decide)
    have a1 : 4294967296 ^ m * rd v m ≤ V := by
      have h1 := vl_split 4294967296 v m (by omega)
      have h2 := vl_nonneg (B := 4294967296) (by decide) (okv.take m)
      rw [drop_rd v m (by omega), vl, List.drop_eq_nil_of_le (by omega)] at h1
      simp only [vl] at h1
      rw [← vv]
      have : (4294967296 : Int) ^ m * (rd v m + 4294967296 * 0) = 4294967296 ^ m * rd v m := by rw [Int.mul_zero, Int.add_zero]
      omega
    have a2 : vl 4294967296 (x.take (m + 2)) < 4294967296 ^ m * (rd x ((m + 1 : Nat) : Int) * 4294967296 + rd x m + 1) := by
      have h1 := vl_take_step 4294967296 x (m + 1)
      have h2 := vl_take_step 4294967296 x m
      have h3 := vl_lt (B := 4294967296) (by decide) (okx.take m)
      rw [List.length_take, Nat.min_eq_left (by omega)] at h3
      rw [h1, h2, Int.pow_succ]
      rw [Int.mul_add, Int.mul_add, Int.mul_one]
      have e1 : (4294967296 : Int) ^ m * 4294967296 * rd x ((m + 1 : Nat) : Int) = 4294967296 ^ m * (rd x ((m + 1 : Nat) : Int) * 4294967296) := by rw [Int.mul_assoc, Int.mul_comm 4294967296]
      rw [e1]
      omega
    have a3 : q * (4294967296 ^ m * rd v m) ≤ q * V := Int.mul_le_mul_of_nonneg_left a1 hq0
    have a4 : 4294967296 ^ m * (q * rd v m) < 4294967296 ^ m * (rd x ((m + 1 : Nat) : Int) * 4294967296 + rd x m + 1) := by
      rw [Int.mul_left_comm]
      rw [Int.mul_comm V q] at hd
      omega
    have := Int.lt_of_mul_lt_mul_left a4 (Int.le_of_lt hp)
    omega
  omega
theorem m_digit (p : List Int) (lo V n : Nat) (hn : L32 V = n) (h0 : 0 < n) (hl : lo + n + 1 ≤ p.length) (hp : p.length ≤ 1073741824) (ok : okD 4294967296 p) (hU : vl 4294967296 ((p.drop lo).take (n + 1)) < 4294967296 * V) :
    PM Tryd.prog G 89 [.arr 0 lo (n + 1), D V] [⟨1, 111, .w .u32 p⟩] fun r rs => r = .val (.int .u32 (vl 4294967296 ((p.drop lo).take (n + 1)) / V)) ∧ ∃ s : List Int, s.length = n + 1 ∧ okD 4294967296 s ∧ vl 4294967296 s = vl 4294967296 ((p.drop lo).take (n + 1)) % V ∧ rs = [some ⟨1, 111, .w .u32 (ins p lo s)⟩] := by
  have hV0 : V ≠ 0 := fun h => by subst h; rw [L32, lenB_zero] at hn; omega
  have htop := top32 hV0
  obtain ⟨v, ev⟩ : ∃ v, v = d32 V := ⟨_, rfl⟩
  obtain ⟨okv, vv⟩ := d32_ok V
  have hvl : v.length = n := by rw [ev]; exact hn
  have hvt : rd v ((n - 1 : Nat) : Int) = ((V / 2 ^ (32 * (L32 V - 1)) : Nat) : Int) := by rw [ev, d32_rd, hn, Nat.mod_eq_of_lt (by rw [← hn]; exact htop.1)]
  unfold D
  rw [← ev] at okv vv
  rw [← ev]
  subst hvl
  have b1 := gd_bd (by decide) ok (lo + (v.length : Int).toNat)
  have b2 := gd_bd (by decide) ok (lo + ((v.length : Int) - 1).toNat)
  have b3 := rd_bd (by decide) okv ((v.length : Int) - 1)
  have e1 : p.getD (lo + (v.length : Int).toNat) 0 = rd (p.drop lo) (v.length : Int) := by rw [Int.toNat_natCast, gd_rd, rd_drop]
  have e2 : p.getD (lo + ((v.length : Int) - 1).toNat) 0 = rd (p.drop lo) ((v.length - 1 : Nat) : Int) := by rw [show ((v.length : Int) - 1).toNat = v.length - 1 by omega, gd_rd, rd_drop]
  have e3 : rd v ((v.length : Int) - 1) = rd v ((v.length - 1 : Nat) : Int) := by congr 1; omega
  have b4 : 0 < rd v ((v.length : Int) - 1) := by
    rw [e3, hvt]
    have := htop.2
    omega
  obtain ⟨x, hx⟩ : ∃ x, x = p.drop lo := ⟨_, rfl⟩
  have okx : okD 4294967296 x := by rw [hx]; exact ok.drop lo
  have hxl : v.length + 1 ≤ x.length := by rw [hx, List.length_drop]; omega
  rw [← hx] at hU e1 e2 ⊢
  obtain ⟨U, hUe⟩ : ∃ U, U = vl 4294967296 (x.take (v.length + 1)) := ⟨_, rfl⟩
  obtain ⟨q, hq⟩ : ∃ q, q = U / (V : Int) := ⟨_, rfl⟩
  obtain ⟨w, hw⟩ : ∃ w, w = min ((p.getD (lo + (v.length : Int).toNat) 0 * 4294967296 + p.getD (lo + ((v.length : Int) - 1).toNat) 0) / rd v ((v.length : Int) - 1)) 4294967295 := ⟨_, rfl⟩
  have hge : q ≤ w := by
    have h1 := guess_ge (m := v.length - 1) okx okv vv (by omega) (by omega) (by rw [← e3]; exact b4) (by rw [show v.length - 1 + 2 = v.length + 1 by omega]; exact hU)
    rw [show v.length - 1 + 2 = v.length + 1 by omega, show v.length - 1 + 1 = v.length by omega, ← hUe, ← hq, ← e1, ← e2, ← e3, ← hw] at h1
    exact h1
  have hU0 : 0 ≤ U := by rw [hUe]; exact vl_nonneg (by decide) (okx.take _)
  have hVp : (0 : Int) < V := by omega
  have hq0 : 0 ≤ q := by rw [hq]; exact Int.ediv_nonneg hU0 (by omega)
  have hwb : 0 ≤ w ∧ w < 4294967296 := by omega
  have hvfull : ∀ k, v.length ≤ k → vl 4294967296 (v.take k) = V := fun k hk => by rw [List.take_of_length_le hk, vv]
  rw [← hUe] at hU ⊢
  rw [← hq]
  refine PM.intro (X := XX) tok Tryd.func89 rfl Tryd.ntmps89 (by rw [Tryd.results89]) (by kernel_rfl) rfl ?_; intro F hG hO; simp only [List.length_cons, List.length_nil, Nat.zero_add, Nat.reduceAdd] at hO
  repeat' ((try (conv => whnf)); first
  | (with_reducible refine shl_g (m := 4294967296) 32 rfl (by decide) rfl (by dsimp only [inR]; omega) ?_)
  | ((with_reducible refine lg ?_); refine loop_g (A := List Int × Int) (fun (r, c) => GivI y v r c) (fun (r, c) => v.length + 1 - r.length) (fun (r, c) => [(0, .arr 0 lo (v.length + 1)), (1, .ws .u32 v), (5, .val (.int .i64 (v.length : Int))), (7, .val (.int .u64 (w2 - 1))), (8, .val (.int .u64 c)), (9, .val (.int .u64 e)), (13, .val (.int .i64 (r.length : Int)))]) (fun _ => []) (fun (r, c) => [some ⟨1, 111, .w .u32 (ins (ins p lo s) lo r)⟩]) ([], 0) tok (fun (r, c) => ⟨⟨Nat.one_pos, trivial, trivial, trivial, trivial, trivial, trivial, trivial⟩, trivial, by simp only [List.length_cons, List.length_nil]; omega⟩) ?_ ⟨rfl, rfl, rfl, rfl, rfl, rfl, rfl, trivial⟩ ⟨[], rfl⟩ ⟨[], (by dsimp only; rw [ins_nil]; rfl)⟩ ?_; rotate_left; rintro ⟨r, c⟩ kI; have kI2 := kI; obtain ⟨k1, k2, k3, k4⟩ := kI2; have ky := rd_bd (by decide) oky (r.length : Int); have kv := rd_bd (by decide) okv (r.length : Int); have kx : (ins (ins p lo s) lo r).getD (lo + (r.length : Int).toNat) 0 = rd y (r.length : Int) := (by rw [Int.toNat_natCast, ins_get (by rw [ins_len (by omega)]; omega), ← rd_drop, hy]); have kl : (ins (ins p lo s) lo r).length = p.length := (by rw [ins_len (by rw [ins_len (by omega)]; omega), ins_len (by omega)]))
  | ((with_reducible refine lg ?_); refine loop_g (A := List Int × Int × Int) (fun (s, w2, e) => s.length = v.length + 1 ∧ okD 4294967296 s ∧ (0 ≤ e ∧ e ≤ 1) ∧ (q ≤ w2 ∧ w2 < 4294967296) ∧ vl 4294967296 s = U - w2 * V + 4294967296 ^ (v.length + 1) * e) (fun (s, w2, e) => w2.toNat) (fun (s, w2, e) => [(0, .arr 0 lo (v.length + 1)), (1, .ws .u32 v), (5, .val (.int .i64 (v.length : Int))), (7, .val (.int .u64 w2)), (9, .val (.int .u64 e))]) (fun _ => []) (fun (s, w2, e) => [some ⟨1, 111, .w .u32 (ins p lo s)⟩]) (s1, w, e0) tok (fun (s, w2, e) => ⟨⟨Nat.one_pos, trivial, trivial, trivial, trivial, trivial⟩, trivial, by simp only [List.length_cons, List.length_nil]; omega⟩) ?_ ⟨rfl, rfl, rfl, rfl, rfl, trivial⟩ ⟨[], rfl⟩ ⟨[], rfl⟩ ?_; rotate_left; rintro ⟨s, w2, e⟩ ⟨j1, j2, j3, j4, j5⟩; have jb := vl_lt (B := 4294967296) (by decide) j2; have jb0 := vl_nonneg (B := 4294967296) (by decide) j2; rw [j1] at jb; have je := dig_end hVp hq j4.1 ⟨jb0, jb⟩ j5 j3; obtain ⟨y, hy⟩ : ∃ y, y = (ins p lo s).drop lo := ⟨_, rfl⟩; have oky : okD 4294967296 y := (by rw [hy]; exact (ins_okD ok j2).drop lo); have hyt : y.take s.length = s := (by rw [hy]; exact ins_mid (by omega)); have jw : 0 < e → 1 ≤ w2 := (fun h => by have := je.2 h; omega))
  | ((with_reducible refine lg ?_); refine loop_g (A := List Int × Int × Int) (fun (s, c, e) => DigI x v w s c e) (fun (s, c, e) => v.length + 1 - s.length) (fun (s, c, e) => [(0, .arr 0 lo (v.length + 1)), (1, .ws .u32 v), (5, .val (.int .i64 (v.length : Int))), (7, .val (.int .u64 w)), (8, .val (.int .u64 c)), (9, .val (.int .u64 e)), (10, .val (.int .i64 (s.length : Int)))]) (fun _ => []) (fun (s, c, e) => [some ⟨1, 111, .w .u32 (ins p lo s)⟩]) ([], 0, 0) tok (fun (s, c, e) => ⟨⟨Nat.one_pos, trivial, trivial, trivial, trivial, trivial, trivial, trivial⟩, trivial, by simp only [List.length_cons, List.length_nil]; omega⟩) ?_ ⟨rfl, rfl, rfl, iv_eq hw.symm, rfl, rfl, rfl, trivial⟩ ⟨[], rfl⟩ ⟨[], (by dsimp only; rw [ins_nil]; rfl)⟩ ?_; rotate_left; rintro ⟨s1, c0, e0⟩ iI; have iI2 := iI; obtain ⟨i1, i2, i3, i4, i5, i6⟩ := iI2; have ix := rd_bd (by decide) okx (s1.length : Int); have iv := rd_bd (by decide) okv (s1.length : Int); have im := mul_bd2 hwb iv; have ig : (ins p lo s1).getD (lo + (s1.length : Int).toNat) 0 = rd x (s1.length : Int) := (by rw [Int.toNat_natCast, ins_get (by omega), ← rd_drop, hx]); have il : (ins p lo s1).length = p.length := ins_len (by omega))
  
  | (with_reducible refine draw_g (id := 2) [[0, 1, 2, 3, 4, 5, 6, 7, 8, 9, 10, 11, 12, 13]] tok mixed (by kernel_rfl) ?_)
  | (with_reducible refine Chk.mk' (by first | omega | exact trivial | (simp only [List.length_append, List.length_set, List.length_replicate, List.length_take, List.length_drop, List.length_cons, List.length_nil, List.length_map]; omega)) ?_)
  | (with_reducible refine wrap_g (by dsimp only [inR]; omega) ?_)
  | (with_reducible refine idx_g (by omega) ?_)
  | (with_reducible refine idx_l _ rfl (by decide) ?_)
  | (with_reducible refine fork_tt ?_) | (with_reducible refine fork_ff ?_)
  | (with_reducible refine fork_t (by omega) ?_) | (with_reducible refine fork_f (by omega) ?_)
  | (with_reducible refine fork_d ?_ ?_ <;> intro hc)
  | (with_reducible refine fork_n ?_)
  | (with_reducible refine fork_b ?_ ?_ <;> intro hc)
  | (with_reducible refine SlcG.mk (by omega) ?_)
  | (with_reducible refine MakG.mk (by dsimp only; omega) ?_)
  | (with_reducible refine AppG.mk (by first | omega | (simp only [List.length_append, List.length_set, List.length_replicate, List.length_take, List.length_drop, List.length_cons, List.length_nil, List.length_map]; omega)) (by dsimp only [List.length_cons, List.length_nil]; omega) (by omega) ?_)
  | (with_reducible refine div_g (by omega) (by omega) (by dsimp only [inR]; omega) ?_)
  | (with_reducible refine mod_g (by omega) (by omega) ?_)
  | (with_reducible refine mask_g (m := 4294967296) 32 rfl rfl (by decide) (by omega) ?_)
  | (with_reducible refine shr_g (m := 4294967296) 32 rfl (by decide) (by omega) rfl ?_)
  | (with_reducible refine fz_all (by omega) ?_)
  | (with_reducible refine Stuck.h (A := RetE _ _) ?_) | (with_reducible refine Stuck.h (A := RetM _ _ _ _) ?_) | (with_reducible refine Stuck.h (A := Again _ _ _ _ _ _ _ _) ?_) | (with_reducible refine Stuck.h (A := CallF _ _ _ _ _ _ _) ?_) | (with_reducible refine Stuck.h (A := LoopG _ _ _ _ _ _ _ _) ?_) | (with_reducible refine Stuck.h (A := DrawG _ _ _ _ _ _ _ _) ?_)
  | (with_reducible refine Stuck.h (A := WrapG _ _ _) ?_) | (with_reducible refine Stuck.h (A := DivG _ _ _ _) ?_) | (with_reducible refine Stuck.h (A := ModG _ _ _) ?_) | (with_reducible refine Stuck.h (A := ShlG _ _ _ _) ?_) | (with_reducible refine Stuck.h (A := ShrG _ _ _ _) ?_) | (with_reducible refine Stuck.h (A := BitG _ _ _ _ _) ?_)
  | (with_reducible refine Stuck.h (A := IdxG _ _ _) ?_) | (with_reducible refine Stuck.h (A := IdxL _ _ _) ?_) | (with_reducible refine Stuck.h (A := SlcG _ _ _ _ _) ?_) | (with_reducible refine Stuck.h (A := MakG _ _ _ _) ?_) | (with_reducible refine Stuck.h (A := AppG _ _ _ _ _ _ _) ?_) | (with_reducible refine Stuck.h (A := FzG _ _ _ _) ?_)
  | (with_reducible refine Stuck.h (A := RawG _) ?_) | (with_reducible refine Stuck.h (A := TabG _ _ _ _ _) ?_) | (with_reducible refine Stuck.h (A := ExtF _ _ _ _) ?_) | (with_reducible refine Stuck.h (A := Chk _ _) ?_) | (with_reducible refine Stuck.h (A := False) ?_))
  · refine ⟨again (s1 ++ [((ins p lo s1).getD (lo + (s1.length : Int).toNat) 0 + 4294967296 - ((c0 + w * rd v (s1.length : Int)) % 4294967296 + e0))], _, 1) (DigI.step iI (by omega) hwb okv rfl (d := ((ins p lo s1).getD (lo + (s1.length : Int).toNat) 0 + 4294967296 - ((c0 + w * rd v (s1.length : Int)) % 4294967296 + e0))) (by omega) (by omega) (by omega)) (by simp only [List.length_append, List.length_cons, List.length_nil]; omega) ⟨rfl, rfl, rfl, rfl, rfl, rfl, iv_eq (by simp), trivial⟩ ⟨[], rfl⟩ ⟨[], ?_⟩⟩
    have hset := ins_set (p := p) (s := s1) (lo := lo) ((ins p lo s1).getD (lo + (s1.length : Int).toNat) 0 + 4294967296 - ((c0 + w * rd v (s1.length : Int)) % 4294967296 + e0)) (by omega)
    dsimp only
    rw [← hset]; rfl
  · refine ⟨again (s1 ++ [((ins p lo s1).getD (lo + (s1.length : Int).toNat) 0 - ((c0 + w * rd v (s1.length : Int)) % 4294967296 + e0))], _, 0) (DigI.step iI (by omega) hwb okv rfl (d := ((ins p lo s1).getD (lo + (s1.length : Int).toNat) 0 - ((c0 + w * rd v (s1.length : Int)) % 4294967296 + e0))) (by omega) (by omega) (by omega)) (by simp only [List.length_append, List.length_cons, List.length_nil]; omega) ⟨rfl, rfl, rfl, rfl, rfl, rfl, iv_eq (by simp), trivial⟩ ⟨[], rfl⟩ ⟨[], ?_⟩⟩
    have hset := ins_set (p := p) (s := s1) (lo := lo) ((ins p lo s1).getD (lo + (s1.length : Int).toNat) 0 - ((c0 + w * rd v (s1.length : Int)) % 4294967296 + e0)) (by omega)
    dsimp only
    rw [← hset]; rfl
  · refine ⟨again (s1 ++ [((ins p lo s1).getD (lo + (s1.length : Int).toNat) 0 + 4294967296 - (c0 % 4294967296 + e0))], _, 1) (DigI.step iI (by omega) hwb okv (by rw [rd_out v s1.length (by omega)]; omega) (d := ((ins p lo s1).getD (lo + (s1.length : Int).toNat) 0 + 4294967296 - (c0 % 4294967296 + e0))) (by omega) (by omega) (by omega)) (by simp only [List.length_append, List.length_cons, List.length_nil]; omega) ⟨rfl, rfl, rfl, rfl, rfl, rfl, iv_eq (by simp), trivial⟩ ⟨[], rfl⟩ ⟨[], ?_⟩⟩
    have hset := ins_set (p := p) (s := s1) (lo := lo) ((ins p lo s1).getD (lo + (s1.length : Int).toNat) 0 + 4294967296 - (c0 % 4294967296 + e0)) (by omega)
    dsimp only
    rw [← hset]; rfl
  · refine ⟨again (s1 ++ [((ins p lo s1).getD (lo + (s1.length : Int).toNat) 0 - (c0 % 4294967296 + e0))], _, 0) (DigI.step iI (by omega) hwb okv (by rw [rd_out v s1.length (by omega)]; omega) (d := ((ins p lo s1).getD (lo + (s1.length : Int).toNat) 0 - (c0 % 4294967296 + e0))) (by omega) (by omega) (by omega)) (by simp only [List.length_append, List.length_cons, List.length_nil]; omega) ⟨rfl, rfl, rfl, rfl, rfl, rfl, iv_eq (by simp), trivial⟩ ⟨[], rfl⟩ ⟨[], ?_⟩⟩
    have hset := ins_set (p := p) (s := s1) (lo := lo) ((ins p lo s1).getD (lo + (s1.length : Int).toNat) 0 - (c0 % 4294967296 + e0)) (by omega)
    dsimp only
    rw [← hset]; rfl
  · refine ⟨again (r ++ [(c + (ins (ins p lo s) lo r).getD (lo + (r.length : Int).toNat) 0 + rd v (r.length : Int)) % 4294967296], _) (GivI.step kI (by omega) oky okv (T := (c + (ins (ins p lo s) lo r).getD (lo + (r.length : Int).toNat) 0 + rd v (r.length : Int))) (by omega)) (by simp only [List.length_append, List.length_cons, List.length_nil]; omega) ⟨rfl, rfl, rfl, rfl, rfl, rfl, iv_eq (by simp), trivial⟩ ⟨[], rfl⟩ ⟨[], ?_⟩⟩
    have hset := ins_set (p := ins p lo s) (s := r) (lo := lo) ((c + (ins (ins p lo s) lo r).getD (lo + (r.length : Int).toNat) 0 + rd v (r.length : Int)) % 4294967296) (by rw [ins_len (by omega)]; omega)
    dsimp only
    rw [← hset]; rfl
  · refine ⟨again (r ++ [(c + (ins (ins p lo s) lo r).getD (lo + (r.length : Int).toNat) 0) % 4294967296], _) (GivI.step kI (by omega) oky okv (T := (c + (ins (ins p lo s) lo r).getD (lo + (r.length : Int).toNat) 0)) (by have := rd_out v r.length (by omega); omega)) (by simp only [List.length_append, List.length_cons, List.length_nil]; omega) ⟨rfl, rfl, rfl, rfl, rfl, rfl, iv_eq (by simp), trivial⟩ ⟨[], rfl⟩ ⟨[], ?_⟩⟩
    have hset := ins_set (p := ins p lo s) (s := r) (lo := lo) ((c + (ins (ins p lo s) lo r).getD (lo + (r.length : Int).toNat) 0) % 4294967296) (by rw [ins_len (by omega)]; omega)
    dsimp only
    rw [← hset]; rfl
  · have he1 : e = 1 := by omega
    have hrl : r.length = v.length + 1 := by omega
    have hq1 := je.2 (by omega)
    rw [hrl, hvfull _ (by omega), show v.length + 1 = s.length by omega, hyt] at k4
    have hc : e - min e c = 1 - c := by omega
    refine ⟨again (r, w2 - 1, e - min e c) ⟨hrl, k2, by omega, by omega, ?_⟩ (by first | omega | (dsimp only; omega) | (simp only [id]; omega)) ⟨rfl, rfl, rfl, rfl, rfl, trivial⟩ ⟨[], rfl⟩ ⟨[], ?_⟩⟩
    · rw [hc, Int.sub_mul, Int.one_mul, Int.mul_sub, Int.mul_one]
      rw [he1, Int.mul_one] at j5
      rw [j1] at k4
      omega
    · dsimp only; rw [ins_ins (by omega) (by omega)]; rfl
  · exact ⟨Nat.zero_le _, okD_nil _, by decide, by simp [vl]⟩
  · have he0 : e = 0 := by omega
    obtain ⟨f1, f2⟩ := je.1 he0
    refine ⟨ret_m [0] _ [some ⟨1, 111, .w .u32 (ins p lo s)⟩] rfl rfl (by simp) (fun i h => ?_) rfl ⟨iv_eq f1, s, j1, j2, f2, rfl⟩⟩
    have : i = 0 := by simp at h; omega
    subst this; rfl
  · have hs1 : s1.length = v.length + 1 := by omega
    have hc0 := i5 hs1
    refine ⟨hs1, i2, i4, ⟨hge, hwb.2⟩, ?_⟩
    rw [i6, hs1, hvfull _ (by omega), ← hUe, hc0, Int.zero_add]
  · exact ⟨Nat.zero_le _, okD_nil _, by decide, by decide, fun h => (by simp at h), by simp [vl]⟩
end Go.Proofs.YtlbnlalkimnhdaaDoor.Sim
