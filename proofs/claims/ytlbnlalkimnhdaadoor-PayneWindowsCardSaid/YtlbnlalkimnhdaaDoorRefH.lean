/-
  gnomonref01: DivMod. Condition: the numbers below 2^(32 * 2^28).
-/
import Derived.Test.YtlbnlalkimnhdaaDoorRefG
namespace Go.Proofs.YtlbnlalkimnhdaaDoor.Sim
open Go.RowKit
set_option linter.unusedVariables false
set_option linter.unusedSimpArgs false
set_option maxRecDepth 10000
set_option maxHeartbeats 8000000
variable {G : List (Nat × List Value)}
/-- What is left of a list is nought, if the list is below a power. -/
theorem tail_zero {l : List Int} {k : Nat} (ok : okD 4294967296 l) (h : vl 4294967296 l < 4294967296 ^ k) : vl 4294967296 (l.drop k) = 0 := by
  rcases Nat.lt_or_ge l.length k with h1 | h1
  · rw [List.drop_eq_nil_of_le (by omega)]; rfl
  · have h2 := vl_split 4294967296 l k h1
    have h3 := vl_nonneg (B := 4294967296) (by decide) (ok.take k)
    have h4 := vl_nonneg (B := 4294967296) (by decide) (ok.drop k)
    have hp : 0 < (4294967296 : Int) ^ k := Int.pow_pos (by decide)
    rcases Int.lt_or_le 0 (vl 4294967296 (l.drop k)) with h5 | h5
    · have : 4294967296 ^ k * 1 ≤ 4294967296 ^ k * vl 4294967296 (l.drop k) := Int.mul_le_mul_of_nonneg_left (by omega) (by omega)
      omega
    · omega
theorem div_step {u q s : List Int} {V X d : Int} {j n : Nat} (oku : okD 4294967296 u) (hV : 0 < V) (hVn : V < 4294967296 ^ n) (hj : j + n + 1 ≤ u.length) (hq : j < q.length) (hr : vl 4294967296 (u.drop (j + 1)) < V)
    (hX : X = V * (4294967296 ^ (j + 1) * vl 4294967296 (q.drop (j + 1))) + vl 4294967296 u) :
    vl 4294967296 ((u.drop j).take (n + 1)) < 4294967296 * V ∧ (s.length = n + 1 → vl 4294967296 s = vl 4294967296 ((u.drop j).take (n + 1)) % V → d = vl 4294967296 ((u.drop j).take (n + 1)) / V →
      vl 4294967296 ((ins u j s).drop j) < V ∧ X = V * (4294967296 ^ j * vl 4294967296 ((q.set j d).drop j)) + vl 4294967296 (ins u j s)) := by
  have z1 := tail_zero (oku.drop (j + 1)) (Int.lt_trans hr hVn)
  rw [List.drop_drop] at z1
  have w1 := vl_split 4294967296 (u.drop j) (n + 1) (by rw [List.length_drop]; omega)
  rw [List.drop_drop, show j + (n + 1) = j + 1 + n by omega, z1, Int.mul_zero, Int.add_zero] at w1
  have w2 := drop_rd u j (by omega)
  have bu := rd_bd (by decide) oku (j : Int)
  have w3 : vl 4294967296 (u.drop j) = rd u j + 4294967296 * vl 4294967296 (u.drop (j + 1)) := by rw [w2]; rfl
  rw [← w1]
  refine ⟨by omega, fun hs hv hd => ?_⟩
  have hle : j + s.length ≤ u.length := by omega
  have i1 := ins_drop hle
  have i2 := ins_vl 4294967296 hle
  rw [hs, show j + (n + 1) = j + 1 + n by omega, z1, Int.mul_zero, Int.add_zero] at i2
  have i3 := ins_mid hle
  have i4 := vl_split 4294967296 ((ins u j s).drop j) s.length (by rw [List.length_drop, ins_len hle]; omega)
  rw [i3, List.drop_drop, i1, hs, show j + (n + 1) = j + 1 + n by omega, z1, Int.mul_zero, Int.add_zero] at i4
  have hm := Int.emod_lt_of_pos (vl 4294967296 (u.drop j)) hV
  refine ⟨by rw [i4, hv]; exact hm, ?_⟩
  have e2 : (q.set j d).drop j = d :: q.drop (j + 1) := by
    rw [List.drop_eq_getElem_cons (by simp; omega)]
    simp
    exact List.drop_set_of_lt (by omega)
  have u1 := vl_split 4294967296 u j (by omega)
  have hdm := Int.mul_ediv_add_emod (vl 4294967296 (u.drop j)) V
  rw [e2, i2]
  simp only [vl]
  rw [hX, hv]
  rw [← hd] at hdm
  rw [u1]
  have e3 : V * ((4294967296 : Int) ^ j * (d + 4294967296 * vl 4294967296 (q.drop (j + 1)))) = 4294967296 ^ j * (V * d) + V * (4294967296 ^ (j + 1) * vl 4294967296 (q.drop (j + 1))) := by
    rw [Int.mul_add, Int.mul_add, Int.mul_left_comm V, Int.pow_succ, Int.mul_assoc]
  rw [e3]
  have e4 : (4294967296 : Int) ^ j * vl 4294967296 (u.drop j) = 4294967296 ^ j * (V * d) + 4294967296 ^ j * (vl 4294967296 (u.drop j) % V) := by rw [← Int.mul_add, hdm]
  rw [e4]
  omega
def DivI (X Y s : Nat) (u q : List Int) (m : Nat) : Prop := u.length = L32 X + 1 ∧ okD 4294967296 u ∧ q.length = L32 X + 1 - L32 Y ∧ okD 4294967296 q ∧ m ≤ L32 X + 1 - L32 Y ∧ vl 4294967296 (u.drop m) < ((Y * 2 ^ s : Nat) : Int) ∧ ((X * 2 ^ s : Nat) : Int) = ((Y * 2 ^ s : Nat) : Int) * (4294967296 ^ m * vl 4294967296 (q.drop m)) + vl 4294967296 u
theorem okD_set {B : Int} {l : List Int} {i : Nat} {d : Int} (h : okD B l) (hd : 0 ≤ d ∧ d < B) : okD B (l.set i d) := fun x hx => by
  rcases List.mem_or_eq_of_mem_set hx with h1 | h1
  · exact h x h1
  · rw [h1]; exact hd
theorem DivI.step {X Y s : Nat} {u q : List Int} {m : Nat} (h : DivI X Y s u q m) (hV : 0 < ((Y * 2 ^ s : Nat) : Int)) (hVn : ((Y * 2 ^ s : Nat) : Int) < 4294967296 ^ L32 Y) (hm : 0 < m) :
    vl 4294967296 ((u.drop (m - 1)).take (L32 Y + 1)) < 4294967296 * ((Y * 2 ^ s : Nat) : Int) ∧ ∀ w d, okD 4294967296 w → w.length = L32 Y + 1 → vl 4294967296 w = vl 4294967296 ((u.drop (m - 1)).take (L32 Y + 1)) % ((Y * 2 ^ s : Nat) : Int) → d = vl 4294967296 ((u.drop (m - 1)).take (L32 Y + 1)) / ((Y * 2 ^ s : Nat) : Int) → DivI X Y s (ins u (m - 1) w) (q.set (m - 1) d) (m - 1) := by
  obtain ⟨i1, i2, i3, i4, i5, i6, i7⟩ := h
  have e : m - 1 + 1 = m := by omega
  have hst := fun w d => div_step (X := ((X * 2 ^ s : Nat) : Int)) (V := ((Y * 2 ^ s : Nat) : Int)) (s := w) (d := d) (j := m - 1) (n := L32 Y) (u := u) (q := q) i2 hV hVn (by omega) (by omega) (by rw [e]; exact i6) (by rw [e]; exact i7)
  have h1 := (hst [] 0).1
  refine ⟨h1, fun w d k1 k2 k3 k4 => ?_⟩
  obtain ⟨g1, g2⟩ := (hst w d).2 k2 k3 k4
  have hu := i2.drop (m - 1) |>.take (L32 Y + 1)
  have hd : 0 ≤ d ∧ d < 4294967296 := by
    rw [k4]
    have := vl_nonneg (B := 4294967296) (by decide) hu
    exact ⟨Int.ediv_nonneg this (Int.le_of_lt hV), Int.ediv_lt_of_lt_mul hV h1⟩
  exact ⟨by rw [ins_len (by omega), i1], ins_okD i2 k1, by rw [List.length_set, i3], okD_set i4 hd, by omega, g1, g2⟩
theorem DivI.done {X Y s : Nat} {u q : List Int} (h : DivI X Y s u q 0) (hV : 0 < ((Y * 2 ^ s : Nat) : Int)) (hVn : ((Y * 2 ^ s : Nat) : Int) < 4294967296 ^ L32 Y) (hle : L32 Y ≤ L32 X) : (vl 4294967296 q).toNat = X / Y ∧ (vl 4294967296 (u.take (L32 Y))).toNat = X % Y * 2 ^ s := by
  obtain ⟨i1, i2, i3, i4, i5, i6, i7⟩ := h
  rw [List.drop_zero] at i6 i7
  rw [Int.pow_zero, Int.one_mul] at i7
  have z := tail_zero (k := L32 Y) i2 (Int.lt_trans i6 hVn)
  have w := vl_split 4294967296 u (L32 Y) (by omega)
  rw [z, Int.mul_zero, Int.add_zero] at w
  rw [← w]
  have h0 := vl_nonneg (B := 4294967296) (by decide) i2
  have hq0 := vl_nonneg (B := 4294967296) (by decide) i4
  obtain ⟨Q, hQ⟩ := Int.eq_ofNat_of_zero_le hq0
  obtain ⟨R, hR⟩ := Int.eq_ofNat_of_zero_le h0
  rw [hQ] at i7 ⊢
  rw [hR] at i6 i7 ⊢
  simp only [Int.toNat_natCast]
  have i8 : X * 2 ^ s = Y * 2 ^ s * Q + R := by
    rw [← Int.natCast_mul, ← Int.natCast_add] at i7
    exact Int.ofNat_inj.1 i7
  have i9 : R < Y * 2 ^ s := by omega
  have hp : 0 < 2 ^ s := Nat.pow_pos (by decide)
  refine ⟨?_, ?_⟩
  · rw [← Nat.mul_div_mul_right X Y hp, i8, Nat.mul_add_div (by omega), Nat.div_eq_of_lt i9, Nat.add_zero]
  · rw [← Nat.mul_mod_mul_right, i8, Nat.mul_add_mod, Nat.mod_eq_of_lt i9]
theorem DivI.init {X Y s : Nat} {k : Nat} (hk : L32 (X * 2 ^ s) + k = L32 X + 1) (hXY : L32 Y ≤ L32 X) (h0 : 0 < L32 Y) (hlt : X * 2 ^ s < 2 ^ (32 * L32 X) * 2 ^ s) (hV : 2 ^ (32 * (L32 Y - 1)) * 2 ^ s ≤ Y * 2 ^ s) : DivI X Y s (d32 (X * 2 ^ s) ++ List.replicate k 0) (List.replicate (L32 X + 1 - L32 Y) 0) (L32 X + 1 - L32 Y) := by
  obtain ⟨ok, va⟩ := d32_ok (X * 2 ^ s)
  have hl : (d32 (X * 2 ^ s)).length = L32 (X * 2 ^ s) := rfl
  have hrep : ∀ n, okD 4294967296 (List.replicate n (0 : Int)) := fun n x hx => by rw [List.eq_of_mem_replicate hx]; decide
  have hz : ∀ n, vl 4294967296 (List.replicate n (0 : Int)) = 0 := fun n => vl_zero _ _
  have hu : vl 4294967296 (d32 (X * 2 ^ s) ++ List.replicate k 0) = ((X * 2 ^ s : Nat) : Int) := by rw [vl_append, va, hz, Int.mul_zero, Int.add_zero]
  have oku : okD 4294967296 (d32 (X * 2 ^ s) ++ List.replicate k 0) := okD_append.2 ⟨ok, hrep k⟩
  refine ⟨by simp [hl]; omega, oku, by simp, hrep _, Nat.le_refl _, ?_, ?_⟩
  · have hs := vl_split 4294967296 (d32 (X * 2 ^ s) ++ List.replicate k 0) (L32 X + 1 - L32 Y) (by simp [hl]; omega)
    rw [hu] at hs
    have h1 := vl_nonneg (B := 4294967296) (by decide) (oku.take (L32 X + 1 - L32 Y))
    obtain ⟨Z, hZ⟩ := Int.eq_ofNat_of_zero_le (vl_nonneg (B := 4294967296) (by decide) (oku.drop (L32 X + 1 - L32 Y)))
    rw [hZ] at hs ⊢
    have h2 : 4294967296 ^ (L32 X + 1 - L32 Y) * Z ≤ X * 2 ^ s := by
      have : ((4294967296 ^ (L32 X + 1 - L32 Y) * Z : Nat) : Int) ≤ ((X * 2 ^ s : Nat) : Int) := by
        rw [hs]; simp only [Int.natCast_mul, Int.natCast_pow]; exact Int.le_add_of_nonneg_left h1
      exact Int.ofNat_le.1 this
    have e : 32 * L32 X = 32 * (L32 X + 1 - L32 Y) + 32 * (L32 Y - 1) := by omega
    rw [pow32] at h2
    rw [e, Nat.pow_add, Nat.mul_assoc] at hlt
    have h3 : Z < 2 ^ (32 * (L32 Y - 1)) * 2 ^ s := Nat.lt_of_mul_lt_mul_left (Nat.lt_of_le_of_lt h2 hlt)
    omega
  · rw [List.drop_eq_nil_of_le (by simp)]
    simp only [vl]
    rw [Int.mul_zero, Int.mul_zero, Int.zero_add, hu]
theorem r_divmod (X Y : Nat) (hX : L32 X ≤ 268435456) (hY : L32 Y ≤ 268435456) : FC Tryd.prog G 70 [D X, D Y] (· = .tup [D (X / Y), D (if Y = 0 then 0 else X % Y)]) := by
  have hlx : (d32 X).length = L32 X := rfl
  have hly : (d32 Y).length = L32 Y := rfl
  obtain ⟨T, hT⟩ : ∃ T, T = Y / 2 ^ (32 * (L32 Y - 1)) := ⟨_, rfl⟩
  have hT2 : Unit → Y ≠ 0 → T < 4294967296 ∧ T ≠ 0 := fun _ h => by rw [hT]; exact top32 h
  have hTb : bl T ≤ 32 := by
    by_cases h : Y = 0
    · subst h; rw [hT, Nat.zero_div]; decide
    · exact bl_le (hT2 () h).1
  have hTl : L32 T ≤ 536870912 := by
    by_cases h : Y = 0
    · subst h; rw [hT, Nat.zero_div, L32, lenB_zero]; decide
    · exact Nat.le_trans (L32_le (n := 1) (hT2 () h).1) (by decide)
  obtain ⟨s, hs⟩ : ∃ s : Nat, s = 32 - bl T := ⟨_, rfl⟩
  have hY0 : Unit → L32 Y ≠ 0 → Y ≠ 0 := fun _ h h0 => by subst h0; exact h (lenB_zero _)
  have hV : Unit → Y ≠ 0 → Y * 2 ^ s < 2 ^ (32 * L32 Y) ∧ 2 ^ (32 * (L32 Y - 1)) * 2 ^ s ≤ Y * 2 ^ s := fun _ h => by
    have h1 := lt_bl T
    have h2 : bl Y = 32 * (L32 Y - 1) + bl T := by rw [hT]; exact bl_top Y _ (by rw [← hT]; exact (hT2 () h).2)
    have h3 := lt_bl Y
    have h4 := lenB_pos (B := 4294967296) (by decide) h
    have h5 : 0 < L32 Y := h4
    refine ⟨?_, Nat.mul_le_mul_right _ ?_⟩
    · have h6 : Y * 2 ^ s < 2 ^ bl Y * 2 ^ s := Nat.mul_lt_mul_of_pos_right h3 (Nat.pow_pos (by decide))
      rw [← Nat.pow_add] at h6
      exact Nat.lt_of_lt_of_le h6 (Nat.pow_le_pow_right (by decide) (by omega))
    · exact Nat.le_trans (Nat.pow_le_pow_right (by decide) (by have := bl_pos (hT2 () h).2; omega)) (le_of_bl h)
  have hVl : Unit → Y ≠ 0 → L32 (Y * 2 ^ s) = L32 Y := fun _ h => by
    have h1 := L32_le (hV () h).1
    have h2 : L32 Y ≤ L32 (Y * 2 ^ s) := lenB_mono (by decide) (Nat.le_mul_of_pos_right _ (Nat.pow_pos (by decide)))
    omega
  have hs32 : s ≤ 32 := by omega
  have hUlt : X * 2 ^ s < 2 ^ (32 * L32 X) * 2 ^ s := Nat.mul_lt_mul_of_pos_right (L32_lt X) (Nat.pow_pos (by decide))
  have hUl : L32 (X * 2 ^ s) ≤ L32 X + 1 := by
    apply L32_le
    rw [← Nat.pow_add] at hUlt
    exact Nat.lt_of_lt_of_le hUlt (Nat.pow_le_pow_right (by decide) (by omega))
  have hes : (32 - (bl T : Int)).toNat = s := by omega
  have hr0 : Unit → L32 Y = 1 → rd (d32 Y) 0 = (Y : Int) ∧ 0 < Y ∧ Y < 4294967296 := fun _ h => by
    have h1 := d32_rd Y 0
    have h2 := L32_lt Y
    rw [h] at h2
    have h3 := hY0 () (by omega)
    refine ⟨?_, by omega, h2⟩
    rw [show ((0 : Nat) : Int) = 0 by rfl] at h1
    rw [h1, Nat.pow_zero, Nat.div_one]
    omega
  have hcl : Unit → ¬ cmpN X Y < 0 → Y ≤ X ∧ L32 Y ≤ L32 X := fun _ h => by
    have : Y ≤ X := by
      unfold cmpN at h
      split at h
      · exact absurd (by decide) h
      · omega
    exact ⟨this, lenB_mono (by decide) this⟩
  have hVpp : Unit → Y ≠ 0 → (0 : Int) < ((Y * 2 ^ s : Nat) : Int) := fun _ h => by
    have : 0 < Y * 2 ^ s := Nat.mul_pos (by omega) (Nat.pow_pos (by decide))
    omega
  have hVpq : Unit → Y ≠ 0 → ((Y * 2 ^ s : Nat) : Int) < 4294967296 ^ L32 Y := fun _ h => by
    have h1 := (hV () h).1
    rw [← pow32] at h1
    have h2 := Int.ofNat_lt.2 h1
    simpa using h2
  have hml : Unit → L32 (X % Y * 2 ^ s) ≤ L32 X + 1 := fun _ => Nat.le_trans (lenB_mono (by decide) (Nat.mul_le_mul_right _ (Nat.mod_le _ _))) hUl
  have hcmp := r_cmp (G := G) X Y (by omega) (by omega)
  have hw0 := r_word (G := G) 0 (by decide)
  have hbits := r_bits (G := G) T hTl
  have hdr : (d32 Y).drop (L32 Y - 1) = d32 T := by rw [d32_drop, hT]
  refine FC.intro (X := XX) tok Tryd.func70 rfl Tryd.ntmps70 (by rw [Tryd.results70]) (by kernel_rfl) rfl ?_; intro F hG hO
  rw [← hG] at hcmp hw0 hbits
  repeat' ((try (conv => whnf)); first
  | ((with_reducible refine cg ?_); refine call_eq hw0 (LpL.refl _) rfl ?_)
  | ((with_reducible refine cg ?_); refine call_eq (r_word ((X : Int) % Y) (by omega)) (LpL.refl _) rfl ?_)
  | ((with_reducible refine cg ?_); refine call_eq hcmp (LpL.refl _) rfl ?_)
  | ((with_reducible refine cg ?_); refine call_eq (r_normN X (by omega)) (LpL.refl _) rfl ?_)
  | ((with_reducible refine cg ?_); have hr1 := hr0 () (by omega); have hmm := Int.emod_nonneg (X : Int) (b := (Y : Int)) (by omega); have hml := Int.emod_lt_of_pos (X : Int) (b := (Y : Int)) (by omega); rw [hr1.1]; refine call_eq (r_divs X Y (by omega) (by omega)) (LpL.refl _) rfl ?_)
  | ((with_reducible refine cg ?_); rw [hly, show ((L32 Y : Int) - 1).toNat = L32 Y - 1 by omega, hdr]; refine call_eq hbits (LpL.refl _) rfl ?_)
  | ((with_reducible refine cg ?_); refine call_eq (r_shl Y (32 - (bl T : Int)) (by omega) (by dsimp only [inR]; omega) (by omega)) (LpL.refl _) rfl ?_; rw [hes])
  | ((with_reducible refine cg ?_); refine call_own (m := 0) (m_shl X (32 - (bl T : Int)) (by omega) (by dsimp only [inR]; omega) (by omega)) rfl rfl rfl ?_; rw [hes])
  | ((with_reducible refine lg ?_); refine loop_g (A := List Int × List Int × Nat) (fun (u, q, m) => DivI X Y s u q m) (fun (u, q, m) => m) (fun (u, q, m) => [(8, .val (.int .i64 (32 - (bl T : Int)))), (9, D (Y * 2 ^ s)), (10, .arr 0 0 (L32 X + 1)), (11, .val (.int .i64 (L32 Y : Int))), (12, .arr 1 0 (L32 X + 1 - L32 Y)), (13, .val (.int .i64 ((m : Int) - 1)))]) (fun _ => []) (fun (u, q, m) => [some ⟨1, 111, .w .u32 u⟩, some ⟨1, 111, .w .u32 q⟩]) (d32 (X * 2 ^ s) ++ List.replicate k 0, List.replicate (L32 X + 1 - L32 Y) 0, L32 X + 1 - L32 Y) tok (fun (u, q, m) => ⟨⟨trivial, trivial, Nat.zero_lt_succ _, trivial, Nat.lt_succ_self 1, trivial, trivial⟩, trivial, by simp only [List.length_cons, List.length_nil]; omega⟩) ?_ ⟨rfl, rfl, congrArg (PV.arr 0 0) (by omega), iv_eq (by omega), congrArg (PV.arr 1 0) (by omega), iv_eq (by omega), trivial⟩ ⟨[], rfl⟩ ⟨[], (by rw [show (((L32 (X * 2 ^ s) + k : Nat) : Int) - ((d32 (Y * 2 ^ s)).length : Int)).toNat = L32 X + 1 - L32 Y by omega]; rfl)⟩ ?_; rotate_left; rintro ⟨u, q, m⟩ hI; have hI2 := hI; obtain ⟨i1, i2, i3, i4, i5, i6, i7⟩ := hI2)
  | ((with_reducible refine lg ?_); refine loop_g (A := Nat) (fun k => L32 (X * 2 ^ s) + k ≤ L32 X + 1) (fun k => L32 X + 1 - k) (fun k => [(0, D X), (8, .val (.int .i64 (32 - (bl T : Int)))), (9, D (Y * 2 ^ s)), (10, .arr 0 0 (L32 (X * 2 ^ s) + k))]) (fun _ => []) (fun k => [some ⟨1, 111, .w .u32 (d32 (X * 2 ^ s) ++ List.replicate k 0)⟩]) 0 tok (fun k => ⟨⟨trivial, trivial, trivial, Nat.one_pos, trivial⟩, trivial, by simp only [List.length_cons, List.length_nil]; omega⟩) ?_ ⟨rfl, rfl, rfl, rfl, trivial⟩ ⟨[], rfl⟩ ⟨[], (by simp)⟩ ?_; rotate_left; rintro k h1; have hlu : (d32 (X * 2 ^ s)).length = L32 (X * 2 ^ s) := rfl; have hlv : (d32 (Y * 2 ^ s)).length = L32 (Y * 2 ^ s) := rfl; have hYn := hVl () (hY0 () (by omega)); have hVp := hVpp () (hY0 () (by omega)); have hVq := hVpq () (hY0 () (by omega)); have hXY := hcl () (by omega))
  | ((with_reducible refine cg ?_); have hst := hI.step hVp hVq; rw [show 0 + ((m : Int) - 1).toNat = m - 1 by omega, show ((m : Int) - 1 + (L32 Y : Int) + 1).toNat - ((m : Int) - 1).toNat = L32 Y + 1 by omega]; refine call_pm [0] (m_digit u (m - 1) (Y * 2 ^ s) (L32 Y) hYn (by omega) (by omega) (by omega) i2 (hst (by omega)).1) rfl rfl rfl (by simp) ?_; rintro r rs ⟨rfl, w, j1, j2, j3, rfl⟩)
  | ((with_reducible refine cg ?_); refine call_fz 0 (B := q) rfl rfl (by omega) (by rw [List.drop_zero]; exact List.take_of_length_le (by omega)) (by omega) ?_; refine call_eq (r_normD q (by omega) i4) (LpL.refl _) rfl ?_)
  | ((with_reducible refine cg ?_); obtain rfl : m = 0 := (by omega); have hdone := hI.done hVp hVq hXY.2; refine call_fz 0 (B := u.take (L32 Y)) rfl rfl (by omega) (by rw [List.drop_zero, Int.toNat_natCast]) (by omega) ?_; refine call_eq (r_normD (u.take (L32 Y)) (by rw [List.length_take]; omega) (i2.take _)) (LpL.refl _) rfl ?_; rw [hdone.2])
  | ((with_reducible refine cg ?_); refine call_eq (r_shr (X % Y * 2 ^ s) (32 - (bl T : Int)) (by have := hml (); omega) (by dsimp only [inR]; omega)) (LpL.refl _) rfl ?_)
  
  | (with_reducible refine draw_g (id := 19) [[0, 2, 3, 4, 6, 1, 5, 7, 8, 9]] tok mixed (by kernel_rfl) ?_)
  | (with_reducible refine Chk.mk' (by first | omega | exact trivial | (simp only [List.length_append, List.length_set, List.length_replicate, List.length_take, List.length_drop, List.length_cons, List.length_nil, List.length_map]; omega)) ?_)
  | (with_reducible refine wrap_g (by dsimp only [inR]; omega) ?_)
  | (with_reducible refine idx_g (by omega) ?_)
  | (with_reducible refine idx_l _ rfl (by decide) ?_)
  | (with_reducible refine fork_tt ?_) | (with_reducible refine fork_ff ?_)
  | (with_reducible refine fork_t (by omega) ?_) | (with_reducible refine fork_f (by omega) ?_)
  | (with_reducible refine fork_d ?_ ?_ <;> intro hc)
  | (with_reducible refine fork_n ?_)
  | (with_reducible refine fork_b ?_ ?_ <;> intro hc)
  | (with_reducible refine SlcG.mk (by omega) ?_)
  | (with_reducible refine MakG.mk (by dsimp only; omega) ?_)
  | (with_reducible refine AppG.mk (by first | omega | (simp only [List.length_append, List.length_set, List.length_replicate, List.length_take, List.length_drop, List.length_cons, List.length_nil, List.length_map]; omega)) (by dsimp only [List.length_cons, List.length_nil]; omega) (by omega) ?_)
  | (with_reducible refine div_g (by omega) (by omega) (by dsimp only [inR]; omega) ?_)
  | (with_reducible refine mod_g (by omega) (by omega) ?_)
  | (with_reducible refine mask_g (m := 4294967296) 32 rfl rfl (by decide) (by omega) ?_)
  | (with_reducible refine shr_g (m := 4294967296) 32 rfl (by decide) (by omega) rfl ?_)
  | (with_reducible refine fz_all (by omega) ?_)
  | (with_reducible refine Stuck.h (A := RetE _ _) ?_) | (with_reducible refine Stuck.h (A := RetM _ _ _ _) ?_) | (with_reducible refine Stuck.h (A := Again _ _ _ _ _ _ _ _) ?_) | (with_reducible refine Stuck.h (A := CallF _ _ _ _ _ _ _) ?_) | (with_reducible refine Stuck.h (A := LoopG _ _ _ _ _ _ _ _) ?_) | (with_reducible refine Stuck.h (A := DrawG _ _ _ _ _ _ _ _) ?_)
  | (with_reducible refine Stuck.h (A := WrapG _ _ _) ?_) | (with_reducible refine Stuck.h (A := DivG _ _ _ _) ?_) | (with_reducible refine Stuck.h (A := ModG _ _ _) ?_) | (with_reducible refine Stuck.h (A := ShlG _ _ _ _) ?_) | (with_reducible refine Stuck.h (A := ShrG _ _ _ _) ?_) | (with_reducible refine Stuck.h (A := BitG _ _ _ _ _) ?_)
  | (with_reducible refine Stuck.h (A := IdxG _ _ _) ?_) | (with_reducible refine Stuck.h (A := IdxL _ _ _) ?_) | (with_reducible refine Stuck.h (A := SlcG _ _ _ _ _) ?_) | (with_reducible refine Stuck.h (A := MakG _ _ _ _) ?_) | (with_reducible refine Stuck.h (A := AppG _ _ _ _ _ _ _) ?_) | (with_reducible refine Stuck.h (A := FzG _ _ _ _) ?_)
  | (with_reducible refine Stuck.h (A := RawG _) ?_) | (with_reducible refine Stuck.h (A := TabG _ _ _ _ _) ?_) | (with_reducible refine Stuck.h (A := ExtF _ _ _ _) ?_) | (with_reducible refine Stuck.h (A := Chk _ _) ?_) | (with_reducible refine Stuck.h (A := False) ?_))
  · have : Y = 0 := (lenB_eq_zero (B := 4294967296) (by decide)).1 (by unfold L32 at hly; omega)
    subst this
    exact ⟨ret_e (by rw [Nat.div_zero, if_pos rfl]; rfl)⟩
  · have : X < Y := by
      unfold cmpN at hc
      split at hc
      · assumption
      · split at hc <;> omega
    exact ⟨ret_e (by rw [Nat.div_eq_of_lt this, if_neg (by omega), Nat.mod_eq_of_lt this]; rfl)⟩
  · refine ⟨ret_e ?_⟩
    rw [if_neg (by omega), ← Int.natCast_ediv, ← Int.natCast_emod, Int.toNat_natCast, Int.toNat_natCast]; rfl
  · refine ⟨again (k + 1) (by omega) (by omega) ⟨rfl, rfl, rfl, rfl, trivial⟩ ⟨[], rfl⟩ ⟨[], ?_⟩⟩
    rw [List.replicate_succ', ← List.append_assoc]; rfl
  · refine ⟨again (ins u (m - 1) w, q.set (m - 1) (vl 4294967296 (List.take (L32 Y + 1) (List.drop (m - 1) u)) / ((Y * 2 ^ s : Nat) : Int)), m - 1) ((hst (by omega)).2 w _ j2 j1 j3 rfl) (by dsimp only; omega) ⟨rfl, rfl, rfl, rfl, rfl, iv_eq (by omega), trivial⟩ ⟨[], rfl⟩ ⟨[], ?_⟩⟩
    dsimp only
    rw [show 0 + ((m : Int) - 1).toNat = m - 1 by omega]; rfl
  · refine ⟨ret_e ?_⟩
    rw [hes, Nat.mul_div_cancel _ (Nat.pow_pos (by decide)), hdone.1, if_neg (hY0 () (by omega))]; rfl
  · exact DivI.init (by omega) hXY.2 (by omega) hUlt (hV () (hY0 () (by omega))).2
  · omega
end Go.Proofs.YtlbnlalkimnhdaaDoor.Sim
