/-
  gnomonref01: Small, Shl, Shr, Low, Bits, Bit, Zeros, Pow2. Condition: the numbers below 2^(32 * 2^29).
-/
import Derived.Test.YtlbnlalkimnhdaaDoorRefD
namespace Go.Proofs.YtlbnlalkimnhdaaDoor.Sim
open Go.RowKit
set_option linter.unusedVariables false
set_option linter.unusedSimpArgs false
set_option maxRecDepth 10000
set_option maxHeartbeats 4000000
variable {G : List (Nat × List Value)}
theorem trim_d32 (n : Nat) : trim (d32 n) = d32 n := (dgs_ok (B := 4294967296) (by decide) n).2.2
theorem r_normN (X : Nat) (h : L32 X ≤ 1099511627776) : FC Tryd.prog G 68 [D X] (· = D X) :=
  (r_norm (d32 X) h).mono fun r hr => by rw [hr, trim_d32]; rfl
theorem trim_okD {a : List Int} (ok : okD 4294967296 a) : trim a = d32 (vl 4294967296 a).toNat := trim_dgs (B := 4294967296) (by decide) ok
/-- A natural in a row of one's own. -/
abbrev OwnD (n : Nat) : PV → List (Option Row) → Prop := Own 111 .u32 (d32 n)
theorem m_normN (X : Nat) (h : L32 X ≤ 1099511627776) : PM Tryd.prog G 68 [.ws .u32 (d32 X)] [] (OwnD X) := by
  have := m_norm (G := G) (d32 X) h
  rwa [trim_d32] at this
theorem m_normD (a : List Int) (h : a.length ≤ 1099511627776) (ok : okD 4294967296 a) : PM Tryd.prog G 68 [.ws .u32 a] [] (OwnD (vl 4294967296 a).toNat) := by
  have := m_norm (G := G) a h
  rwa [trim_okD ok] at this
theorem r_small (n : Int) (h : inR .i64 n) : FC Tryd.prog G 114 [.val (.int .i64 n)] (· = D n.toNat) := by
  dsimp only [inR] at h
  refine FC.intro (X := XX) tok Tryd.func114 rfl Tryd.ntmps114 (by rw [Tryd.results114]) (by kernel_rfl) rfl ?_; intro F hG hO
  repeat' ((try (conv => whnf)); first
  | ((with_reducible refine cg ?_); refine call_eq (r_word _ (by omega)) (LpL.refl _) rfl ?_)
  
  | (with_reducible refine Chk.mk' (by first | omega | exact trivial | (simp only [List.length_append, List.length_set, List.length_replicate, List.length_take, List.length_drop, List.length_cons, List.length_nil, List.length_map]; omega)) ?_)
  | (with_reducible refine wrap_g (by dsimp only [inR]; omega) ?_)
  | (with_reducible refine idx_g (by omega) ?_)
  | (with_reducible refine idx_l _ rfl (by decide) ?_)
  | (with_reducible refine fork_tt ?_) | (with_reducible refine fork_ff ?_)
  | (with_reducible refine fork_t (by omega) ?_) | (with_reducible refine fork_f (by omega) ?_)
  | (with_reducible refine fork_d ?_ ?_ <;> intro hc)
  | (with_reducible refine fork_n ?_)
  | (with_reducible refine fork_b ?_ ?_ <;> intro hc)
  | (with_reducible refine SlcG.mk (by omega) ?_)
  | (with_reducible refine MakG.mk (by dsimp only; omega) ?_)
  | (with_reducible refine AppG.mk (by first | omega | (simp only [List.length_append, List.length_set, List.length_replicate, List.length_take, List.length_drop, List.length_cons, List.length_nil, List.length_map]; omega)) (by dsimp only [List.length_cons, List.length_nil]; omega) (by omega) ?_)
  | (with_reducible refine div_g (by omega) (by omega) (by dsimp only [inR]; omega) ?_)
  | (with_reducible refine mod_g (by omega) (by omega) ?_)
  | (with_reducible refine mask_g (m := 4294967296) 32 rfl rfl (by decide) (by omega) ?_)
  | (with_reducible refine shr_g (m := 4294967296) 32 rfl (by decide) (by omega) rfl ?_)
  | (with_reducible refine fz_all (by omega) ?_)
  | (with_reducible refine Stuck.h (A := RetE _ _) ?_) | (with_reducible refine Stuck.h (A := RetM _ _ _ _) ?_) | (with_reducible refine Stuck.h (A := Again _ _ _ _ _ _ _ _) ?_) | (with_reducible refine Stuck.h (A := CallF _ _ _ _ _ _ _) ?_) | (with_reducible refine Stuck.h (A := LoopG _ _ _ _ _ _ _ _) ?_) | (with_reducible refine Stuck.h (A := DrawG _ _ _ _ _ _ _ _) ?_)
  | (with_reducible refine Stuck.h (A := WrapG _ _ _) ?_) | (with_reducible refine Stuck.h (A := DivG _ _ _ _) ?_) | (with_reducible refine Stuck.h (A := ModG _ _ _) ?_) | (with_reducible refine Stuck.h (A := ShlG _ _ _ _) ?_) | (with_reducible refine Stuck.h (A := ShrG _ _ _ _) ?_) | (with_reducible refine Stuck.h (A := BitG _ _ _ _ _) ?_)
  | (with_reducible refine Stuck.h (A := IdxG _ _ _) ?_) | (with_reducible refine Stuck.h (A := IdxL _ _ _) ?_) | (with_reducible refine Stuck.h (A := SlcG _ _ _ _ _) ?_) | (with_reducible refine Stuck.h (A := MakG _ _ _ _) ?_) | (with_reducible refine Stuck.h (A := AppG _ _ _ _ _ _ _) ?_) | (with_reducible refine Stuck.h (A := FzG _ _ _ _) ?_)
  | (with_reducible refine Stuck.h (A := RawG _) ?_) | (with_reducible refine Stuck.h (A := TabG _ _ _ _ _) ?_) | (with_reducible refine Stuck.h (A := ExtF _ _ _ _) ?_) | (with_reducible refine Stuck.h (A := Chk _ _) ?_) | (with_reducible refine Stuck.h (A := False) ?_))
  · exact ⟨ret_e (by rw [show n.toNat = 0 by omega]; rfl)⟩
  · exact ⟨ret_e rfl⟩
theorem vl_zeros (k : Nat) (l : List Int) : vl 4294967296 (List.replicate k 0 ++ l) = 4294967296 ^ k * vl 4294967296 l := by
  rw [vl_append, vl_zero, List.length_replicate, Int.zero_add]
theorem shl_val (X : Nat) (n : Int) (h : 0 < n) : (vl 4294967296 (List.replicate (n / 32).toNat 0 ++ d32 ((X : Int) * 2 ^ (n % 32).toNat + 0).toNat)).toNat = X * 2 ^ n.toNat := by
  have e1 : ((X : Int) * 2 ^ (n % 32).toNat + 0).toNat = X * 2 ^ (n % 32).toNat := by
    have : ((X : Int) * 2 ^ (n % 32).toNat + 0) = ((X * 2 ^ (n % 32).toNat : Nat) : Int) := by simp
    rw [this, Int.toNat_natCast]
  rw [e1, vl_zeros, (d32_ok _).2]
  have e2 : ((4294967296 : Int) ^ (n / 32).toNat * ((X * 2 ^ (n % 32).toNat : Nat) : Int)) = ((4294967296 ^ (n / 32).toNat * (X * 2 ^ (n % 32).toNat) : Nat) : Int) := by simp
  rw [e2, Int.toNat_natCast, pow32, Nat.mul_left_comm, ← Nat.pow_add]
  congr 2
  omega
theorem okD_zeros {k : Nat} {l : List Int} (h : okD 4294967296 l) : okD 4294967296 (List.replicate k 0 ++ l) :=
  okD_append.2 ⟨fun x hx => by rw [List.eq_of_mem_replicate hx]; decide, h⟩
theorem m_shl (X : Nat) (n : Int) (hX : L32 X ≤ 536870912) (hn : inR .i64 n) (hn2 : n ≤ 8589934592) : PM Tryd.prog G 67 [D X, .val (.int .i64 n)] [] (OwnD (X * 2 ^ n.toNat)) := by
  dsimp only [inR] at hn
  have hlen : (d32 X).length = L32 X := rfl
  have hM : (d32 ((X : Int) * 2 ^ (n % 32).toNat + 0).toNat).length ≤ L32 X + 1 := by
    have h1 := L32_shl X (n % 32).toNat
    have e1 : ((X : Int) * 2 ^ (n % 32).toNat + 0).toNat = X * 2 ^ (n % 32).toNat := by
      have : ((X : Int) * 2 ^ (n % 32).toNat + 0) = ((X * 2 ^ (n % 32).toNat : Nat) : Int) := by simp
      rw [this, Int.toNat_natCast]
    rw [e1]
    have h2 : (n % 32).toNat / 32 = 0 := by omega
    rw [h2] at h1
    exact h1
  have hw := pw32 (n := (n % 32).toNat) (by omega)
  refine PM.intro (X := XX) tok Tryd.func67 rfl Tryd.ntmps67 (by rw [Tryd.results67]) (by kernel_rfl) rfl ?_; intro F hG hO; simp only [List.length_cons, List.length_nil, Nat.zero_add, Nat.reduceAdd] at hO
  repeat' ((try (conv => whnf)); first
  | (with_reducible refine shl1_g (.inl rfl) (by dsimp only [IntKind.bits]; omega) ?_)
  | ((with_reducible refine cg ?_); refine call_own (m := 0) (m_normN X (by omega)) rfl rfl rfl ?_)
  | ((with_reducible refine cg ?_); refine call_eq (r_muls X (2 ^ (n % 32).toNat) 0 (by omega) ⟨Int.le_of_lt hw.1, hw.2⟩ (by decide)) (LpL.refl _) rfl ?_)
  | (with_reducible refine AppG.mk (by simp) (by dsimp only; omega) (by omega) ?_)
  | ((with_reducible refine cg ?_); refine call_fz 0 (B := List.replicate (n / 32).toNat 0 ++ d32 ((X : Int) * 2 ^ (n % 32).toNat + 0).toNat) rfl rfl (by simp) (by rw [List.drop_zero]; exact List.take_of_length_le (by simp)) (by omega) ?_; refine call_own (m := 1) (m_normD (List.replicate (n / 32).toNat 0 ++ d32 ((X : Int) * 2 ^ (n % 32).toNat + 0).toNat) (by simp only [List.length_append, List.length_replicate]; omega) (okD_zeros (d32_ok _).1)) rfl rfl rfl ?_)
  
  | (with_reducible refine Chk.mk' (by first | omega | exact trivial | (simp only [List.length_append, List.length_set, List.length_replicate, List.length_take, List.length_drop, List.length_cons, List.length_nil, List.length_map]; omega)) ?_)
  | (with_reducible refine wrap_g (by dsimp only [inR]; omega) ?_)
  | (with_reducible refine idx_g (by omega) ?_)
  | (with_reducible refine idx_l _ rfl (by decide) ?_)
  | (with_reducible refine fork_tt ?_) | (with_reducible refine fork_ff ?_)
  | (with_reducible refine fork_t (by omega) ?_) | (with_reducible refine fork_f (by omega) ?_)
  | (with_reducible refine fork_d ?_ ?_ <;> intro hc)
  | (with_reducible refine fork_n ?_)
  | (with_reducible refine fork_b ?_ ?_ <;> intro hc)
  | (with_reducible refine SlcG.mk (by omega) ?_)
  | (with_reducible refine MakG.mk (by dsimp only; omega) ?_)
  | (with_reducible refine AppG.mk (by first | omega | (simp only [List.length_append, List.length_set, List.length_replicate, List.length_take, List.length_drop, List.length_cons, List.length_nil, List.length_map]; omega)) (by dsimp only [List.length_cons, List.length_nil]; omega) (by omega) ?_)
  | (with_reducible refine div_g (by omega) (by omega) (by dsimp only [inR]; omega) ?_)
  | (with_reducible refine mod_g (by omega) (by omega) ?_)
  | (with_reducible refine mask_g (m := 4294967296) 32 rfl rfl (by decide) (by omega) ?_)
  | (with_reducible refine shr_g (m := 4294967296) 32 rfl (by decide) (by omega) rfl ?_)
  | (with_reducible refine fz_all (by omega) ?_)
  | (with_reducible refine Stuck.h (A := RetE _ _) ?_) | (with_reducible refine Stuck.h (A := RetM _ _ _ _) ?_) | (with_reducible refine Stuck.h (A := Again _ _ _ _ _ _ _ _) ?_) | (with_reducible refine Stuck.h (A := CallF _ _ _ _ _ _ _) ?_) | (with_reducible refine Stuck.h (A := LoopG _ _ _ _ _ _ _ _) ?_) | (with_reducible refine Stuck.h (A := DrawG _ _ _ _ _ _ _ _) ?_)
  | (with_reducible refine Stuck.h (A := WrapG _ _ _) ?_) | (with_reducible refine Stuck.h (A := DivG _ _ _ _) ?_) | (with_reducible refine Stuck.h (A := ModG _ _ _) ?_) | (with_reducible refine Stuck.h (A := ShlG _ _ _ _) ?_) | (with_reducible refine Stuck.h (A := ShrG _ _ _ _) ?_) | (with_reducible refine Stuck.h (A := BitG _ _ _ _ _) ?_)
  | (with_reducible refine Stuck.h (A := IdxG _ _ _) ?_) | (with_reducible refine Stuck.h (A := IdxL _ _ _) ?_) | (with_reducible refine Stuck.h (A := SlcG _ _ _ _ _) ?_) | (with_reducible refine Stuck.h (A := MakG _ _ _ _) ?_) | (with_reducible refine Stuck.h (A := AppG _ _ _ _ _ _ _) ?_) | (with_reducible refine Stuck.h (A := FzG _ _ _ _) ?_)
  | (with_reducible refine Stuck.h (A := RawG _) ?_) | (with_reducible refine Stuck.h (A := TabG _ _ _ _ _) ?_) | (with_reducible refine Stuck.h (A := ExtF _ _ _ _) ?_) | (with_reducible refine Stuck.h (A := Chk _ _) ?_) | (with_reducible refine Stuck.h (A := False) ?_))
  · have : n.toNat = 0 := by omega
    rw [this, Nat.pow_zero, Nat.mul_one]
    exact ⟨ret_own rfl rfl⟩
  · have : X = 0 := (lenB_eq_zero (B := 4294967296) (by decide)).1 (by unfold L32 at hlen; omega)
    subst this
    rw [Nat.zero_mul]
    exact ⟨ret_own rfl rfl⟩
  · rw [← shl_val X n (by omega)]
    exact ⟨ret_own rfl rfl⟩
theorem r_shl (X : Nat) (n : Int) (hX : L32 X ≤ 536870912) (hn : inR .i64 n) (hn2 : n ≤ 8589934592) : FC Tryd.prog G 67 [D X, .val (.int .i64 n)] (· = D (X * 2 ^ n.toNat)) := Own.fc (m_shl X n hX hn hn2)
theorem r_shr (X : Nat) (n : Int) (hX : L32 X ≤ 536870912) (hn : inR .i64 n) : FC Tryd.prog G 63 [D X, .val (.int .i64 n)] (· = D (X / 2 ^ n.toNat)) := by
  dsimp only [inR] at hn
  have hlen : (d32 X).length = L32 X := rfl
  have hw := pw32 (n := (n % 32).toNat) (by omega)
  have hY : L32 (X / 2 ^ (32 * (n / 32).toNat)) ≤ L32 X := lenB_mono (by decide) (Nat.div_le_self _ _)
  have hd := r_divs (G := G) (X / 2 ^ (32 * (n / 32).toNat)) (2 ^ (n % 32).toNat) (by omega) hw
  unfold D at hd
  rw [← d32_drop] at hd
  refine FC.intro (X := XX) tok Tryd.func63 rfl Tryd.ntmps63 (by rw [Tryd.results63]) (by kernel_rfl) rfl ?_; intro F hG hO
  rw [← hG] at hd
  repeat' ((try (conv => whnf)); first
  | (with_reducible refine shl1_g (.inl rfl) (by dsimp only [IntKind.bits]; omega) ?_)
  | ((with_reducible refine cg ?_); refine call_eq (r_normN X (by omega)) (LpL.refl _) rfl ?_)
  | ((with_reducible refine cg ?_); refine call_eq (r_word 0 (by decide)) (LpL.refl _) rfl ?_)
  | ((with_reducible refine cg ?_); refine call_eq hd (LpL.refl _) rfl ?_)
  
  | (with_reducible refine draw_g (id := 5) [[0, 1, 2, 3, 4, 5, 6, 7, 8, 9, 10, 11, 12]] tok mixed (by kernel_rfl) ?_)
  | (with_reducible refine Chk.mk' (by first | omega | exact trivial | (simp only [List.length_append, List.length_set, List.length_replicate, List.length_take, List.length_drop, List.length_cons, List.length_nil, List.length_map]; omega)) ?_)
  | (with_reducible refine wrap_g (by dsimp only [inR]; omega) ?_)
  | (with_reducible refine idx_g (by omega) ?_)
  | (with_reducible refine idx_l _ rfl (by decide) ?_)
  | (with_reducible refine fork_tt ?_) | (with_reducible refine fork_ff ?_)
  | (with_reducible refine fork_t (by omega) ?_) | (with_reducible refine fork_f (by omega) ?_)
  | (with_reducible refine fork_d ?_ ?_ <;> intro hc)
  | (with_reducible refine fork_n ?_)
  | (with_reducible refine fork_b ?_ ?_ <;> intro hc)
  | (with_reducible refine SlcG.mk (by omega) ?_)
  | (with_reducible refine MakG.mk (by dsimp only; omega) ?_)
  | (with_reducible refine AppG.mk (by first | omega | (simp only [List.length_append, List.length_set, List.length_replicate, List.length_take, List.length_drop, List.length_cons, List.length_nil, List.length_map]; omega)) (by dsimp only [List.length_cons, List.length_nil]; omega) (by omega) ?_)
  | (with_reducible refine div_g (by omega) (by omega) (by dsimp only [inR]; omega) ?_)
  | (with_reducible refine mod_g (by omega) (by omega) ?_)
  | (with_reducible refine mask_g (m := 4294967296) 32 rfl rfl (by decide) (by omega) ?_)
  | (with_reducible refine shr_g (m := 4294967296) 32 rfl (by decide) (by omega) rfl ?_)
  | (with_reducible refine fz_all (by omega) ?_)
  | (with_reducible refine Stuck.h (A := RetE _ _) ?_) | (with_reducible refine Stuck.h (A := RetM _ _ _ _) ?_) | (with_reducible refine Stuck.h (A := Again _ _ _ _ _ _ _ _) ?_) | (with_reducible refine Stuck.h (A := CallF _ _ _ _ _ _ _) ?_) | (with_reducible refine Stuck.h (A := LoopG _ _ _ _ _ _ _ _) ?_) | (with_reducible refine Stuck.h (A := DrawG _ _ _ _ _ _ _ _) ?_)
  | (with_reducible refine Stuck.h (A := WrapG _ _ _) ?_) | (with_reducible refine Stuck.h (A := DivG _ _ _ _) ?_) | (with_reducible refine Stuck.h (A := ModG _ _ _) ?_) | (with_reducible refine Stuck.h (A := ShlG _ _ _ _) ?_) | (with_reducible refine Stuck.h (A := ShrG _ _ _ _) ?_) | (with_reducible refine Stuck.h (A := BitG _ _ _ _ _) ?_)
  | (with_reducible refine Stuck.h (A := IdxG _ _ _) ?_) | (with_reducible refine Stuck.h (A := IdxL _ _ _) ?_) | (with_reducible refine Stuck.h (A := SlcG _ _ _ _ _) ?_) | (with_reducible refine Stuck.h (A := MakG _ _ _ _) ?_) | (with_reducible refine Stuck.h (A := AppG _ _ _ _ _ _ _) ?_) | (with_reducible refine Stuck.h (A := FzG _ _ _ _) ?_)
  | (with_reducible refine Stuck.h (A := RawG _) ?_) | (with_reducible refine Stuck.h (A := TabG _ _ _ _ _) ?_) | (with_reducible refine Stuck.h (A := ExtF _ _ _ _) ?_) | (with_reducible refine Stuck.h (A := Chk _ _) ?_) | (with_reducible refine Stuck.h (A := False) ?_))
  · have : n.toNat = 0 := by omega
    exact ⟨ret_e (by rw [this, Nat.pow_zero, Nat.div_one]; rfl)⟩
  · refine ⟨ret_e ?_⟩
    have h1 := L32_lt X
    have h2 : X < 2 ^ n.toNat := Nat.lt_of_lt_of_le h1 (Nat.pow_le_pow_right (by decide) (by omega))
    rw [Nat.div_eq_of_lt h2]; rfl
  · refine ⟨ret_e ?_⟩
    show D _ = D _
    congr 1
    have h3 : ((2 : Int) ^ (n % 32).toNat) = ((2 ^ (n % 32).toNat : Nat) : Int) := by simp
    rw [h3, ← Int.natCast_ediv, Int.toNat_natCast, Nat.div_div_eq_div_mul, ← Nat.pow_add]
    congr 2; omega
theorem r_bits (X : Nat) (hX : L32 X ≤ 536870912) : FC Tryd.prog G 88 [D X] (· = .val (.int .i64 (bl X : Int))) := by
  have hlen : (d32 X).length = L32 X := rfl
  obtain ⟨T, hT⟩ : ∃ T : Nat, T = X / 2 ^ (32 * (L32 X - 1)) % 4294967296 := ⟨_, rfl⟩
  have hT2 : T < 4294967296 := by rw [hT]; exact Nat.mod_lt _ (by decide)
  have hrd : 0 < L32 X → rd (d32 X) ((L32 X : Int) - 1) = (T : Int) := fun h => by
    have := d32_rd X (L32 X - 1)
    rw [← hT] at this
    rw [← this]; congr 1; omega
  refine FC.intro (X := XX) tok Tryd.func88 rfl Tryd.ntmps88 (by rw [Tryd.results88]) (by kernel_rfl) rfl ?_; intro F hG hO
  repeat' ((try (conv => whnf)); first
  | ((with_reducible refine lg ?_); rw [hlen, hrd (by omega)]; refine loop_g (A := Nat) (fun k => k ≤ 32 ∧ (k = 0 ∨ 2 ^ (k - 1) ≤ T)) (fun k => 32 - k) (fun k => [(3, .val (.int .i64 (32 * ((L32 X : Int) - 1) + (k : Int)))), (4, .val (.int .u32 ((T / 2 ^ k : Nat) : Int)))]) (fun _ => []) (fun _ => []) 0 tok (fun _ => ⟨⟨trivial, trivial, trivial⟩, trivial, by simp only [List.length_nil]; omega⟩) ?_ ⟨iv_eq (by omega), iv_eq (by simp), trivial⟩ ⟨[], rfl⟩ ⟨[], rfl⟩ ?_; rotate_left; rintro k ⟨h1, h2⟩; have hk : T / 2 ^ k ≤ T := Nat.div_le_self _ _)
  
  | (with_reducible refine Chk.mk' (by first | omega | exact trivial | (simp only [List.length_append, List.length_set, List.length_replicate, List.length_take, List.length_drop, List.length_cons, List.length_nil, List.length_map]; omega)) ?_)
  | (with_reducible refine wrap_g (by dsimp only [inR]; omega) ?_)
  | (with_reducible refine idx_g (by omega) ?_)
  | (with_reducible refine idx_l _ rfl (by decide) ?_)
  | (with_reducible refine fork_tt ?_) | (with_reducible refine fork_ff ?_)
  | (with_reducible refine fork_t (by omega) ?_) | (with_reducible refine fork_f (by omega) ?_)
  | (with_reducible refine fork_d ?_ ?_ <;> intro hc)
  | (with_reducible refine fork_n ?_)
  | (with_reducible refine fork_b ?_ ?_ <;> intro hc)
  | (with_reducible refine SlcG.mk (by omega) ?_)
  | (with_reducible refine MakG.mk (by dsimp only; omega) ?_)
  | (with_reducible refine AppG.mk (by first | omega | (simp only [List.length_append, List.length_set, List.length_replicate, List.length_take, List.length_drop, List.length_cons, List.length_nil, List.length_map]; omega)) (by dsimp only [List.length_cons, List.length_nil]; omega) (by omega) ?_)
  | (with_reducible refine div_g (by omega) (by omega) (by dsimp only [inR]; omega) ?_)
  | (with_reducible refine mod_g (by omega) (by omega) ?_)
  | (with_reducible refine mask_g (m := 4294967296) 32 rfl rfl (by decide) (by omega) ?_)
  | (with_reducible refine shr_g (m := 4294967296) 32 rfl (by decide) (by omega) rfl ?_)
  | (with_reducible refine fz_all (by omega) ?_)
  | (with_reducible refine Stuck.h (A := RetE _ _) ?_) | (with_reducible refine Stuck.h (A := RetM _ _ _ _) ?_) | (with_reducible refine Stuck.h (A := Again _ _ _ _ _ _ _ _) ?_) | (with_reducible refine Stuck.h (A := CallF _ _ _ _ _ _ _) ?_) | (with_reducible refine Stuck.h (A := LoopG _ _ _ _ _ _ _ _) ?_) | (with_reducible refine Stuck.h (A := DrawG _ _ _ _ _ _ _ _) ?_)
  | (with_reducible refine Stuck.h (A := WrapG _ _ _) ?_) | (with_reducible refine Stuck.h (A := DivG _ _ _ _) ?_) | (with_reducible refine Stuck.h (A := ModG _ _ _) ?_) | (with_reducible refine Stuck.h (A := ShlG _ _ _ _) ?_) | (with_reducible refine Stuck.h (A := ShrG _ _ _ _) ?_) | (with_reducible refine Stuck.h (A := BitG _ _ _ _ _) ?_)
  | (with_reducible refine Stuck.h (A := IdxG _ _ _) ?_) | (with_reducible refine Stuck.h (A := IdxL _ _ _) ?_) | (with_reducible refine Stuck.h (A := SlcG _ _ _ _ _) ?_) | (with_reducible refine Stuck.h (A := MakG _ _ _ _) ?_) | (with_reducible refine Stuck.h (A := AppG _ _ _ _ _ _ _) ?_) | (with_reducible refine Stuck.h (A := FzG _ _ _ _) ?_)
  | (with_reducible refine Stuck.h (A := RawG _) ?_) | (with_reducible refine Stuck.h (A := TabG _ _ _ _ _) ?_) | (with_reducible refine Stuck.h (A := ExtF _ _ _ _) ?_) | (with_reducible refine Stuck.h (A := Chk _ _) ?_) | (with_reducible refine Stuck.h (A := False) ?_))
  · have : X = 0 := (lenB_eq_zero (B := 4294967296) (by decide)).1 (by unfold L32 at hlen; omega)
    subst this
    exact ⟨ret_e rfl⟩
  · have h3 : 2 ^ k ≤ T := by
      rcases Nat.lt_or_ge T (2 ^ k) with h | h
      · rw [Nat.div_eq_of_lt h] at hc; omega
      · exact h
    have h4 : k < 32 := by
      rcases Nat.lt_or_ge k 32 with h | h
      · exact h
      · have : 2 ^ 32 ≤ 2 ^ k := Nat.pow_le_pow_right (by decide) h
        omega
    refine ⟨again (k + 1) ⟨by omega, .inr (by simpa using h3)⟩ (by omega) ⟨iv_eq (by omega), iv_eq ?_, trivial⟩ ⟨[], rfl⟩ ⟨[], rfl⟩⟩
    rw [Nat.pow_succ, ← Nat.div_div_eq_div_mul]; omega
  · have hX0 : X ≠ 0 := fun h => by subst h; rw [L32, lenB_zero] at hlen; omega
    obtain ⟨t1, t2⟩ := top32 hX0
    have hT' : T = X / 2 ^ (32 * (L32 X - 1)) := by rw [hT]; exact Nat.mod_eq_of_lt t1
    have hp : 0 < 2 ^ k := Nat.pow_pos (by decide)
    have hlt : T < 2 ^ k := by
      rcases Nat.lt_or_ge T (2 ^ k) with h | h
      · exact h
      · have := Nat.div_pos h hp; omega
    have hb : bl X = 32 * (L32 X - 1) + k := by rw [bl_top X _ t2, ← hT', bl_eq hlt h2]
    refine ⟨ret_e (iv_eq ?_)⟩
    rw [hb]
    have := lenB_pos (B := 4294967296) (by decide) hX0
    omega
  · exact ⟨by omega, .inl rfl⟩
theorem r_bit (X : Nat) (i : Int) (hX : L32 X ≤ 536870912) (hi : inR .i64 i) : FC Tryd.prog G 146 [D X, .val (.int .i64 i)] (· = .val (.int .i64 (if i < 0 then 0 else ((X / 2 ^ i.toNat % 2 : Nat) : Int)))) := by
  dsimp only [inR] at hi
  have hlen : (d32 X).length = L32 X := rfl
  obtain ⟨T, hT⟩ : ∃ T : Nat, T = X / 2 ^ (32 * (i / 32).toNat) % 4294967296 := ⟨_, rfl⟩
  have hrd : 0 ≤ i → rd (d32 X) (i / 32) = (T : Int) := fun h => by
    have := d32_rd X (i / 32).toNat
    rw [← hT] at this
    rw [← this]; congr 1; omega
  have hb := rd_bd (by decide) (d32_ok X).1 (i / 32)
  have hb2 : 0 ≤ rd (d32 X) (i / 32) / 2 ^ (i % 32).toNat ∧ rd (d32 X) (i / 32) / 2 ^ (i % 32).toNat < 4294967296 := by
    refine ⟨Int.ediv_nonneg hb.1 (by exact_mod_cast Nat.zero_le _), ?_⟩
    have := Int.ediv_le_self (2 ^ (i % 32).toNat) hb.1
    omega
  refine FC.intro (X := XX) tok Tryd.func146 rfl Tryd.ntmps146 (by rw [Tryd.results146]) (by kernel_rfl) rfl ?_; intro F hG hO
  repeat' ((try (conv => whnf)); first
  | (with_reducible refine shr_p (by omega) (by dsimp only [IntKind.bits]; omega) ?_)
  | (with_reducible refine mask32_g (m := 2) 1 rfl rfl (by decide) (by omega) ?_)
  
  | (with_reducible refine Chk.mk' (by first | omega | exact trivial | (simp only [List.length_append, List.length_set, List.length_replicate, List.length_take, List.length_drop, List.length_cons, List.length_nil, List.length_map]; omega)) ?_)
  | (with_reducible refine wrap_g (by dsimp only [inR]; omega) ?_)
  | (with_reducible refine idx_g (by omega) ?_)
  | (with_reducible refine idx_l _ rfl (by decide) ?_)
  | (with_reducible refine fork_tt ?_) | (with_reducible refine fork_ff ?_)
  | (with_reducible refine fork_t (by omega) ?_) | (with_reducible refine fork_f (by omega) ?_)
  | (with_reducible refine fork_d ?_ ?_ <;> intro hc)
  | (with_reducible refine fork_n ?_)
  | (with_reducible refine fork_b ?_ ?_ <;> intro hc)
  | (with_reducible refine SlcG.mk (by omega) ?_)
  | (with_reducible refine MakG.mk (by dsimp only; omega) ?_)
  | (with_reducible refine AppG.mk (by first | omega | (simp only [List.length_append, List.length_set, List.length_replicate, List.length_take, List.length_drop, List.length_cons, List.length_nil, List.length_map]; omega)) (by dsimp only [List.length_cons, List.length_nil]; omega) (by omega) ?_)
  | (with_reducible refine div_g (by omega) (by omega) (by dsimp only [inR]; omega) ?_)
  | (with_reducible refine mod_g (by omega) (by omega) ?_)
  | (with_reducible refine mask_g (m := 4294967296) 32 rfl rfl (by decide) (by omega) ?_)
  | (with_reducible refine shr_g (m := 4294967296) 32 rfl (by decide) (by omega) rfl ?_)
  | (with_reducible refine fz_all (by omega) ?_)
  | (with_reducible refine Stuck.h (A := RetE _ _) ?_) | (with_reducible refine Stuck.h (A := RetM _ _ _ _) ?_) | (with_reducible refine Stuck.h (A := Again _ _ _ _ _ _ _ _) ?_) | (with_reducible refine Stuck.h (A := CallF _ _ _ _ _ _ _) ?_) | (with_reducible refine Stuck.h (A := LoopG _ _ _ _ _ _ _ _) ?_) | (with_reducible refine Stuck.h (A := DrawG _ _ _ _ _ _ _ _) ?_)
  | (with_reducible refine Stuck.h (A := WrapG _ _ _) ?_) | (with_reducible refine Stuck.h (A := DivG _ _ _ _) ?_) | (with_reducible refine Stuck.h (A := ModG _ _ _) ?_) | (with_reducible refine Stuck.h (A := ShlG _ _ _ _) ?_) | (with_reducible refine Stuck.h (A := ShrG _ _ _ _) ?_) | (with_reducible refine Stuck.h (A := BitG _ _ _ _ _) ?_)
  | (with_reducible refine Stuck.h (A := IdxG _ _ _) ?_) | (with_reducible refine Stuck.h (A := IdxL _ _ _) ?_) | (with_reducible refine Stuck.h (A := SlcG _ _ _ _ _) ?_) | (with_reducible refine Stuck.h (A := MakG _ _ _ _) ?_) | (with_reducible refine Stuck.h (A := AppG _ _ _ _ _ _ _) ?_) | (with_reducible refine Stuck.h (A := FzG _ _ _ _) ?_)
  | (with_reducible refine Stuck.h (A := RawG _) ?_) | (with_reducible refine Stuck.h (A := TabG _ _ _ _ _) ?_) | (with_reducible refine Stuck.h (A := ExtF _ _ _ _) ?_) | (with_reducible refine Stuck.h (A := Chk _ _) ?_) | (with_reducible refine Stuck.h (A := False) ?_))
  · exact ⟨ret_e (by rw [if_pos hc])⟩
  · refine ⟨ret_e ?_⟩
    have h1 := L32_lt X
    have h2 : X < 2 ^ i.toNat := Nat.lt_of_lt_of_le h1 (Nat.pow_le_pow_right (by decide) (by omega))
    rw [if_neg (by assumption), Nat.div_eq_of_lt h2]; rfl
  · refine ⟨ret_e (iv_eq ?_)⟩
    have h4 : ¬ i < 0 := by assumption
    rw [if_neg h4, hrd (by omega), hT]
    have h3 : ((2 : Int) ^ (i % 32).toNat) = ((2 ^ (i % 32).toNat : Nat) : Int) := by simp
    rw [h3]
    have := bit_in X (32 * (i / 32).toNat) (i % 32).toNat 32 (by omega)
    rw [show 32 * (i / 32).toNat + (i % 32).toNat = i.toNat by omega] at this
    rw [← this]
    simp
end Go.Proofs.YtlbnlalkimnhdaaDoor.Sim
