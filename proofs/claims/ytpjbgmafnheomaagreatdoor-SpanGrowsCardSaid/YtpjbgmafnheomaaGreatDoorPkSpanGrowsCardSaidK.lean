/-
  What the statement SpanGrowsCardSaid leans on, part 11: the logic of walks, digits, contracts of the functions, the plain law. Conditions stand in each theorem.
-/
import Derived.Test.YtpjbgmafnheomaaGreatDoorPkSpanGrowsCardSaidJ
namespace Go.Proofs.YtpjbgmafnheomaaGreatDoor.Sim
open Go.RowKit
set_option linter.unusedVariables false
set_option linter.unusedSimpArgs false
set_option maxRecDepth 10000
set_option maxHeartbeats 8000000
variable {G : List (Nat × List Value)}
theorem kara (x0 x1 y0 y1 P : Nat) : (x0 + P * x1) * (y0 + P * y1) = x0 * y0 + P * (x0 * y1 + x1 * y0) + P * P * (x1 * y1) ∧ (x0 + x1) * (y0 + y1) = x0 * y0 + x1 * y1 + (x0 * y1 + x1 * y0) := by
  constructor
  · rw [Nat.add_mul, Nat.mul_add, Nat.mul_add, Nat.mul_add]
    have e1 : x0 * (P * y1) = P * (x0 * y1) := Nat.mul_left_comm _ _ _
    have e2 : P * x1 * y0 = P * (x1 * y0) := Nat.mul_assoc _ _ _
    have e3 : P * x1 * (P * y1) = P * P * (x1 * y1) := Nat.mul_mul_mul_comm _ _ _ _
    rw [e1, e2, e3]
    omega
  · rw [Nat.add_mul, Nat.mul_add, Nat.mul_add]
    omega
theorem call_row {F : Fr} {N : Nat} {t : Nat → PV} {bx : List (List PV)} {ob : List (Option Row)} {f : FuncId} {args : List PV} {n n2 V m : Nat} {K : St → PV → Prop} (h : PM Tryz.prog F.G f args [] (fun r rs => r = .arr 0 0 n ∧ RowOf n2 V rs)) (hok : okAL 0 args = true) (hre : renL [] ob.length args = args) (hm : ob.length = m)
    (hK : ∀ c : List Int, c.length = n2 → okD 18446744073709551616 c → vl 18446744073709551616 c = (V : Int) → K ⟨N, t, bx, ob ++ [some ⟨1, 82, .w .u64 c⟩]⟩ (.arr m 0 n)) : CallF Tryz.prog F false f args ⟨N, t, bx, ob⟩ K :=
  call_pm [] h hre hok rfl List.nodup_nil (by rintro r rs ⟨rfl, c, c1, c2, c3, rfl⟩; subst hm; simpa [putR, ren, renI] using hK c c1 c2 c3)
theorem vL_bar {F : Fr} {TT : List TI} {X : List FuncId} {all : List Oper} {l : List (Oper × Md)} {s : St} {K : St → Prop} (h : ∀ K' : St → Prop, K' = K → vL Tryz.prog F TT X all l s K') : vL Tryz.prog F TT X all l s K := h K rfl
theorem vC_bar {F : Fr} {TT : List TI} {X : List FuncId} {a b : Code} {kn kr : St → Prop} {kx : Nat → St → Prop} {s : St} (h : ∀ K1 : St → Prop, K1 = vC Tryz.prog F TT X b kn kr kx → vC Tryz.prog F TT X a K1 kr kx s) : vC Tryz.prog F TT X (a.seq b) kn kr kx s := h _ rfl
theorem len_room {V t n : Nat} (h : 2 ^ (64 * t) * V < 2 ^ (64 * n)) (ht : t ≤ n) : t + L64 V ≤ n := by
  have e : 2 ^ (64 * n) = 2 ^ (64 * t) * 2 ^ (64 * (n - t)) := by rw [← Nat.pow_add]; congr 1; omega
  rw [e] at h
  have h2 := Nat.lt_of_mul_lt_mul_left h
  have := L64_le h2
  omega
theorem take_trim {c : List Int} {m : Nat} {V : Nat} (h : trim (c.take m) = d64 V) : c.take (trim (c.take m)).length = d64 V := by
  have h1 := trim_pre (c.take m)
  rw [List.take_take, h] at h1
  have h2 : (d64 V).length ≤ m := by
    have := congrArg List.length (trim_pre (c.take m))
    rw [h, List.length_take, List.length_take] at this
    omega
  rw [Nat.min_eq_left h2] at h1
  rw [h]; exact h1
theorem L64_add (x y : Nat) : L64 (x + y) ≤ max (L64 x) (L64 y) + 1 := lenB_add (by decide) x y
theorem copy_row (l : List Int) (n : Nat) (h : l.length ≤ n) : (List.replicate n (0 : Int)).take 0 ++ l.take n ++ (List.replicate n (0 : Int)).drop (0 + min n l.length) = l ++ List.replicate (n - l.length) 0 := by
  rw [List.take_zero, List.nil_append, List.take_of_length_le (by omega), show 0 + min n l.length = l.length by omega, List.drop_replicate]
theorem pad_ok {V n : Nat} (h : L64 V ≤ n) : (d64 V ++ List.replicate (n - L64 V) (0 : Int)).length = n ∧ okD 18446744073709551616 (d64 V ++ List.replicate (n - L64 V) 0) ∧ vl 18446744073709551616 (d64 V ++ List.replicate (n - L64 V) 0) = (V : Int) := by
  refine ⟨by rw [List.length_append, List.length_replicate, d64_len]; omega, okD_append.2 ⟨(d64_ok V).1, fun x hx => by rw [List.eq_of_mem_replicate hx]; decide⟩, by rw [vl_append, vl_zero, Int.mul_zero, Int.add_zero, vl_d64i]⟩
theorem m_thirds (X Y : Nat) (ih : ∀ X' Y' : Nat, L64 X' + L64 Y' < L64 X + L64 Y → ProdOk G X' Y') (hb : 40 ≤ L64 Y) (hge : L64 Y ≤ L64 X) (hX : L64 X ≤ 536870912) :
    PM Tryz.prog G 217 [.arr 0 0 (L64 X + L64 Y), .ws .u64 (d64 X), .ws .u64 (d64 Y)] [⟨1, 82, .w .u64 (List.replicate (L64 X + L64 Y) 0)⟩] (fun r rs => r = .tup [] ∧ RowOf (L64 X + L64 Y) (X * Y) rs) := by
  have l1 : (d64 X).length = L64 X := rfl
  have l2 : (d64 Y).length = L64 Y := rfl
  obtain ⟨n, hn⟩ : ∃ n, n = L64 X + L64 Y := ⟨_, rfl⟩
  obtain ⟨k, hk⟩ : ∃ k, k = (L64 X + 1) / 2 := ⟨_, rfl⟩
  have g1 := m_cut (G := G) X k (by omega) (by omega)
  have g2 := m_cut (G := G) Y k (by omega) (by omega)
  obtain ⟨P, hP⟩ : ∃ P, P = 2 ^ (64 * k) := ⟨_, rfl⟩
  rw [← hP] at g1 g2
  have hPp : 0 < P := by rw [hP]; exact Nat.pow_pos (by decide)
  have ex := nat_dm X P hPp
  have ey := nat_dm Y P hPp
  have hx0 : L64 (X % P) ≤ k := L64_le (by rw [hP]; exact Nat.mod_lt _ (Nat.pow_pos (by decide)))
  have hy0 : L64 (Y % P) ≤ k := L64_le (by rw [hP]; exact Nat.mod_lt _ (Nat.pow_pos (by decide)))
  have hx1 : L64 (X / P) ≤ L64 X - k := by
    have h := congrArg List.length (d64_hi X k)
    rw [List.length_drop, ← hP] at h
    exact Nat.le_of_eq h.symm
  have hy1 : L64 (Y / P) ≤ L64 Y - k := by
    have h := congrArg List.length (d64_hi Y k)
    rw [List.length_drop, ← hP] at h
    exact Nat.le_of_eq h.symm
  obtain ⟨x0, ex0⟩ : ∃ x0, x0 = X % P := ⟨_, rfl⟩
  obtain ⟨x1, ex1⟩ : ∃ x1, x1 = X / P := ⟨_, rfl⟩
  obtain ⟨y0, ey0⟩ : ∃ y0, y0 = Y % P := ⟨_, rfl⟩
  obtain ⟨y1, ey1⟩ : ∃ y1, y1 = Y / P := ⟨_, rfl⟩
  rw [← ex0] at g1 ex hx0
  rw [← ex1] at g1 ex hx1
  rw [← ey0] at g2 ey hy0
  rw [← ey1] at g2 ey hy1
  have sx : L64 (x0 + x1) ≤ k + 1 := Nat.le_trans (L64_add x0 x1) (by clear ex ey ex0 ex1 ey0 ey1; omega)
  have sy : L64 (y0 + y1) ≤ k + 1 := Nat.le_trans (L64_add y0 y1) (by clear ex ey ex0 ex1 ey0 ey1; omega)
  have g3 := m_sum (G := G) x0 x1 (by omega) (by omega)
  have g4 := m_sum (G := G) y0 y1 (by omega) (by omega)
  have g5 := (ih x0 y0 (by omega)).fc
  have g6 := (ih x1 y1 (by omega)).fc
  have g7 := ih (x0 + x1) (y0 + y1) (by omega)
  obtain ⟨kar1, kar2⟩ := kara x0 x1 y0 y1 P
  obtain ⟨low, elow⟩ : ∃ v, v = x0 * y0 := ⟨_, rfl⟩
  obtain ⟨high, ehigh⟩ : ∃ v, v = x1 * y1 := ⟨_, rfl⟩
  obtain ⟨mid, emid⟩ : ∃ v, v = x0 * y1 + x1 * y0 := ⟨_, rfl⟩
  rw [← elow, ← ehigh, ← emid] at kar1 kar2
  have hXY : X * Y = low + P * mid + P * P * high := by
    rw [← kar1]
    congr 1 <;> omega
  clear kar1
  rw [← elow] at g5
  rw [← ehigh] at g6
  unfold ProdOk at g7
  rw [kar2] at g7
  obtain ⟨M, eM⟩ : ∃ M, M = low + high + mid := ⟨_, rfl⟩
  rw [← eM] at g7
  obtain ⟨m, hm⟩ : ∃ m, m = L64 M := ⟨_, rfl⟩
  obtain ⟨n2, hn2⟩ : ∃ n2, n2 = L64 (x0 + x1) + L64 (y0 + y1) := ⟨_, rfl⟩
  rw [← hm, ← hn2] at g7
  obtain ⟨a, ha⟩ : ∃ a, a = d64 X := ⟨_, rfl⟩
  obtain ⟨b, hb2⟩ : ∃ b, b = d64 Y := ⟨_, rfl⟩
  rw [← ha] at l1 g1
  rw [← hb2] at l2 g2
  rw [← ha, ← hb2, ← hn]
  obtain ⟨dX0, hdX0⟩ : ∃ d, d = d64 x0 := ⟨_, rfl⟩
  rw [← hdX0] at g1 g3 g5
  obtain ⟨dX1, hdX1⟩ : ∃ d, d = d64 x1 := ⟨_, rfl⟩
  rw [← hdX1] at g1 g3 g6
  obtain ⟨dY0, hdY0⟩ : ∃ d, d = d64 y0 := ⟨_, rfl⟩
  rw [← hdY0] at g2 g4 g5
  obtain ⟨dY1, hdY1⟩ : ∃ d, d = d64 y1 := ⟨_, rfl⟩
  rw [← hdY1] at g2 g4 g6
  obtain ⟨dSx, hdSx⟩ : ∃ d, d = d64 (x0 + x1) := ⟨_, rfl⟩
  rw [← hdSx] at g3 g7
  obtain ⟨dSy, hdSy⟩ : ∃ d, d = d64 (y0 + y1) := ⟨_, rfl⟩
  rw [← hdSy] at g4 g7
  obtain ⟨dL, hdL⟩ : ∃ d, d = d64 low := ⟨_, rfl⟩
  rw [← hdL] at g5
  obtain ⟨dH, hdH⟩ : ∃ d, d = d64 high := ⟨_, rfl⟩
  rw [← hdH] at g6
  have okL : okD 18446744073709551616 dL := by rw [hdL]; exact (d64_ok low).1
  have okH : okD 18446744073709551616 dH := by rw [hdH]; exact (d64_ok high).1
  have vL0 : vl 18446744073709551616 dL = (low : Int) := by rw [hdL]; exact (d64_ok low).2
  have vH0 : vl 18446744073709551616 dH = (high : Int) := by rw [hdH]; exact (d64_ok high).2
  have lL : dL.length = L64 low := by rw [hdL]; rfl
  have lH : dH.length = L64 high := by rw [hdH]; rfl
  have mL : L64 low ≤ m := by rw [hm]; exact L64_mono (by omega)
  have mH : L64 high ≤ m := by rw [hm]; exact L64_mono (by omega)
  have mM : L64 mid ≤ m := by rw [hm]; exact L64_mono (by omega)
  have hlt : X * Y < 2 ^ (64 * n) := by
    rw [hn, Nat.mul_add, Nat.pow_add]
    exact Nat.mul_lt_mul'' (L64_lt X) (L64_lt Y)
  have rM : k + L64 mid ≤ n := len_room (by rw [← hP]; exact Nat.lt_of_le_of_lt (by omega) hlt) (by omega)
  have e2k : 2 ^ (64 * (2 * k)) = P * P := by rw [hP, ← Nat.pow_add]; congr 1; omega
  have rH : 2 * k + L64 high ≤ n := len_room (by rw [e2k]; exact Nat.lt_of_le_of_lt (by omega) hlt) (by omega)
  have iN : ((X * Y : Nat) : Int) < 18446744073709551616 ^ n := by rw [pow64i]; exact Int.ofNat_lt.2 hlt
  have iK : (18446744073709551616 : Int) ^ k = (P : Int) := by rw [pow64i, ← hP]
  have i2K : (18446744073709551616 : Int) ^ (2 * k) = ((P * P : Nat) : Int) := by rw [pow64i, e2k]
  have iXY : ((X * Y : Nat) : Int) = (low : Int) + ((P * mid : Nat) : Int) + ((P * P * high : Nat) : Int) := by rw [hXY]; omega
  have hLn : dL.length ≤ n := by
    have := L64_mul X Y
    have h2 : L64 low ≤ L64 (X * Y) := L64_mono (by omega)
    omega
  have hcp := copy_row dL n hLn
  obtain ⟨pL, hpL⟩ : ∃ p, p = dL ++ List.replicate (n - dL.length) (0 : Int) := ⟨_, rfl⟩
  rw [← hpL] at hcp
  have hpk := pad_ok (V := low) (n := n) (by omega)
  rw [← hdL, ← lL, ← hpL] at hpk
  obtain ⟨p1, p2, p3⟩ := hpk
  have n1 : vl 18446744073709551616 pL + 18446744073709551616 ^ k * vl 18446744073709551616 (d64 mid) = (low : Int) + ((P * mid : Nat) : Int) := by rw [p3, (d64_ok mid).2, iK, Int.natCast_mul]
  have room1 := add_room (t := k) (V := vl 18446744073709551616 (d64 mid)) p2 p1 (by omega) (by rw [n1]; omega)
  refine PM.intro (X := XX) tok Tryz.func217 rfl Tryz.ntmps217 (by rw [Tryz.results217]) (by kernel_rfl) rfl ?_; intro F hG hO; simp only [List.length_cons, List.length_nil, Nat.zero_add, Nat.reduceAdd] at hO
  rw [← hG] at g1 g2 g3 g4 g5 g6 g7
  repeat' ((try (conv => whnf)); first
  | ((with_reducible refine cg ?_); rw [show ((a.length : Int) + 1) / 2 = (k : Int) by omega]; refine call_eq g1 (LpL.refl _) rfl ?_)
  | ((with_reducible refine cg ?_); first | refine ceq g1 rfl ?_ | refine ceq g2 rfl ?_ | refine ceq g3 rfl ?_ | refine ceq g4 rfl ?_ | refine ceq g5 rfl ?_ | refine ceq g6 rfl ?_)
  | ((with_reducible refine cg ?_); refine call_row (m := 1) g7 rfl rfl rfl ?_; intro c c1 c2 c3; unfold vPut; simp only [show Nat.blt 42 62 = true from rfl]; refine vL_bar ?_; intro K hK; (conv => whnf); subst hK; refine vC_bar ?_; intro K1 hK1)
  | ((with_reducible refine cg ?_); have q1 := row_take c2 c3; rw [← hm] at q1; have q2 : vl 18446744073709551616 (c.take m) = (M : Int) := (by rw [q1.1]; exact (d64_ok M).2); refine call_pm [1] (m_takeaway c dL m c2 okL (by omega) q1.2 (by omega) (by omega)) rfl rfl rfl (by simp) ?_; rintro r rs ⟨rfl, c', d1, d2, d3, rfl⟩)
  | ((with_reducible refine cg ?_); refine call_pm [1] (m_takeaway c' dH m d2 okH (by omega) (by omega) (by omega) (by omega)) rfl rfl rfl (by simp) ?_; rintro r rs ⟨rfl, c'', f1, f2, f3, rfl⟩)
  | ((with_reducible refine cg ?_); refine call_pm [1] (m_trim c'' m (by omega) (by omega)) rfl rfl rfl (by simp) ?_; rintro r rs ⟨rfl, rfl⟩)
  | ((with_reducible refine cg ?_); rw [show 2 * (k : Int) = ((2 * k : Nat) : Int) by omega]; have n3 : vl 18446744073709551616 e + 18446744073709551616 ^ (2 * k) * vl 18446744073709551616 dH = ((X * Y : Nat) : Int) := (by rw [x3, n1, vH0, i2K, iXY, Int.natCast_mul (P * P) high]); have room2 := add_room (t := 2 * k) (V := vl 18446744073709551616 dH) x2 (show e.length = n by omega) (by omega) (by rw [n3]; exact iN); refine call_pm [0] (m_addat e dH (2 * k) n (by omega) x2 okH (by omega) (by omega) room2) rfl rfl rfl (by simp) ?_; rintro r rs ⟨rfl, z, z1, z2, z3, rfl⟩; rw [n3] at z3)
  | ((with_reducible refine cg ?_); have htm : trim (c''.take m) = d64 mid := trim_pos (f2.take m) (by rw [f3, d3, q2, vL0, vH0]; omega); refine call_fz 1 (q := 1) (A := c'') (B := d64 mid) rfl rfl (by rw [htm, d64_len]; omega) (by rw [List.drop_zero]; exact take_trim htm) (by omega) ?_; refine call_pm [0] (m_addat pL (d64 mid) k n p1 p2 (d64_ok mid).1 (by omega) (by rw [d64_len]; omega) room1) rfl rfl (congrArg (fun l => [some (some (⟨1, 82, .w .u64 l⟩ : Row))]) hcp) (by simp) ?_; rintro r rs ⟨rfl, e, x1, x2, x3, rfl⟩)
  | (subst hK1; refine vC_bar ?_; intro K1 hK1) | (subst hK1)
  
  | with_reducible first
    | refine Chk.mk' (by first | omega | exact trivial | (simp only [List.length_append, List.length_set, List.length_replicate, List.length_take, List.length_drop, List.length_cons, List.length_nil, List.length_map]; omega)) ?_
    | refine wrap_g (by dsimp only [inR]; omega) ?_
    | refine idx_g (by omega) ?_ | refine idx_l _ rfl (by decide) ?_ | refine BothG.mk ?_ ?_ | refine fork_tt ?_ | refine fork_ff ?_
    | (refine fork_e (c := true) (by decide) ?_; refine fork_tt ?_) | (refine fork_e (c := false) (by decide) ?_; refine fork_ff ?_)
    | refine fork_t (by omega) ?_ | refine fork_f (by omega) ?_ | (refine fork_d ?_ ?_ <;> intro hc) | refine fork_n ?_ | (refine fork_b ?_ ?_ <;> intro hc)
    | refine SlcG.mk (by omega) ?_ | refine MakG.mk (by dsimp only; omega) ?_
    | refine AppG.mk (by first | omega | (simp only [List.length_append, List.length_set, List.length_replicate, List.length_take, List.length_drop, List.length_cons, List.length_nil, List.length_map]; omega)) (by dsimp only [List.length_cons, List.length_nil]; omega) (by omega) ?_
    | refine div_g (by omega) (by omega) (by dsimp only [inR]; omega) ?_ | refine mod_g (by omega) (by omega) ?_
    | refine mask_g (m := 4294967296) 32 rfl rfl (by decide) (by omega) ?_ | refine shr_g (m := 4294967296) 32 rfl (by decide) (by omega) rfl ?_
    | refine fz_all (by omega) ?_ | (refine smk ?_ ?_; constructor))
  exact ⟨ret_m [0] (.tup []) [some ⟨1, 82, .w .u64 z⟩] rfl rfl (by simp) (fun i h => one_row h) rfl ⟨rfl, z, by omega, z2, z3, rfl⟩⟩
end Go.Proofs.YtpjbgmafnheomaaGreatDoor.Sim
namespace Go.Proofs.YtpjbgmafnheomaaGreatDoor.Sim
open Go.RowKit
set_option linter.unusedVariables false
set_option linter.unusedSimpArgs false
set_option maxRecDepth 10000
set_option maxHeartbeats 8000000
variable {G : List (Nat × List Value)}
theorem rows_row (X Y n : Nat) (hn : L64 X + L64 Y = n) (hX : L64 X ≤ 536870912) (hY : L64 Y ≤ 536870912) : PM Tryz.prog G 215 [.arr 0 0 n, .ws .u64 (d64 X), .ws .u64 (d64 Y)] [⟨1, 82, .w .u64 (List.replicate n 0)⟩] (fun r rs => r = .tup [] ∧ RowOf n (X * Y) rs) := by
  subst hn
  have h := m_rows (G := G) (d64 X) (d64 Y) (by rw [d64_len]; omega) (by rw [d64_len]; omega) (d64_ok X).1 (d64_ok Y).1
  rw [d64_len, d64_len] at h
  refine h.mono ?_
  rintro r rs ⟨rfl, c, h1, h2, h3, rfl⟩
  exact ⟨rfl, c, h1, h2, by rw [h3, vl_d64i, vl_d64i, Int.natCast_mul], rfl⟩
theorem fill_step (X Y : Nat) (ih : ∀ X' Y' : Nat, L64 X' + L64 Y' < L64 X + L64 Y → ProdOk G X' Y') (hX : L64 X ≤ 536870912) (hY : L64 Y ≤ 536870912) : FillOk G X Y := by
  unfold FillOk
  obtain ⟨n, hn⟩ : ∃ n, n = L64 X + L64 Y := ⟨_, rfl⟩
  have l1 : (d64 X).length = L64 X := rfl
  have l2 : (d64 Y).length = L64 Y := rfl
  by_cases hlt : L64 X < L64 Y
  · have r1 := rows_row (G := G) Y X n (by omega) hY hX
    have r2 := fun h1 h2 => m_slabs (G := G) Y X (fun X' Y' h => ih X' Y' (by omega)) h1 h2 hY
    have r3 := fun h1 => m_thirds (G := G) Y X (fun X' Y' h => ih X' Y' (by omega)) h1 (by omega) hY
    rw [show L64 Y + L64 X = n by omega] at r2 r3
    rw [Nat.mul_comm Y X] at r1 r2 r3
    obtain ⟨V, hV⟩ : ∃ V, V = X * Y := ⟨_, rfl⟩
    rw [← hV] at r1 r2 r3 ⊢
    rw [← hn]
    obtain ⟨a, ha⟩ : ∃ a, a = d64 X := ⟨_, rfl⟩
    obtain ⟨b, hb⟩ : ∃ b, b = d64 Y := ⟨_, rfl⟩
    rw [← ha, ← hb] at r1 r2 r3
    rw [← ha] at l1
    rw [← hb] at l2
    rw [← ha, ← hb]
    clear ih hV
    refine PM.intro (X := XX) tok Tryz.func205 rfl Tryz.ntmps205 (by rw [Tryz.results205]) (by kernel_rfl) rfl ?_; intro F hG hO; simp only [List.length_cons, List.length_nil, Nat.zero_add, Nat.reduceAdd] at hO
    rw [← hG] at r1 r2 r3
    repeat' ((try (conv => whnf)); first
  | ((with_reducible refine cg ?_); refine call_pm [0] r1 rfl rfl rfl (by simp) ?_; rintro r rs ⟨rfl, c, c1, c2, c3, rfl⟩)
  | ((with_reducible refine cg ?_); refine call_pm [0] (r2 (by omega) (by omega)) rfl rfl rfl (by simp) ?_; rintro r rs ⟨rfl, c, c1, c2, c3, rfl⟩)
  | ((with_reducible refine cg ?_); refine call_pm [0] (r3 (by omega)) rfl rfl rfl (by simp) ?_; rintro r rs ⟨rfl, c, c1, c2, c3, rfl⟩)
  
  | with_reducible first
    | refine Chk.mk' (by first | omega | exact trivial | (simp only [List.length_append, List.length_set, List.length_replicate, List.length_take, List.length_drop, List.length_cons, List.length_nil, List.length_map]; omega)) ?_
    | refine wrap_g (by dsimp only [inR]; omega) ?_
    | refine idx_g (by omega) ?_ | refine idx_l _ rfl (by decide) ?_ | refine BothG.mk ?_ ?_ | refine fork_tt ?_ | refine fork_ff ?_
    | (refine fork_e (c := true) (by decide) ?_; refine fork_tt ?_) | (refine fork_e (c := false) (by decide) ?_; refine fork_ff ?_)
    | refine fork_t (by omega) ?_ | refine fork_f (by omega) ?_ | (refine fork_d ?_ ?_ <;> intro hc) | refine fork_n ?_ | (refine fork_b ?_ ?_ <;> intro hc)
    | refine SlcG.mk (by omega) ?_ | refine MakG.mk (by dsimp only; omega) ?_
    | refine AppG.mk (by first | omega | (simp only [List.length_append, List.length_set, List.length_replicate, List.length_take, List.length_drop, List.length_cons, List.length_nil, List.length_map]; omega)) (by dsimp only [List.length_cons, List.length_nil]; omega) (by omega) ?_
    | refine div_g (by omega) (by omega) (by dsimp only [inR]; omega) ?_ | refine mod_g (by omega) (by omega) ?_
    | refine mask_g (m := 4294967296) 32 rfl rfl (by decide) (by omega) ?_ | refine shr_g (m := 4294967296) 32 rfl (by decide) (by omega) rfl ?_
    | refine fz_all (by omega) ?_ | (refine smk ?_ ?_; constructor))
    all_goals exact ⟨ret_m [0] (.tup []) [some ⟨1, 82, .w .u64 c⟩] rfl rfl (by simp) (fun i h => one_row h) rfl ⟨rfl, c, c1, c2, c3, rfl⟩⟩
  · have r1 := rows_row (G := G) X Y n (by omega) hX hY
    have r2 := fun h1 h2 => m_slabs (G := G) X Y ih h1 h2 hX
    have r3 := fun h1 => m_thirds (G := G) X Y ih h1 (by omega) hX
    rw [← hn] at r2 r3 ⊢
    obtain ⟨V, hV⟩ : ∃ V, V = X * Y := ⟨_, rfl⟩
    rw [← hV] at r1 r2 r3 ⊢
    obtain ⟨a, ha⟩ : ∃ a, a = d64 X := ⟨_, rfl⟩
    obtain ⟨b, hb⟩ : ∃ b, b = d64 Y := ⟨_, rfl⟩
    rw [← ha, ← hb] at r1 r2 r3
    rw [← ha] at l1
    rw [← hb] at l2
    rw [← ha, ← hb]
    clear ih hV
    refine PM.intro (X := XX) tok Tryz.func205 rfl Tryz.ntmps205 (by rw [Tryz.results205]) (by kernel_rfl) rfl ?_; intro F hG hO; simp only [List.length_cons, List.length_nil, Nat.zero_add, Nat.reduceAdd] at hO
    rw [← hG] at r1 r2 r3
    repeat' ((try (conv => whnf)); first
  | ((with_reducible refine cg ?_); refine call_pm [0] r1 rfl rfl rfl (by simp) ?_; rintro r rs ⟨rfl, c, c1, c2, c3, rfl⟩)
  | ((with_reducible refine cg ?_); refine call_pm [0] (r2 (by omega) (by omega)) rfl rfl rfl (by simp) ?_; rintro r rs ⟨rfl, c, c1, c2, c3, rfl⟩)
  | ((with_reducible refine cg ?_); refine call_pm [0] (r3 (by omega)) rfl rfl rfl (by simp) ?_; rintro r rs ⟨rfl, c, c1, c2, c3, rfl⟩)
  
  | with_reducible first
    | refine Chk.mk' (by first | omega | exact trivial | (simp only [List.length_append, List.length_set, List.length_replicate, List.length_take, List.length_drop, List.length_cons, List.length_nil, List.length_map]; omega)) ?_
    | refine wrap_g (by dsimp only [inR]; omega) ?_
    | refine idx_g (by omega) ?_ | refine idx_l _ rfl (by decide) ?_ | refine BothG.mk ?_ ?_ | refine fork_tt ?_ | refine fork_ff ?_
    | (refine fork_e (c := true) (by decide) ?_; refine fork_tt ?_) | (refine fork_e (c := false) (by decide) ?_; refine fork_ff ?_)
    | refine fork_t (by omega) ?_ | refine fork_f (by omega) ?_ | (refine fork_d ?_ ?_ <;> intro hc) | refine fork_n ?_ | (refine fork_b ?_ ?_ <;> intro hc)
    | refine SlcG.mk (by omega) ?_ | refine MakG.mk (by dsimp only; omega) ?_
    | refine AppG.mk (by first | omega | (simp only [List.length_append, List.length_set, List.length_replicate, List.length_take, List.length_drop, List.length_cons, List.length_nil, List.length_map]; omega)) (by dsimp only [List.length_cons, List.length_nil]; omega) (by omega) ?_
    | refine div_g (by omega) (by omega) (by dsimp only [inR]; omega) ?_ | refine mod_g (by omega) (by omega) ?_
    | refine mask_g (m := 4294967296) 32 rfl rfl (by decide) (by omega) ?_ | refine shr_g (m := 4294967296) 32 rfl (by decide) (by omega) rfl ?_
    | refine fz_all (by omega) ?_ | (refine smk ?_ ?_; constructor))
    all_goals exact ⟨ret_m [0] (.tup []) [some ⟨1, 82, .w .u64 c⟩] rfl rfl (by simp) (fun i h => one_row h) rfl ⟨rfl, c, c1, c2, c3, rfl⟩⟩
theorem prod_all : ∀ (m X Y : Nat), L64 X + L64 Y ≤ m → m ≤ 536870912 → ProdOk G X Y := by
  intro m
  induction m with
  | zero =>
    intro X Y h h2
    exact prod_of_fill (fill_step X Y (fun X' Y' h' => absurd h' (by omega)) (by omega) (by omega)) (by omega)
  | succ m ih =>
    intro X Y h h2
    exact prod_of_fill (fill_step X Y (fun X' Y' h' => ih X' Y' (by omega) (by omega)) (by omega) (by omega)) (by omega)
theorem m_product (X Y : Nat) (h : L64 X + L64 Y ≤ 536870912) : FC Tryz.prog G 184 [.ws .u64 (d64 X), .ws .u64 (d64 Y)] (· = .ws .u64 (d64 (X * Y))) := (prod_all _ X Y (Nat.le_refl _) h).fc
theorem m_told (X : Nat) (h : L64 X ≤ 536870912) : FC Tryz.prog G 183 [.ws .u64 (d64 X)] (· = natT X) := by
  have hl : (d64 X).length = L64 X := rfl
  refine FC.intro (X := XX) tok Tryz.func183 rfl Tryz.ntmps183 (by rw [Tryz.results183]) (by kernel_rfl) rfl ?_; intro F hG hO
  repeat' ((try (conv => whnf)); first
  
  | with_reducible first
    | refine Chk.mk' (by first | omega | exact trivial | (simp only [List.length_append, List.length_set, List.length_replicate, List.length_take, List.length_drop, List.length_cons, List.length_nil, List.length_map]; omega)) ?_
    | refine wrap_g (by dsimp only [inR]; omega) ?_
    | refine idx_g (by omega) ?_ | refine idx_l _ rfl (by decide) ?_ | refine BothG.mk ?_ ?_ | refine fork_tt ?_ | refine fork_ff ?_
    | (refine fork_e (c := true) (by decide) ?_; refine fork_tt ?_) | (refine fork_e (c := false) (by decide) ?_; refine fork_ff ?_)
    | refine fork_t (by omega) ?_ | refine fork_f (by omega) ?_ | (refine fork_d ?_ ?_ <;> intro hc) | refine fork_n ?_ | (refine fork_b ?_ ?_ <;> intro hc)
    | refine SlcG.mk (by omega) ?_ | refine MakG.mk (by dsimp only; omega) ?_
    | refine AppG.mk (by first | omega | (simp only [List.length_append, List.length_set, List.length_replicate, List.length_take, List.length_drop, List.length_cons, List.length_nil, List.length_map]; omega)) (by dsimp only [List.length_cons, List.length_nil]; omega) (by omega) ?_
    | refine div_g (by omega) (by omega) (by dsimp only [inR]; omega) ?_ | refine mod_g (by omega) (by omega) ?_
    | refine mask_g (m := 4294967296) 32 rfl rfl (by decide) (by omega) ?_ | refine shr_g (m := 4294967296) 32 rfl (by decide) (by omega) rfl ?_
    | refine fz_all (by omega) ?_ | (refine smk ?_ ?_; constructor))
  · exact ⟨ret_l _ (lp_natE 5) (natT_no (by omega)).symm⟩
  · exact ⟨ret_e (natT_ok (by omega)).symm⟩
theorem m_mul (X Y : Nat) (hX : L64 X ≤ 8192) (hY : L64 Y ≤ 8192) : FC Tryz.prog G 146 [.ws .u64 (d64 X), .ws .u64 (d64 Y)] (· = natT (X * Y)) := by
  have f1 := n_formN (G := G) X hX
  have f2 := n_formN (G := G) Y hY
  have f3 := m_product (G := G) X Y (by omega)
  have hm := L64_mul X Y
  have f4 := m_told (G := G) (X * Y) (by omega)
  obtain ⟨V, hV⟩ : ∃ V, V = X * Y := ⟨_, rfl⟩
  rw [← hV] at f3 f4 ⊢
  unfold natT at f4 ⊢
  refine FC.intro (X := XX) tok Tryz.func146 rfl Tryz.ntmps146 (by rw [Tryz.results146]) (by kernel_rfl) rfl ?_; intro F hG hO
  rw [← hG] at f1 f2 f3 f4
  repeat' ((try (conv => whnf)); first
  | ((with_reducible refine cg ?_); first | refine ceq f1 rfl ?_ | refine ceq f2 rfl ?_ | refine ceq f3 rfl ?_ | refine ceq f4 rfl ?_)
  
  | with_reducible first
    | refine Chk.mk' (by first | omega | exact trivial | (simp only [List.length_append, List.length_set, List.length_replicate, List.length_take, List.length_drop, List.length_cons, List.length_nil, List.length_map]; omega)) ?_
    | refine wrap_g (by dsimp only [inR]; omega) ?_
    | refine idx_g (by omega) ?_ | refine idx_l _ rfl (by decide) ?_ | refine BothG.mk ?_ ?_ | refine fork_tt ?_ | refine fork_ff ?_
    | (refine fork_e (c := true) (by decide) ?_; refine fork_tt ?_) | (refine fork_e (c := false) (by decide) ?_; refine fork_ff ?_)
    | refine fork_t (by omega) ?_ | refine fork_f (by omega) ?_ | (refine fork_d ?_ ?_ <;> intro hc) | refine fork_n ?_ | (refine fork_b ?_ ?_ <;> intro hc)
    | refine SlcG.mk (by omega) ?_ | refine MakG.mk (by dsimp only; omega) ?_
    | refine AppG.mk (by first | omega | (simp only [List.length_append, List.length_set, List.length_replicate, List.length_take, List.length_drop, List.length_cons, List.length_nil, List.length_map]; omega)) (by dsimp only [List.length_cons, List.length_nil]; omega) (by omega) ?_
    | refine div_g (by omega) (by omega) (by dsimp only [inR]; omega) ?_ | refine mod_g (by omega) (by omega) ?_
    | refine mask_g (m := 4294967296) 32 rfl rfl (by decide) (by omega) ?_ | refine shr_g (m := 4294967296) 32 rfl (by decide) (by omega) rfl ?_
    | refine fz_all (by omega) ?_ | (refine smk ?_ ?_; constructor))
  exact ⟨ret_e rfl⟩
end Go.Proofs.YtpjbgmafnheomaaGreatDoor.Sim
namespace Go.Proofs.YtpjbgmafnheomaaGreatDoor.Sim
open Go.RowKit
set_option linter.unusedVariables false
set_option linter.unusedSimpArgs false
set_option maxRecDepth 10000
set_option maxHeartbeats 8000000
variable {G : List (Nat × List Value)}
def nmulS (n m : Int) : PV := if 8192 < L64 (n * m).natAbs then numE 5 else numR (n * m)
theorem sg_mul2 (x y : Nat) (s t : Bool) : sg (s != t) (x * y) = sg s x * sg t y := by
  cases s <;> cases t <;> simp [sg, Int.mul_neg, Int.neg_mul]
theorem n_nmul (n m : Int) (hn : L64 n.natAbs ≤ 8192) (hm : L64 m.natAbs ≤ 8192) : FC Tryz.prog G 100 [NI n, NI m] (· = nmulS n m) := by
  have f0 := n_nform (G := G) n hn
  have g0 := n_nform (G := G) m hm
  have f1 := m_mul (G := G) n.natAbs m.natAbs hn hm
  have hs : ∀ b : Bool, b = (decide (n < 0) != decide (m < 0)) → sg b (n.natAbs * m.natAbs) = n * m := fun b h => by rw [h, sg_mul2, sg_of, sg_of]
  have ha : (n * m).natAbs = n.natAbs * m.natAbs := Int.natAbs_mul n m
  unfold nmulS
  rw [ha]
  obtain ⟨V, hV⟩ : ∃ V, V = n.natAbs * m.natAbs := ⟨_, rfl⟩
  rw [← hV] at f1 hs ⊢
  by_cases hL : 8192 < L64 V
  · rw [if_pos hL]
    rw [natT_no hL] at f1
    have f5 := fun b => n_ntoldE (G := G) b [] 5 (by decide)
    clear hs
    refine by_signN (a := n) (p := fun p => FC _ _ _ [p, _] _) (fun h1 => ?_) (fun h1 => ?_)
    all_goals refine by_signN (a := m) (p := fun p => FC _ _ _ [_, p] _) (fun h2 => ?_) (fun h2 => ?_)
    all_goals
      first | rw [ni_neg h1] at f0 | rw [ni_pos h1] at f0
      first | rw [ni_neg h2] at g0 | rw [ni_pos h2] at g0
      refine FC.intro (X := XX) tok Tryz.func100 rfl Tryz.ntmps100 (by rw [Tryz.results100]) (by kernel_rfl) rfl ?_; intro F hG hO
      rw [← hG] at f0 g0 f1 f5
      repeat' ((try (conv => whnf)); first
  | ((with_reducible refine cg ?_); first | refine ceq f0 rfl ?_ | refine ceq g0 rfl ?_ | refine ceq f1 rfl ?_)
  | ((with_reducible refine cg ?_); refine call_eq (f5 _) (LpL.refl _) rfl ?_)
  
  | with_reducible first
    | refine Chk.mk' (by first | omega | exact trivial | (simp only [List.length_append, List.length_set, List.length_replicate, List.length_take, List.length_drop, List.length_cons, List.length_nil, List.length_map]; omega)) ?_
    | refine wrap_g (by dsimp only [inR]; omega) ?_
    | refine idx_g (by omega) ?_ | refine idx_l _ rfl (by decide) ?_ | refine BothG.mk ?_ ?_ | refine fork_tt ?_ | refine fork_ff ?_
    | (refine fork_e (c := true) (by decide) ?_; refine fork_tt ?_) | (refine fork_e (c := false) (by decide) ?_; refine fork_ff ?_)
    | refine fork_t (by omega) ?_ | refine fork_f (by omega) ?_ | (refine fork_d ?_ ?_ <;> intro hc) | refine fork_n ?_ | (refine fork_b ?_ ?_ <;> intro hc)
    | refine SlcG.mk (by omega) ?_ | refine MakG.mk (by dsimp only; omega) ?_
    | refine AppG.mk (by first | omega | (simp only [List.length_append, List.length_set, List.length_replicate, List.length_take, List.length_drop, List.length_cons, List.length_nil, List.length_map]; omega)) (by dsimp only [List.length_cons, List.length_nil]; omega) (by omega) ?_
    | refine div_g (by omega) (by omega) (by dsimp only [inR]; omega) ?_ | refine mod_g (by omega) (by omega) ?_
    | refine mask_g (m := 4294967296) 32 rfl rfl (by decide) (by omega) ?_ | refine shr_g (m := 4294967296) 32 rfl (by decide) (by omega) rfl ?_
    | refine fz_all (by omega) ?_ | (refine smk ?_ ?_; constructor))
      exact ⟨ret_e rfl⟩
  · rw [if_neg hL]
    rw [natT_ok (by omega)] at f1
    have f5 := fun b => n_ntold (G := G) b V
    refine by_signN (a := n) (p := fun p => FC _ _ _ [p, _] _) (fun h1 => ?_) (fun h1 => ?_)
    all_goals refine by_signN (a := m) (p := fun p => FC _ _ _ [_, p] _) (fun h2 => ?_) (fun h2 => ?_)
    all_goals
      have hb : ∀ b c : Bool, b = decide (n < 0) → c = decide (m < 0) → sg (b != c) V = n * m := fun b c e1 e2 => hs _ (by rw [e1, e2])
      clear hs
      first | rw [ni_neg h1] at f0 | rw [ni_pos h1] at f0
      first | rw [ni_neg h2] at g0 | rw [ni_pos h2] at g0
      refine FC.intro (X := XX) tok Tryz.func100 rfl Tryz.ntmps100 (by rw [Tryz.results100]) (by kernel_rfl) rfl ?_; intro F hG hO
      rw [← hG] at f0 g0 f1 f5
      repeat' ((try (conv => whnf)); first
  | ((with_reducible refine cg ?_); first | refine ceq f0 rfl ?_ | refine ceq g0 rfl ?_ | refine ceq f1 rfl ?_)
  | ((with_reducible refine cg ?_); refine call_eq (f5 _) (LpL.refl _) rfl ?_)
  
  | with_reducible first
    | refine Chk.mk' (by first | omega | exact trivial | (simp only [List.length_append, List.length_set, List.length_replicate, List.length_take, List.length_drop, List.length_cons, List.length_nil, List.length_map]; omega)) ?_
    | refine wrap_g (by dsimp only [inR]; omega) ?_
    | refine idx_g (by omega) ?_ | refine idx_l _ rfl (by decide) ?_ | refine BothG.mk ?_ ?_ | refine fork_tt ?_ | refine fork_ff ?_
    | (refine fork_e (c := true) (by decide) ?_; refine fork_tt ?_) | (refine fork_e (c := false) (by decide) ?_; refine fork_ff ?_)
    | refine fork_t (by omega) ?_ | refine fork_f (by omega) ?_ | (refine fork_d ?_ ?_ <;> intro hc) | refine fork_n ?_ | (refine fork_b ?_ ?_ <;> intro hc)
    | refine SlcG.mk (by omega) ?_ | refine MakG.mk (by dsimp only; omega) ?_
    | refine AppG.mk (by first | omega | (simp only [List.length_append, List.length_set, List.length_replicate, List.length_take, List.length_drop, List.length_cons, List.length_nil, List.length_map]; omega)) (by dsimp only [List.length_cons, List.length_nil]; omega) (by omega) ?_
    | refine div_g (by omega) (by omega) (by dsimp only [inR]; omega) ?_ | refine mod_g (by omega) (by omega) ?_
    | refine mask_g (m := 4294967296) 32 rfl rfl (by decide) (by omega) ?_ | refine shr_g (m := 4294967296) 32 rfl (by decide) (by omega) rfl ?_
    | refine fz_all (by omega) ?_ | (refine smk ?_ ?_; constructor))
      first
        | exact ⟨ret_e (numR_eq (hb true true (decide_eq_true (by omega)).symm (decide_eq_true (by omega)).symm))⟩
        | exact ⟨ret_e (numR_eq (hb true false (decide_eq_true (by omega)).symm (decide_eq_false (by omega)).symm))⟩
        | exact ⟨ret_e (numR_eq (hb false true (decide_eq_false (by omega)).symm (decide_eq_true (by omega)).symm))⟩
        | exact ⟨ret_e (numR_eq (hb false false (decide_eq_false (by omega)).symm (decide_eq_false (by omega)).symm))⟩
def mulS (n e m f : Int) : PV := if 8192 < L64 (n * m).natAbs then dyE 5 else toldS (n * m) (e + f)
theorem mul_form (n e m f : Int) : ∃ x y c, mulS n e m f = .tup [DY x y, .val (.int .i64 c)] ∧ Good x y ∧ (c = 0 ∨ c = 5) := by
  unfold mulS
  split
  · exact ⟨0, 0, 5, rfl, Good.zero, .inr rfl⟩
  · exact told_form _ _
theorem y_mul {g : List (Nat × List Value)} (hD : (0, debT.map (Value.int .u8)) ∈ g) {n e m f : Int} (h : Good n e) (k : Good m f) : FC Tryz.prog g 61 [DY n e, DY m f] (· = mulS n e m f) := by
  have f1 := y_form (G := g) h
  have f2 := y_form (G := g) k
  have e1 := h.2.1
  have e2 := h.2.2.1
  have e3 := k.2.1
  have e4 := k.2.2.1
  have f3 := n_nmul (G := g) n m h.1 k.1
  unfold nmulS at f3
  unfold mulS
  obtain ⟨v, hv⟩ : ∃ v, v = n * m := ⟨_, rfl⟩
  rw [← hv] at f3 ⊢
  by_cases hL : 8192 < L64 v.natAbs
  · rw [if_pos hL] at f3 ⊢
    refine FC.intro (X := XX) tok Tryz.func61 rfl Tryz.ntmps61 (by rw [Tryz.results61]) (by kernel_rfl) rfl ?_; intro F hG hO
    rw [← hG] at f1 f2 f3
    repeat' ((try (conv => whnf)); first
  | ((with_reducible refine cg ?_); first | refine ceq f1 rfl ?_ | refine ceq f2 rfl ?_ | refine ceq f3 rfl ?_)
  
  | with_reducible first
    | refine Chk.mk' (by first | omega | exact trivial | (simp only [List.length_append, List.length_set, List.length_replicate, List.length_take, List.length_drop, List.length_cons, List.length_nil, List.length_map]; omega)) ?_
    | refine wrap_g (by dsimp only [inR]; omega) ?_
    | refine idx_g (by omega) ?_ | refine idx_l _ rfl (by decide) ?_ | refine BothG.mk ?_ ?_ | refine fork_tt ?_ | refine fork_ff ?_
    | (refine fork_e (c := true) (by decide) ?_; refine fork_tt ?_) | (refine fork_e (c := false) (by decide) ?_; refine fork_ff ?_)
    | refine fork_t (by omega) ?_ | refine fork_f (by omega) ?_ | (refine fork_d ?_ ?_ <;> intro hc) | refine fork_n ?_ | (refine fork_b ?_ ?_ <;> intro hc)
    | refine SlcG.mk (by omega) ?_ | refine MakG.mk (by dsimp only; omega) ?_
    | refine AppG.mk (by first | omega | (simp only [List.length_append, List.length_set, List.length_replicate, List.length_take, List.length_drop, List.length_cons, List.length_nil, List.length_map]; omega)) (by dsimp only [List.length_cons, List.length_nil]; omega) (by omega) ?_
    | refine div_g (by omega) (by omega) (by dsimp only [inR]; omega) ?_ | refine mod_g (by omega) (by omega) ?_
    | refine mask_g (m := 4294967296) 32 rfl rfl (by decide) (by omega) ?_ | refine shr_g (m := 4294967296) 32 rfl (by decide) (by omega) rfl ?_
    | refine fz_all (by omega) ?_ | (refine smk ?_ ?_; constructor))
    exact ⟨ret_l _ (lp_dyE 5) rfl⟩
  · rw [if_neg hL] at f3 ⊢
    have f4 := y_make hD v (e + f) (by omega) (by dsimp only [inR]; omega)
    obtain ⟨x, y, c, hr, hgd, hcc⟩ := told_form v (e + f)
    rw [hr] at f4 ⊢
    refine FC.intro (X := XX) tok Tryz.func61 rfl Tryz.ntmps61 (by rw [Tryz.results61]) (by kernel_rfl) rfl ?_; intro F hG hO
    rw [← hG] at f1 f2 f3 f4
    repeat' ((try (conv => whnf)); first
  | ((with_reducible refine cg ?_); first | refine ceq f1 rfl ?_ | refine ceq f2 rfl ?_ | refine ceq f3 rfl ?_ | refine ceq f4 rfl ?_)
  
  | with_reducible first
    | refine Chk.mk' (by first | omega | exact trivial | (simp only [List.length_append, List.length_set, List.length_replicate, List.length_take, List.length_drop, List.length_cons, List.length_nil, List.length_map]; omega)) ?_
    | refine wrap_g (by dsimp only [inR]; omega) ?_
    | refine idx_g (by omega) ?_ | refine idx_l _ rfl (by decide) ?_ | refine BothG.mk ?_ ?_ | refine fork_tt ?_ | refine fork_ff ?_
    | (refine fork_e (c := true) (by decide) ?_; refine fork_tt ?_) | (refine fork_e (c := false) (by decide) ?_; refine fork_ff ?_)
    | refine fork_t (by omega) ?_ | refine fork_f (by omega) ?_ | (refine fork_d ?_ ?_ <;> intro hc) | refine fork_n ?_ | (refine fork_b ?_ ?_ <;> intro hc)
    | refine SlcG.mk (by omega) ?_ | refine MakG.mk (by dsimp only; omega) ?_
    | refine AppG.mk (by first | omega | (simp only [List.length_append, List.length_set, List.length_replicate, List.length_take, List.length_drop, List.length_cons, List.length_nil, List.length_map]; omega)) (by dsimp only [List.length_cons, List.length_nil]; omega) (by omega) ?_
    | refine div_g (by omega) (by omega) (by dsimp only [inR]; omega) ?_ | refine mod_g (by omega) (by omega) ?_
    | refine mask_g (m := 4294967296) 32 rfl rfl (by decide) (by omega) ?_ | refine shr_g (m := 4294967296) 32 rfl (by decide) (by omega) rfl ?_
    | refine fz_all (by omega) ?_ | (refine smk ?_ ?_; constructor))
    exact ⟨ret_e rfl⟩
end Go.Proofs.YtpjbgmafnheomaaGreatDoor.Sim
namespace Go.Proofs.YtpjbgmafnheomaaGreatDoor.Sim
open Go.RowKit
set_option linter.unusedVariables false
set_option linter.unusedSimpArgs false
/-- Nought, or from 2^lo to below 2^(hi + 1). -/
def Fit (n e lo hi : Int) : Prop := n = 0 ∨ (lo ≤ e ∧ topN n e ≤ hi)
theorem Fit.mono {n e lo hi lo' hi' : Int} (h : Fit n e lo hi) (h1 : lo' ≤ lo) (h2 : hi ≤ hi') : Fit n e lo' hi' := by
  rcases h with h | h
  · exact .inl h
  · exact .inr ⟨by omega, by omega⟩
theorem Fit.neg {n e lo hi : Int} (h : Fit n e lo hi) : Fit (-n) e lo hi := by
  rcases h with h | h
  · exact .inl (by omega)
  · exact .inr ⟨h.1, by unfold topN at *; rw [Int.natAbs_neg]; exact h.2⟩
end Go.Proofs.YtpjbgmafnheomaaGreatDoor.Sim
namespace Go.Proofs.YtpjbgmafnheomaaGreatDoor.Sim
open Go.RowKit
set_option linter.unusedVariables false
set_option linter.unusedSimpArgs false
set_option maxRecDepth 10000
set_option maxHeartbeats 8000000
variable {G : List (Nat × List Value)}
/-- A quotient's floor, or its ceiling. -/
def rdv (aw : Bool) (x d : Nat) : Nat := match aw with
  | true => (x + d - 1) / d
  | false => x / d
theorem rdv_rdv (aw : Bool) (x d k : Nat) (hd : 0 < d) (hk : 0 < k) : rdv aw (rdv aw x d) k = rdv aw x (d * k) := by
  cases aw
  · exact Nat.div_div_eq_div_mul x d k
  · show ((x + d - 1) / d + k - 1) / k = (x + d * k - 1) / (d * k)
    rw [← Nat.div_div_eq_div_mul]
    congr 1
    have e : x + d * k - 1 = (x + d - 1) + d * (k - 1) := by
      have : d * k = d * (k - 1) + d := by rw [← Nat.mul_succ]; congr 1; omega
      omega
    rw [e, Nat.add_mul_div_left _ _ hd]
    generalize (x + d - 1) / d = q
    omega
theorem rdv_cancel (aw : Bool) (x d t : Nat) (ht : 0 < t) (hd : 0 < d) : rdv aw (x * t) (d * t) = rdv aw x d := by
  cases aw
  · exact Nat.mul_div_mul_right x d ht
  · show (x * t + d * t - 1) / (d * t) = (x + d - 1) / d
    rw [Nat.mul_comm d t, ← Nat.div_div_eq_div_mul]
    congr 1
    have e : x * t + t * d - 1 = (t - 1) + t * (x + d - 1) := by
      have h1 : t * (x + d) = t * (x + d - 1) + t := by rw [← Nat.mul_succ]; congr 1; omega
      rw [Nat.mul_add, Nat.mul_comm t x] at h1
      omega
    rw [e, Nat.add_mul_div_left _ _ ht, Nat.div_eq_of_lt (by omega), Nat.zero_add]
theorem rdv_exact (aw : Bool) (x t : Nat) (ht : 0 < t) : rdv aw (x * t) t = x := by
  have h := rdv_cancel aw x 1 t ht (by decide)
  rw [Nat.one_mul] at h
  rw [h]
  cases aw
  · exact Nat.div_one x
  · show (x + 1 - 1) / 1 = x
    rw [Nat.div_one]; omega
theorem rdv_ge (aw : Bool) (x d : Nat) (hd : 0 < d) : x / d ≤ rdv aw x d := by
  cases aw
  · exact Nat.le_refl _
  · exact Nat.div_le_div_right (by omega)
theorem rdv_up (aw : Bool) (x d : Nat) (hd : 0 < d) : rdv aw x d ≤ x / d + 1 := by
  cases aw
  · exact Nat.le_succ _
  · show (x + d - 1) / d ≤ _
    rw [← Nat.add_div_right x hd]
    exact Nat.div_le_div_right (by omega)
theorem rdv_le (aw : Bool) (x d : Nat) (hd : 0 < d) : rdv aw x d ≤ x := by
  cases aw
  · exact Nat.div_le_self _ _
  · show (x + d - 1) / d ≤ x
    by_cases h : x = 0
    · subst h; rw [Nat.div_eq_of_lt (by omega)]; exact Nat.le_refl _
    · refine Nat.div_le_of_le_mul ?_
      have h1 : 0 ≤ (d - 1) * (x - 1) := Nat.zero_le _
      have h2 : d * x = (d - 1) * (x - 1) + (d - 1) + x := by
        obtain ⟨a, rfl⟩ : ∃ a, d = a + 1 := ⟨d - 1, by omega⟩
        obtain ⟨b, rfl⟩ : ∃ b, x = b + 1 := ⟨x - 1, by omega⟩
        simp only [Nat.add_sub_cancel]
        rw [Nat.add_mul, Nat.mul_add]
        omega
      omega
theorem neg_fdiv_rdv (x d : Nat) (hd : 0 < d) : (-(x : Int)).fdiv (d : Int) = -((rdv true x d : Nat) : Int) := by
  rw [Int.fdiv_eq_ediv_of_nonneg _ (by omega)]
  show _ = -(((x + d - 1) / d : Nat) : Int)
  obtain ⟨c, hc⟩ : ∃ c, c = (x + d - 1) / d := ⟨_, rfl⟩
  have h1 := Nat.div_add_mod (x + d - 1) d
  have h2 := Nat.mod_lt (x + d - 1) hd
  rw [← hc] at h1 ⊢
  have h3 : ((d * c : Nat) : Int) = (d : Int) * (c : Int) := by simp
  exact (div_of (a := -(x : Int)) (b := (d : Int)) (q := -(c : Int)) (r := ((d * c : Nat) : Int) - x) (by omega) (by rw [h3, Int.mul_neg]; omega) (by omega) (by omega)).1
theorem pos_fdiv_rdv (x d : Nat) (hd : 0 < d) : ((x : Int)).fdiv (d : Int) = ((rdv false x d : Nat) : Int) := by
  rw [Int.fdiv_eq_ediv_of_nonneg _ (by omega)]
  show _ = ((x / d : Nat) : Int)
  rw [Int.natCast_ediv]
def docQ (n m : Int) (s : Nat) (up : Bool) : Int := match up with
  | true => -((-(n * 2 ^ s)).fdiv m)
  | false => (n * 2 ^ s).fdiv m
theorem fdiv_sg (a b : Bool) (x d : Nat) (hd : 0 < d) : (sg a x).fdiv (sg b d) = sg (a != b) (rdv (a != b) x d) := by
  cases a <;> cases b
  · exact pos_fdiv_rdv x d hd
  · show ((x : Int)).fdiv (-(d : Int)) = -((rdv true x d : Nat) : Int)
    rw [← neg_fdiv_rdv x d hd, ← Int.neg_fdiv_neg, Int.neg_neg]
  · exact neg_fdiv_rdv x d hd
  · show (-(x : Int)).fdiv (-(d : Int)) = ((rdv false x d : Nat) : Int)
    rw [Int.neg_fdiv_neg]
    exact pos_fdiv_rdv x d hd
theorem neg_sg (a : Bool) (x : Nat) : -(sg a x) = sg (!a) x := by cases a <;> simp [sg]
theorem docQ_eq (n m : Int) (s : Nat) (up : Bool) (hm : m ≠ 0) : docQ n m s up = sg (decide (n < 0) != decide (m < 0)) (rdv (up != (decide (n < 0) != decide (m < 0))) (n.natAbs * 2 ^ s) m.natAbs) := by
  have hd : 0 < m.natAbs := by omega
  have hn := sg_of n
  have hm2 := sg_of m
  obtain ⟨a, ha⟩ : ∃ a, a = decide (n < 0) := ⟨_, rfl⟩
  obtain ⟨b, hb⟩ : ∃ b, b = decide (m < 0) := ⟨_, rfl⟩
  obtain ⟨x, hx⟩ : ∃ x, x = n.natAbs := ⟨_, rfl⟩
  obtain ⟨d, hd2⟩ : ∃ d, d = m.natAbs := ⟨_, rfl⟩
  rw [← ha, ← hx] at hn
  rw [← hb, ← hd2] at hm2
  rw [← hd2] at hd
  rw [← ha, ← hb, ← hx, ← hd2, ← hn, ← hm2]
  cases up
  · show (sg a x * 2 ^ s).fdiv (sg b d) = _
    rw [← sg_pow, fdiv_sg _ _ _ _ hd]
    simp
  · show -((-(sg a x * 2 ^ s)).fdiv (sg b d)) = _
    rw [← sg_pow, neg_sg, fdiv_sg _ _ _ _ hd, neg_sg]
    cases a <;> cases b <;> rfl
theorem whole_sg (neg up : Bool) (N : Nat) (k : Int) : wholeS (sg neg N) k up = sg neg (rdv (up != neg) N (2 ^ k.toNat)) := by
  have hp : 0 < 2 ^ k.toNat := Nat.pow_pos (by decide)
  have hP : (2 : Int) ^ k.toNat = ((2 ^ k.toNat : Nat) : Int) := by simp
  have h1 := pos_fdiv_rdv N (2 ^ k.toNat) hp
  have h2 := neg_fdiv_rdv N (2 ^ k.toNat) hp
  rw [Int.fdiv_eq_ediv_of_nonneg _ (by omega)] at h1 h2
  cases up <;> cases neg
  · show (N : Int) / 2 ^ k.toNat = _
    rw [hP, h1]; rfl
  · show (-(N : Int)) / 2 ^ k.toNat = _
    rw [hP, h2]; rfl
  · show -((-(N : Int)) / 2 ^ k.toNat) = _
    rw [hP, h2, Int.neg_neg]; rfl
  · show -((-(-(N : Int))) / 2 ^ k.toNat) = _
    rw [Int.neg_neg, hP, h1]; rfl
/-- A quotient, and one bit below it that tells whether anything is left. -/
def stk (y d : Nat) : Nat := 2 * (y / d) + (if y % d = 0 then 0 else 1)
theorem stk_rdv (aw : Bool) (y d j : Nat) (hd : 0 < d) (hj : 0 < j) : rdv aw (stk y d) (2 ^ j) = rdv aw y (d * 2 ^ (j - 1)) := by
  have hp : 0 < 2 ^ (j - 1) := Nat.pow_pos (by decide)
  have e : 2 ^ j = 2 * 2 ^ (j - 1) := by rw [Nat.mul_comm, ← Nat.pow_succ]; congr 1; omega
  rw [e, ← rdv_rdv aw _ 2 _ (by decide) hp, ← rdv_rdv aw y d _ hd hp]
  congr 1
  have h1 := Nat.div_add_mod y d
  have h2 := Nat.mod_lt y hd
  unfold stk
  obtain ⟨q, hq⟩ : ∃ q, q = y / d := ⟨_, rfl⟩
  obtain ⟨r, hr⟩ : ∃ r, r = y % d := ⟨_, rfl⟩
  rw [← hq, ← hr] at h1
  rw [← hr] at h2
  rw [← hq, ← hr]
  cases aw
  · show (2 * q + (if r = 0 then 0 else 1)) / 2 = y / d
    rw [← hq]
    split <;> omega
  · show (2 * q + (if r = 0 then 0 else 1) + 2 - 1) / 2 = (y + d - 1) / d
    split
    · have : (y + d - 1) / d = q := by
        rw [show y + d - 1 = (d - 1) + d * q by omega, Nat.add_mul_div_left _ _ hd, Nat.div_eq_of_lt (by omega), Nat.zero_add]
      omega
    · have : (y + d - 1) / d = q + 1 := by
        rw [show y + d - 1 = (r - 1) + d * (q + 1) by rw [Nat.mul_add]; omega, Nat.add_mul_div_left _ _ hd, Nat.div_eq_of_lt (by omega), Nat.zero_add]
      omega
theorem told_pow (neg : Bool) (p : Nat) (E : Int) (hp : 0 < p) (hE : -1099511627776 ≤ E) : toldS (sg neg (2 ^ p)) E = toldS (sg neg (2 ^ (p - 1))) (E + 1) := by
  have hne : ∀ k : Nat, sg neg (2 ^ k) ≠ 0 := fun k h => by
    have h1 := sg_abs neg (2 ^ k)
    rw [h] at h1
    have : 0 < 2 ^ k := Nat.pow_pos (by decide)
    simp at h1
    omega
  have htz : ∀ k : Nat, tz (2 ^ k) = k := fun k => tz_eq (m := 1) (by simp) (by decide)
  have hq : ∀ k : Nat, sg neg (2 ^ k) / 2 ^ k = sg neg 1 := fun k => by
    have := sg_pow 1 k neg
    rw [Nat.one_mul] at this
    rw [this]
    exact Int.mul_ediv_cancel _ (Int.ne_of_gt (Int.pow_pos (by decide)))
  have h1 : ∀ k : Nat, 2 ^ k / 2 ^ k = 1 := fun k => Nat.div_self (Nat.pow_pos (by decide))
  have hl : ¬ 16384 < L32 1 := by decide +kernel
  unfold toldS
  simp only [sg_abs, htz, hq, h1]
  rw [if_neg (hne p), if_neg (hne (p - 1)), if_neg (show ¬ E < -1099511627776 by omega), if_neg (show ¬ E + 1 < -1099511627776 by omega), if_neg hl, if_neg hl]
  rw [show E + 1 + ((p - 1 : Nat) : Int) = E + (p : Int) by omega]
  by_cases h2 : 1048576 < E + 1
  · rw [if_pos h2]
    split
    · rfl
    · rw [if_neg (by omega), if_pos (by omega)]
  · rw [if_neg h2, if_neg (by omega)]
/-- A quotient with a bit for what is left, cut, and the quotient rounded, cut. -/
theorem quo_same (neg up : Bool) (x d p t : Nat) (E : Int) (ht : t ≤ 1) (hp : 0 < p) (hF : 2 ^ p ≤ x / d) (hd : 0 < d) (hE : -1000000000000 ≤ E) :
    cutS (sg neg (stk (x * 2 ^ t) d)) (E - t - 1) p up = cutS (sg neg (rdv (up != neg) x d)) E p up := by
  obtain ⟨aw, haw⟩ : ∃ aw, aw = (up != neg) := ⟨_, rfl⟩
  rw [← haw]
  obtain ⟨F, hFe⟩ : ∃ F, F = x / d := ⟨_, rfl⟩
  obtain ⟨N, hN⟩ : ∃ N, N = rdv aw x d := ⟨_, rfl⟩
  have hge := rdv_ge aw x d hd
  have hup := rdv_up aw x d hd
  rw [← hFe] at hF hge hup
  rw [← hN] at hge hup ⊢
  have hFp : 0 < 2 ^ p := Nat.pow_pos (by decide)
  have hbF := bl_ge hF
  have hbN : p < bl N := bl_ge (Nat.le_trans hF hge)
  have htp : 0 < 2 ^ t := Nat.pow_pos (by decide)
  have hQ : x * 2 ^ t / d / 2 ^ t = F := by
    rw [Nat.div_div_eq_div_mul, Nat.mul_div_mul_right _ _ htp, hFe]
  have hbQ : bl (x * 2 ^ t / d) = t + bl F := by rw [bl_top _ t (by rw [hQ]; omega), hQ]
  have hM2 : stk (x * 2 ^ t) d / 2 ^ 1 = x * 2 ^ t / d := by
    unfold stk
    split <;> omega
  have hQ0 : x * 2 ^ t / d ≠ 0 := fun h => by rw [h] at hQ; simp at hQ; omega
  have hbM : bl (stk (x * 2 ^ t) d) = 1 + (t + bl F) := by rw [bl_top _ 1 (by rw [hM2]; exact hQ0), hM2, hbQ]
  obtain ⟨j, hj⟩ : ∃ j, j = bl F - p := ⟨_, rfl⟩
  have hR : rdv aw x (d * 2 ^ j) = rdv aw N (2 ^ j) := by rw [hN, rdv_rdv _ _ _ _ hd (Nat.pow_pos (by decide))]
  unfold cutS
  rw [sg_abs, sg_abs, hbM, if_neg (by omega), if_neg (by omega), whole_sg, whole_sg, ← haw]
  rw [show ((1 + (t + bl F) : Nat) : Int) - (p : Int) = ((1 + (t + j) : Nat) : Int) by omega, Int.toNat_natCast, stk_rdv _ _ _ _ hd (by omega)]
  rw [show 1 + (t + j) - 1 = j + t by omega, Nat.pow_add, ← Nat.mul_assoc, rdv_cancel _ _ _ _ htp (Nat.mul_pos hd (Nat.pow_pos (by decide))), hR]
  rw [show E - (t : Int) - 1 + ((1 + (t + j) : Nat) : Int) = E + (j : Int) by omega]
  by_cases hb : bl N = bl F
  · rw [hb, show ((bl F : Nat) : Int) - (p : Int) = (j : Int) by omega, Int.toNat_natCast]
  · have h1 := lt_bl F
    have h2 : bl F ≤ bl N := bl_mono hge
    have h3 : N = 2 ^ bl F := by
      rcases Nat.lt_or_ge N (2 ^ bl F) with h | h
      · exact absurd (Nat.le_antisymm (bl_le h) h2) hb
      · omega
    have h4 : bl N = bl F + 1 := by
      rw [h3]
      exact bl_eq (Nat.pow_lt_pow_right (by decide) (by omega)) (.inr (by simp))
    rw [h4, show ((bl F + 1 : Nat) : Int) - (p : Int) = ((j + 1 : Nat) : Int) by omega, Int.toNat_natCast, h3]
    have e1 : 2 ^ bl F = 2 ^ p * 2 ^ j := by rw [← Nat.pow_add]; congr 1; omega
    have e2 : 2 ^ bl F = 2 ^ (p - 1) * 2 ^ (j + 1) := by rw [← Nat.pow_add]; congr 1; omega
    rw [show rdv aw (2 ^ bl F) (2 ^ j) = 2 ^ p by rw [e1, rdv_exact _ _ _ (Nat.pow_pos (by decide))]]
    rw [show rdv aw (2 ^ bl F) (2 ^ (j + 1)) = 2 ^ (p - 1) by rw [e2, rdv_exact _ _ _ (Nat.pow_pos (by decide))]]
    rw [told_pow neg p _ hp (by omega)]
    congr 1
    omega
def quoK (n m p c : Int) : Int := max 0 (p + c + bl m.natAbs - bl n.natAbs)
def quoS (n e m f p : Int) (up : Bool) : PV := if p < 1 then dyE 1 else if 70000 < p then dyE 1 else if m = 0 then dyE 4 else if 4096 < L64 n.natAbs then dyE 5 else if 4096 < L64 m.natAbs then dyE 5
  else cutS (docQ n m (quoK n m p 1).toNat up) (e - f - quoK n m p 1) p up
theorem quoS_1 {n e m f p : Int} {up : Bool} (h : p < 1 ∨ 70000 < p) : quoS n e m f p up = dyE 1 := by
  unfold quoS
  split
  · rfl
  · rw [if_pos (by omega)]
theorem quoS_4 {n e m f p : Int} {up : Bool} (h : 1 ≤ p ∧ p ≤ 70000) (hm : m = 0) : quoS n e m f p up = dyE 4 := by
  unfold quoS
  rw [if_neg (by omega), if_neg (by omega), if_pos hm]
theorem quoS_5 {n e m f p : Int} {up : Bool} (h : 1 ≤ p ∧ p ≤ 70000) (hm : m ≠ 0) (hl : 4096 < L64 n.natAbs ∨ 4096 < L64 m.natAbs) : quoS n e m f p up = dyE 5 := by
  unfold quoS
  rw [if_neg (by omega), if_neg (by omega), if_neg hm]
  split
  · rfl
  · rw [if_pos (by omega)]
theorem quoS_ok {n e m f p : Int} {up : Bool} (h : 1 ≤ p ∧ p ≤ 70000) (hm : m ≠ 0) (hn4 : L64 n.natAbs ≤ 4096) (hm4 : L64 m.natAbs ≤ 4096) : quoS n e m f p up = cutS (docQ n m (quoK n m p 1).toNat up) (e - f - quoK n m p 1) p up := by
  unfold quoS
  rw [if_neg (by omega), if_neg (by omega), if_neg hm, if_neg (by omega), if_neg (by omega)]
theorem quo_form (n e m f p : Int) (up : Bool) : ∃ x y c, quoS n e m f p up = .tup [DY x y, .val (.int .i64 c)] ∧ Good x y := by
  unfold quoS
  repeat' split
  · exact ⟨0, 0, 1, rfl, Good.zero⟩
  · exact ⟨0, 0, 1, rfl, Good.zero⟩
  · exact ⟨0, 0, 4, rfl, Good.zero⟩
  · exact ⟨0, 0, 5, rfl, Good.zero⟩
  · exact ⟨0, 0, 5, rfl, Good.zero⟩
  · obtain ⟨x, y, c, h, g, _⟩ := cut_form (docQ n m (quoK n m p 1).toNat up) (e - f - quoK n m p 1) p up
    exact ⟨x, y, c, h, g⟩
/-- What the program cuts is what the document cuts. -/
theorem quo_code {n e m f p : Int} (up : Bool) (h : 1 ≤ p ∧ p ≤ 70000) (hm : m ≠ 0) (hn4 : bl n.natAbs ≤ 262144) (hm4 : bl m.natAbs ≤ 262144) (he : -1048576 ≤ e ∧ e ≤ 1048576) (hf : -1048576 ≤ f ∧ f ≤ 1048576) :
    cutS (sg (decide (n < 0) != decide (m < 0)) (stk (n.natAbs * 2 ^ (quoK n m p 2).toNat) m.natAbs)) (e - f - quoK n m p 2 - 1) p up = cutS (docQ n m (quoK n m p 1).toNat up) (e - f - quoK n m p 1) p up := by
  have hd : 0 < m.natAbs := by omega
  rw [docQ_eq _ _ _ _ hm]
  have hk1 : quoK n m p 1 = max 0 (p + 1 + bl m.natAbs - bl n.natAbs) := rfl
  have hk2 : quoK n m p 2 = max 0 (p + 2 + bl m.natAbs - bl n.natAbs) := rfl
  obtain ⟨k1, e1⟩ : ∃ k, k = quoK n m p 1 := ⟨_, rfl⟩
  obtain ⟨k2, e2⟩ : ∃ k, k = quoK n m p 2 := ⟨_, rfl⟩
  rw [← e1] at hk1 ⊢
  rw [← e2] at hk2 ⊢
  obtain ⟨neg, hneg⟩ : ∃ b, b = (decide (n < 0) != decide (m < 0)) := ⟨_, rfl⟩
  rw [← hneg]
  obtain ⟨P, rfl⟩ : ∃ P : Nat, p = (P : Int) := ⟨p.toNat, by omega⟩
  by_cases h0 : n = 0
  · subst h0
    have z1 : stk (Int.natAbs 0 * 2 ^ k2.toNat) m.natAbs = 0 := by
      unfold stk; simp
    have z2 : rdv (up != neg) (Int.natAbs 0 * 2 ^ k1.toNat) m.natAbs = 0 := by
      have := rdv_le (up != neg) (Int.natAbs 0 * 2 ^ k1.toNat) m.natAbs hd
      simp at this ⊢
      exact this
    rw [z1, z2]
    have z3 : sg neg 0 = 0 := by cases neg <;> rfl
    have z4 : ∀ E : Int, cutS 0 E (P : Int) up = dyE 0 := fun E => by
      unfold cutS
      rw [if_pos (by rw [show Int.natAbs 0 = 0 from rfl, bl_zero]; omega)]
      unfold toldS
      rw [if_pos rfl]
    rw [z3, z4, z4]
  · have hn0 : n.natAbs ≠ 0 := by omega
    obtain ⟨t, ht⟩ : ∃ t : Nat, t = (k2 - k1).toNat := ⟨_, rfl⟩
    have hk : k2.toNat = k1.toNat + t := by omega
    have hq := quo_same neg up (n.natAbs * 2 ^ k1.toNat) m.natAbs P t (e - f - k1) (by omega) (by omega) ?_ hd (by omega)
    · rw [hk, Nat.pow_add, ← Nat.mul_assoc, ← hq]
      congr 1
      omega
    · rw [Nat.le_div_iff_mul_le hd]
      have a1 := le_of_bl hn0
      have a2 := lt_bl m.natAbs
      have a3 : 2 ^ P * m.natAbs ≤ 2 ^ P * 2 ^ bl m.natAbs := Nat.mul_le_mul_left _ (Nat.le_of_lt a2)
      have a4 : 2 ^ (bl n.natAbs - 1) * 2 ^ k1.toNat ≤ n.natAbs * 2 ^ k1.toNat := Nat.mul_le_mul_right _ a1
      rw [← Nat.pow_add] at a3 a4
      have a5 : 2 ^ (P + bl m.natAbs) ≤ 2 ^ (bl n.natAbs - 1 + k1.toNat) := Nat.pow_le_pow_right (by decide) (by have := bl_pos hn0; omega)
      omega
end Go.Proofs.YtpjbgmafnheomaaGreatDoor.Sim
namespace Go.Proofs.YtpjbgmafnheomaaGreatDoor.Sim
open Go.RowKit
set_option linter.unusedVariables false
set_option linter.unusedSimpArgs false
theorem sign_sub_anti (a b : Int) : (a - b).sign = -(b - a).sign := by rw [← Int.sign_neg]; congr 1; omega
theorem cmp_anti (n e m f : Int) : cmpS m f n e = -cmpS n e m f := by
  unfold cmpS
  by_cases h : n.sign ≠ m.sign ∨ n.sign = 0
  · have h' : m.sign ≠ n.sign ∨ m.sign = 0 := by
      rcases h with h | h
      · exact .inl (Ne.symm h)
      · by_cases hh : m.sign = n.sign
        · exact .inr (by omega)
        · exact .inl hh
    rw [if_pos h, if_pos h', sign_sub_anti]
  · have h' : ¬ (m.sign ≠ n.sign ∨ m.sign = 0) := by omega
    have hs : n.sign = m.sign := by omega
    rw [if_neg h, if_neg h', Int.min_comm f e]
    by_cases ht : topN n e = topN m f
    · rw [if_neg (by omega), if_neg (by omega), sign_sub_anti]
    · rw [if_pos (by omega), if_pos (by omega), sign_sub_anti, hs, Int.mul_neg]
theorem cmp_zero {n e m f : Int} (h : Good n e) (g : Good m f) (hc : cmpS n e m f = 0) : VV n e = VV m f := by
  unfold cmpS at hc
  by_cases hh : n.sign ≠ m.sign ∨ n.sign = 0
  · rw [if_pos hh] at hc
    have h1 : n.sign - m.sign = 0 := Int.sign_eq_zero_iff_zero.1 hc
    have h2 : n.sign = 0 := by omega
    have h3 : m.sign = 0 := by omega
    rw [Int.sign_eq_zero_iff_zero.1 h2, Int.sign_eq_zero_iff_zero.1 h3, VV_zero, VV_zero]
  · rw [if_neg hh] at hc
    by_cases ht : topN n e = topN m f
    · rw [if_neg (by omega)] at hc
      have h1 := Int.sign_eq_zero_iff_zero.1 hc
      have e1 := h.2.1
      have e2 := g.2.1
      rw [VV_low (n := n) (k := min e f) (by omega) (by omega), VV_low (n := m) (k := min e f) (by omega) (by omega)]
      congr 1
      omega
    · rw [if_pos (by omega)] at hc
      rcases Int.mul_eq_zero.1 hc with h1 | h1
      · omega
      · have := Int.sign_eq_zero_iff_zero.1 h1
        omega
theorem cmp_bd (n e m f : Int) : -1 ≤ cmpS n e m f ∧ cmpS n e m f ≤ 1 := by
  unfold cmpS
  split
  · exact sign_bd _
  · split
    · have h2 := sign_bd (topN n e - topN m f)
      rcases Int.lt_trichotomy n 0 with hn | hn | hn
      · rw [Int.sign_eq_neg_one_of_neg hn]; omega
      · rw [hn, show Int.sign 0 = 0 from rfl]; omega
      · rw [Int.sign_eq_one_of_pos hn]; omega
    · exact sign_bd _
/-- -1, 0 or 1, by the values. -/
def cmpV (n e m f : Int) : Int := if VV n e < VV m f then -1 else if VV m f < VV n e then 1 else 0
theorem cmp_V {n e m f : Int} (h : Good n e) (g : Good m f) : cmpS n e m f = cmpV n e m f := by
  have b1 := cmp_bd n e m f
  have b2 := cmp_anti n e m f
  unfold cmpV
  rcases Int.lt_trichotomy (VV n e) (VV m f) with hV | hV | hV
  · rw [if_pos hV]
    have h1 := cmp_le h g (Int.le_of_lt hV)
    by_cases h0 : cmpS n e m f = 0
    · have := cmp_zero h g h0
      omega
    · omega
  · rw [if_neg (by omega), if_neg (by omega)]
    have h1 := cmp_le h g (Int.le_of_eq hV)
    have h2 := cmp_le g h (Int.le_of_eq hV.symm)
    omega
  · rw [if_neg (by omega), if_pos hV]
    have h1 := cmp_le g h (Int.le_of_lt hV)
    by_cases h0 : cmpS n e m f = 0
    · have := cmp_zero h g h0
      omega
    · omega
theorem cmpV_neg {n e m f : Int} : cmpV n e m f < 0 ↔ VV n e < VV m f := by
  unfold cmpV
  by_cases h : VV n e < VV m f
  · rw [if_pos h]; exact ⟨fun _ => h, fun _ => by decide⟩
  · rw [if_neg h]
    exact ⟨fun hh => by split at hh <;> omega, fun hh => absurd hh h⟩
theorem cmpV_pos {n e m f : Int} : 0 < cmpV n e m f ↔ VV m f < VV n e := by
  unfold cmpV
  by_cases h : VV n e < VV m f
  · rw [if_pos h]; exact ⟨fun hh => by omega, fun hh => by omega⟩
  · rw [if_neg h]
    by_cases h2 : VV m f < VV n e
    · rw [if_pos h2]; exact ⟨fun _ => h2, fun _ => by decide⟩
    · rw [if_neg h2]; exact ⟨fun hh => by omega, fun hh => absurd hh h2⟩
theorem VV_sign {n e : Int} : (0 < VV n e ↔ 0 < n) ∧ (VV n e < 0 ↔ n < 0) := by
  have h1 := fun h : 0 < n => VV_pos (e := e) h
  have h2 := fun h : n < 0 => VV_negs (e := e) h
  have h3 := VV_zero e
  rcases Int.lt_trichotomy n 0 with h | h | h
  · have := h2 h; exact ⟨⟨fun _ => by omega, fun _ => by omega⟩, ⟨fun _ => h, fun _ => by omega⟩⟩
  · subst h; rw [h3]; exact ⟨Iff.rfl, Iff.rfl⟩
  · have := h1 h; exact ⟨⟨fun _ => h, fun _ => by omega⟩, ⟨fun _ => by omega, fun _ => by omega⟩⟩
/-! ### the least and the greatest -/
abbrev D2 := Int × Int
def D2.good (a : D2) : Prop := Good a.1 a.2
def D2.v (a : D2) : Int := VV a.1 a.2
def D2.pv (a : D2) : PV := DY a.1 a.2
def lst2 (a b : D2) : D2 := if b.v < a.v then b else a
def gst2 (a b : D2) : D2 := if a.v < b.v then b else a
theorem lst2_good {a b : D2} (h : a.good) (g : b.good) : (lst2 a b).good := by unfold lst2; split <;> assumption
theorem gst2_good {a b : D2} (h : a.good) (g : b.good) : (gst2 a b).good := by unfold gst2; split <;> assumption
theorem lst2_v (a b : D2) : (lst2 a b).v = min a.v b.v := by unfold lst2; split <;> omega
theorem gst2_v (a b : D2) : (gst2 a b).v = max a.v b.v := by unfold gst2; split <;> omega
theorem D2.eq {a b : D2} (h : a.good) (g : b.good) (hv : a.v = b.v) : a = b := by
  obtain ⟨h1, h2⟩ := good_eq h g hv
  exact Prod.ext h1 h2
def least4 (a b c d : D2) : D2 := lst2 (lst2 (lst2 a b) c) d
def great4 (a b c d : D2) : D2 := gst2 (gst2 (gst2 a b) c) d
/-! ### answers, as records -/
structure An where
  x : Int
  y : Int
  c : Int
def An.pv (a : An) : PV := .tup [DY a.x a.y, .val (.int .i64 a.c)]
def An.d (a : An) : D2 := (a.x, a.y)
def toAn (p : PV) : An := match p with
  | .tup [.agg [.val (.bool b), .ws _ l, .val (.int _ e)], .val (.int _ c)] => ⟨sg b (vl 18446744073709551616 l).toNat, e, c⟩
  | _ => ⟨0, 0, 0⟩
theorem toAn_tup (x y c : Int) : toAn (.tup [DY x y, .val (.int .i64 c)]) = ⟨x, y, c⟩ := by
  show (⟨sg (decide (x < 0)) (vl 18446744073709551616 (d64 x.natAbs)).toNat, y, c⟩ : An) = _
  rw [vl_d64, sg_of]
theorem toAn_of {p : PV} {x y c : Int} (h : p = .tup [DY x y, .val (.int .i64 c)]) : toAn p = ⟨x, y, c⟩ := by rw [h, toAn_tup]
/-- An answer in form: nought with an error, or a number in form. -/
def Ans (p : PV) : Prop := ∃ x y c, p = .tup [DY x y, .val (.int .i64 c)] ∧ Good x y ∧ (c = 0 ∨ c = 5)
theorem Ans.eq {p : PV} (h : Ans p) : p = (toAn p).pv ∧ Good (toAn p).x (toAn p).y ∧ ((toAn p).c = 0 ∨ (toAn p).c = 5) := by
  obtain ⟨x, y, c, h1, h2, h3⟩ := h
  rw [toAn_of h1]
  exact ⟨h1, h2, h3⟩
/-! ### spans -/
def Sp (b1 : Bool) (l1 : List Int) (e1 : Int) (b2 : Bool) (l2 : List Int) (e2 : Int) : PV := .agg [.val (.bool b1), .ws .u64 l1, .val (.int .i64 e1), .val (.bool b2), .ws .u64 l2, .val (.int .i64 e2)]
def SP (a b : D2) : PV := .agg [.val (.bool (decide (a.1 < 0))), .ws .u64 (d64 a.1.natAbs), .val (.int .i64 a.2), .val (.bool (decide (b.1 < 0))), .ws .u64 (d64 b.1.natAbs), .val (.int .i64 b.2)]
def spR (a b : D2) : PV := .tup [SP a b, .val (.int .i64 0)]
def spE (c : Int) : PV := .tup [SP (0, 0) (0, 0), .val (.int .i64 c)]
def GoodS (a b : D2) : Prop := a.good ∧ b.good ∧ a.v ≤ b.v
theorem GoodS.zero : GoodS (0, 0) (0, 0) := ⟨Good.zero, Good.zero, Int.le_refl _⟩
/-- A span's answer from its two ends' answers. -/
def bothA (a b : An) : PV := if a.c ≠ 0 ∨ b.c ≠ 0 then spE 5 else spR a.d b.d
def outP (a b : D2) (p : Int) : PV := bothA (toAn (cutsS a.1 a.2 p false)) (toAn (cutsS b.1 b.2 p true))
def addP (a b : D2) : PV := addS a.1 a.2 b.1 b.2
def mulP (a b : D2) : PV := mulS a.1 a.2 b.1 b.2
def D2.neg (a : D2) : D2 := (-a.1, a.2)
theorem D2.neg_good {a : D2} (h : a.good) : a.neg.good := Good.neg h
theorem D2.neg_v (a : D2) : a.neg.v = -a.v := VV_neg _ _
theorem D2.neg_neg (a : D2) : a.neg.neg = a := by unfold D2.neg; simp
def sumP (a b c d : D2) (p : Int) : PV := if (toAn (addP a c)).c ≠ 0 ∨ (toAn (addP b d)).c ≠ 0 then spE 5 else outP (toAn (addP a c)).d (toAn (addP b d)).d p
def spMul (a b c d : D2) (p : Int) : PV :=
  if (toAn (mulP a c)).c ≠ 0 ∨ (toAn (mulP a d)).c ≠ 0 ∨ (toAn (mulP b c)).c ≠ 0 ∨ (toAn (mulP b d)).c ≠ 0 then spE 5
  else outP (least4 (toAn (mulP a c)).d (toAn (mulP a d)).d (toAn (mulP b c)).d (toAn (mulP b d)).d) (great4 (toAn (mulP a c)).d (toAn (mulP a d)).d (toAn (mulP b c)).d (toAn (mulP b d)).d) p
def spSqr (a b : D2) (p : Int) : PV :=
  if (toAn (mulP a a)).c ≠ 0 ∨ (toAn (mulP b b)).c ≠ 0 then spE 5
  else outP (if a.1 ≤ 0 ∧ 0 ≤ b.1 then (0, 0) else lst2 (toAn (mulP a a)).d (toAn (mulP b b)).d) (gst2 (toAn (mulP a a)).d (toAn (mulP b b)).d) p
def quoP (a b : D2) (p : Int) (up : Bool) : PV := quoS a.1 a.2 b.1 b.2 p up
/-- Of a quotient by a span above nought: which ends divide. -/
def spQuoPos (a b c d : D2) (p : Int) : PV := bothA (toAn (quoP a (if a.1 < 0 then c else d) p false)) (toAn (quoP b (if b.1 < 0 then d else c) p true))
def spQuo (a b c d : D2) (p : Int) : PV := if 0 < c.1 then spQuoPos a b c d p else if d.1 < 0 then spQuoPos b.neg a.neg d.neg c.neg p else spE 4
theorem add_ans {a b : D2} (h : a.good) (g : b.good) : Ans (addP a b) := add_form h g
theorem mul_ans (a b : D2) : Ans (mulP a b) := mul_form _ _ _ _
theorem cuts_ans (a : D2) {p : Int} (hp : 1 ≤ p ∧ p ≤ 70000) (up : Bool) : Ans (cutsS a.1 a.2 p up) := by
  unfold cutsS
  rw [if_neg (by omega), if_neg (by omega)]
  exact cut_form _ _ _ _
theorem quo_ans {a b : D2} {p : Int} (hp : 1 ≤ p ∧ p ≤ 70000) (h0 : b.1 ≠ 0) (up : Bool) : Ans (quoP a b p up) := by
  unfold quoP quoS
  rw [if_neg (by omega), if_neg (by omega), if_neg h0]
  repeat' split
  · exact ⟨0, 0, 5, rfl, Good.zero, .inr rfl⟩
  · exact ⟨0, 0, 5, rfl, Good.zero, .inr rfl⟩
  · exact cut_form _ _ _ _
end Go.Proofs.YtpjbgmafnheomaaGreatDoor.Sim
namespace Go.Proofs.YtpjbgmafnheomaaGreatDoor.Sim
open Go.RowKit
set_option linter.unusedVariables false
set_option linter.unusedSimpArgs false
theorem abs_shl (a : Int) (k : Nat) : (a * 2 ^ k).natAbs = a.natAbs * 2 ^ k := by rw [Int.natAbs_mul, Int.natAbs_pow]; rfl
/-- n * 2^e, in parts of 2^-c. -/
def Vc (c n e : Int) : Int := n * 2 ^ (e + c).toNat
theorem mul_le_iff {x y p : Int} (hp : 0 < p) : x * p ≤ y * p ↔ x ≤ y := ⟨fun h => Int.le_of_mul_le_mul_right h hp, fun h => Int.mul_le_mul_of_nonneg_right h (Int.le_of_lt hp)⟩
theorem Vc_mul {n e m f : Int} (h1 : -1048576 ≤ e) (h2 : -1048576 ≤ f) : VV n e * VV m f = Vc 2097152 (n * m) (e + f) := by
  unfold VV Vc
  have e1 : (2 : Int) ^ (e + 1048576).toNat * 2 ^ (f + 1048576).toNat = 2 ^ (e + f + 2097152).toNat := by
    rw [← Int.pow_add]
    congr 1
    omega
  rw [Int.mul_assoc n, Int.mul_left_comm _ m, e1, ← Int.mul_assoc n]
/-! ### which quotient is the least -/
theorem mr {a b c : Int} (h : a ≤ b) (hc : 0 ≤ c) : a * c ≤ b * c := Int.mul_le_mul_of_nonneg_right h hc
theorem ml {a b c : Int} (h : a ≤ b) (hc : 0 ≤ c) : c * a ≤ c * b := Int.mul_le_mul_of_nonneg_left h hc
theorem mln {a b c : Int} (h : a ≤ b) (hc : c ≤ 0) : c * b ≤ c * a := Int.mul_le_mul_of_nonpos_left hc h
theorem mrn {a b c : Int} (h : a ≤ b) (hc : c ≤ 0) : b * c ≤ a * c := Int.mul_le_mul_of_nonpos_right h hc
end Go.Proofs.YtpjbgmafnheomaaGreatDoor.Sim
namespace Go.Proofs.YtpjbgmafnheomaaGreatDoor.Sim
open Go.RowKit
set_option linter.unusedVariables false
set_option linter.unusedSimpArgs false
set_option maxRecDepth 10000
set_option maxHeartbeats 8000000
variable {G : List (Nat × List Value)}
theorem bl_low {n : Nat} (h : n ≠ 0) : 2 ^ (bl n - 1) ≤ n := by
  rcases Nat.lt_or_ge n (2 ^ (bl n - 1)) with h1 | h1
  · have := bl_le h1
    have := bl_pos h
    omega
  · exact h1
/-- The facts of one step: y = v1 * 2^32 + v0 with v1 great, un below y, u1 a digit; q the digit, r what is left. -/
structure Kn (y v1 v0 un u1 q r : Int) : Prop where
  ey : y = v1 * 4294967296 + v0
  bv1 : 2147483648 ≤ v1 ∧ v1 < 4294967296
  bv0 : 0 ≤ v0 ∧ v0 < 4294967296
  bun : 0 ≤ un ∧ un < v1 * 4294967296 + v0
  bu1 : 0 ≤ u1 ∧ u1 < 4294967296
  qr : un * 4294967296 + u1 = q * v1 * 4294967296 + q * v0 + r
  bq : 0 ≤ q ∧ q < 4294967296
  br : 0 ≤ r ∧ r < v1 * 4294967296 + v0
theorem kn_of {y v1 v0 un u1 : Int} (hy : y = v1 * 4294967296 + v0) (h1 : 2147483648 ≤ v1 ∧ v1 < 4294967296) (h0 : 0 ≤ v0 ∧ v0 < 4294967296) (hu : 0 ≤ un ∧ un < y) (hu1 : 0 ≤ u1 ∧ u1 < 4294967296) :
    Kn y v1 v0 un u1 ((un * 4294967296 + u1) / y) ((un * 4294967296 + u1) % y) := by
  have e1 := Int.mul_ediv_add_emod (un * 4294967296 + u1) y
  have e2 := Int.emod_nonneg (un * 4294967296 + u1) (show y ≠ 0 by omega)
  have e3 := Int.emod_lt_of_pos (un * 4294967296 + u1) (show 0 < y by omega)
  have q0 : 0 ≤ (un * 4294967296 + u1) / y := Int.ediv_nonneg (by omega) (by omega)
  have q1 : (un * 4294967296 + u1) / y < 4294967296 := Int.ediv_lt_of_lt_mul (by omega) (by omega)
  obtain ⟨q, hq⟩ : ∃ q, q = (un * 4294967296 + u1) / y := ⟨_, rfl⟩
  obtain ⟨r, hr⟩ : ∃ r, r = (un * 4294967296 + u1) % y := ⟨_, rfl⟩
  rw [← hq, ← hr] at e1
  rw [← hr] at e2 e3
  rw [← hq] at q0 q1
  rw [← hq, ← hr]
  refine ⟨hy, h1, h0, by omega, hu1, ?_, ⟨q0, q1⟩, by omega⟩
  rw [← e1, Int.mul_comm y q, hy, Int.mul_add, Int.mul_assoc]
/-- A guess p of the digit, with what it leaves of un. -/
structure KnI (v1 un q p s : Int) : Prop where
  eun : un = p * v1 + s
  bs : 0 ≤ s
  bp : q ≤ p ∧ p ≤ 4294967297
theorem Kn.start {y v1 v0 un u1 q r : Int} (h : Kn y v1 v0 un u1 q r) : KnI v1 un q (un / v1) (un - un / v1 * v1) ∧ un - un / v1 * v1 < v1 ∧ 0 ≤ un / v1 * v1 ∧ un / v1 * v1 ≤ un := by
  obtain ⟨hy, h1, h0, hu, hu1, hqr, hq, hr⟩ := h
  have e1 := Int.mul_ediv_add_emod un v1
  have e2 := Int.emod_nonneg un (show v1 ≠ 0 by omega)
  have e3 := Int.emod_lt_of_pos un (show 0 < v1 by omega)
  rw [Int.mul_comm] at e1
  have hp : un / v1 < 4294967298 := Int.ediv_lt_of_lt_mul (by omega) (by omega)
  have hge : q ≤ un / v1 := by
    refine Int.le_ediv_of_mul_le (by omega) ?_
    have : 0 ≤ q * v0 := Int.mul_nonneg hq.1 h0.1
    omega
  have h3 : 0 ≤ un / v1 * v1 := Int.mul_nonneg (Int.ediv_nonneg hu.1 (by omega)) (by omega)
  exact ⟨⟨by omega, by omega, hge, by omega⟩, by omega, h3, by omega⟩
/-- The guess is right. -/
theorem Kn.stop {y v1 v0 un u1 q r p s : Int} (h : Kn y v1 v0 un u1 q r) (hi : KnI v1 un q p s) (hc : p * v0 ≤ 4294967296 * s + u1) : p = q := by
  obtain ⟨hy, h1, h0, hu, hu1, hqr, hq, hr⟩ := h
  obtain ⟨i1, i2, i3⟩ := hi
  rcases Int.lt_or_le q p with hlt | hle
  · exfalso
    have e : (p - (q + 1)) * (v1 * 4294967296 + v0) ≥ 0 := Int.mul_nonneg (by omega) (by omega)
    have e2 : (p - (q + 1)) * (v1 * 4294967296 + v0) = p * v1 * 4294967296 + p * v0 - (q * v1 * 4294967296 + q * v0) - (v1 * 4294967296 + v0) := by
      rw [Int.sub_mul, Int.add_mul, Int.one_mul, Int.mul_add, Int.mul_add, ← Int.mul_assoc, ← Int.mul_assoc]
      omega
    omega
  · omega
/-- The guess is too great: the next is not too small. -/
theorem Kn.next {y v1 v0 un u1 q r p s : Int} (h : Kn y v1 v0 un u1 q r) (hi : KnI v1 un q p s) (hc : 4294967296 ≤ p ∨ 4294967296 * s + u1 < p * v0) : KnI v1 un q (p - 1) (s + v1) := by
  obtain ⟨hy, h1, h0, hu, hu1, hqr, hq, hr⟩ := h
  obtain ⟨i1, i2, i3⟩ := hi
  have hlt : q < p := by
    rcases hc with hc | hc
    · omega
    · rcases Int.lt_or_le q p with hlt | hle
      · exact hlt
      · exfalso
        have : p = q := by omega
        subst this
        omega
  have e : (p - 1) * v1 = p * v1 - v1 := by rw [Int.sub_mul, Int.one_mul]
  exact ⟨by omega, by omega, by omega, by omega⟩
/-- What is left is great: the guess is right. -/
theorem Kn.out {y v1 v0 un u1 q r p s : Int} (h : Kn y v1 v0 un u1 q r) (hi : KnI v1 un q p s) (hs : 4294967296 ≤ s) (hp : p ≤ 4294967296) : p = q := by
  refine h.stop hi ?_
  obtain ⟨hy, h1, h0, hu, hu1, hqr, hq, hr⟩ := h
  obtain ⟨i1, i2, i3⟩ := hi
  have e1 : p * v0 ≤ 4294967296 * v0 := Int.mul_le_mul_of_nonneg_right (by omega) h0.1
  have e2 : 4294967296 * 4294967296 ≤ 4294967296 * s := by omega
  omega
theorem Kn.left {y v1 v0 un u1 q r : Int} (h : Kn y v1 v0 un u1 q r) : q * y = q * v1 * 4294967296 + q * v0 := by
  rw [h.ey, Int.mul_add, Int.mul_assoc]
theorem b_lead (x : Nat) (h : x < 18446744073709551616) : FC Tryz.prog G 178 [.val (.int .u64 (x : Int))] (· = .val (.int .i64 (64 - (bl x : Int)))) := by
  have f1 := b_len (G := G) x h
  have hb : bl x ≤ 64 := bl_le (k := 64) (by omega)
  refine FC.intro (X := XX) tok Tryz.func178 rfl Tryz.ntmps178 (by rw [Tryz.results178]) (by kernel_rfl) rfl ?_; intro F hG hO
  rw [← hG] at f1
  repeat' ((try (conv => whnf)); first
  | ((with_reducible refine cg ?_); first | refine ceq f1 rfl ?_)
  
  | with_reducible first
    | refine Chk.mk' (by first | omega | exact trivial | (simp only [List.length_append, List.length_set, List.length_replicate, List.length_take, List.length_drop, List.length_cons, List.length_nil, List.length_map]; omega)) ?_
    | refine wrap_g (by dsimp only [inR]; omega) ?_
    | refine idx_g (by omega) ?_ | refine idx_l _ rfl (by decide) ?_ | refine BothG.mk ?_ ?_ | refine fork_tt ?_ | refine fork_ff ?_
    | (refine fork_e (c := true) (by decide) ?_; refine fork_tt ?_) | (refine fork_e (c := false) (by decide) ?_; refine fork_ff ?_)
    | refine fork_t (by omega) ?_ | refine fork_f (by omega) ?_ | (refine fork_d ?_ ?_ <;> intro hc) | refine fork_n ?_ | (refine fork_b ?_ ?_ <;> intro hc)
    | refine SlcG.mk (by omega) ?_ | refine MakG.mk (by dsimp only; omega) ?_
    | refine AppG.mk (by first | omega | (simp only [List.length_append, List.length_set, List.length_replicate, List.length_take, List.length_drop, List.length_cons, List.length_nil, List.length_map]; omega)) (by dsimp only [List.length_cons, List.length_nil]; omega) (by omega) ?_
    | refine div_g (by omega) (by omega) (by dsimp only [inR]; omega) ?_ | refine mod_g (by omega) (by omega) ?_
    | refine mask_g (m := 4294967296) 32 rfl rfl (by decide) (by omega) ?_ | refine shr_g (m := 4294967296) 32 rfl (by decide) (by omega) rfl ?_
    | refine fz_all (by omega) ?_ | (refine smk ?_ ?_; constructor))
  exact ⟨ret_e rfl⟩
theorem or_g2 {a b : Int} {K : Int → Prop} (k : Nat) (ha : 0 ≤ a ∧ a < 18446744073709551616) (hb : 0 ≤ b ∧ b < 18446744073709551616) (h : b < 2 ^ k) (hm : a % 2 ^ k = 0) (hs : a + b < 18446744073709551616) (x : K (a + b)) : BitG .or .u64 a b K := by
  have e : bitI .or .u64 a b = bitI .or .u64 b a := by
    show IntKind.u64.wrap _ = IntKind.u64.wrap _
    simp only [BitVec.or_comm]
  have := or_g (K := fun y => K y) k hb ha h hm (by omega) (by rw [Int.add_comm]; exact x)
  obtain ⟨h1⟩ := this
  exact ⟨by rw [e]; exact h1⟩
end Go.Proofs.YtpjbgmafnheomaaGreatDoor.Sim
namespace Go.Proofs.YtpjbgmafnheomaaGreatDoor.Sim
open Go.RowKit
set_option linter.unusedVariables false
set_option linter.unusedSimpArgs false
set_option maxRecDepth 10000
set_option maxHeartbeats 8000000
variable {G : List (Nat × List Value)}
theorem p2_posn (k : Nat) : (0 : Int) < 2 ^ k := Int.pow_pos (by decide)
/-- The numbers of a division, shifted so that the divisor's top bit is set. -/
theorem div_norm {hi lo d : Int} (hd : 0 < d ∧ d < 18446744073709551616) (hh : 0 ≤ hi ∧ hi < d) (hl : 0 ≤ lo ∧ lo < 18446744073709551616) : ∃ s : Nat, ∃ y un ul : Int, (s : Int) = 64 - (bl d.toNat : Int) ∧ s ≤ 63 ∧ d * 2 ^ s % 18446744073709551616 = y ∧ d * 2 ^ s = y ∧ 9223372036854775808 ≤ y ∧ y < 18446744073709551616
    ∧ hi * 2 ^ s % 18446744073709551616 + lo / 2 ^ (64 - s) = un ∧ lo * 2 ^ s % 18446744073709551616 = ul ∧ 0 ≤ un ∧ un < y ∧ 0 ≤ ul ∧ ul < 18446744073709551616 ∧ (hi * 18446744073709551616 + lo) * 2 ^ s = un * 18446744073709551616 + ul
    ∧ (0 ≤ hi * 2 ^ s % 18446744073709551616 ∧ hi * 2 ^ s % 18446744073709551616 < 18446744073709551616) ∧ (0 ≤ lo / 2 ^ (64 - s) ∧ lo / 2 ^ (64 - s) < 18446744073709551616) ∧ lo / 2 ^ (64 - s) < 2 ^ s ∧ hi * 2 ^ s % 18446744073709551616 % 2 ^ s = 0 := by
  have hb : bl d.toNat ≤ 64 := bl_le (k := 64) (by omega)
  have hp := bl_pos (n := d.toNat) (by omega)
  obtain ⟨s, hs⟩ : ∃ s, s = 64 - bl d.toNat := ⟨_, rfl⟩
  have h1 := lt_bl d.toNat
  have h2 := bl_low (n := d.toNat) (by omega)
  have e1 : (2 : Nat) ^ bl d.toNat * 2 ^ s = 18446744073709551616 := by rw [← Nat.pow_add, show bl d.toNat + s = 64 by omega]
  have e2 : (2 : Nat) ^ (bl d.toNat - 1) * 2 ^ s = 9223372036854775808 := by rw [← Nat.pow_add, show bl d.toNat - 1 + s = 63 by omega]
  have e3 : (2 : Nat) ^ (64 - s) * 2 ^ s = 18446744073709551616 := by rw [← Nat.pow_add, show 64 - s + s = 64 by omega]
  have a1 : d.toNat * 2 ^ s < 18446744073709551616 := by rw [← e1]; exact Nat.mul_lt_mul_of_pos_right h1 (Nat.pow_pos (by decide))
  have a2 : 9223372036854775808 ≤ d.toNat * 2 ^ s := by rw [← e2]; exact Nat.mul_le_mul_right _ h2
  have hPi : (2 : Int) ^ s = ((2 ^ s : Nat) : Int) := by simp
  have hQi : (2 : Int) ^ (64 - s) = ((2 ^ (64 - s) : Nat) : Int) := by simp
  have hPp : 0 < 2 ^ s := Nat.pow_pos (by decide)
  have hQp : 0 < 2 ^ (64 - s) := Nat.pow_pos (by decide)
  refine ⟨s, ?_⟩
  rw [hPi, hQi]
  obtain ⟨P, hP⟩ : ∃ P, P = 2 ^ s := ⟨_, rfl⟩
  obtain ⟨Q, hQ⟩ : ∃ Q, Q = 2 ^ (64 - s) := ⟨_, rfl⟩
  rw [← hP] at e3 a1 a2 hPp ⊢
  rw [← hQ] at e3 hQp ⊢
  have hdP : d * (P : Int) = ((d.toNat * P : Nat) : Int) := by rw [Int.natCast_mul]; congr 1; omega
  have hQP : (Q : Int) * P = 18446744073709551616 := by rw [← Int.natCast_mul, e3]; rfl
  have hiP : hi * (P : Int) < d * P := Int.mul_lt_mul_of_pos_right hh.2 (by omega)
  have hiP0 : 0 ≤ hi * (P : Int) := Int.mul_nonneg hh.1 (by omega)
  have hiP1 : hi * (P : Int) + P ≤ d * P := by
    have h := Int.mul_le_mul_of_nonneg_right (show hi + 1 ≤ d by omega) (show (0 : Int) ≤ P by omega)
    rw [Int.add_mul, Int.one_mul] at h
    exact h
  have hloP : lo * (P : Int) / 18446744073709551616 = lo / Q := by rw [← hQP, Int.mul_ediv_mul_of_pos_left _ _ (by omega)]
  have hb0 : 0 ≤ lo / (Q : Int) := Int.ediv_nonneg hl.1 (by omega)
  have hb1 : lo / (Q : Int) < P := Int.ediv_lt_of_lt_mul (by omega) (by rw [Int.mul_comm, hQP]; exact hl.2)
  have hPW : (P : Int) ≤ 18446744073709551616 := by
    have h := Int.mul_le_mul_of_nonneg_right (show (1 : Int) ≤ Q by omega) (show (0 : Int) ≤ P by omega)
    rw [Int.one_mul, hQP] at h
    exact h
  have hm := Int.mul_ediv_add_emod (lo * (P : Int)) 18446744073709551616
  rw [hloP] at hm
  have hm1 : hi * (P : Int) % 18446744073709551616 = hi * P := Int.emod_eq_of_lt hiP0 (by omega)
  rw [hm1]
  refine ⟨d * P, hi * P + lo / Q, lo * P % 18446744073709551616, by omega, by omega, Int.emod_eq_of_lt (by omega) (by omega), rfl, by omega, by omega, rfl, rfl, by omega, by omega, by omega, by omega, ?_, ⟨by omega, by omega⟩, ⟨hb0, by omega⟩, hb1, Int.mul_emod_left _ _⟩
  rw [Int.add_mul, Int.mul_right_comm]
  omega
theorem div_final {hi lo d P y un ul v1 v0 u1 u0 q1 r1 q0 r0 : Int} (hP : 0 < P) (hd : 0 < d) (hy : d * P = y) (hN : (hi * 18446744073709551616 + lo) * P = un * 18446744073709551616 + ul) (hul : ul = u1 * 4294967296 + u0) (k1 : Kn y v1 v0 un u1 q1 r1) (k0 : Kn y v1 v0 r1 u0 q0 r0) :
    q1 * 4294967296 + q0 = (hi * 18446744073709551616 + lo) / d ∧ r0 / P = (hi * 18446744073709551616 + lo) % d := by
  have e1 := k1.qr
  have e0 := k0.qr
  have l1 := k1.left
  have l0 := k0.left
  have hr := k0.br
  rw [← k1.ey] at hr
  obtain ⟨N, hNN⟩ : ∃ N, N = hi * 18446744073709551616 + lo := ⟨_, rfl⟩
  rw [← hNN] at hN ⊢
  have hmain : N * P = y * (q1 * 4294967296 + q0) + r0 := by
    rw [Int.mul_add, Int.mul_comm y q0, ← Int.mul_assoc, Int.mul_comm y q1]
    omega
  have hq : q1 * 4294967296 + q0 = N / d := by
    have h1 : N * P / (d * P) = N / d := Int.mul_ediv_mul_of_pos_left _ _ hP
    rw [hy] at h1
    rw [← h1]
    exact (div_of (a := N * P) (b := y) (q := q1 * 4294967296 + q0) (r := r0) (by omega) (by omega) hr.1 hr.2).1.symm
  refine ⟨hq, ?_⟩
  have h2 : N * P % (d * P) = N % d * P := by
    rw [Int.mul_comm N P, Int.mul_comm d P, Int.mul_comm (N % d) P]
    exact Int.mul_emod_mul_of_pos _ _ hP
  rw [hy] at h2
  have h3 : N * P % y = r0 := (div_of (a := N * P) (b := y) (q := q1 * 4294967296 + q0) (r := r0) (by omega) (by omega) hr.1 hr.2).2
  rw [h3] at h2
  rw [h2]
  exact Int.mul_ediv_cancel _ (by omega)
end Go.Proofs.YtpjbgmafnheomaaGreatDoor.Sim
namespace Go.Proofs.YtpjbgmafnheomaaGreatDoor.Sim
open Go.RowKit
set_option linter.unusedVariables false
set_option linter.unusedSimpArgs false
set_option maxRecDepth 10000
set_option maxHeartbeats 8000000
variable {G : List (Nat × List Value)}
theorem b_div (hi lo d : Int) (hd : 0 < d ∧ d < 18446744073709551616) (hh : 0 ≤ hi ∧ hi < d) (hl : 0 ≤ lo ∧ lo < 18446744073709551616) : FC Tryz.prog G 199 [.val (.int .u64 hi), .val (.int .u64 lo), .val (.int .u64 d)] (· = .tup [.val (.int .u64 ((hi * 18446744073709551616 + lo) / d)), .val (.int .u64 ((hi * 18446744073709551616 + lo) % d))]) := by
  obtain ⟨s, y, un, ul, n0, n1, n2, n3, n4, n5, n6, n7, n8, n9, n10, n11, n12, n13, n14, n15, n16⟩ := div_norm hd hh hl
  have f1 := b_lead (G := G) d.toNat (by omega)
  rw [← n0, show ((d.toNat : Nat) : Int) = d by omega] at f1
  obtain ⟨v1, hv1⟩ : ∃ v, v = y / 4294967296 := ⟨_, rfl⟩
  obtain ⟨v0, hv0⟩ : ∃ v, v = y % 4294967296 := ⟨_, rfl⟩
  obtain ⟨u1, hu1⟩ : ∃ v, v = ul / 4294967296 := ⟨_, rfl⟩
  obtain ⟨u0, hu0⟩ : ∃ v, v = ul % 4294967296 := ⟨_, rfl⟩
  have K1 := kn_of (y := y) (v1 := v1) (v0 := v0) (un := un) (u1 := u1) (by omega) (by omega) (by omega) ⟨n8, n9⟩ (by omega)
  obtain ⟨q1, hq1⟩ : ∃ q, q = (un * 4294967296 + u1) / y := ⟨_, rfl⟩
  obtain ⟨r1, hr1⟩ : ∃ q, q = (un * 4294967296 + u1) % y := ⟨_, rfl⟩
  rw [← hq1, ← hr1] at K1
  have kr1 := K1.br
  rw [← K1.ey] at kr1
  have K0 := kn_of (y := y) (v1 := v1) (v0 := v0) (un := r1) (u1 := u0) (by omega) (by omega) (by omega) kr1 (by omega)
  obtain ⟨q0, hq0⟩ : ∃ q, q = (r1 * 4294967296 + u0) / y := ⟨_, rfl⟩
  obtain ⟨r0, hr0⟩ : ∃ q, q = (r1 * 4294967296 + u0) % y := ⟨_, rfl⟩
  rw [← hq0, ← hr0] at K0
  have kr0 := K0.br
  rw [← K0.ey] at kr0
  have kq1 := K1.bq
  have kq0 := K0.bq
  obtain ⟨fin1, fin2⟩ := div_final (p2_posn s) hd.1 n3 n12 (show ul = u1 * 4294967296 + u0 by omega) K1 K0
  rw [← fin1, ← fin2]
  obtain ⟨i1, i2, i3, i4⟩ := K1.start
  obtain ⟨j1, j2, j3, j4⟩ := K0.start
  have bv1 : 2147483648 ≤ v1 ∧ v1 < 4294967296 := K1.bv1
  have bv0 : 0 ≤ v0 ∧ v0 < 4294967296 := K1.bv0
  have bu1 : 0 ≤ u1 ∧ u1 < 4294967296 := K1.bu1
  have bu0 : 0 ≤ u0 ∧ u0 < 4294967296 := K0.bu1
  have st : ((s : Int)).toNat = s := Int.toNat_natCast s
  have st2 : ((64 : Int) - (s : Int)).toNat = 64 - s := by omega
  have hsum : Unit → hi * 2 ^ s % 18446744073709551616 + lo / 2 ^ (64 - s) < 18446744073709551616 := fun _ => by omega
  have N13 : Unit → _ := fun _ => n13
  have N14 : Unit → _ := fun _ => n14
  have N15 : Unit → _ := fun _ => n15
  have N2 : Unit → _ := fun _ => n2
  have N7 : Unit → _ := fun _ => n7
  have N6 : Unit → _ := fun _ => n6
  have FIN1 : Unit → _ := fun _ => fin1
  have FIN2 : Unit → _ := fun _ => fin2
  have N16 : Unit → _ := fun _ => n16
  have hs64 : (s : Int) ≤ 63 := by omega
  have I1 : Unit → _ := fun _ => i1
  have J1 : Unit → _ := fun _ => j1
  clear hq1 hr1 hq0 hr0 n0 n1 n2 n3 n6 n7 n12 n13 n14 n15 n16 fin1 fin2 i1 j1
  refine FC.intro (X := XX) tok Tryz.func199 rfl Tryz.ntmps199 (by rw [Tryz.results199]) (by kernel_rfl) rfl ?_; intro F hG hO
  rw [← hG] at f1
  repeat' ((try (conv => whnf)); first
  | ((with_reducible refine cg ?_); first | refine ceq f1 rfl ?_)
  | (with_reducible refine or_g2 s (N13 ()) (N14 ()) (N15 ()) (N16 ()) (hsum ()) ?_; rw [N6 ()])
  | ((with_reducible refine shl_m (by omega) ?_); rw [st]; first | rw [N2 ()] | rw [N7 ()] | skip)
  | ((with_reducible refine shr_g (m := 4294967296) 32 rfl (by decide) (by omega) rfl ?_); first | rw [← hv1] | rw [← hu1])
  | ((with_reducible refine shr_p (by omega) (by dsimp only [IntKind.bits]; omega) ?_); first | rw [st2] | rw [st])
  | ((with_reducible refine mask_g (m := 4294967296) 32 rfl rfl (by decide) (by omega) ?_); first | rw [← hv0] | rw [← hu0])
  | ((with_reducible refine lg ?_); refine loop_g (A := Int × Int) (fun (p2, t2) => KnI v1 r1 q0 p2 t2 ∧ t2 < 4294967296) (fun (p2, t2) => p2.toNat) (fun (p2, t2) => [(2, .val (.int .u64 y)), (8, .val (.int .u64 (s : Int))), (9, .val (.int .u64 v1)), (10, .val (.int .u64 v0)), (14, .val (.int .u64 u0)), (15, .val (.int .u64 q1)), (16, .val (.int .u64 t2)), (17, .val (.int .u64 r1)), (18, .val (.int .u64 p2))]) (fun _ => []) (fun _ => []) (r1 / v1, r1 - r1 / v1 * v1) tok (fun _ => ⟨⟨trivial, trivial, trivial, trivial, trivial, trivial, trivial, trivial, trivial, trivial⟩, trivial, by simp only [List.length_nil]; omega⟩) ⟨J1 (), by omega⟩ ⟨rfl, rfl, rfl, rfl, rfl, iv_eq (by first | exact K1.stop hI (by omega) | exact K1.out (hnx () (by omega)) (by omega) (by have := hI.bp; omega)), rfl, rfl, rfl, trivial⟩ ⟨[], rfl⟩ ⟨[], rfl⟩ ?_; rintro ⟨p2, t2⟩ ⟨hJ, ht2⟩; have hJs := hJ.bs; have hJp := hJ.bp; have hpv2 : Unit → p2 < 4294967296 → 0 ≤ p2 * v0 ∧ p2 * v0 ≤ 18446744065119617025 := (fun _ h => mul_bd32 ⟨by omega, h⟩ bv0); have hnx2 : Unit → (4294967296 ≤ p2 ∨ 4294967296 * t2 + u0 < p2 * v0) → KnI v1 r1 q0 (p2 - 1) (t2 + v1) := (fun _ h => K0.next hJ h))
  | ((with_reducible refine lg ?_); refine loop_g (A := Int × Int) (fun (p, t) => KnI v1 un q1 p t ∧ t < 4294967296) (fun (p, t) => p.toNat) (fun (p, t) => [(2, .val (.int .u64 y)), (8, .val (.int .u64 (s : Int))), (9, .val (.int .u64 v1)), (10, .val (.int .u64 v0)), (11, .val (.int .u64 un)), (13, .val (.int .u64 u1)), (14, .val (.int .u64 u0)), (15, .val (.int .u64 p)), (16, .val (.int .u64 t))]) (fun _ => []) (fun _ => []) (un / v1, un - un / v1 * v1) tok (fun _ => ⟨⟨trivial, trivial, trivial, trivial, trivial, trivial, trivial, trivial, trivial, trivial⟩, trivial, by simp only [List.length_nil]; omega⟩) ⟨I1 (), by omega⟩ ⟨rfl, rfl, rfl, rfl, rfl, rfl, rfl, rfl, rfl, trivial⟩ ⟨[], rfl⟩ ⟨[], rfl⟩ ?_; rintro ⟨p, t⟩ ⟨hI, ht⟩; have hIs := hI.bs; have hIp := hI.bp; have hpv : Unit → p < 4294967296 → 0 ≤ p * v0 ∧ p * v0 ≤ 18446744065119617025 := (fun _ h => mul_bd32 ⟨by omega, h⟩ bv0); have hnx : Unit → (4294967296 ≤ p ∨ 4294967296 * t + u1 < p * v0) → KnI v1 un q1 (p - 1) (t + v1) := (fun _ h => K1.next hI h))
  | (with_reducible refine wrap_g (by have h := hpv2 () (by omega); dsimp only [inR]; omega) ?_)
  | (with_reducible refine wrap_g (by have h := hpv () (by omega); dsimp only [inR]; omega) ?_)
  | (with_reducible refine wrap_g (by have h := (hnx2 () (by omega)).bp; dsimp only [inR]; omega) ?_)
  | (with_reducible refine wrap_g (by have h := (hnx () (by omega)).bp; dsimp only [inR]; omega) ?_)
  | (with_reducible refine wrap_g (by dsimp only [inR]; omega) ?_)
  | (with_reducible refine wrap_e (m := q1 * 4294967296 + q0) (by rw [wrap64]; first | (have e := K0.stop hJ (by omega); rw [e]; omega) | (have e := K0.out (hnx2 () (by omega)) (by omega) (by have := hJ.bp; omega); rw [e]; omega)) ?_)
  | (with_reducible refine wrap_e (m := r0) (by rw [wrap64]; first | (have e := K0.stop hJ (by omega); rw [e]; (rw [K0.left]; have := K0.qr; omega)) | (have e := K0.out (hnx2 () (by omega)) (by omega) (by have := hJ.bp; omega); rw [e]; (rw [K0.left]; have := K0.qr; omega))) ?_)
  | (with_reducible refine wrap_e (m := r1) (by rw [wrap64]; first | (have e := K1.stop hI (by omega); rw [e]; (rw [K1.left]; have := K1.qr; omega)) | (have e := K1.out (hnx () (by omega)) (by omega) (by have := hI.bp; omega); rw [e]; (rw [K1.left]; have := K1.qr; omega))) ?_)
  | ((with_reducible refine wrap_r ?_); rw [wrap64])
  
  | (with_reducible refine draw_g (id := 6) [[0, 1, 2, 3, 4, 5, 6, 7]] tok mixed (by kernel_rfl) ?_)
  | with_reducible first
    | refine Chk.mk' (by first | omega | exact trivial | (simp only [List.length_append, List.length_set, List.length_replicate, List.length_take, List.length_drop, List.length_cons, List.length_nil, List.length_map]; omega)) ?_
    | refine wrap_g (by dsimp only [inR]; omega) ?_
    | refine idx_g (by omega) ?_ | refine idx_l _ rfl (by decide) ?_ | refine BothG.mk ?_ ?_ | refine fork_tt ?_ | refine fork_ff ?_
    | (refine fork_e (c := true) (by decide) ?_; refine fork_tt ?_) | (refine fork_e (c := false) (by decide) ?_; refine fork_ff ?_)
    | refine fork_t (by omega) ?_ | refine fork_f (by omega) ?_ | (refine fork_d ?_ ?_ <;> intro hc) | refine fork_n ?_ | (refine fork_b ?_ ?_ <;> intro hc)
    | refine SlcG.mk (by omega) ?_ | refine MakG.mk (by dsimp only; omega) ?_
    | refine AppG.mk (by first | omega | (simp only [List.length_append, List.length_set, List.length_replicate, List.length_take, List.length_drop, List.length_cons, List.length_nil, List.length_map]; omega)) (by dsimp only [List.length_cons, List.length_nil]; omega) (by omega) ?_
    | refine div_g (by omega) (by omega) (by dsimp only [inR]; omega) ?_ | refine mod_g (by omega) (by omega) ?_
    | refine mask_g (m := 4294967296) 32 rfl rfl (by decide) (by omega) ?_ | refine shr_g (m := 4294967296) 32 rfl (by decide) (by omega) rfl ?_
    | refine fz_all (by omega) ?_ | (refine smk ?_ ?_; constructor))
  · exact ⟨ret_e (tup2_eq (by rw [FIN1 (), hc]; simp) (by rw [FIN2 (), hc]; simp))⟩
  all_goals first
    | exact ⟨ret_e (tup2_eq (by first | rfl | (rw [K0.stop hJ (by omega)]) | (rw [K0.out (hnx2 () (by omega)) (by omega) (by have := hJ.bp; omega)])) rfl)⟩
    | exact ⟨again (p2 - 1, t2 + v1) ⟨hnx2 () (by omega), by omega⟩ (by have h := (hnx2 () (by omega)).bp; dsimp only; omega) ⟨rfl, rfl, rfl, rfl, rfl, rfl, rfl, rfl, rfl, trivial⟩ ⟨[], rfl⟩ ⟨[], rfl⟩⟩
    | exact ⟨again (p - 1, t + v1) ⟨hnx () (by omega), by omega⟩ (by have h := (hnx () (by omega)).bp; dsimp only; omega) ⟨rfl, rfl, rfl, rfl, rfl, rfl, rfl, rfl, rfl, trivial⟩ ⟨[], rfl⟩ ⟨[], rfl⟩⟩
end Go.Proofs.YtpjbgmafnheomaaGreatDoor.Sim
namespace Go.Proofs.YtpjbgmafnheomaaGreatDoor.Sim
open Go.RowKit
set_option linter.unusedVariables false
set_option linter.unusedSimpArgs false
set_option maxRecDepth 10000
set_option maxHeartbeats 8000000
variable {G : List (Nat × List Value)}
/-- Digits that a place takes off: by the rest that is carried and owed. -/
theorem take_round6 {x s v : List Int} {w c e d c2 e2 : Int} (h6 : okD 18446744073709551616 s) (hv : vl 18446744073709551616 s = vl 18446744073709551616 (x.take s.length) - w * vl 18446744073709551616 (v.take s.length) + 18446744073709551616 ^ s.length * (c + e)) (hd : 0 ≤ d ∧ d < 18446744073709551616) (hT : d = rd x s.length - (c + w * rd v s.length) + 18446744073709551616 * c2 - e + 18446744073709551616 * e2) :
    okD 18446744073709551616 (s ++ [d]) ∧ vl 18446744073709551616 (s ++ [d]) = vl 18446744073709551616 (x.take (s.length + 1)) - w * vl 18446744073709551616 (v.take (s.length + 1)) + 18446744073709551616 ^ (s.length + 1) * (c2 + e2) := by
  refine ⟨okD_append.2 ⟨h6, okD_cons.2 ⟨hd, okD_nil _⟩⟩, ?_⟩
  have h := sum_step (B := 18446744073709551616) (vs := 18446744073709551616 ^ s.length * (c + e)) (d := d) (c2 := -(c2 + e2)) (T := rd x s.length - (c + w * rd v s.length) - e) s.length (by omega)
  rw [vl_snoc, vl_take_step, vl_take_step, hv]
  have e1 : w * (vl 18446744073709551616 (v.take s.length) + 18446744073709551616 ^ s.length * rd v s.length) = w * vl 18446744073709551616 (v.take s.length) + 18446744073709551616 ^ s.length * (w * rd v s.length) := by rw [Int.mul_add, Int.mul_left_comm]
  have e2 : (18446744073709551616 : Int) ^ s.length * (rd x s.length - (c + w * rd v s.length) - e) = 18446744073709551616 ^ s.length * rd x s.length - 18446744073709551616 ^ s.length * (c + e) - 18446744073709551616 ^ s.length * (w * rd v s.length) := by
    rw [← Int.mul_sub, ← Int.mul_sub]; congr 1; omega
  rw [e2, Int.mul_neg] at h
  rw [e1]
  omega
theorem give_round6 {x s v : List Int} {c d c2 : Int} (h6 : okD 18446744073709551616 s) (hv : vl 18446744073709551616 s + 18446744073709551616 ^ s.length * c = vl 18446744073709551616 (x.take s.length) + vl 18446744073709551616 (v.take s.length)) (hd : 0 ≤ d ∧ d < 18446744073709551616) (hT : d + 18446744073709551616 * c2 = c + rd x s.length + rd v s.length) :
    okD 18446744073709551616 (s ++ [d]) ∧ vl 18446744073709551616 (s ++ [d]) + 18446744073709551616 ^ (s.length + 1) * c2 = vl 18446744073709551616 (x.take (s.length + 1)) + vl 18446744073709551616 (v.take (s.length + 1)) := by
  refine ⟨okD_append.2 ⟨h6, okD_cons.2 ⟨hd, okD_nil _⟩⟩, ?_⟩
  rw [vl_snoc, sum_step (T := c + rd x s.length + rd v s.length) s.length hT, vl_take_step, vl_take_step, Int.mul_add, Int.mul_add]
  omega
def DigI6 (x v : List Int) (w : Int) (s : List Int) (c e : Int) : Prop := s.length ≤ v.length + 1 ∧ okD 18446744073709551616 s ∧ (0 ≤ c ∧ c < 18446744073709551616) ∧ (0 ≤ e ∧ e ≤ 1) ∧ (s.length = v.length + 1 → c = 0) ∧ vl 18446744073709551616 s = vl 18446744073709551616 (x.take s.length) - w * vl 18446744073709551616 (v.take s.length) + 18446744073709551616 ^ s.length * (c + e)
theorem DigI6.step {x v s : List Int} {w c e d e2 T : Int} (h : DigI6 x v w s c e) (hlt : s.length ≤ v.length) (hw : 0 ≤ w ∧ w < 18446744073709551616) (okv : okD 18446744073709551616 v) (hT0 : T = c + w * rd v s.length) (hd : 0 ≤ d ∧ d < 18446744073709551616) (he2 : 0 ≤ e2 ∧ e2 ≤ 1) (hT : d = rd x s.length - T % 18446744073709551616 - e + 18446744073709551616 * e2) : DigI6 x v w (s ++ [d]) (T / 18446744073709551616) e2 := by
  obtain ⟨h1, h2, h3, h4, h5, h6⟩ := h
  have hv := rd_bd (by decide) okv (s.length : Int)
  have hm := mul_bd64 hw hv
  have el : (s ++ [d]).length = s.length + 1 := by simp
  obtain ⟨g1, g2⟩ := take_round6 (x := x) (v := v) (w := w) (c := c) (e := e) (d := d) (c2 := T / 18446744073709551616) (e2 := e2) h2 h6 hd (by omega)
  refine ⟨by omega, g1, by omega, he2, fun hl => ?_, by rw [el]; exact g2⟩
  have hs : s.length = v.length := by omega
  have hz := rd_out v s.length (by omega)
  rw [hz, Int.mul_zero, Int.add_zero] at hT0
  omega
def GivI6 (y v r : List Int) (c : Int) : Prop := r.length ≤ v.length + 1 ∧ okD 18446744073709551616 r ∧ (0 ≤ c ∧ c ≤ 1) ∧ vl 18446744073709551616 r + 18446744073709551616 ^ r.length * c = vl 18446744073709551616 (y.take r.length) + vl 18446744073709551616 (v.take r.length)
theorem GivI6.step {y v r : List Int} {c T : Int} (h : GivI6 y v r c) (hlt : r.length ≤ v.length) (oky : okD 18446744073709551616 y) (okv : okD 18446744073709551616 v) (hT : T = c + rd y r.length + rd v r.length) : GivI6 y v (r ++ [T % 18446744073709551616]) (T / 18446744073709551616) := by
  obtain ⟨h1, h2, h3, h4⟩ := h
  have hv := rd_bd (by decide) okv (r.length : Int)
  have hy := rd_bd (by decide) oky (r.length : Int)
  have el : (r ++ [T % 18446744073709551616]).length = r.length + 1 := by simp
  obtain ⟨g1, g2⟩ := give_round6 (x := y) (v := v) (c := c) (d := T % 18446744073709551616) (c2 := T / 18446744073709551616) h2 h4 (by omega) (by omega)
  exact ⟨by omega, g1, by omega, by rw [el]; exact g2⟩
/-- The first guess is not too small. -/
theorem guess_ge6 {x v : List Int} {V : Int} {m : Nat} (okx : okD 18446744073709551616 x) (okv : okD 18446744073709551616 v) (vv : vl 18446744073709551616 v = V) (hl : v.length = m + 1) (hx : m + 2 ≤ x.length) (hv : 0 < rd v m) (hU : vl 18446744073709551616 (x.take (m + 2)) < 18446744073709551616 * V) :
    vl 18446744073709551616 (x.take (m + 2)) / V ≤ min ((rd x ((m + 1 : Nat) : Int) * 18446744073709551616 + rd x m) / rd v m) 18446744073709551615 := by
  have hV : 0 < V := by
    have h1 := vl_split 18446744073709551616 v m (by omega)
    have h2 := vl_nonneg (B := 18446744073709551616) (by decide) (okv.take m)
    rw [drop_rd v m (by omega), vl, List.drop_eq_nil_of_le (by omega)] at h1
    simp only [vl] at h1
    have h3 : 0 < (18446744073709551616 : Int) ^ m := Int.pow_pos (by decide)
    have h4 := Int.mul_pos h3 hv
    rw [Int.mul_zero, Int.add_zero] at h1
    rw [← vv]
    omega
  have hU0 := vl_nonneg (B := 18446744073709551616) (by decide) (okx.take (m + 2))
  obtain ⟨q, hq⟩ : ∃ q, q = vl 18446744073709551616 (x.take (m + 2)) / V := ⟨_, rfl⟩
  have hd := Int.mul_ediv_add_emod (vl 18446744073709551616 (x.take (m + 2))) V
  have hm := Int.emod_nonneg (vl 18446744073709551616 (x.take (m + 2))) (show V ≠ 0 by omega)
  have hq0 : 0 ≤ q := by rw [hq]; exact Int.ediv_nonneg hU0 (by omega)
  rw [← hq] at hd ⊢
  have h1 : q ≤ 18446744073709551615 := by
    rcases Int.lt_or_le 18446744073709551615 q with h | h
    · exfalso
      have : V * 18446744073709551616 ≤ V * q := Int.mul_le_mul_of_nonneg_left (by omega) (by omega)
      omega
    · exact h
  have h2 : q ≤ (rd x ((m + 1 : Nat) : Int) * 18446744073709551616 + rd x m) / rd v m := by
    refine Int.le_ediv_of_mul_le hv ?_
    have hp : 0 < (18446744073709551616 : Int) ^ m := Int.pow_pos (by decide)
    have a1 : 18446744073709551616 ^ m * rd v m ≤ V := by
      have h1 := vl_split 18446744073709551616 v m (by omega)
      have h2 := vl_nonneg (B := 18446744073709551616) (by decide) (okv.take m)
      rw [drop_rd v m (by omega), vl, List.drop_eq_nil_of_le (by omega)] at h1
      simp only [vl] at h1
      rw [← vv]
      have : (18446744073709551616 : Int) ^ m * (rd v m + 18446744073709551616 * 0) = 18446744073709551616 ^ m * rd v m := by rw [Int.mul_zero, Int.add_zero]
      omega
    have a2 : vl 18446744073709551616 (x.take (m + 2)) < 18446744073709551616 ^ m * (rd x ((m + 1 : Nat) : Int) * 18446744073709551616 + rd x m + 1) := by
      have h1 := vl_take_step 18446744073709551616 x (m + 1)
      have h2 := vl_take_step 18446744073709551616 x m
      have h3 := vl_lt (B := 18446744073709551616) (by decide) (okx.take m)
      rw [List.length_take, Nat.min_eq_left (by omega)] at h3
      rw [h1, h2, Int.pow_succ]
      rw [Int.mul_add, Int.mul_add, Int.mul_one]
      have e1 : (18446744073709551616 : Int) ^ m * 18446744073709551616 * rd x ((m + 1 : Nat) : Int) = 18446744073709551616 ^ m * (rd x ((m + 1 : Nat) : Int) * 18446744073709551616) := by rw [Int.mul_assoc, Int.mul_comm 18446744073709551616]
      rw [e1]
      omega
    have a3 : q * (18446744073709551616 ^ m * rd v m) ≤ q * V := Int.mul_le_mul_of_nonneg_left a1 hq0
    have a4 : 18446744073709551616 ^ m * (q * rd v m) < 18446744073709551616 ^ m * (rd x ((m + 1 : Nat) : Int) * 18446744073709551616 + rd x m + 1) := by
      rw [Int.mul_left_comm]
      rw [Int.mul_comm V q] at hd
      omega
    have := Int.lt_of_mul_lt_mul_left a4 (Int.le_of_lt hp)
    omega
  omega
theorem ins_row1 {T : TypeId} {p s : List Int} {lo k : Nat} {w d : Int} (hk : k = lo + s.length) (hw : w = d) (h : lo + s.length < p.length) : (some (⟨1, T, .w .u64 ((ins p lo s).set k w)⟩ : Row)) = some ⟨1, T, .w .u64 (ins p lo (s ++ [d]))⟩ := by
  subst hk; subst hw; rw [ins_set _ h]
theorem ins_row {T : TypeId} {p s : List Int} {lo k : Nat} {w d : Int} (hk : k = lo + s.length) (hw : w = d) (h : lo + s.length < p.length) : ([some (⟨1, T, .w .u64 ((ins p lo s).set k w)⟩ : Row)] : List (Option Row)) = [some ⟨1, T, .w .u64 (ins p lo (s ++ [d]))⟩] ++ [] := by
  rw [ins_row1 hk hw h]; rfl
theorem d_trial (hi lo d : Int) (hd : 0 < d ∧ d < 18446744073709551616) (hh : 0 ≤ hi ∧ hi < 18446744073709551616) (hl : 0 ≤ lo ∧ lo < 18446744073709551616) : FC Tryz.prog G 200 [.val (.int .u64 hi), .val (.int .u64 lo), .val (.int .u64 d)] (· = .val (.int .u64 (min ((hi * 18446744073709551616 + lo) / d) 18446744073709551615))) := by
  by_cases hc : hi < d
  · have f1 := b_div (G := G) hi lo d hd ⟨hh.1, hc⟩ hl
    have hq : (hi * 18446744073709551616 + lo) / d < 18446744073709551616 := Int.ediv_lt_of_lt_mul (by omega) (by omega)
    obtain ⟨q, hq2⟩ : ∃ q, q = (hi * 18446744073709551616 + lo) / d := ⟨_, rfl⟩
    rw [← hq2] at f1 hq ⊢
    rw [show min q 18446744073709551615 = q by omega]
    refine FC.intro (X := XX) tok Tryz.func200 rfl Tryz.ntmps200 (by rw [Tryz.results200]) (by kernel_rfl) rfl ?_; intro F hG hO
    rw [← hG] at f1
    repeat' ((try (conv => whnf)); first
  | ((with_reducible refine cg ?_); first | refine ceq f1 rfl ?_)
  
  | with_reducible first
    | refine Chk.mk' (by first | omega | exact trivial | (simp only [List.length_append, List.length_set, List.length_replicate, List.length_take, List.length_drop, List.length_cons, List.length_nil, List.length_map]; omega)) ?_
    | refine wrap_g (by dsimp only [inR]; omega) ?_
    | refine idx_g (by omega) ?_ | refine idx_l _ rfl (by decide) ?_ | refine BothG.mk ?_ ?_ | refine fork_tt ?_ | refine fork_ff ?_
    | (refine fork_e (c := true) (by decide) ?_; refine fork_tt ?_) | (refine fork_e (c := false) (by decide) ?_; refine fork_ff ?_)
    | refine fork_t (by omega) ?_ | refine fork_f (by omega) ?_ | (refine fork_d ?_ ?_ <;> intro hc) | refine fork_n ?_ | (refine fork_b ?_ ?_ <;> intro hc)
    | refine SlcG.mk (by omega) ?_ | refine MakG.mk (by dsimp only; omega) ?_
    | refine AppG.mk (by first | omega | (simp only [List.length_append, List.length_set, List.length_replicate, List.length_take, List.length_drop, List.length_cons, List.length_nil, List.length_map]; omega)) (by dsimp only [List.length_cons, List.length_nil]; omega) (by omega) ?_
    | refine div_g (by omega) (by omega) (by dsimp only [inR]; omega) ?_ | refine mod_g (by omega) (by omega) ?_
    | refine mask_g (m := 4294967296) 32 rfl rfl (by decide) (by omega) ?_ | refine shr_g (m := 4294967296) 32 rfl (by decide) (by omega) rfl ?_
    | refine fz_all (by omega) ?_ | (refine smk ?_ ?_; constructor))
    exact ⟨ret_e rfl⟩
  · have hq : 18446744073709551616 ≤ (hi * 18446744073709551616 + lo) / d := Int.le_ediv_of_mul_le hd.1 (by omega)
    obtain ⟨q, hq2⟩ : ∃ q, q = (hi * 18446744073709551616 + lo) / d := ⟨_, rfl⟩
    rw [← hq2] at hq ⊢
    rw [show min q 18446744073709551615 = 18446744073709551615 by omega]
    refine FC.intro (X := XX) tok Tryz.func200 rfl Tryz.ntmps200 (by rw [Tryz.results200]) (by kernel_rfl) rfl ?_; intro F hG hO
    repeat' ((try (conv => whnf)); first
  
  | with_reducible first
    | refine Chk.mk' (by first | omega | exact trivial | (simp only [List.length_append, List.length_set, List.length_replicate, List.length_take, List.length_drop, List.length_cons, List.length_nil, List.length_map]; omega)) ?_
    | refine wrap_g (by dsimp only [inR]; omega) ?_
    | refine idx_g (by omega) ?_ | refine idx_l _ rfl (by decide) ?_ | refine BothG.mk ?_ ?_ | refine fork_tt ?_ | refine fork_ff ?_
    | (refine fork_e (c := true) (by decide) ?_; refine fork_tt ?_) | (refine fork_e (c := false) (by decide) ?_; refine fork_ff ?_)
    | refine fork_t (by omega) ?_ | refine fork_f (by omega) ?_ | (refine fork_d ?_ ?_ <;> intro hc) | refine fork_n ?_ | (refine fork_b ?_ ?_ <;> intro hc)
    | refine SlcG.mk (by omega) ?_ | refine MakG.mk (by dsimp only; omega) ?_
    | refine AppG.mk (by first | omega | (simp only [List.length_append, List.length_set, List.length_replicate, List.length_take, List.length_drop, List.length_cons, List.length_nil, List.length_map]; omega)) (by dsimp only [List.length_cons, List.length_nil]; omega) (by omega) ?_
    | refine div_g (by omega) (by omega) (by dsimp only [inR]; omega) ?_ | refine mod_g (by omega) (by omega) ?_
    | refine mask_g (m := 4294967296) 32 rfl rfl (by decide) (by omega) ?_ | refine shr_g (m := 4294967296) 32 rfl (by decide) (by omega) rfl ?_
    | refine fz_all (by omega) ?_ | (refine smk ?_ ?_; constructor))
    exact ⟨ret_e rfl⟩
theorem d_takemul (p v : List Int) (lo n : Nat) (w : Int) (hvl : v.length = n) (hl : lo + n + 1 ≤ p.length) (hp : p.length ≤ 1073741824) (ok : okD 18446744073709551616 p) (okv : okD 18446744073709551616 v) (hw : 0 ≤ w ∧ w < 18446744073709551616) :
    PM Tryz.prog G 201 [.arr 0 lo (n + 1), .ws .u64 v, .val (.int .u64 w)] [⟨1, 82, .w .u64 p⟩] fun r rs => ∃ (e : Int) (s : List Int), r = .val (.int .u64 e) ∧ (0 ≤ e ∧ e ≤ 1) ∧ s.length = n + 1 ∧ okD 18446744073709551616 s ∧ vl 18446744073709551616 s = vl 18446744073709551616 ((p.drop lo).take (n + 1)) - w * vl 18446744073709551616 v + 18446744073709551616 ^ (n + 1) * e ∧ rs = [some ⟨1, 82, .w .u64 (ins p lo s)⟩] := by
  subst hvl
  obtain ⟨x, hx⟩ : ∃ x, x = p.drop lo := ⟨_, rfl⟩
  have okx : okD 18446744073709551616 x := by rw [hx]; exact ok.drop lo
  have hxl : v.length + 1 ≤ x.length := by rw [hx, List.length_drop]; omega
  rw [← hx]
  refine PM.intro (X := XX) tok Tryz.func201 rfl Tryz.ntmps201 (by rw [Tryz.results201]) (by kernel_rfl) rfl ?_; intro F hG hO; simp only [List.length_cons, List.length_nil, Nat.zero_add, Nat.reduceAdd] at hO
  repeat' ((try (conv => whnf)); first
  | (with_reducible refine sub64_g (by omega) (by omega) (by omega) ?_)
  | (with_reducible refine add64_g (by omega) (by omega) (by omega) ?_)
  | ((with_reducible refine cg ?_); refine call_eq (b_mul (rd v (s.length : Int)) w iv hw) (LpL.refl _) rfl ?_)
  | ((with_reducible refine lg ?_); refine loop_g (A := List Int × Int × Int) (fun (s, c, e) => DigI6 x v w s c e ∧ s.length ≤ v.length) (fun (s, c, e) => v.length - s.length) (fun (s, c, e) => [(0, .arr 0 lo (v.length + 1)), (1, .ws .u64 v), (2, .val (.int .u64 w)), (7, .val (.int .u64 c)), (8, .val (.int .u64 e)), (14, .val (.int .i64 (v.length : Int))), (15, .val (.int .i64 (s.length : Int)))]) (fun _ => []) (fun (s, c, e) => [some ⟨1, 82, .w .u64 (ins p lo s)⟩]) ([], 0, 0) tok (fun (s, c, e) => ⟨⟨Nat.one_pos, trivial, trivial, trivial, trivial, trivial, trivial, trivial⟩, trivial, by simp only [List.length_cons, List.length_nil]; omega⟩) ?_ ⟨rfl, rfl, rfl, rfl, rfl, rfl, rfl, trivial⟩ ⟨[], rfl⟩ ⟨[], (by dsimp only; rw [ins_nil]; rfl)⟩ ?_; rotate_left; rintro ⟨s, c, e⟩ ⟨hI, hs⟩; have iI2 := hI; obtain ⟨i1, i2, i3, i4, i5, i6⟩ := iI2; have ix := rd_bd (by decide) okx (s.length : Int); have iv := rd_bd (by decide) okv (s.length : Int); have im := mul_bd64 iv hw; have ig : (ins p lo s).getD (lo + (s.length : Int).toNat) 0 = rd x (s.length : Int) := (by rw [Int.toNat_natCast, ins_get (by omega), ← rd_drop, hx]); have il : (ins p lo s).length = p.length := ins_len (by omega); have ig2 : s.length = v.length → (ins p lo s).getD (lo + (v.length : Int).toNat) 0 = rd x (s.length : Int) := (fun h => by rw [← h]; exact ig))
  
  | with_reducible first
    | refine Chk.mk' (by first | omega | exact trivial | (simp only [List.length_append, List.length_set, List.length_replicate, List.length_take, List.length_drop, List.length_cons, List.length_nil, List.length_map]; omega)) ?_
    | refine wrap_g (by dsimp only [inR]; omega) ?_
    | refine idx_g (by omega) ?_ | refine idx_l _ rfl (by decide) ?_ | refine BothG.mk ?_ ?_ | refine fork_tt ?_ | refine fork_ff ?_
    | (refine fork_e (c := true) (by decide) ?_; refine fork_tt ?_) | (refine fork_e (c := false) (by decide) ?_; refine fork_ff ?_)
    | refine fork_t (by omega) ?_ | refine fork_f (by omega) ?_ | (refine fork_d ?_ ?_ <;> intro hc) | refine fork_n ?_ | (refine fork_b ?_ ?_ <;> intro hc)
    | refine SlcG.mk (by omega) ?_ | refine MakG.mk (by dsimp only; omega) ?_
    | refine AppG.mk (by first | omega | (simp only [List.length_append, List.length_set, List.length_replicate, List.length_take, List.length_drop, List.length_cons, List.length_nil, List.length_map]; omega)) (by dsimp only [List.length_cons, List.length_nil]; omega) (by omega) ?_
    | refine div_g (by omega) (by omega) (by dsimp only [inR]; omega) ?_ | refine mod_g (by omega) (by omega) ?_
    | refine mask_g (m := 4294967296) 32 rfl rfl (by decide) (by omega) ?_ | refine shr_g (m := 4294967296) 32 rfl (by decide) (by omega) rfl ?_
    | refine fz_all (by omega) ?_ | (refine smk ?_ ?_; constructor))
  · obtain ⟨T, hT⟩ : ∃ T : Int, T = c + w * rd v (s.length : Int) := ⟨_, rfl⟩
    have hP : rd v (s.length : Int) * w = w * rd v (s.length : Int) := Int.mul_comm _ _
    rw [hP] at im
    have hst := DigI6.step (d := (rd x (s.length : Int) - T % 18446744073709551616 - e) % 18446744073709551616) (e2 := -((rd x (s.length : Int) - T % 18446744073709551616 - e) / 18446744073709551616)) hI (by omega) hw okv hT (by omega) (by omega) (by omega)
    refine ⟨again (s ++ [(rd x (s.length : Int) - T % 18446744073709551616 - e) % 18446744073709551616], T / 18446744073709551616, -((rd x (s.length : Int) - T % 18446744073709551616 - e) / 18446744073709551616)) ⟨hst, by rw [len_snoc]; omega⟩ (by dsimp only; rw [len_snoc]; omega) ⟨rfl, rfl, rfl, iv_eq (by rw [hP]; omega), iv_eq (by rw [hP, ig]; omega), rfl, iv_eq (by rw [len_snoc]; omega), trivial⟩ ⟨[], rfl⟩ ⟨[], by dsimp only; exact ins_row (by omega) (by rw [hP, ig]; omega) (by omega)⟩⟩
  · have hsl : s.length = v.length := by omega
    have hz : rd v (s.length : Int) = 0 := rd_out v s.length (by omega)
    have hst := DigI6.step (T := c) (d := (rd x (s.length : Int) - c - e) % 18446744073709551616) (e2 := -((rd x (s.length : Int) - c - e) / 18446744073709551616)) hI (by omega) hw okv (by rw [hz]; omega) (by omega) (by omega) (by omega)
    obtain ⟨k1, k2, k3, k4, k5, k6⟩ := hst
    have kl := len_snoc s ((rd x (s.length : Int) - c - e) % 18446744073709551616)
    have kc : c / 18446744073709551616 = 0 := by omega
    rw [kl, List.take_of_length_le (l := v) (by omega), hsl, kc, Int.zero_add] at k6
    rw [hsl] at k2 k4 kl
    have ig3 := ig2 hsl
    rw [hsl] at ig3
    refine ⟨ret_m [0] _ [some ⟨1, 82, .w .u64 (ins p lo (s ++ [(rd x (v.length : Int) - c - e) % 18446744073709551616]))⟩] rfl rfl (by simp) (fun i h => one_row h) (congrArg (fun l => [some l]) (ins_row1 (by omega) (by rw [ig3]) (by omega))) ⟨_, _, iv_eq ?_, k4, by omega, k2, k6, rfl⟩⟩
    rw [ig3]
  · exact ⟨⟨Nat.zero_le _, okD_nil _, by decide, by decide, fun _ => rfl, by simp [vl]⟩, Nat.zero_le _⟩
end Go.Proofs.YtpjbgmafnheomaaGreatDoor.Sim
namespace Go.Proofs.YtpjbgmafnheomaaGreatDoor.Sim
open Go.RowKit
set_option linter.unusedVariables false
set_option linter.unusedSimpArgs false
set_option maxRecDepth 10000
set_option maxHeartbeats 8000000
variable {G : List (Nat × List Value)}
/-- What is left of a list is nought, if the list is below a power. -/
theorem tail_zero6 {l : List Int} {k : Nat} (ok : okD 18446744073709551616 l) (h : vl 18446744073709551616 l < 18446744073709551616 ^ k) : vl 18446744073709551616 (l.drop k) = 0 := by
  rcases Nat.lt_or_ge l.length k with h1 | h1
  · rw [List.drop_eq_nil_of_le (by omega)]; rfl
  · have h2 := vl_split 18446744073709551616 l k h1
    have h3 := vl_nonneg (B := 18446744073709551616) (by decide) (ok.take k)
    have h4 := vl_nonneg (B := 18446744073709551616) (by decide) (ok.drop k)
    have hp : 0 < (18446744073709551616 : Int) ^ k := Int.pow_pos (by decide)
    rcases Int.lt_or_le 0 (vl 18446744073709551616 (l.drop k)) with h5 | h5
    · have : 18446744073709551616 ^ k * 1 ≤ 18446744073709551616 ^ k * vl 18446744073709551616 (l.drop k) := Int.mul_le_mul_of_nonneg_left (by omega) (by omega)
      omega
    · omega
theorem div_step6 {u q s : List Int} {V X d : Int} {j n : Nat} (oku : okD 18446744073709551616 u) (hV : 0 < V) (hVn : V < 18446744073709551616 ^ n) (hj : j + n + 1 ≤ u.length) (hq : j < q.length) (hr : vl 18446744073709551616 (u.drop (j + 1)) < V)
    (hX : X = V * (18446744073709551616 ^ (j + 1) * vl 18446744073709551616 (q.drop (j + 1))) + vl 18446744073709551616 u) :
    vl 18446744073709551616 ((u.drop j).take (n + 1)) < 18446744073709551616 * V ∧ (s.length = n + 1 → vl 18446744073709551616 s = vl 18446744073709551616 ((u.drop j).take (n + 1)) % V → d = vl 18446744073709551616 ((u.drop j).take (n + 1)) / V →
      vl 18446744073709551616 ((ins u j s).drop j) < V ∧ X = V * (18446744073709551616 ^ j * vl 18446744073709551616 ((q.set j d).drop j)) + vl 18446744073709551616 (ins u j s)) := by
  have z1 := tail_zero6 (oku.drop (j + 1)) (Int.lt_trans hr hVn)
  rw [List.drop_drop] at z1
  have w1 := vl_split 18446744073709551616 (u.drop j) (n + 1) (by rw [List.length_drop]; omega)
  rw [List.drop_drop, show j + (n + 1) = j + 1 + n by omega, z1, Int.mul_zero, Int.add_zero] at w1
  have w2 := drop_rd u j (by omega)
  have bu := rd_bd (by decide) oku (j : Int)
  have w3 : vl 18446744073709551616 (u.drop j) = rd u j + 18446744073709551616 * vl 18446744073709551616 (u.drop (j + 1)) := by rw [w2]; rfl
  rw [← w1]
  refine ⟨by omega, fun hs hv hd => ?_⟩
  have hle : j + s.length ≤ u.length := by omega
  have i1 := ins_drop hle
  have i2 := ins_vl 18446744073709551616 hle
  rw [hs, show j + (n + 1) = j + 1 + n by omega, z1, Int.mul_zero, Int.add_zero] at i2
  have i3 := ins_mid hle
  have i4 := vl_split 18446744073709551616 ((ins u j s).drop j) s.length (by rw [List.length_drop, ins_len hle]; omega)
  rw [i3, List.drop_drop, i1, hs, show j + (n + 1) = j + 1 + n by omega, z1, Int.mul_zero, Int.add_zero] at i4
  have hm := Int.emod_lt_of_pos (vl 18446744073709551616 (u.drop j)) hV
  refine ⟨by rw [i4, hv]; exact hm, ?_⟩
  have e2 : (q.set j d).drop j = d :: q.drop (j + 1) := by
    rw [List.drop_eq_getElem_cons (by simp; omega)]
    simp
    exact List.drop_set_of_lt (by omega)
  have u1 := vl_split 18446744073709551616 u j (by omega)
  have hdm := Int.mul_ediv_add_emod (vl 18446744073709551616 (u.drop j)) V
  rw [e2, i2]
  simp only [vl]
  rw [hX, hv]
  rw [← hd] at hdm
  rw [u1]
  have e3 : V * ((18446744073709551616 : Int) ^ j * (d + 18446744073709551616 * vl 18446744073709551616 (q.drop (j + 1)))) = 18446744073709551616 ^ j * (V * d) + V * (18446744073709551616 ^ (j + 1) * vl 18446744073709551616 (q.drop (j + 1))) := by
    rw [Int.mul_add, Int.mul_add, Int.mul_left_comm V, Int.pow_succ, Int.mul_assoc]
  rw [e3]
  have e4 : (18446744073709551616 : Int) ^ j * vl 18446744073709551616 (u.drop j) = 18446744073709551616 ^ j * (V * d) + 18446744073709551616 ^ j * (vl 18446744073709551616 (u.drop j) % V) := by rw [← Int.mul_add, hdm]
  rw [e4]
  omega
theorem d_give (p v : List Int) (lo n : Nat) (hvl : v.length = n) (hl : lo + n + 1 ≤ p.length) (hp : p.length ≤ 1073741824) (ok : okD 18446744073709551616 p) (okv : okD 18446744073709551616 v) :
    PM Tryz.prog G 202 [.arr 0 lo (n + 1), .ws .u64 v] [⟨1, 82, .w .u64 p⟩] fun r rs => ∃ (c : Int) (s : List Int), r = .val (.int .u64 c) ∧ (0 ≤ c ∧ c ≤ 1) ∧ s.length = n + 1 ∧ okD 18446744073709551616 s ∧ vl 18446744073709551616 s + 18446744073709551616 ^ (n + 1) * c = vl 18446744073709551616 ((p.drop lo).take (n + 1)) + vl 18446744073709551616 v ∧ rs = [some ⟨1, 82, .w .u64 (ins p lo s)⟩] := by
  subst hvl
  obtain ⟨x, hx⟩ : ∃ x, x = p.drop lo := ⟨_, rfl⟩
  have okx : okD 18446744073709551616 x := by rw [hx]; exact ok.drop lo
  have hxl : v.length + 1 ≤ x.length := by rw [hx, List.length_drop]; omega
  rw [← hx]
  refine PM.intro (X := XX) tok Tryz.func202 rfl Tryz.ntmps202 (by rw [Tryz.results202]) (by kernel_rfl) rfl ?_; intro F hG hO; simp only [List.length_cons, List.length_nil, Nat.zero_add, Nat.reduceAdd] at hO
  repeat' ((try (conv => whnf)); first
  | (with_reducible refine add64_g (by omega) (by omega) (by omega) ?_)
  | ((with_reducible refine lg ?_); refine loop_g (A := List Int × Int) (fun (s, c) => GivI6 x v s c ∧ s.length ≤ v.length) (fun (s, c) => v.length - s.length) (fun (s, c) => [(0, .arr 0 lo (v.length + 1)), (1, .ws .u64 v), (5, .val (.int .u64 c)), (8, .val (.int .i64 (v.length : Int))), (9, .val (.int .i64 (s.length : Int)))]) (fun _ => []) (fun (s, c) => [some ⟨1, 82, .w .u64 (ins p lo s)⟩]) ([], 0) tok (fun (s, c) => ⟨⟨Nat.one_pos, trivial, trivial, trivial, trivial, trivial⟩, trivial, by simp only [List.length_cons, List.length_nil]; omega⟩) ?_ ⟨rfl, rfl, rfl, rfl, rfl, trivial⟩ ⟨[], rfl⟩ ⟨[], (by dsimp only; rw [ins_nil]; rfl)⟩ ?_; rotate_left; rintro ⟨s, c⟩ ⟨hI, hs⟩; have iI2 := hI; obtain ⟨i1, i2, i3, i4⟩ := iI2; have ix := rd_bd (by decide) okx (s.length : Int); have iv := rd_bd (by decide) okv (s.length : Int); have ig : (ins p lo s).getD (lo + (s.length : Int).toNat) 0 = rd x (s.length : Int) := (by rw [Int.toNat_natCast, ins_get (by omega), ← rd_drop, hx]); have il : (ins p lo s).length = p.length := ins_len (by omega); have iz := gd_bd (by decide) (ins_okD (lo := lo) ok i2) (lo + (v.length : Int).toNat); have ig2 : Unit → s.length = v.length → (ins p lo s).getD (lo + (v.length : Int).toNat) 0 = rd x (s.length : Int) := (fun _ h => by rw [← h]; exact ig))
  
  | (with_reducible refine draw_g (id := 5) [[], [0], [1], [2], [3], [6], [7], [10, 4, 5, 8, 9, 11], [12], [13], [14, 15], [16, 17]] tok mixed (by kernel_rfl) ?_)
  | with_reducible first
    | refine Chk.mk' (by first | omega | exact trivial | (simp only [List.length_append, List.length_set, List.length_replicate, List.length_take, List.length_drop, List.length_cons, List.length_nil, List.length_map]; omega)) ?_
    | refine wrap_g (by dsimp only [inR]; omega) ?_
    | refine idx_g (by omega) ?_ | refine idx_l _ rfl (by decide) ?_ | refine BothG.mk ?_ ?_ | refine fork_tt ?_ | refine fork_ff ?_
    | (refine fork_e (c := true) (by decide) ?_; refine fork_tt ?_) | (refine fork_e (c := false) (by decide) ?_; refine fork_ff ?_)
    | refine fork_t (by omega) ?_ | refine fork_f (by omega) ?_ | (refine fork_d ?_ ?_ <;> intro hc) | refine fork_n ?_ | (refine fork_b ?_ ?_ <;> intro hc)
    | refine SlcG.mk (by omega) ?_ | refine MakG.mk (by dsimp only; omega) ?_
    | refine AppG.mk (by first | omega | (simp only [List.length_append, List.length_set, List.length_replicate, List.length_take, List.length_drop, List.length_cons, List.length_nil, List.length_map]; omega)) (by dsimp only [List.length_cons, List.length_nil]; omega) (by omega) ?_
    | refine div_g (by omega) (by omega) (by dsimp only [inR]; omega) ?_ | refine mod_g (by omega) (by omega) ?_
    | refine mask_g (m := 4294967296) 32 rfl rfl (by decide) (by omega) ?_ | refine shr_g (m := 4294967296) 32 rfl (by decide) (by omega) rfl ?_
    | refine fz_all (by omega) ?_ | (refine smk ?_ ?_; constructor))
  · have hst := GivI6.step (T := c + rd x (s.length : Int) + rd v (s.length : Int)) hI (by omega) okx okv rfl
    refine ⟨again (s ++ [(c + rd x (s.length : Int) + rd v (s.length : Int)) % 18446744073709551616], (c + rd x (s.length : Int) + rd v (s.length : Int)) / 18446744073709551616) ⟨hst, by rw [len_snoc]; omega⟩ (by dsimp only; rw [len_snoc]; omega) ⟨rfl, rfl, iv_eq (by rw [ig]; omega), rfl, iv_eq (by rw [len_snoc]; omega), trivial⟩ ⟨[], rfl⟩ ⟨[], by dsimp only; exact ins_row (by omega) (by rw [ig]; omega) (by omega)⟩⟩
  · have hsl : s.length = v.length := by omega
    have hz : rd v (s.length : Int) = 0 := rd_out v s.length (by omega)
    have hst := GivI6.step (T := c + rd x (s.length : Int)) hI (by omega) okx okv (by rw [hz]; omega)
    obtain ⟨k1, k2, k3, k4⟩ := hst
    have kl := len_snoc s ((c + rd x (s.length : Int)) % 18446744073709551616)
    rw [kl, List.take_of_length_le (l := v) (by omega), hsl] at k4
    rw [hsl] at k2 k3 kl
    have ig3 := ig2 () hsl
    rw [hsl] at ig3
    refine ⟨ret_m [0] _ [some ⟨1, 82, .w .u64 (ins p lo (s ++ [(c + rd x (v.length : Int)) % 18446744073709551616]))⟩] rfl rfl (by simp) (fun i h => one_row h) (congrArg (fun l => [some l]) (ins_row1 (by omega) (by rw [ig3]; omega) (by omega))) ⟨_, _, iv_eq ?_, k3, by omega, k2, k4, rfl⟩⟩
    rw [ig3]
    omega
  · exact ⟨⟨Nat.zero_le _, okD_nil _, by decide, by simp [vl]⟩, Nat.zero_le _⟩
end Go.Proofs.YtpjbgmafnheomaaGreatDoor.Sim
namespace Go.Proofs.YtpjbgmafnheomaaGreatDoor.Sim
open Go.RowKit
set_option linter.unusedVariables false
set_option linter.unusedSimpArgs false
set_option maxRecDepth 10000
set_option maxHeartbeats 8000000
variable {G : List (Nat × List Value)}
def DivJ (X V : Int) (L n : Nat) (u q : List Int) (m : Nat) : Prop := u.length = L + n ∧ okD 18446744073709551616 u ∧ q.length = L ∧ okD 18446744073709551616 q ∧ m ≤ L ∧ vl 18446744073709551616 (u.drop m) < V ∧ X = V * (18446744073709551616 ^ m * vl 18446744073709551616 (q.drop m)) + vl 18446744073709551616 u
theorem DivJ.step {X V : Int} {L n : Nat} {u q : List Int} {m : Nat} (h : DivJ X V L n u q m) (hV : 0 < V) (hVn : V < 18446744073709551616 ^ n) (hm : 0 < m) :
    vl 18446744073709551616 ((u.drop (m - 1)).take (n + 1)) < 18446744073709551616 * V ∧ ∀ w d, okD 18446744073709551616 w → w.length = n + 1 → vl 18446744073709551616 w = vl 18446744073709551616 ((u.drop (m - 1)).take (n + 1)) % V → d = vl 18446744073709551616 ((u.drop (m - 1)).take (n + 1)) / V → DivJ X V L n (ins u (m - 1) w) (q.set (m - 1) d) (m - 1) := by
  obtain ⟨i1, i2, i3, i4, i5, i6, i7⟩ := h
  have e : m - 1 + 1 = m := by omega
  have hst := fun w d => div_step6 (X := X) (V := V) (s := w) (d := d) (j := m - 1) (n := n) (u := u) (q := q) i2 hV hVn (by omega) (by omega) (by rw [e]; exact i6) (by rw [e]; exact i7)
  have h1 := (hst [] 0).1
  refine ⟨h1, fun w d k1 k2 k3 k4 => ?_⟩
  obtain ⟨g1, g2⟩ := (hst w d).2 k2 k3 k4
  have hu := i2.drop (m - 1) |>.take (n + 1)
  have hd : 0 ≤ d ∧ d < 18446744073709551616 := by
    rw [k4]
    have := vl_nonneg (B := 18446744073709551616) (by decide) hu
    exact ⟨Int.ediv_nonneg this (Int.le_of_lt hV), Int.ediv_lt_of_lt_mul hV h1⟩
  exact ⟨by rw [ins_len (by omega), i1], ins_okD i2 k1, by rw [List.length_set, i3], okD_set i4 hd, by omega, g1, g2⟩
theorem DivJ.done {X V : Int} {L n : Nat} {u q : List Int} (h : DivJ X V L n u q 0) (hV : 0 < V) (hVn : V < 18446744073709551616 ^ n) : vl 18446744073709551616 q = X / V ∧ vl 18446744073709551616 (u.take n) = X % V := by
  obtain ⟨i1, i2, i3, i4, i5, i6, i7⟩ := h
  rw [List.drop_zero] at i6 i7
  rw [Int.pow_zero, Int.one_mul] at i7
  have z := tail_zero6 (k := n) i2 (Int.lt_trans i6 hVn)
  have w := vl_split 18446744073709551616 u n (by omega)
  rw [z, Int.mul_zero, Int.add_zero] at w
  rw [← w]
  have h0 := vl_nonneg (B := 18446744073709551616) (by decide) i2
  rw [i7, Int.add_comm]
  constructor
  · rw [Int.add_mul_ediv_left _ _ (by omega), Int.ediv_eq_zero_of_lt h0 i6, Int.zero_add]
  · rw [Int.add_mul_emod_self_left, Int.emod_eq_of_lt h0 i6]
theorem DivJ.init {V : Int} {L n : Nat} {u : List Int} (h1 : u.length = L + n) (ok : okD 18446744073709551616 u) (h2 : vl 18446744073709551616 (u.drop L) < V) : DivJ (vl 18446744073709551616 u) V L n u (List.replicate L 0) L := by
  refine ⟨h1, ok, by simp, fun x hx => by rw [List.eq_of_mem_replicate hx]; decide, Nat.le_refl _, h2, ?_⟩
  rw [List.drop_eq_nil_of_le (by simp)]
  simp only [vl]
  rw [Int.mul_zero, Int.mul_zero, Int.zero_add]
theorem arr_eq {q a b a' b' : Nat} (h1 : a = a') (h2 : b = b') : PV.arr q a b = PV.arr q a' b' := by rw [h1, h2]
theorem d_guess {u v : List Int} {j m : Nat} {V : Int} (hi lo d : Int) (okx : okD 18446744073709551616 u) (okv : okD 18446744073709551616 v) (vv : vl 18446744073709551616 v = V) (hl : v.length = m + 1) (hx : j + m + 2 ≤ u.length) (ht : 0 < rd v m) (hU : vl 18446744073709551616 ((u.drop j).take (m + 2)) < 18446744073709551616 * V) (e1 : hi = u.getD (j + m + 1) 0) (e2 : lo = u.getD (j + m) 0) (e3 : d = rd v m) :
    FC Tryz.prog G 200 [.val (.int .u64 hi), .val (.int .u64 lo), .val (.int .u64 d)] fun r => ∃ w : Int, r = .val (.int .u64 w) ∧ (0 ≤ w ∧ w < 18446744073709551616) ∧ vl 18446744073709551616 ((u.drop j).take (m + 2)) / V ≤ w := by
  have b1 := gd_bd (by decide) okx (j + m + 1)
  have b2 := gd_bd (by decide) okx (j + m)
  have b3 := rd_bd (by decide) okv (m : Int)
  have hg := guess_ge6 (m := m) (okx.drop j) okv vv hl (by rw [List.length_drop]; omega) ht hU
  rw [rd_drop, rd_drop, show j + (m + 1) = j + m + 1 by omega, ← gd_rd, ← gd_rd, ← e1, ← e2, ← e3] at hg
  rw [← e1] at b1
  rw [← e2] at b2
  rw [← e3] at b3 ht
  have f1 := d_trial (G := G) hi lo d ⟨ht, b3.2⟩ b1 b2
  refine f1.mono fun r h => ⟨_, h, ?_, hg⟩
  have : 0 ≤ (hi * 18446744073709551616 + lo) / d := Int.ediv_nonneg (by omega) (by omega)
  omega
theorem d_long (u v : List Int) (L m : Nat) (V : Int) (hvl : v.length = m + 1) (hu : u.length = L + (m + 1)) (hL : 0 < L) (hp : u.length ≤ 1073741824) (ok : okD 18446744073709551616 u) (okv : okD 18446744073709551616 v) (vv : vl 18446744073709551616 v = V) (ht : 0 < rd v m) (hr : vl 18446744073709551616 (u.drop L) < V) :
    PM Tryz.prog G 180 [.arr 0 0 (L + (m + 1)), .ws .u64 v] [⟨1, 82, .w .u64 u⟩] fun r rs => r = .arr 1 0 L ∧ ∃ u2 q : List Int, u2.length = L + (m + 1) ∧ okD 18446744073709551616 u2 ∧ q.length = L ∧ okD 18446744073709551616 q ∧ vl 18446744073709551616 q = vl 18446744073709551616 u / V ∧ vl 18446744073709551616 (u2.take (m + 1)) = vl 18446744073709551616 u % V ∧ rs = [some ⟨1, 82, .w .u64 u2⟩, some ⟨1, 82, .w .u64 q⟩] := by
  have hVn : V < 18446744073709551616 ^ (m + 1) := by
    have := vl_lt (B := 18446744073709551616) (by decide) okv
    rw [hvl, vv] at this
    exact this
  have hV : 0 < V := by
    have h1 := vl_split 18446744073709551616 v m (by omega)
    have h2 := vl_nonneg (B := 18446744073709551616) (by decide) (okv.take m)
    rw [drop_rd v m (by omega), vl, List.drop_eq_nil_of_le (by omega)] at h1
    simp only [vl] at h1
    have h3 : 0 < (18446744073709551616 : Int) ^ m := Int.pow_pos (by decide)
    have h4 := Int.mul_pos h3 ht
    rw [Int.mul_zero, Int.add_zero] at h1
    rw [← vv]
    omega
  have hini := DivJ.init (V := V) (n := m + 1) hu ok hr
  obtain ⟨X, hX⟩ : ∃ X, X = vl 18446744073709551616 u := ⟨_, rfl⟩
  rw [← hX] at hini ⊢
  have hP : (18446744073709551616 : Int) ^ (m + 2) = 18446744073709551616 ^ (m + 1 + 1) := rfl
  refine PM.intro (X := XX) tok Tryz.func180 rfl Tryz.ntmps180 (by rw [Tryz.results180]) (by kernel_rfl) rfl ?_; intro F hG hO; simp only [List.length_cons, List.length_nil, Nat.zero_add, Nat.reduceAdd] at hO
  repeat' ((try (conv => whnf)); first
  | ((with_reducible refine lg ?_); refine loop_g (A := List Int × Int) (fun (s2, w2) => s2.length = m + 2 ∧ okD 18446744073709551616 s2 ∧ (qq + 1 ≤ w2 ∧ w2 < 18446744073709551616) ∧ vl 18446744073709551616 s2 = U - w2 * V + 18446744073709551616 ^ (m + 2)) (fun (s2, w2) => w2.toNat) (fun (s2, w2) => [(0, .arr 0 0 (L + (m + 1))), (1, .ws .u64 v), (5, .val (.int .i64 ((m + 1 : Nat) : Int))), (6, .arr 1 0 L), (7, .val (.int .i64 ((k : Int) - 1))), (8, .val (.int .u64 w2)), (9, .arr 0 (k - 1) (m + 2))]) (fun _ => []) (fun (s2, w2) => [some ⟨1, 82, .w .u64 (ins p (k - 1) s2)⟩, some ⟨1, 82, .w .u64 q⟩]) (s, w) tok (fun (s2, w2) => ⟨⟨Nat.zero_lt_succ _, trivial, trivial, Nat.lt_succ_self 1, trivial, trivial, Nat.zero_lt_succ _, trivial⟩, trivial, by simp only [List.length_cons, List.length_nil]; omega⟩) ?_ ⟨rfl, rfl, iv_eq (by omega), rfl, rfl, rfl, arr_eq (by omega) (by omega), trivial⟩ ⟨[], rfl⟩ ⟨[], rfl⟩ ?_; rotate_left; rintro ⟨s2, w2⟩ ⟨j1, j2, j3, j4⟩)
  | ((with_reducible refine lg ?_); refine loop_g (A := List Int × List Int × Nat) (fun (p, q, k) => DivJ X V L (m + 1) p q k) (fun (p, q, k) => k) (fun (p, q, k) => [(0, .arr 0 0 (L + (m + 1))), (1, .ws .u64 v), (5, .val (.int .i64 ((m + 1 : Nat) : Int))), (6, .arr 1 0 L), (7, .val (.int .i64 ((k : Int) - 1)))]) (fun _ => []) (fun (p, q, k) => [some ⟨1, 82, .w .u64 p⟩, some ⟨1, 82, .w .u64 q⟩]) (u, List.replicate L 0, L) tok (fun (p, q, k) => ⟨⟨Nat.zero_lt_succ _, trivial, trivial, Nat.lt_succ_self 1, trivial, trivial⟩, trivial, by simp only [List.length_cons, List.length_nil]; omega⟩) ?_ ⟨rfl, rfl, iv_eq (by omega), arr_eq rfl (by omega), iv_eq (by omega), trivial⟩ ⟨[], rfl⟩ ⟨[], (by rw [show (((L + (m + 1) : Nat) : Int) - (v.length : Int)).toNat = L by omega]; rfl)⟩ ?_; rotate_left; rintro ⟨p, q, k⟩ hI; have hI2 := hI; obtain ⟨i1, i2, i3, i4, i5, i6, i7⟩ := hI2)
  | ((with_reducible refine cg ?_); have hst := hI.step hV hVn (by omega); refine call_pc (d_guess (u := p) (v := v) (j := k - 1) (m := m) _ _ _ i2 okv vv hvl (by omega) ht hst.1 (by congr 1; omega) (by congr 1; omega) (by congr 1; omega)) rfl ?_; rintro _ ⟨w, rfl, hw, hge⟩; obtain ⟨U, hU⟩ : ∃ U, U = vl 18446744073709551616 ((p.drop (k - 1)).take (m + 2)) := ⟨_, rfl⟩; obtain ⟨qq, hqq⟩ : ∃ qq, qq = U / V := ⟨_, rfl⟩; rw [← hU, ← hqq] at hge; have hst1 := hst.1; have hst2 := hst.2; rw [← hU] at hst1; rw [← hU, ← hqq] at hst2; have hqq0 : 0 ≤ qq := (by rw [hqq, hU]; exact Int.ediv_nonneg (vl_nonneg (by decide) ((i2.drop _).take _)) (by omega)))
  | ((with_reducible refine cg ?_); rw [show 0 + ((k : Int) - 1).toNat = k - 1 by omega]; (first | rw [show ((k : Int) - 1 + ((m + 1 : Nat) : Int) + 1).toNat - ((k : Int) - 1).toNat = m + 2 by omega] | skip); refine call_pm [0] (d_takemul p v (k - 1) (m + 1) w hvl (by omega) (by omega) i2 okv hw) rfl rfl rfl (by simp) ?_; rintro r rs ⟨e, s, rfl, he, hs, oks, vs, rfl⟩; rw [vv, ← hU] at vs; have je := dig_end hV hqq hge ⟨vl_nonneg (B := 18446744073709551616) (by decide) oks, (by have := vl_lt (B := 18446744073709551616) (by decide) oks; rw [hs] at this; exact this)⟩ vs he)
  | ((with_reducible refine cg ?_); refine call_pm [0] (d_give (ins p (k - 1) s2) v (k - 1) (m + 1) hvl (by rw [ins_len (by omega)]; omega) (by rw [ins_len (by omega)]; omega) (ins_okD i2 j2) okv) rfl rfl rfl (by simp) ?_; rintro r rs ⟨c, s3, rfl, hc3, hs3, oks3, vs3, rfl⟩; have hmid := ins_mid (p := p) (s := s2) (lo := k - 1) (by omega); rw [j1] at hmid; rw [hmid, vv, j4, hP] at vs3; rw [ins_ins (by omega) (by omega)])
  
  | (with_reducible refine draw_g (id := 6) [[0, 1, 2, 3, 4, 5, 6, 7, 8, 9, 10, 11, 12, 13, 14, 15, 16, 17, 18, 19]] tok mixed (by kernel_rfl) ?_)
  | with_reducible first
    | refine Chk.mk' (by first | omega | exact trivial | (simp only [List.length_append, List.length_set, List.length_replicate, List.length_take, List.length_drop, List.length_cons, List.length_nil, List.length_map]; omega)) ?_
    | refine wrap_g (by dsimp only [inR]; omega) ?_
    | refine idx_g (by omega) ?_ | refine idx_l _ rfl (by decide) ?_ | refine BothG.mk ?_ ?_ | refine fork_tt ?_ | refine fork_ff ?_
    | (refine fork_e (c := true) (by decide) ?_; refine fork_tt ?_) | (refine fork_e (c := false) (by decide) ?_; refine fork_ff ?_)
    | refine fork_t (by omega) ?_ | refine fork_f (by omega) ?_ | (refine fork_d ?_ ?_ <;> intro hc) | refine fork_n ?_ | (refine fork_b ?_ ?_ <;> intro hc)
    | refine SlcG.mk (by omega) ?_ | refine MakG.mk (by dsimp only; omega) ?_
    | refine AppG.mk (by first | omega | (simp only [List.length_append, List.length_set, List.length_replicate, List.length_take, List.length_drop, List.length_cons, List.length_nil, List.length_map]; omega)) (by dsimp only [List.length_cons, List.length_nil]; omega) (by omega) ?_
    | refine div_g (by omega) (by omega) (by dsimp only [inR]; omega) ?_ | refine mod_g (by omega) (by omega) ?_
    | refine mask_g (m := 4294967296) 32 rfl rfl (by decide) (by omega) ?_ | refine shr_g (m := 4294967296) 32 rfl (by decide) (by omega) rfl ?_
    | refine fz_all (by omega) ?_ | (refine smk ?_ ?_; constructor))
  · obtain ⟨f1, f2⟩ := je.1 (by omega)
    refine ⟨again (ins p (k - 1) s, q.set (k - 1) w, k - 1) (hst2 s w oks hs f2 f1) (by dsimp only; omega) ⟨rfl, rfl, rfl, rfl, iv_eq (by omega), trivial⟩ ⟨[], rfl⟩ ⟨[], ?_⟩⟩
    dsimp only
    rw [show 0 + ((k : Int) - 1).toNat = k - 1 by omega]; rfl
  · have hb3 := vl_lt (B := 18446744073709551616) (by decide) oks3
    have hb4 := vl_nonneg (B := 18446744073709551616) (by decide) oks3
    rw [hs3] at hb3
    rw [hc, Int.mul_one] at vs3
    obtain ⟨f1, f2⟩ := (dig_end (w := w2 - 1) (e := 0) hV hqq (by omega) ⟨hb4, hb3⟩ (by rw [Int.sub_mul, Int.one_mul, Int.mul_zero]; omega) (by decide)).1 rfl
    refine ⟨again (ins p (k - 1) s3, q.set (k - 1) (w2 - 1), k - 1) (hst2 s3 (w2 - 1) oks3 hs3 f2 f1) (by dsimp only; omega) ⟨rfl, rfl, rfl, rfl, iv_eq (by omega), trivial⟩ ⟨[], rfl⟩ ⟨[], ?_⟩⟩
    dsimp only
    rw [show 0 + ((k : Int) - 1).toNat = k - 1 by omega]; rfl
  · have hb3 := vl_lt (B := 18446744073709551616) (by decide) oks3
    have hb4 := vl_nonneg (B := 18446744073709551616) (by decide) oks3
    rw [hs3] at hb3
    rw [show c = 0 by omega, Int.mul_zero, Int.add_zero] at vs3
    have vs4 : vl 18446744073709551616 s3 = U - (w2 - 1) * V + 18446744073709551616 ^ (m + 1 + 1) := by
      rw [Int.sub_mul, Int.one_mul]; omega
    have f1 := (dig_end (w := w2 - 1) (e := 1) hV hqq (by omega) ⟨hb4, hb3⟩ (by rw [Int.mul_one]; exact vs4) (by decide)).2 (by decide)
    refine ⟨again (s3, w2 - 1) ⟨hs3, oks3, ⟨f1, by omega⟩, hP ▸ vs4⟩ (by dsimp only; omega) ⟨rfl, rfl, rfl, rfl, rfl, rfl, rfl, trivial⟩ ⟨[], rfl⟩ ⟨[], rfl⟩⟩
  · refine ⟨hs, oks, ⟨je.2 (by omega), hw.2⟩, ?_⟩
    rw [vs, show e = 1 by omega, Int.mul_one]
  · obtain rfl : k = 0 := by omega
    have hdn := hI.done hV hVn
    refine ⟨ret_m [0, 1] (.arr 1 0 L) [some ⟨1, 82, .w .u64 p⟩, some ⟨1, 82, .w .u64 q⟩] rfl rfl (by simp) (fun i h => ?_) rfl ⟨rfl, p, q, i1, i2, i3, i4, hdn.1, hdn.2, rfl⟩⟩
    have : i = 0 := by simp at h; omega
    subst this; rfl
  · exact hini
end Go.Proofs.YtpjbgmafnheomaaGreatDoor.Sim
namespace Go.Proofs.YtpjbgmafnheomaaGreatDoor.Sim
open Go.RowKit
set_option linter.unusedVariables false
set_option linter.unusedSimpArgs false
set_option maxRecDepth 10000
set_option maxHeartbeats 8000000
variable {G : List (Nat × List Value)}
theorem copy_all (l : List Int) : (List.replicate l.length (0 : Int)).take 0 ++ l.take l.length ++ (List.replicate l.length (0 : Int)).drop (0 + min l.length l.length) = l := by
  rw [copy_row l l.length (Nat.le_refl _), Nat.sub_self]
  simp
theorem n_norm (a : List Int) (ok : okD 18446744073709551616 a) (hl : a.length ≤ 1152921504606846976) : FC Tryz.prog G 176 [.ws .u64 a] (· = natT (vl 18446744073709551616 a).toNat) := by
  have f1 := n_trim (G := G) a hl
  rw [trim64 ok] at f1
  obtain ⟨X, hX⟩ : ∃ X, X = (vl 18446744073709551616 a).toNat := ⟨_, rfl⟩
  rw [← hX] at f1 ⊢
  have hl : (d64 X).length = L64 X := rfl
  have hcp := copy_all (d64 X)
  refine FC.intro (X := XX) tok Tryz.func176 rfl Tryz.ntmps176 (by rw [Tryz.results176]) (by kernel_rfl) rfl ?_; intro F hG hO
  rw [← hG] at f1
  repeat' ((try (conv => whnf)); first
  | ((with_reducible refine cg ?_); first | refine ceq f1 rfl ?_)
  
  | with_reducible first
    | refine Chk.mk' (by first | omega | exact trivial | (simp only [List.length_append, List.length_set, List.length_replicate, List.length_take, List.length_drop, List.length_cons, List.length_nil, List.length_map]; omega)) ?_
    | refine wrap_g (by dsimp only [inR]; omega) ?_
    | refine idx_g (by omega) ?_ | refine idx_l _ rfl (by decide) ?_ | refine BothG.mk ?_ ?_ | refine fork_tt ?_ | refine fork_ff ?_
    | (refine fork_e (c := true) (by decide) ?_; refine fork_tt ?_) | (refine fork_e (c := false) (by decide) ?_; refine fork_ff ?_)
    | refine fork_t (by omega) ?_ | refine fork_f (by omega) ?_ | (refine fork_d ?_ ?_ <;> intro hc) | refine fork_n ?_ | (refine fork_b ?_ ?_ <;> intro hc)
    | refine SlcG.mk (by omega) ?_ | refine MakG.mk (by dsimp only; omega) ?_
    | refine AppG.mk (by first | omega | (simp only [List.length_append, List.length_set, List.length_replicate, List.length_take, List.length_drop, List.length_cons, List.length_nil, List.length_map]; omega)) (by dsimp only [List.length_cons, List.length_nil]; omega) (by omega) ?_
    | refine div_g (by omega) (by omega) (by dsimp only [inR]; omega) ?_ | refine mod_g (by omega) (by omega) ?_
    | refine mask_g (m := 4294967296) 32 rfl rfl (by decide) (by omega) ?_ | refine shr_g (m := 4294967296) 32 rfl (by decide) (by omega) rfl ?_
    | refine fz_all (by omega) ?_ | (refine smk ?_ ?_; constructor))
  · exact ⟨ret_l _ (lp_natE 5) (natT_no (by omega)).symm⟩
  · refine ⟨fz_all (by simp) (ret_e ?_)⟩
    rw [natT_ok (by omega)]
    simp [natR]
def DwI (X w : Nat) (q : List Int) (m : Nat) (left : Int) : Prop := q.length = L64 X ∧ okD 18446744073709551616 q ∧ m ≤ L64 X ∧ left = ((X / 2 ^ (64 * m) % w : Nat) : Int) ∧ vl 18446744073709551616 (q.drop m) = ((X / 2 ^ (64 * m) / w : Nat) : Int)
theorem DwI.init (X w : Nat) : DwI X w (List.replicate (L64 X) 0) (L64 X) 0 := by
  have h := L64_lt X
  refine ⟨by simp, fun x hx => by rw [List.eq_of_mem_replicate hx]; decide, Nat.le_refl _, ?_, ?_⟩
  · rw [Nat.div_eq_of_lt h, Nat.zero_mod]; rfl
  · rw [Nat.div_eq_of_lt h, Nat.zero_div, List.drop_eq_nil_of_le (by simp)]; rfl
theorem DwI.step {X w : Nat} {q : List Int} {m : Nat} {left : Int} (h : DwI X w q m left) (hw : 0 < w) (hwb : w < 18446744073709551616) (hm : 0 < m) : (0 ≤ left ∧ left < w) ∧ DwI X w (q.set (m - 1) ((left * 18446744073709551616 + rd (d64 X) ((m - 1 : Nat) : Int)) / w)) (m - 1) ((left * 18446744073709551616 + rd (d64 X) ((m - 1 : Nat) : Int)) % w) := by
  obtain ⟨h1, h2, h3, h4, h5⟩ := h
  obtain ⟨Y, hY⟩ : ∃ Y, Y = X / 2 ^ (64 * m) := ⟨_, rfl⟩
  obtain ⟨a, ha⟩ : ∃ a, a = X / 2 ^ (64 * (m - 1)) % 18446744073709551616 := ⟨_, rfl⟩
  have ha2 : a < 18446744073709551616 := by rw [ha]; exact Nat.mod_lt _ (by decide)
  have e1 : X / 2 ^ (64 * (m - 1)) = 18446744073709551616 * Y + a := by
    have : X / 2 ^ (64 * m) = X / 2 ^ (64 * (m - 1)) / 18446744073709551616 := by
      rw [Nat.div_div_eq_div_mul, show (18446744073709551616 : Nat) = 2 ^ 64 by decide, ← Nat.pow_add, show 64 * (m - 1) + 64 = 64 * m by omega]
    rw [hY, this, ha]
    omega
  rw [d64_rd, ← ha, h4, ← hY]
  have hm2 := Nat.mod_lt Y hw
  obtain ⟨d, hd⟩ : ∃ d, d = (Y % w * 18446744073709551616 + a) / w := ⟨_, rfl⟩
  have hd2 : d < 18446744073709551616 := by
    rw [hd, Nat.div_lt_iff_lt_mul hw]
    have : (Y % w + 1) * 18446744073709551616 ≤ w * 18446744073709551616 := Nat.mul_le_mul_right _ hm2
    omega
  have c1 : ((Y % w : Nat) : Int) * 18446744073709551616 + (a : Int) = ((Y % w * 18446744073709551616 + a : Nat) : Int) := by simp
  have c2 : ((Y % w : Nat) : Int) * 18446744073709551616 + ((a : Nat) : Int) = ((Y % w * 18446744073709551616 + a : Nat) : Int) := c1
  rw [c1, ← Int.natCast_ediv, ← Int.natCast_emod, ← hd]
  have e2 : 18446744073709551616 * Y + a = w * (18446744073709551616 * (Y / w)) + (Y % w * 18446744073709551616 + a) := by
    have := Nat.div_add_mod Y w
    rw [Nat.mul_left_comm]
    omega
  refine ⟨by omega, by rw [List.length_set, h1], okD_set h2 (by omega), by omega, ?_, ?_⟩
  · rw [e1, e2, Nat.mul_add_mod]
  · rw [e1, e2, Nat.mul_add_div hw, ← hd]
    have e3 : (q.set (m - 1) (d : Int)).drop (m - 1) = (d : Int) :: q.drop m := by
      rw [List.drop_eq_getElem_cons (by simp; omega)]
      simp
      rw [show m - 1 + 1 = m by omega]
      exact List.drop_set_of_lt (by omega)
    rw [e3, vl, h5, ← hY]
    simp
    omega
theorem DwI.done {X w : Nat} {q : List Int} {left : Int} (h : DwI X w q 0 left) : (vl 18446744073709551616 q).toNat = X / w ∧ left = ((X % w : Nat) : Int) := by
  obtain ⟨h1, h2, h3, h4, h5⟩ := h
  rw [Nat.mul_zero, Nat.pow_zero, Nat.div_one] at h4 h5
  rw [List.drop_zero] at h5
  exact ⟨by rw [h5, Int.toNat_natCast], h4⟩
theorem n_divword (X : Nat) (w : Nat) (hX : L64 X ≤ 8192) (hw : 0 < w) (hwb : w < 18446744073709551616) : FC Tryz.prog G 177 [.ws .u64 (d64 X), .val (.int .u64 (w : Int))] (· = .tup [.ws .u64 (d64 (X / w)), .val (.int .u64 ((X % w : Nat) : Int)), .val (.int .i64 0)]) := by
  have fa := n_formN (G := G) X hX
  have hl : (d64 X).length = L64 X := rfl
  have hq8 : L64 (X / w) ≤ 8192 := Nat.le_trans (L64_mono (Nat.div_le_self _ _)) hX
  refine FC.intro (X := XX) tok Tryz.func177 rfl Tryz.ntmps177 (by rw [Tryz.results177]) (by kernel_rfl) rfl ?_; intro F hG hO
  rw [← hG] at fa
  repeat' ((try (conv => whnf)); first
  | ((with_reducible refine cg ?_); first | refine ceq fa rfl ?_)
  | ((with_reducible refine lg ?_); refine loop_g (A := List Int × Int × Nat) (fun (q, c, m) => DwI X w q m c) (fun (q, c, m) => m) (fun (q, c, m) => [(0, .ws .u64 (d64 X)), (1, .val (.int .u64 (w : Int))), (7, .arr 0 0 (L64 X)), (8, .val (.int .u64 c)), (9, .val (.int .i64 ((m : Int) - 1)))]) (fun _ => []) (fun (q, c, m) => [some ⟨1, 82, .w .u64 q⟩]) (List.replicate (L64 X) 0, 0, L64 X) tok (fun (q, c, m) => ⟨⟨trivial, trivial, Nat.one_pos, trivial, trivial, trivial⟩, trivial, by simp only [List.length_cons, List.length_nil]; omega⟩) ?_ ⟨rfl, rfl, congrArg (PV.arr 0 0) (by omega), rfl, iv_eq (by omega), trivial⟩ ⟨[], rfl⟩ ⟨[], (by dsimp only; rw [hl, Int.toNat_natCast]; rfl)⟩ ?_; rotate_left; rintro ⟨q, c, m⟩ hI; have hI2 := hI; obtain ⟨i1, i2, i3, i4, i5⟩ := hI2)
  | ((with_reducible refine cg ?_); have hst := hI.step hw hwb (by omega); have hrd := rd_bd (by decide) (d64_ok X).1 ((m - 1 : Nat) : Int); rw [show (m : Int) - 1 = ((m - 1 : Nat) : Int) by omega]; refine call_eq (b_div c (rd (d64 X) ((m - 1 : Nat) : Int)) w (by omega) hst.1 hrd) (LpL.refl _) rfl ?_)
  | ((with_reducible refine cg ?_); obtain rfl : m = 0 := (by omega); have hdn := hI.done; refine call_fz 0 (A := q) (B := q) rfl rfl (by omega) (by rw [List.drop_zero]; exact List.take_of_length_le (by omega)) (by omega) ?_; refine call_eq (n_told q i2 (by omega)) (LpL.refl _) rfl ?_; rw [hdn.1, natT_ok hq8]; unfold natR)
  
  | with_reducible first
    | refine Chk.mk' (by first | omega | exact trivial | (simp only [List.length_append, List.length_set, List.length_replicate, List.length_take, List.length_drop, List.length_cons, List.length_nil, List.length_map]; omega)) ?_
    | refine wrap_g (by dsimp only [inR]; omega) ?_
    | refine idx_g (by omega) ?_ | refine idx_l _ rfl (by decide) ?_ | refine BothG.mk ?_ ?_ | refine fork_tt ?_ | refine fork_ff ?_
    | (refine fork_e (c := true) (by decide) ?_; refine fork_tt ?_) | (refine fork_e (c := false) (by decide) ?_; refine fork_ff ?_)
    | refine fork_t (by omega) ?_ | refine fork_f (by omega) ?_ | (refine fork_d ?_ ?_ <;> intro hc) | refine fork_n ?_ | (refine fork_b ?_ ?_ <;> intro hc)
    | refine SlcG.mk (by omega) ?_ | refine MakG.mk (by dsimp only; omega) ?_
    | refine AppG.mk (by first | omega | (simp only [List.length_append, List.length_set, List.length_replicate, List.length_take, List.length_drop, List.length_cons, List.length_nil, List.length_map]; omega)) (by dsimp only [List.length_cons, List.length_nil]; omega) (by omega) ?_
    | refine div_g (by omega) (by omega) (by dsimp only [inR]; omega) ?_ | refine mod_g (by omega) (by omega) ?_
    | refine mask_g (m := 4294967296) 32 rfl rfl (by decide) (by omega) ?_ | refine shr_g (m := 4294967296) 32 rfl (by decide) (by omega) rfl ?_
    | refine fz_all (by omega) ?_ | (refine smk ?_ ?_; constructor))
  · have hst := hI.step hw hwb (by omega)
    refine ⟨again (q.set (m - 1) ((c * 18446744073709551616 + rd (d64 X) ((m - 1 : Nat) : Int)) / w), (c * 18446744073709551616 + rd (d64 X) ((m - 1 : Nat) : Int)) % w, m - 1) hst.2 (by dsimp only; omega) ⟨rfl, rfl, rfl, rfl, iv_eq (by omega), trivial⟩ ⟨[], rfl⟩ ⟨[], ?_⟩⟩
    dsimp only
    rw [show 0 + ((m - 1 : Nat) : Int).toNat = m - 1 by omega]; rfl
  · exact ⟨ret_e (by rw [hdn.2])⟩
  · exact DwI.init X w
theorem d_shifted (X n : Nat) (s : Nat) (hs : s < 64) (hn : L64 X ≤ n) (hnb : n ≤ 1073741824) (hlt : X * 2 ^ s < 2 ^ (64 * n)) : PM Tryz.prog G 179 [.ws .u64 (d64 X), .val (.int .i64 (s : Int)), .val (.int .i64 (n : Int))] [] (fun r rs => r = .arr 0 0 n ∧ RowOf n (X * 2 ^ s) rs) := by
  have hl : (d64 X).length = L64 X := rfl
  have hcp := copy_row (d64 X) n hn
  have hpk := pad_ok hn
  obtain ⟨pa, hpa⟩ : ∃ p, p = d64 X ++ List.replicate (n - L64 X) (0 : Int) := ⟨_, rfl⟩
  rw [hl, ← hpa, ← hl] at hcp
  rw [← hpa] at hpk
  obtain ⟨p1, p2, p3⟩ := hpk
  have hw := pw64 hs
  refine PM.intro (X := XX) tok Tryz.func179 rfl Tryz.ntmps179 (by rw [Tryz.results179]) (by kernel_rfl) rfl ?_; intro F hG hO; simp only [List.length_cons, List.length_nil, Nat.zero_add, Nat.reduceAdd] at hO
  repeat' ((try (conv => whnf)); first
  | ((with_reducible refine lg ?_); refine loop_g (A := List Int × Int) (fun (t, c) => ShlI pa t s c) (fun (t, c) => n - t.length) (fun (t, c) => [(1, .val (.int .i64 (s : Int))), (7, .arr 0 0 n), (8, .val (.int .u64 c)), (19, .val (.int .i64 (n : Int))), (20, .val (.int .i64 (t.length : Int)))]) (fun _ => []) (fun (t, c) => [some ⟨1, 82, .w .u64 (ins pa 0 t)⟩]) ([], 0) tok (fun (t, c) => ⟨⟨trivial, Nat.one_pos, trivial, trivial, trivial, trivial⟩, trivial, by simp only [List.length_cons, List.length_nil]; omega⟩) ?_ ⟨rfl, congrArg (PV.arr 0 0) (by omega), rfl, iv_eq (by omega), rfl, trivial⟩ ⟨[], rfl⟩ ⟨[], (by dsimp only; rw [ins_nil, Int.toNat_natCast, hcp]; rfl)⟩ ?_; rotate_left; rintro ⟨t, c⟩ hI; have hI2 := hI; obtain ⟨i1, i2, i3, i4⟩ := hI2; have ra := rd_bd (by decide) p2 (t.length : Int); have hil : (ins pa 0 t).length = n := (by rw [ins_len (by omega), p1]); have ig : (ins pa 0 t).getD (0 + (t.length : Int).toNat) 0 = rd pa (t.length : Int) := (by rw [Int.toNat_natCast, ins_get (by omega), Nat.zero_add]))
  | (with_reducible refine shl_m (by omega) ?_)
  | (with_reducible refine shr_p (by omega) (by dsimp only [IntKind.bits]; omega) ?_)
  | (have hst := hI.step (by omega) p2 hs; rw [ig, Int.toNat_natCast]; refine or_g2 s hst.1 (by omega) i3.2 hst.2.1 (by omega) ?_)
  
  | (with_reducible refine draw_q (id := 9) (.take 0 (.take 1 (.take 2 (.take 3 (.take 6 (.take 8 (.take 10 (.take 11 (.take 14 (.take 15 (.two 4 (.two 5 (.take 7 (.take 9 (.one 12 (.one 13 (.take 16 (.one 17 (.one 18 (.one 19 (.fin))))))))) 12 (.two 5 (.take 7 (.take 9 (.one 13 (.take 16 (.one 17 (.one 18 (.one 19 (.fin)))))))) 13 (.take 16 (.one 5 (.take 7 (.take 9 (.one 17 (.one 18 (.one 19 (.fin)))))))))) 12 (.two 4 (.two 5 (.take 7 (.take 9 (.one 13 (.take 16 (.one 17 (.one 18 (.one 19 (.fin)))))))) 13 (.take 16 (.one 5 (.take 7 (.take 9 (.one 17 (.one 18 (.one 19 (.fin))))))))) 13 (.take 16 (.one 4 (.one 5 (.take 7 (.take 9 (.one 17 (.one 18 (.one 19 (.fin))))))))))))))))))))) tok mixed (by kernel_rfl) (by kernel_rfl) ?_)
  | with_reducible first
    | refine Chk.mk' (by first | omega | exact trivial | (simp only [List.length_append, List.length_set, List.length_replicate, List.length_take, List.length_drop, List.length_cons, List.length_nil, List.length_map]; omega)) ?_
    | refine wrap_g (by dsimp only [inR]; omega) ?_
    | refine idx_g (by omega) ?_ | refine idx_l _ rfl (by decide) ?_ | refine BothG.mk ?_ ?_ | refine fork_tt ?_ | refine fork_ff ?_
    | (refine fork_e (c := true) (by decide) ?_; refine fork_tt ?_) | (refine fork_e (c := false) (by decide) ?_; refine fork_ff ?_)
    | refine fork_t (by omega) ?_ | refine fork_f (by omega) ?_ | (refine fork_d ?_ ?_ <;> intro hc) | refine fork_n ?_ | (refine fork_b ?_ ?_ <;> intro hc)
    | refine SlcG.mk (by omega) ?_ | refine MakG.mk (by dsimp only; omega) ?_
    | refine AppG.mk (by first | omega | (simp only [List.length_append, List.length_set, List.length_replicate, List.length_take, List.length_drop, List.length_cons, List.length_nil, List.length_map]; omega)) (by dsimp only [List.length_cons, List.length_nil]; omega) (by omega) ?_
    | refine div_g (by omega) (by omega) (by dsimp only [inR]; omega) ?_ | refine mod_g (by omega) (by omega) ?_
    | refine mask_g (m := 4294967296) 32 rfl rfl (by decide) (by omega) ?_ | refine shr_g (m := 4294967296) 32 rfl (by decide) (by omega) rfl ?_
    | refine fz_all (by omega) ?_ | (refine smk ?_ ?_; constructor))
  all_goals first
    | (
      have hst := hI.step (by omega) p2 hs
      have e3 : rd pa (t.length : Int) / 2 ^ (64 - (s : Int)).toNat = rd pa (t.length : Int) / 2 / 2 ^ (63 - s) := by
        rw [Int.ediv_ediv_of_nonneg (by decide), show (64 - (s : Int)).toNat = 63 - s + 1 by omega, Int.pow_succ, Int.mul_comm]
      refine ⟨again (t ++ [c + rd pa (t.length : Int) * 2 ^ s % 18446744073709551616], rd pa (t.length : Int) / 2 / 2 ^ (63 - s)) hst.2.2.2 (by dsimp only; rw [len_snoc]; omega) ⟨rfl, rfl, iv_eq (by first | rw [ig, e3] | rw [e3] | omega), rfl, iv_eq (by rw [len_snoc]; omega), trivial⟩ ⟨[], rfl⟩ ⟨[], by dsimp only; exact ins_row (by omega) (by omega) (by omega)⟩⟩)
    | (
      obtain rfl : s = 0 := by omega
      refine ⟨ret_m [0] (.arr 0 0 n) [some ⟨1, 82, .w .u64 pa⟩] (by rw [Int.toNat_natCast]; rfl) rfl (by simp) (fun i h => absurd h (Nat.not_lt_zero i)) (by dsimp only [List.map_cons, List.map_nil]; rw [Int.toNat_natCast, hcp]; rfl) ⟨rfl, pa, p1, p2, ?_, rfl⟩⟩
      rw [p3, Nat.pow_zero, Nat.mul_one])
    | (
      have htl : t.length = n := by omega
      rw [List.take_of_length_le (by omega), htl, p3] at i4
      have h1 := vl_nonneg (B := 18446744073709551616) (by decide) i2
      have e1 : (X : Int) * 2 ^ s = ((X * 2 ^ s : Nat) : Int) := by simp
      rw [e1] at i4
      have hc0 : c = 0 := by
        have h2 : ((X * 2 ^ s : Nat) : Int) < 18446744073709551616 ^ n := by rw [pow64i]; exact Int.ofNat_lt.2 hlt
        have hp : 0 < (18446744073709551616 : Int) ^ n := Int.pow_pos (by decide)
        rcases Int.lt_or_le 0 c with h3 | h3
        · have : 18446744073709551616 ^ n * 1 ≤ (18446744073709551616 : Int) ^ n * c := Int.mul_le_mul_of_nonneg_left (by omega) (by omega)
          omega
        · omega
      rw [hc0, Int.mul_zero, Int.add_zero] at i4
      have hins : ins pa 0 t = t := by rw [ins_end (by omega), List.take_zero, List.nil_append]
      refine ⟨ret_m [0] (.arr 0 0 n) [some ⟨1, 82, .w .u64 t⟩] rfl rfl (by simp) (fun i h => absurd h (Nat.not_lt_zero i)) (by dsimp only [List.map_cons, List.map_nil]; rw [hins]; rfl) ⟨rfl, t, htl, i2, i4, rfl⟩⟩)
    | (
      exact ⟨Nat.zero_le _, okD_nil _, ⟨Int.le_refl _, hw.1⟩, by simp [vl]⟩)
end Go.Proofs.YtpjbgmafnheomaaGreatDoor.Sim
namespace Go.Proofs.YtpjbgmafnheomaaGreatDoor.Sim
open Go.RowKit
set_option linter.unusedVariables false
set_option linter.unusedSimpArgs false
set_option maxRecDepth 10000
set_option maxHeartbeats 8000000
variable {G : List (Nat × List Value)}
theorem d64_one {Y : Nat} (h : L64 Y = 1) : rd (d64 Y) 0 = (Y : Int) ∧ 0 < Y ∧ Y < 18446744073709551616 := by
  have h1 := d64_rd Y 0
  have h2 := L64_lt Y
  rw [h] at h2
  have h3 : Y ≠ 0 := fun h0 => by subst h0; rw [L64, lenB_zero] at h; omega
  refine ⟨?_, by omega, by omega⟩
  rw [show ((0 : Nat) : Int) = 0 by rfl] at h1
  rw [h1, Nat.mul_zero, Nat.pow_zero, Nat.div_one]
  omega
theorem top_pos {v : List Int} {m : Nat} {V : Int} (ok : okD 18446744073709551616 v) (hl : v.length = m + 1) (hv : vl 18446744073709551616 v = V) (h : 18446744073709551616 ^ m ≤ V) : 0 < rd v m := by
  have h1 := vl_split 18446744073709551616 v m (by omega)
  have h2 := vl_lt (B := 18446744073709551616) (by decide) (ok.take m)
  rw [List.length_take, Nat.min_eq_left (by omega)] at h2
  rw [drop_rd v m (by omega), vl, List.drop_eq_nil_of_le (by omega)] at h1
  simp only [vl] at h1
  rw [Int.mul_zero, Int.add_zero] at h1
  have h3 := (rd_bd (B := 18446744073709551616) (by decide) ok (m : Int)).1
  rcases Int.lt_or_le 0 (rd v m) with h4 | h4
  · exact h4
  · exfalso
    rw [show rd v m = 0 by omega, Int.mul_zero, Int.add_zero] at h1
    omega
/-- What stands above the first digits of a shifted number. -/
theorem above_lt {u : List Int} {U V : Nat} {L : Nat} (ok : okD 18446744073709551616 u) (hu : vl 18446744073709551616 u = (U : Int)) (hl : L ≤ u.length) (h : U < 2 ^ (64 * L) * V) : vl 18446744073709551616 (u.drop L) < (V : Int) := by
  have h1 := vl_split 18446744073709551616 u L hl
  have h2 := vl_nonneg (B := 18446744073709551616) (by decide) (ok.take L)
  obtain ⟨Z, hZ⟩ := Int.eq_ofNat_of_zero_le (vl_nonneg (B := 18446744073709551616) (by decide) (ok.drop L))
  rw [hu, hZ] at h1
  rw [hZ]
  have h3 : 18446744073709551616 ^ L * Z ≤ U := by
    have : ((18446744073709551616 ^ L * Z : Nat) : Int) ≤ (U : Int) := by
      rw [h1]; simp only [Int.natCast_mul, Int.natCast_pow]; exact Int.le_add_of_nonneg_left h2
    exact Int.ofNat_le.1 this
  rw [pow64] at h3
  have h4 : Z < V := Nat.lt_of_mul_lt_mul_left (Nat.lt_of_le_of_lt h3 h)
  exact Int.ofNat_lt.2 h4
def qrT (q r : Nat) : PV := .tup [.ws .u64 (d64 q), .ws .u64 (d64 r), .val (.int .i64 0)]
theorem d_quorem (X Y : Nat) (hX : L64 X ≤ 8192) (hY : L64 Y ≤ 8192) (h0 : Y ≠ 0) : FC Tryz.prog G 141 [.ws .u64 (d64 X), .ws .u64 (d64 Y)] (· = qrT (X / Y) (X % Y)) := by
  have fa := n_formN (G := G) X hX
  have fb := n_formN (G := G) Y hY
  have fc := n_cmp (G := G) X Y (by omega) (by omega)
  have hlx : (d64 X).length = L64 X := rfl
  have hly : (d64 Y).length = L64 Y := rfl
  have hYp : 0 < L64 Y := lenB_pos (B := 18446744073709551616) (by decide) h0
  obtain ⟨T, hT⟩ : ∃ T, T = Y / 2 ^ (64 * (L64 Y - 1)) := ⟨_, rfl⟩
  have htop := top64 h0
  rw [← hT] at htop
  have hrd : rd (d64 Y) ((L64 Y : Int) - 1) = (T : Int) := by
    have := d64_rd Y (L64 Y - 1)
    rw [← hT, Nat.mod_eq_of_lt htop.1] at this
    rw [← this]; congr 1; omega
  have hTb : 0 < bl T ∧ bl T ≤ 64 := ⟨bl_pos htop.2, bl_le (k := 64) (by omega)⟩
  have hlead := b_lead (G := G) T htop.1
  obtain ⟨s, hs⟩ : ∃ s : Nat, s = 64 - bl T := ⟨_, rfl⟩
  rw [show (64 - (bl T : Int)) = (s : Int) by omega] at hlead
  have hs64 : s < 64 := by omega
  have hp2 : 0 < 2 ^ s := Nat.pow_pos (by decide)
  have hYlt : Y * 2 ^ s < 2 ^ (64 * L64 Y) := by
    have h2 : bl Y = 64 * (L64 Y - 1) + bl T := by rw [hT]; exact bl_top Y _ (by rw [← hT]; exact htop.2)
    have h6 : Y * 2 ^ s < 2 ^ bl Y * 2 ^ s := Nat.mul_lt_mul_of_pos_right (lt_bl Y) hp2
    rw [← Nat.pow_add] at h6
    exact Nat.lt_of_lt_of_le h6 (Nat.pow_le_pow_right (by decide) (by omega))
  have hYge : 2 ^ (64 * (L64 Y - 1)) ≤ Y := by
    have h2 : bl Y = 64 * (L64 Y - 1) + bl T := by rw [hT]; exact bl_top Y _ (by rw [← hT]; exact htop.2)
    exact Nat.le_trans (Nat.pow_le_pow_right (by decide) (by omega)) (le_of_bl h0)
  have hXlt : X * 2 ^ s < 2 ^ (64 * L64 X) * 2 ^ s := Nat.mul_lt_mul_of_pos_right (L64_lt X) hp2
  have hXlt2 : X * 2 ^ s < 2 ^ (64 * (L64 X + 1)) := by
    rw [← Nat.pow_add] at hXlt
    exact Nat.lt_of_lt_of_le hXlt (Nat.pow_le_pow_right (by decide) (by omega))
  have hcl : Unit → ¬ cmpN X Y < 0 → Y ≤ X ∧ L64 Y ≤ L64 X := fun _ h => by
    have : Y ≤ X := by
      unfold cmpN at h
      split at h
      · exact absurd (by decide) h
      · omega
    exact ⟨this, L64_mono this⟩
  have fu := d_shifted (G := G) X (L64 X + 1) s hs64 (by omega) (by omega) hXlt2
  have fv := d_shifted (G := G) Y (L64 Y) s hs64 (Nat.le_refl _) (by omega) hYlt
  have hab : Unit → L64 Y ≤ L64 X → X * 2 ^ s < 2 ^ (64 * (L64 X + 1 - L64 Y)) * (Y * 2 ^ s) := fun _ h => by
    refine Nat.lt_of_lt_of_le hXlt ?_
    have e : 64 * L64 X = 64 * (L64 X + 1 - L64 Y) + 64 * (L64 Y - 1) := by omega
    rw [e, Nat.pow_add, Nat.mul_assoc]
    exact Nat.mul_le_mul_left _ (Nat.mul_le_mul_right _ hYge)
  have hlow : (18446744073709551616 : Int) ^ (L64 Y - 1) ≤ ((Y * 2 ^ s : Nat) : Int) := by
    rw [pow64i]
    exact Int.ofNat_le.2 (Nat.le_trans hYge (Nat.le_mul_of_pos_right _ hp2))
  have hrl : L64 (X % Y) ≤ 8192 := Nat.le_trans (L64_mono (Nat.mod_le _ _)) hX
  have hql : L64 (X / Y) ≤ 8192 := Nat.le_trans (L64_mono (Nat.div_le_self _ _)) hX
  have hrl2 : L64 (X % Y * 2 ^ s) ≤ 8192 := by
    have h1 : X % Y * 2 ^ s ≤ Y * 2 ^ s := Nat.mul_le_mul_right _ (Nat.le_of_lt (Nat.mod_lt _ (by omega)))
    exact Nat.le_trans (L64_le (Nat.lt_of_le_of_lt h1 hYlt)) hY
  have hq2 : (((X * 2 ^ s : Nat) : Int) / ((Y * 2 ^ s : Nat) : Int)).toNat = X / Y := by
    rw [← Int.natCast_ediv, Int.toNat_natCast, Nat.mul_div_mul_right _ _ hp2]
  have hr2 : (((X * 2 ^ s : Nat) : Int) % ((Y * 2 ^ s : Nat) : Int)).toNat = X % Y * 2 ^ s := by
    rw [← Int.natCast_emod, Int.toNat_natCast, Nat.mul_mod_mul_right]
  have fsh := n_shr (G := G) (X % Y * 2 ^ s) (s : Int) hrl2 (by dsimp only [inR]; omega)
  rw [show shrT (X % Y * 2 ^ s) (s : Int) = natR (X % Y) by
    unfold shrT natR
    rw [if_neg (by omega), if_neg (by omega), Int.toNat_natCast, Nat.mul_div_cancel _ hp2]] at fsh
  have fw : Unit → X % Y < 18446744073709551616 → FC Tryz.prog G 143 [.val (.int .u64 ((X % Y : Nat) : Int))] (· = .ws .u64 (d64 (X % Y))) := fun _ h => by
    have := n_word (G := G) ((X % Y : Nat) : Int) (by omega)
    rw [Int.toNat_natCast] at this
    exact this
  refine FC.intro (X := XX) tok Tryz.func141 rfl Tryz.ntmps141 (by rw [Tryz.results141]) (by kernel_rfl) rfl ?_; intro F hG hO
  rw [← hG] at fa fb fc hlead fu fv fsh fw
  repeat' ((try (conv => whnf)); first
  | ((with_reducible refine cg ?_); first | refine ceq fa rfl ?_ | refine ceq fb rfl ?_ | refine ceq fc rfl ?_)
  | ((with_reducible refine cg ?_); refine call_eq (n_norm (d64 X) (d64_ok X).1 (by omega)) (LpL.refl _) rfl ?_; rw [vl_d64, natT_ok hX]; unfold natR)
  | ((with_reducible refine cg ?_); have h1 := d64_one (Y := Y) (by omega); rw [h1.1]; refine call_eq (n_divword X Y hX h1.2.1 h1.2.2) (LpL.refl _) rfl ?_)
  | ((with_reducible refine cg ?_); have h1 := d64_one (Y := Y) (by omega); refine call_eq (fw () (by have := Nat.mod_lt X h1.2.1; omega)) (LpL.refl _) rfl ?_)
  | ((with_reducible refine cg ?_); rw [hly, hrd]; refine call_eq hlead (LpL.refl _) rfl ?_)
  | ((with_reducible refine cg ?_); rw [show ((d64 X).length : Int) + 1 = ((L64 X + 1 : Nat) : Int) by omega]; refine call_row (m := 0) fu rfl rfl rfl ?_; intro u u1 u2 u3)
  | ((with_reducible refine cg ?_); refine call_row (m := 1) fv rfl rfl rfl ?_; intro v v1 v2 v3)
  | ((with_reducible refine cg ?_); have hcl2 := hcl () (by assumption); refine call_fz 1 (q := 1) (A := v) (B := v) rfl rfl (by omega) (by rw [List.drop_zero]; exact List.take_of_length_le (by omega)) (by omega) ?_; have dl := d_long (G := F.G) u v (L64 X + 1 - L64 Y) (L64 Y - 1) ((Y * 2 ^ s : Nat) : Int) (by omega) (by omega) (by omega) (by omega) u2 v2 v3 (top_pos v2 (by omega) v3 hlow) (above_lt u2 u3 (by omega) (hab () hcl2.2)); rw [show L64 X + 1 - L64 Y + (L64 Y - 1 + 1) = L64 X + 1 by omega, show L64 Y - 1 + 1 = L64 Y by omega, u3] at dl; refine call_pm [0] dl rfl rfl rfl (by simp) ?_; rintro r rs ⟨rfl, z, q, w1, w2, w3, w4, w5, w6, rfl⟩)
  | ((with_reducible refine cg ?_); refine call_fz 0 (q := 0) (A := z) (B := z.take (L64 Y)) rfl rfl (by omega) (by rw [List.drop_zero]; first | rfl | rw [v1] | (rw [Int.toNat_natCast])) (by omega) ?_; refine call_eq (n_norm (z.take (L64 Y)) (w2.take _) (by rw [List.length_take]; omega)) (LpL.refl _) rfl ?_; rw [w6, hr2, natT_ok hrl2]; unfold natR)
  | ((with_reducible refine cg ?_); first | refine ceq fsh rfl ?_)
  | ((with_reducible refine cg ?_); refine call_fz 0 (q := 2) (A := q) (B := q) rfl rfl (by omega) (by rw [List.drop_zero]; exact List.take_of_length_le (by omega)) (by omega) ?_; refine call_eq (n_norm q w4 (by omega)) (LpL.refl _) rfl ?_; rw [w5, hq2, natT_ok hql]; unfold natR)
  
  | with_reducible first
    | refine Chk.mk' (by first | omega | exact trivial | (simp only [List.length_append, List.length_set, List.length_replicate, List.length_take, List.length_drop, List.length_cons, List.length_nil, List.length_map]; omega)) ?_
    | refine wrap_g (by dsimp only [inR]; omega) ?_
    | refine idx_g (by omega) ?_ | refine idx_l _ rfl (by decide) ?_ | refine BothG.mk ?_ ?_ | refine fork_tt ?_ | refine fork_ff ?_
    | (refine fork_e (c := true) (by decide) ?_; refine fork_tt ?_) | (refine fork_e (c := false) (by decide) ?_; refine fork_ff ?_)
    | refine fork_t (by omega) ?_ | refine fork_f (by omega) ?_ | (refine fork_d ?_ ?_ <;> intro hc) | refine fork_n ?_ | (refine fork_b ?_ ?_ <;> intro hc)
    | refine SlcG.mk (by omega) ?_ | refine MakG.mk (by dsimp only; omega) ?_
    | refine AppG.mk (by first | omega | (simp only [List.length_append, List.length_set, List.length_replicate, List.length_take, List.length_drop, List.length_cons, List.length_nil, List.length_map]; omega)) (by dsimp only [List.length_cons, List.length_nil]; omega) (by omega) ?_
    | refine div_g (by omega) (by omega) (by dsimp only [inR]; omega) ?_ | refine mod_g (by omega) (by omega) ?_
    | refine mask_g (m := 4294967296) 32 rfl rfl (by decide) (by omega) ?_ | refine shr_g (m := 4294967296) 32 rfl (by decide) (by omega) rfl ?_
    | refine fz_all (by omega) ?_ | (refine smk ?_ ?_; constructor))
  · have : X < Y := by
      unfold cmpN at hc
      split at hc
      · assumption
      · split at hc <;> omega
    refine ⟨ret_l _ (.tup (.cons (.nil .u64) (.cons (.refl _) (.cons (.refl _) .nil)))) ?_⟩
    rw [Nat.div_eq_of_lt this, Nat.mod_eq_of_lt this]
    unfold qrT
    rw [d64_0]
  · exact ⟨ret_e rfl⟩
  · exact ⟨ret_e rfl⟩
end Go.Proofs.YtpjbgmafnheomaaGreatDoor.Sim
namespace Go.Proofs.YtpjbgmafnheomaaGreatDoor.Sim
open Go.RowKit
set_option linter.unusedVariables false
set_option linter.unusedSimpArgs false
set_option maxRecDepth 10000
set_option maxHeartbeats 8000000
variable {G : List (Nat × List Value)}
end Go.Proofs.YtpjbgmafnheomaaGreatDoor.Sim
namespace Go.Proofs.YtpjbgmafnheomaaGreatDoor.Sim
open Go.RowKit
set_option linter.unusedVariables false
set_option linter.unusedSimpArgs false
set_option maxRecDepth 10000
set_option maxHeartbeats 8000000
variable {G : List (Nat × List Value)}
theorem shlT_nat {X : Nat} {k : Int} (hk : 0 ≤ k) (h : (bl X : Int) + k ≤ 524288) : shlT X k = natR (X * 2 ^ k.toNat) := by
  by_cases h0 : X = 0
  · rw [shlT_0 (by omega) h0, h0, Nat.zero_mul]
    unfold natE natR
    rw [d64_0]
  · rw [shlT_ok (by omega) h0 (by omega), natT_ok]
    rw [L64_bl, bl_mul_pow X k.toNat h0]
    omega
theorem NI_sg {b : Bool} {M : Nat} (h : b = true → M ≠ 0) : NI (sg b M) = .agg [.val (.bool b), .ws .u64 (d64 M)] := by
  unfold NI
  rw [sg_abs]
  have : decide (sg b M < 0) = b := by
    cases b
    · simp only [sg]; exact decide_eq_false (by omega)
    · have := h rfl
      simp only [sg]; exact decide_eq_true (by omega)
  rw [this]; rfl
theorem bl_succ (n : Nat) : bl (n + 1) ≤ bl n + 1 := bl_le (by have := lt_bl n; have : 0 < 2 ^ bl n := Nat.pow_pos (by decide); rw [Nat.pow_succ]; omega)
theorem bl_div (x d : Nat) : bl (x / d) ≤ bl x := bl_mono (Nat.div_le_self _ _)
theorem y_quotient {g : List (Nat × List Value)} (hD : (0, debT.map (Value.int .u8)) ∈ g) {n e m f : Int} (p : Int) (up : Bool) (h : Good n e) (k : Good m f) (hp : inR .i64 p) : FC Tryz.prog g 96 [DY n e, DY m f, .val (.int .i64 p), .val (.bool up)] (· = quoS n e m f p up) := by
  dsimp only [inR] at hp
  have f0 := y_precise (G := g) p
  have f1 := y_form (G := g) h
  have f2 := y_form (G := g) k
  have f3 := y_noughtg (G := g) m f
  have hlx : (d64 n.natAbs).length = L64 n.natAbs := rfl
  have hly : (d64 m.natAbs).length = L64 m.natAbs := rfl
  by_cases hp2 : 1 ≤ p ∧ p ≤ 70000
  rotate_left
  · rw [show (decide (1 ≤ p) && decide (p ≤ 70000)) = false by
      rw [← Bool.not_eq_true, Bool.and_eq_true, decide_eq_true_eq, decide_eq_true_eq]; exact hp2] at f0
    rw [quoS_1 (by omega)]
    refine FC.intro (X := XX) tok Tryz.func96 rfl Tryz.ntmps96 (by rw [Tryz.results96]) (by kernel_rfl) rfl ?_; intro F hG hO
    rw [← hG] at f0
    repeat' ((try (conv => whnf)); first
  | ((with_reducible refine cg ?_); first | refine ceq f0 rfl ?_)
  
  | (with_reducible refine draw_g (id := 9) [[0, 1, 2, 3, 4, 7, 8, 9, 5, 6, 10, 11, 12, 13]] tok mixed (by kernel_rfl) ?_)
  | with_reducible first
    | refine Chk.mk' (by first | omega | exact trivial | (simp only [List.length_append, List.length_set, List.length_replicate, List.length_take, List.length_drop, List.length_cons, List.length_nil, List.length_map]; omega)) ?_
    | refine wrap_g (by dsimp only [inR]; omega) ?_
    | refine idx_g (by omega) ?_ | refine idx_l _ rfl (by decide) ?_ | refine BothG.mk ?_ ?_ | refine fork_tt ?_ | refine fork_ff ?_
    | (refine fork_e (c := true) (by decide) ?_; refine fork_tt ?_) | (refine fork_e (c := false) (by decide) ?_; refine fork_ff ?_)
    | refine fork_t (by omega) ?_ | refine fork_f (by omega) ?_ | (refine fork_d ?_ ?_ <;> intro hc) | refine fork_n ?_ | (refine fork_b ?_ ?_ <;> intro hc)
    | refine SlcG.mk (by omega) ?_ | refine MakG.mk (by dsimp only; omega) ?_
    | refine AppG.mk (by first | omega | (simp only [List.length_append, List.length_set, List.length_replicate, List.length_take, List.length_drop, List.length_cons, List.length_nil, List.length_map]; omega)) (by dsimp only [List.length_cons, List.length_nil]; omega) (by omega) ?_
    | refine div_g (by omega) (by omega) (by dsimp only [inR]; omega) ?_ | refine mod_g (by omega) (by omega) ?_
    | refine mask_g (m := 4294967296) 32 rfl rfl (by decide) (by omega) ?_ | refine shr_g (m := 4294967296) 32 rfl (by decide) (by omega) rfl ?_
    | refine fz_all (by omega) ?_ | (refine smk ?_ ?_; constructor))
    exact ⟨ret_l _ (lp_dyE 1) rfl⟩
  rw [show (decide (1 ≤ p) && decide (p ≤ 70000)) = true by
    rw [Bool.and_eq_true, decide_eq_true_eq, decide_eq_true_eq]; exact hp2] at f0
  by_cases hm : m = 0
  · rw [quoS_4 hp2 hm]
    rw [decide_eq_true hm] at f3
    refine FC.intro (X := XX) tok Tryz.func96 rfl Tryz.ntmps96 (by rw [Tryz.results96]) (by kernel_rfl) rfl ?_; intro F hG hO
    rw [← hG] at f0 f1 f2 f3
    repeat' ((try (conv => whnf)); first
  | ((with_reducible refine cg ?_); first | refine ceq f0 rfl ?_ | refine ceq f1 rfl ?_ | refine ceq f2 rfl ?_ | refine ceq f3 rfl ?_)
  
  | (with_reducible refine draw_g (id := 9) [[0, 1, 2, 3, 4, 7, 8, 9, 5, 6, 10, 11, 12, 13]] tok mixed (by kernel_rfl) ?_)
  | with_reducible first
    | refine Chk.mk' (by first | omega | exact trivial | (simp only [List.length_append, List.length_set, List.length_replicate, List.length_take, List.length_drop, List.length_cons, List.length_nil, List.length_map]; omega)) ?_
    | refine wrap_g (by dsimp only [inR]; omega) ?_
    | refine idx_g (by omega) ?_ | refine idx_l _ rfl (by decide) ?_ | refine BothG.mk ?_ ?_ | refine fork_tt ?_ | refine fork_ff ?_
    | (refine fork_e (c := true) (by decide) ?_; refine fork_tt ?_) | (refine fork_e (c := false) (by decide) ?_; refine fork_ff ?_)
    | refine fork_t (by omega) ?_ | refine fork_f (by omega) ?_ | (refine fork_d ?_ ?_ <;> intro hc) | refine fork_n ?_ | (refine fork_b ?_ ?_ <;> intro hc)
    | refine SlcG.mk (by omega) ?_ | refine MakG.mk (by dsimp only; omega) ?_
    | refine AppG.mk (by first | omega | (simp only [List.length_append, List.length_set, List.length_replicate, List.length_take, List.length_drop, List.length_cons, List.length_nil, List.length_map]; omega)) (by dsimp only [List.length_cons, List.length_nil]; omega) (by omega) ?_
    | refine div_g (by omega) (by omega) (by dsimp only [inR]; omega) ?_ | refine mod_g (by omega) (by omega) ?_
    | refine mask_g (m := 4294967296) 32 rfl rfl (by decide) (by omega) ?_ | refine shr_g (m := 4294967296) 32 rfl (by decide) (by omega) rfl ?_
    | refine fz_all (by omega) ?_ | (refine smk ?_ ?_; constructor))
    exact ⟨ret_l _ (lp_dyE 4) rfl⟩
  rw [decide_eq_false hm] at f3
  by_cases hl : L64 n.natAbs ≤ 4096 ∧ L64 m.natAbs ≤ 4096
  rotate_left
  · rw [quoS_5 hp2 hm (by omega)]
    refine FC.intro (X := XX) tok Tryz.func96 rfl Tryz.ntmps96 (by rw [Tryz.results96]) (by kernel_rfl) rfl ?_; intro F hG hO
    rw [← hG] at f0 f1 f2 f3
    repeat' ((try (conv => whnf)); first
  | ((with_reducible refine cg ?_); first | refine ceq f0 rfl ?_ | refine ceq f1 rfl ?_ | refine ceq f2 rfl ?_ | refine ceq f3 rfl ?_)
  
  | (with_reducible refine draw_g (id := 9) [[0, 1, 2, 3, 4, 7, 8, 9, 5, 6, 10, 11, 12, 13]] tok mixed (by kernel_rfl) ?_)
  | with_reducible first
    | refine Chk.mk' (by first | omega | exact trivial | (simp only [List.length_append, List.length_set, List.length_replicate, List.length_take, List.length_drop, List.length_cons, List.length_nil, List.length_map]; omega)) ?_
    | refine wrap_g (by dsimp only [inR]; omega) ?_
    | refine idx_g (by omega) ?_ | refine idx_l _ rfl (by decide) ?_ | refine BothG.mk ?_ ?_ | refine fork_tt ?_ | refine fork_ff ?_
    | (refine fork_e (c := true) (by decide) ?_; refine fork_tt ?_) | (refine fork_e (c := false) (by decide) ?_; refine fork_ff ?_)
    | refine fork_t (by omega) ?_ | refine fork_f (by omega) ?_ | (refine fork_d ?_ ?_ <;> intro hc) | refine fork_n ?_ | (refine fork_b ?_ ?_ <;> intro hc)
    | refine SlcG.mk (by omega) ?_ | refine MakG.mk (by dsimp only; omega) ?_
    | refine AppG.mk (by first | omega | (simp only [List.length_append, List.length_set, List.length_replicate, List.length_take, List.length_drop, List.length_cons, List.length_nil, List.length_map]; omega)) (by dsimp only [List.length_cons, List.length_nil]; omega) (by omega) ?_
    | refine div_g (by omega) (by omega) (by dsimp only [inR]; omega) ?_ | refine mod_g (by omega) (by omega) ?_
    | refine mask_g (m := 4294967296) 32 rfl rfl (by decide) (by omega) ?_ | refine shr_g (m := 4294967296) 32 rfl (by decide) (by omega) rfl ?_
    | refine fz_all (by omega) ?_ | (refine smk ?_ ?_; constructor))
    all_goals exact ⟨ret_l _ (lp_dyE 5) rfl⟩
  have b1 := bl_L64 n.natAbs
  have b2 := bl_L64 m.natAbs
  have e1 := h.2.1
  have e2 := h.2.2.1
  have e3 := k.2.1
  have e4 := k.2.2.1
  rw [quoS_ok hp2 hm hl.1 hl.2, ← quo_code up hp2 hm (by omega) (by omega) ⟨e1, e2⟩ ⟨e3, e4⟩]
  obtain ⟨K, hK⟩ : ∃ K, K = quoK n m p 2 := ⟨_, rfl⟩
  have hK2 : K = max 0 (p + 2 + bl m.natAbs - bl n.natAbs) := hK
  rw [← hK]
  have hm0 : m.natAbs ≠ 0 := by omega
  obtain ⟨x, hx⟩ : ∃ x, x = n.natAbs * 2 ^ K.toNat := ⟨_, rfl⟩
  have hbx : bl x ≤ 400000 := by
    by_cases h0 : n.natAbs = 0
    · rw [hx, h0, Nat.zero_mul, bl_zero]; omega
    · rw [hx, bl_mul_pow _ _ h0]; omega
  have f4 := n_bits (G := g) n.natAbs (by omega)
  have f5 := n_bits (G := g) m.natAbs (by omega)
  have f6 := n_shl (G := g) n.natAbs K (by omega) (by dsimp only [inR]; omega)
  rw [shlT_nat (by omega) (by omega), ← hx] at f6
  have hxl : L64 x ≤ 8192 := by rw [L64_bl]; omega
  have f7 := d_quorem (G := g) x m.natAbs hxl (by omega) hm0
  have hbq := bl_div x m.natAbs
  obtain ⟨Q, hQ⟩ : ∃ Q, Q = x / m.natAbs := ⟨_, rfl⟩
  obtain ⟨R, hR⟩ : ∃ R, R = x % m.natAbs := ⟨_, rfl⟩
  have hst : stk x m.natAbs = 2 * Q + (if R = 0 then 0 else 1) := by rw [hQ, hR]; rfl
  rw [← hQ, ← hR] at f7
  rw [← hQ] at hbq
  rw [← hx, hst]
  have hQl : L64 Q ≤ 8192 := by rw [L64_bl]; omega
  have f8 := n_shl (G := g) Q 1 hQl (by dsimp only [inR]; omega)
  rw [shlT_nat (by decide) (by omega), show (1 : Int).toNat = 1 from rfl, Nat.pow_one, Nat.mul_comm] at f8
  have hlr := len64_pos R
  have hlR : (d64 R).length = L64 R := rfl
  have hb2 : bl (2 * Q) ≤ 400001 := by
    by_cases h0 : Q = 0
    · rw [h0]; decide
    · have := bl_mul_pow Q 1 h0
      rw [Nat.pow_one, Nat.mul_comm] at this
      omega
  have h2l : L64 (2 * Q) ≤ 8192 := by rw [L64_bl]; omega
  have hb3 : bl (2 * Q + 1) ≤ 400002 := by have := bl_succ (2 * Q); omega
  have h3l : L64 (2 * Q + 1) ≤ 8192 := by rw [L64_bl]; omega
  have f9 := n_word (G := g) 1 (by decide)
  have f10 := n_add (G := g) (2 * Q) 1 h2l (Nat.le_trans (L64_le (n := 1) (by decide)) (by decide))
  rw [natT_ok h3l] at f10
  obtain ⟨s1, hs1⟩ : ∃ b, b = decide (n < 0) := ⟨_, rfl⟩
  obtain ⟨s2, hs2⟩ : ∃ b, b = decide (m < 0) := ⟨_, rfl⟩
  obtain ⟨M, hM⟩ : ∃ M, M = 2 * Q + (if R = 0 then 0 else 1) := ⟨_, rfl⟩
  have hMl : L64 M ≤ 8192 := by
    rw [hM]
    split
    · exact h2l
    · exact h3l
  have hlM := len64_pos M
  have hlM2 : (d64 M).length = L64 M := rfl
  rw [← hM]
  have f11 := y_short hD (sg (s1 != s2) M) (e - f - K - 1) p up (by rw [sg_abs]; exact hMl) (by omega) (by omega)
  obtain ⟨y, z, c, hr, hgd, hcc⟩ := cut_form (sg (s1 != s2) M) (e - f - K - 1) p up
  rw [hr] at f11
  rw [← hs1, ← hs2, hr]
  unfold DY at f1 f2 f3
  unfold DY
  rw [← hs1] at f1
  rw [← hs2] at f2 f3
  rw [← hs1, ← hs2]
  have f12 : Unit → ((s1 != s2) = true → M ≠ 0) → FC Tryz.prog g 144 [.agg [.val (.bool (s1 != s2)), .ws .u64 (d64 M)], .val (.int .i64 (e - f - K - 1)), .val (.int .i64 p), .val (.bool up)] (· = .tup [DY y z, .val (.int .i64 c)]) := fun _ hh => by rw [← NI_sg hh]; exact f11
  have f13 : Unit → M = 0 → FC Tryz.prog g 144 [.agg [.val (.bool false), .ws .u64 (d64 M)], .val (.int .i64 (e - f - K - 1)), .val (.int .i64 p), .val (.bool up)] (· = .tup [DY y z, .val (.int .i64 c)]) := fun _ hh => by
    have e0 : sg (s1 != s2) M = sg false M := by rw [hh]; cases (s1 != s2) <;> rfl
    rw [← NI_sg (b := false) (fun h => by cases h), ← e0]
    exact f11
  have f14 : Unit → (s1 != s2) = true → FC Tryz.prog g 144 [.agg [.val (.bool (decide ((0 : Int) < ((d64 M).length : Int)))), .ws .u64 (d64 M)], .val (.int .i64 (e - f - K - 1)), .val (.int .i64 p), .val (.bool up)] (· = .tup [DY y z, .val (.int .i64 c)]) := fun _ hh => by
    by_cases hM0 : M = 0
    · rw [decide_eq_false (show ¬ (0 : Int) < ((d64 M).length : Int) by omega)]
      exact f13 () hM0
    · rw [decide_eq_true (show (0 : Int) < ((d64 M).length : Int) by omega)]
      have := f12 () (fun _ => hM0)
      rw [hh] at this
      exact this
  unfold DY at f12 f13 f14
  by_cases hR0 : R = 0
  · rw [if_pos hR0, Nat.add_zero] at hM
    rw [← hM] at f8
    cases s1 <;> cases s2
    all_goals
      refine FC.intro (X := XX) tok Tryz.func96 rfl Tryz.ntmps96 (by rw [Tryz.results96]) (by kernel_rfl) rfl ?_; intro F hG hO
      rw [← hG] at f0 f1 f2 f3 f4 f5 f6 f7 f8 f12 f13 f14
      repeat' ((try (conv => whnf)); first
  | ((with_reducible refine cg ?_); first | refine ceq f0 rfl ?_ | refine ceq f1 rfl ?_ | refine ceq f2 rfl ?_ | refine ceq f3 rfl ?_ | refine ceq f4 rfl ?_ | refine ceq f5 rfl ?_)
  | ((with_reducible refine cg ?_); rw [← hK2]; refine call_eq f6 (LpL.refl _) rfl ?_)
  | ((with_reducible refine cg ?_); first | refine ceq f7 rfl ?_ | refine ceq f8 rfl ?_)
  | ((with_reducible refine cg ?_); refine call_eq (f14 () rfl) (LpL.refl _) rfl ?_)
  | ((with_reducible refine cg ?_); refine call_eq (f12 () (fun h => absurd h (by decide))) (LpL.refl _) rfl ?_)
  
  | (with_reducible refine draw_g (id := 9) [[0, 1, 2, 3, 4, 7, 8, 9, 5, 6, 10, 11, 12, 13]] tok mixed (by kernel_rfl) ?_)
  | with_reducible first
    | refine Chk.mk' (by first | omega | exact trivial | (simp only [List.length_append, List.length_set, List.length_replicate, List.length_take, List.length_drop, List.length_cons, List.length_nil, List.length_map]; omega)) ?_
    | refine wrap_g (by dsimp only [inR]; omega) ?_
    | refine idx_g (by omega) ?_ | refine idx_l _ rfl (by decide) ?_ | refine BothG.mk ?_ ?_ | refine fork_tt ?_ | refine fork_ff ?_
    | (refine fork_e (c := true) (by decide) ?_; refine fork_tt ?_) | (refine fork_e (c := false) (by decide) ?_; refine fork_ff ?_)
    | refine fork_t (by omega) ?_ | refine fork_f (by omega) ?_ | (refine fork_d ?_ ?_ <;> intro hc) | refine fork_n ?_ | (refine fork_b ?_ ?_ <;> intro hc)
    | refine SlcG.mk (by omega) ?_ | refine MakG.mk (by dsimp only; omega) ?_
    | refine AppG.mk (by first | omega | (simp only [List.length_append, List.length_set, List.length_replicate, List.length_take, List.length_drop, List.length_cons, List.length_nil, List.length_map]; omega)) (by dsimp only [List.length_cons, List.length_nil]; omega) (by omega) ?_
    | refine div_g (by omega) (by omega) (by dsimp only [inR]; omega) ?_ | refine mod_g (by omega) (by omega) ?_
    | refine mask_g (m := 4294967296) 32 rfl rfl (by decide) (by omega) ?_ | refine shr_g (m := 4294967296) 32 rfl (by decide) (by omega) rfl ?_
    | refine fz_all (by omega) ?_ | (refine smk ?_ ?_; constructor))
      all_goals exact ⟨ret_e rfl⟩
  · rw [if_neg hR0] at hM
    rw [← hM] at f10
    cases s1 <;> cases s2
    all_goals
      refine FC.intro (X := XX) tok Tryz.func96 rfl Tryz.ntmps96 (by rw [Tryz.results96]) (by kernel_rfl) rfl ?_; intro F hG hO
      rw [← hG] at f0 f1 f2 f3 f4 f5 f6 f7 f8 f9 f10 f12 f14
      repeat' ((try (conv => whnf)); first
  | ((with_reducible refine cg ?_); first | refine ceq f0 rfl ?_ | refine ceq f1 rfl ?_ | refine ceq f2 rfl ?_ | refine ceq f3 rfl ?_ | refine ceq f4 rfl ?_ | refine ceq f5 rfl ?_)
  | ((with_reducible refine cg ?_); rw [← hK2]; refine call_eq f6 (LpL.refl _) rfl ?_)
  | ((with_reducible refine cg ?_); first | refine ceq f7 rfl ?_ | refine ceq f8 rfl ?_ | refine ceq f9 rfl ?_ | refine ceq f10 rfl ?_)
  | ((with_reducible refine cg ?_); refine call_eq (f14 () rfl) (LpL.refl _) rfl ?_)
  | ((with_reducible refine cg ?_); refine call_eq (f12 () (fun h => absurd h (by decide))) (LpL.refl _) rfl ?_)
  
  | (with_reducible refine draw_g (id := 9) [[0, 1, 2, 3, 4, 7, 8, 9, 5, 6, 10, 11, 12, 13]] tok mixed (by kernel_rfl) ?_)
  | with_reducible first
    | refine Chk.mk' (by first | omega | exact trivial | (simp only [List.length_append, List.length_set, List.length_replicate, List.length_take, List.length_drop, List.length_cons, List.length_nil, List.length_map]; omega)) ?_
    | refine wrap_g (by dsimp only [inR]; omega) ?_
    | refine idx_g (by omega) ?_ | refine idx_l _ rfl (by decide) ?_ | refine BothG.mk ?_ ?_ | refine fork_tt ?_ | refine fork_ff ?_
    | (refine fork_e (c := true) (by decide) ?_; refine fork_tt ?_) | (refine fork_e (c := false) (by decide) ?_; refine fork_ff ?_)
    | refine fork_t (by omega) ?_ | refine fork_f (by omega) ?_ | (refine fork_d ?_ ?_ <;> intro hc) | refine fork_n ?_ | (refine fork_b ?_ ?_ <;> intro hc)
    | refine SlcG.mk (by omega) ?_ | refine MakG.mk (by dsimp only; omega) ?_
    | refine AppG.mk (by first | omega | (simp only [List.length_append, List.length_set, List.length_replicate, List.length_take, List.length_drop, List.length_cons, List.length_nil, List.length_map]; omega)) (by dsimp only [List.length_cons, List.length_nil]; omega) (by omega) ?_
    | refine div_g (by omega) (by omega) (by dsimp only [inR]; omega) ?_ | refine mod_g (by omega) (by omega) ?_
    | refine mask_g (m := 4294967296) 32 rfl rfl (by decide) (by omega) ?_ | refine shr_g (m := 4294967296) 32 rfl (by decide) (by omega) rfl ?_
    | refine fz_all (by omega) ?_ | (refine smk ?_ ?_; constructor))
      all_goals exact ⟨ret_e rfl⟩
theorem y_quodown {g : List (Nat × List Value)} (hD : (0, debT.map (Value.int .u8)) ∈ g) {n e m f : Int} (p : Int) (h : Good n e) (k : Good m f) (hp : inR .i64 p) : FC Tryz.prog g 56 [DY n e, DY m f, .val (.int .i64 p)] (· = quoS n e m f p false) := by
  have f1 := y_quotient hD p false h k hp
  obtain ⟨x, y, c, hr, hgd⟩ := quo_form n e m f p false
  rw [hr] at f1 ⊢
  refine FC.intro (X := XX) tok Tryz.func56 rfl Tryz.ntmps56 (by rw [Tryz.results56]) (by kernel_rfl) rfl ?_; intro F hG hO
  rw [← hG] at f1
  repeat' ((try (conv => whnf)); first
  | ((with_reducible refine cg ?_); first | refine ceq f1 rfl ?_)
  
  | with_reducible first
    | refine Chk.mk' (by first | omega | exact trivial | (simp only [List.length_append, List.length_set, List.length_replicate, List.length_take, List.length_drop, List.length_cons, List.length_nil, List.length_map]; omega)) ?_
    | refine wrap_g (by dsimp only [inR]; omega) ?_
    | refine idx_g (by omega) ?_ | refine idx_l _ rfl (by decide) ?_ | refine BothG.mk ?_ ?_ | refine fork_tt ?_ | refine fork_ff ?_
    | (refine fork_e (c := true) (by decide) ?_; refine fork_tt ?_) | (refine fork_e (c := false) (by decide) ?_; refine fork_ff ?_)
    | refine fork_t (by omega) ?_ | refine fork_f (by omega) ?_ | (refine fork_d ?_ ?_ <;> intro hc) | refine fork_n ?_ | (refine fork_b ?_ ?_ <;> intro hc)
    | refine SlcG.mk (by omega) ?_ | refine MakG.mk (by dsimp only; omega) ?_
    | refine AppG.mk (by first | omega | (simp only [List.length_append, List.length_set, List.length_replicate, List.length_take, List.length_drop, List.length_cons, List.length_nil, List.length_map]; omega)) (by dsimp only [List.length_cons, List.length_nil]; omega) (by omega) ?_
    | refine div_g (by omega) (by omega) (by dsimp only [inR]; omega) ?_ | refine mod_g (by omega) (by omega) ?_
    | refine mask_g (m := 4294967296) 32 rfl rfl (by decide) (by omega) ?_ | refine shr_g (m := 4294967296) 32 rfl (by decide) (by omega) rfl ?_
    | refine fz_all (by omega) ?_ | (refine smk ?_ ?_; constructor))
  exact ⟨ret_e rfl⟩
theorem y_quoup {g : List (Nat × List Value)} (hD : (0, debT.map (Value.int .u8)) ∈ g) {n e m f : Int} (p : Int) (h : Good n e) (k : Good m f) (hp : inR .i64 p) : FC Tryz.prog g 57 [DY n e, DY m f, .val (.int .i64 p)] (· = quoS n e m f p true) := by
  have f1 := y_quotient hD p true h k hp
  obtain ⟨x, y, c, hr, hgd⟩ := quo_form n e m f p true
  rw [hr] at f1 ⊢
  refine FC.intro (X := XX) tok Tryz.func57 rfl Tryz.ntmps57 (by rw [Tryz.results57]) (by kernel_rfl) rfl ?_; intro F hG hO
  rw [← hG] at f1
  repeat' ((try (conv => whnf)); first
  | ((with_reducible refine cg ?_); first | refine ceq f1 rfl ?_)
  
  | with_reducible first
    | refine Chk.mk' (by first | omega | exact trivial | (simp only [List.length_append, List.length_set, List.length_replicate, List.length_take, List.length_drop, List.length_cons, List.length_nil, List.length_map]; omega)) ?_
    | refine wrap_g (by dsimp only [inR]; omega) ?_
    | refine idx_g (by omega) ?_ | refine idx_l _ rfl (by decide) ?_ | refine BothG.mk ?_ ?_ | refine fork_tt ?_ | refine fork_ff ?_
    | (refine fork_e (c := true) (by decide) ?_; refine fork_tt ?_) | (refine fork_e (c := false) (by decide) ?_; refine fork_ff ?_)
    | refine fork_t (by omega) ?_ | refine fork_f (by omega) ?_ | (refine fork_d ?_ ?_ <;> intro hc) | refine fork_n ?_ | (refine fork_b ?_ ?_ <;> intro hc)
    | refine SlcG.mk (by omega) ?_ | refine MakG.mk (by dsimp only; omega) ?_
    | refine AppG.mk (by first | omega | (simp only [List.length_append, List.length_set, List.length_replicate, List.length_take, List.length_drop, List.length_cons, List.length_nil, List.length_map]; omega)) (by dsimp only [List.length_cons, List.length_nil]; omega) (by omega) ?_
    | refine div_g (by omega) (by omega) (by dsimp only [inR]; omega) ?_ | refine mod_g (by omega) (by omega) ?_
    | refine mask_g (m := 4294967296) 32 rfl rfl (by decide) (by omega) ?_ | refine shr_g (m := 4294967296) 32 rfl (by decide) (by omega) rfl ?_
    | refine fz_all (by omega) ?_ | (refine smk ?_ ?_; constructor))
  exact ⟨ret_e rfl⟩
end Go.Proofs.YtpjbgmafnheomaaGreatDoor.Sim
namespace Go.Proofs.YtpjbgmafnheomaaGreatDoor.Sim
open Go.RowKit
set_option linter.unusedVariables false
set_option linter.unusedSimpArgs false
set_option maxRecDepth 10000
set_option maxHeartbeats 8000000
variable {G : List (Nat × List Value)}
theorem precise_no {p : Int} (h : ¬ (1 ≤ p ∧ p ≤ 70000)) : (decide (1 ≤ p) && decide (p ≤ 70000)) = false := by
  rw [← Bool.not_eq_true, Bool.and_eq_true, decide_eq_true_eq, decide_eq_true_eq]; exact h
end Go.Proofs.YtpjbgmafnheomaaGreatDoor.Sim
namespace Go.Proofs.YtpjbgmafnheomaaGreatDoor.Sim
open Go.RowKit
set_option linter.unusedVariables false
set_option linter.unusedSimpArgs false
set_option maxRecDepth 10000
set_option maxHeartbeats 8000000
variable {G : List (Nat × List Value)}
theorem lp_sp0 : Lp (.agg [.val (.bool false), .nil, .val (.int .i64 0), .val (.bool false), .nil, .val (.int .i64 0)]) (SP (0, 0) (0, 0)) := by
  have e : SP (0, 0) (0, 0) = .agg [.val (.bool false), .ws .u64 [], .val (.int .i64 0), .val (.bool false), .ws .u64 [], .val (.int .i64 0)] := by
    unfold SP
    rw [show d64 (Int.natAbs ((0, 0) : D2).1) = [] from d64_0]
    rfl
  rw [e]
  exact .agg (.cons (.refl _) (.cons (.nil _) (.cons (.refl _) (.cons (.refl _) (.cons (.nil _) (.cons (.refl _) .nil))))))
theorem lp_spE (c : Int) : Lp (.tup [.agg [.val (.bool false), .nil, .val (.int .i64 0), .val (.bool false), .nil, .val (.int .i64 0)], .val (.int .i64 c)]) (spE c) := .tup (.cons lp_sp0 (.cons (.refl _) .nil))
theorem p_cmp {a b : D2} (h : a.good) (g : b.good) : FC Tryz.prog G 70 [DY a.1 a.2, DY b.1 b.2] (· = .val (.int .i64 (cmpV a.1 a.2 b.1 b.2))) := by
  have f1 := y_cmp (G := G) h g
  rw [cmp_V h g] at f1
  refine FC.intro (X := XX) tok Tryz.func70 rfl Tryz.ntmps70 (by rw [Tryz.results70]) (by kernel_rfl) rfl ?_; intro F hG hO
  rw [← hG] at f1
  repeat' ((try (conv => whnf)); first
  | ((with_reducible refine cg ?_); first | refine ceq f1 rfl ?_)
  
  | with_reducible first
    | refine Chk.mk' (by first | omega | exact trivial | (simp only [List.length_append, List.length_set, List.length_replicate, List.length_take, List.length_drop, List.length_cons, List.length_nil, List.length_map]; omega)) ?_
    | refine wrap_g (by dsimp only [inR]; omega) ?_
    | refine idx_g (by omega) ?_ | refine idx_l _ rfl (by decide) ?_ | refine BothG.mk ?_ ?_ | refine fork_tt ?_ | refine fork_ff ?_
    | (refine fork_e (c := true) (by decide) ?_; refine fork_tt ?_) | (refine fork_e (c := false) (by decide) ?_; refine fork_ff ?_)
    | refine fork_t (by omega) ?_ | refine fork_f (by omega) ?_ | (refine fork_d ?_ ?_ <;> intro hc) | refine fork_n ?_ | (refine fork_b ?_ ?_ <;> intro hc)
    | refine SlcG.mk (by omega) ?_ | refine MakG.mk (by dsimp only; omega) ?_
    | refine AppG.mk (by first | omega | (simp only [List.length_append, List.length_set, List.length_replicate, List.length_take, List.length_drop, List.length_cons, List.length_nil, List.length_map]; omega)) (by dsimp only [List.length_cons, List.length_nil]; omega) (by omega) ?_
    | refine div_g (by omega) (by omega) (by dsimp only [inR]; omega) ?_ | refine mod_g (by omega) (by omega) ?_
    | refine mask_g (m := 4294967296) 32 rfl rfl (by decide) (by omega) ?_ | refine shr_g (m := 4294967296) 32 rfl (by decide) (by omega) rfl ?_
    | refine fz_all (by omega) ?_ | (refine smk ?_ ?_; constructor))
  exact ⟨ret_e rfl⟩
theorem cmpV_0 (n e : Int) : cmpV n e 0 0 = n.sign := by
  have h := VV_sign (n := n) (e := e)
  have h0 := VV_zero 0
  unfold cmpV
  rcases Int.lt_trichotomy n 0 with hn | hn | hn
  · rw [if_pos (by omega), Int.sign_eq_neg_one_of_neg hn]
  · rw [if_neg (by omega), if_neg (by omega), hn]; rfl
  · rw [if_neg (by omega), if_pos (by omega), Int.sign_eq_one_of_pos hn]
theorem p_sign {a : D2} (h : a.good) : FC Tryz.prog G 55 [DY a.1 a.2] (· = .val (.int .i64 a.1.sign)) := by
  have f1 := p_cmp (G := G) (b := (0, 0)) h Good.zero
  rw [cmpV_0] at f1
  refine FC.intro (X := XX) tok Tryz.func55 rfl Tryz.ntmps55 (by rw [Tryz.results55]) (by kernel_rfl) rfl ?_; intro F hG hO
  rw [← hG] at f1
  repeat' ((try (conv => whnf)); first
  | ((with_reducible refine cg ?_); refine call_eq f1 (.cons (.refl _) (.cons lp_dy0 .nil)) rfl ?_)
  
  | with_reducible first
    | refine Chk.mk' (by first | omega | exact trivial | (simp only [List.length_append, List.length_set, List.length_replicate, List.length_take, List.length_drop, List.length_cons, List.length_nil, List.length_map]; omega)) ?_
    | refine wrap_g (by dsimp only [inR]; omega) ?_
    | refine idx_g (by omega) ?_ | refine idx_l _ rfl (by decide) ?_ | refine BothG.mk ?_ ?_ | refine fork_tt ?_ | refine fork_ff ?_
    | (refine fork_e (c := true) (by decide) ?_; refine fork_tt ?_) | (refine fork_e (c := false) (by decide) ?_; refine fork_ff ?_)
    | refine fork_t (by omega) ?_ | refine fork_f (by omega) ?_ | (refine fork_d ?_ ?_ <;> intro hc) | refine fork_n ?_ | (refine fork_b ?_ ?_ <;> intro hc)
    | refine SlcG.mk (by omega) ?_ | refine MakG.mk (by dsimp only; omega) ?_
    | refine AppG.mk (by first | omega | (simp only [List.length_append, List.length_set, List.length_replicate, List.length_take, List.length_drop, List.length_cons, List.length_nil, List.length_map]; omega)) (by dsimp only [List.length_cons, List.length_nil]; omega) (by omega) ?_
    | refine div_g (by omega) (by omega) (by dsimp only [inR]; omega) ?_ | refine mod_g (by omega) (by omega) ?_
    | refine mask_g (m := 4294967296) 32 rfl rfl (by decide) (by omega) ?_ | refine shr_g (m := 4294967296) 32 rfl (by decide) (by omega) rfl ?_
    | refine fz_all (by omega) ?_ | (refine smk ?_ ?_; constructor))
  exact ⟨ret_e rfl⟩
theorem q_below {a b : D2} (h : a.good) (g : b.good) : FC Tryz.prog G 65 [DY a.1 a.2, DY b.1 b.2] (· = .val (.bool (decide (a.v < b.v)))) := by
  have f1 := r_doccmp (G := G) h g
  rw [cmp_V h g] at f1
  have hc := cmpV_neg (n := a.1) (e := a.2) (m := b.1) (f := b.2)
  refine FC.intro (X := XX) tok Tryz.func65 rfl Tryz.ntmps65 (by rw [Tryz.results65]) (by kernel_rfl) rfl ?_; intro F hG hO
  rw [← hG] at f1
  repeat' ((try (conv => whnf)); first
  | ((with_reducible refine cg ?_); first | refine ceq f1 rfl ?_)
  
  | with_reducible first
    | refine Chk.mk' (by first | omega | exact trivial | (simp only [List.length_append, List.length_set, List.length_replicate, List.length_take, List.length_drop, List.length_cons, List.length_nil, List.length_map]; omega)) ?_
    | refine wrap_g (by dsimp only [inR]; omega) ?_
    | refine idx_g (by omega) ?_ | refine idx_l _ rfl (by decide) ?_ | refine BothG.mk ?_ ?_ | refine fork_tt ?_ | refine fork_ff ?_
    | (refine fork_e (c := true) (by decide) ?_; refine fork_tt ?_) | (refine fork_e (c := false) (by decide) ?_; refine fork_ff ?_)
    | refine fork_t (by omega) ?_ | refine fork_f (by omega) ?_ | (refine fork_d ?_ ?_ <;> intro hc) | refine fork_n ?_ | (refine fork_b ?_ ?_ <;> intro hc)
    | refine SlcG.mk (by omega) ?_ | refine MakG.mk (by dsimp only; omega) ?_
    | refine AppG.mk (by first | omega | (simp only [List.length_append, List.length_set, List.length_replicate, List.length_take, List.length_drop, List.length_cons, List.length_nil, List.length_map]; omega)) (by dsimp only [List.length_cons, List.length_nil]; omega) (by omega) ?_
    | refine div_g (by omega) (by omega) (by dsimp only [inR]; omega) ?_ | refine mod_g (by omega) (by omega) ?_
    | refine mask_g (m := 4294967296) 32 rfl rfl (by decide) (by omega) ?_ | refine shr_g (m := 4294967296) 32 rfl (by decide) (by omega) rfl ?_
    | refine fz_all (by omega) ?_ | (refine smk ?_ ?_; constructor))
  exact ⟨ret_e (bv_eq (decide_eq_decide.2 hc))⟩
/-! ### spans as they come -/
def sgv (b : Bool) (l : List Int) : Int := sg b (vl 18446744073709551616 l).toNat
def spF (b1 : Bool) (l1 : List Int) (e1 : Int) (b2 : Bool) (l2 : List Int) (e2 : Int) : Bool := dyF b1 l1 e1 && (dyF b2 l2 e2 && decide (VV (sgv b1 l1) e1 ≤ VV (sgv b2 l2) e2))
theorem dyF_ex2 {b : Bool} {l : List Int} {e : Int} (ok : okD 18446744073709551616 l) (h : dyF b l e = true) : ∃ n, Good n e ∧ b = decide (n < 0) ∧ l = d64 n.natAbs ∧ sgv b l = n := by
  obtain ⟨n, hg, hd⟩ := dyF_ex ok h
  unfold Dy DY at hd
  simp only [PV.agg.injEq, List.cons.injEq, PV.val.injEq, Value.bool.injEq, PV.ws.injEq, true_and, and_true] at hd
  refine ⟨n, hg, hd.1, hd.2, ?_⟩
  unfold sgv
  rw [hd.1, hd.2, vl_d64, sg_of]
theorem spF_ex {b1 : Bool} {l1 : List Int} {e1 : Int} {b2 : Bool} {l2 : List Int} {e2 : Int} (o1 : okD 18446744073709551616 l1) (o2 : okD 18446744073709551616 l2) (h : spF b1 l1 e1 b2 l2 e2 = true) : ∃ a b : D2, Sp b1 l1 e1 b2 l2 e2 = SP a b ∧ GoodS a b := by
  unfold spF at h
  simp only [Bool.and_eq_true, decide_eq_true_eq] at h
  obtain ⟨h1, h2, h3⟩ := h
  obtain ⟨n, g1, rfl, rfl, s1⟩ := dyF_ex2 o1 h1
  obtain ⟨m, g2, rfl, rfl, s2⟩ := dyF_ex2 o2 h2
  rw [s1, s2] at h3
  exact ⟨(n, e1), (m, e2), rfl, g1, g2, h3⟩
theorem p_form {a b : D2} (h : GoodS a b) : FC Tryz.prog G 66 [SP a b] (· = .val (.bool true)) := by
  obtain ⟨g1, g2, hv⟩ := h
  have f1 := y_form (G := G) g1
  have f2 := y_form (G := G) g2
  have f3 := p_cmp (G := G) g1 g2
  have hc := cmpV_pos (n := a.1) (e := a.2) (m := b.1) (f := b.2)
  have hle : cmpV a.1 a.2 b.1 b.2 ≤ 0 := by unfold D2.v at hv; omega
  refine FC.intro (X := XX) tok Tryz.func66 rfl Tryz.ntmps66 (by rw [Tryz.results66]) (by kernel_rfl) rfl ?_; intro F hG hO
  rw [← hG] at f1 f2 f3
  repeat' ((try (conv => whnf)); first
  | ((with_reducible refine cg ?_); first | refine ceq f1 rfl ?_ | refine ceq f2 rfl ?_ | refine ceq f3 rfl ?_)
  
  | with_reducible first
    | refine Chk.mk' (by first | omega | exact trivial | (simp only [List.length_append, List.length_set, List.length_replicate, List.length_take, List.length_drop, List.length_cons, List.length_nil, List.length_map]; omega)) ?_
    | refine wrap_g (by dsimp only [inR]; omega) ?_
    | refine idx_g (by omega) ?_ | refine idx_l _ rfl (by decide) ?_ | refine BothG.mk ?_ ?_ | refine fork_tt ?_ | refine fork_ff ?_
    | (refine fork_e (c := true) (by decide) ?_; refine fork_tt ?_) | (refine fork_e (c := false) (by decide) ?_; refine fork_ff ?_)
    | refine fork_t (by omega) ?_ | refine fork_f (by omega) ?_ | (refine fork_d ?_ ?_ <;> intro hc) | refine fork_n ?_ | (refine fork_b ?_ ?_ <;> intro hc)
    | refine SlcG.mk (by omega) ?_ | refine MakG.mk (by dsimp only; omega) ?_
    | refine AppG.mk (by first | omega | (simp only [List.length_append, List.length_set, List.length_replicate, List.length_take, List.length_drop, List.length_cons, List.length_nil, List.length_map]; omega)) (by dsimp only [List.length_cons, List.length_nil]; omega) (by omega) ?_
    | refine div_g (by omega) (by omega) (by dsimp only [inR]; omega) ?_ | refine mod_g (by omega) (by omega) ?_
    | refine mask_g (m := 4294967296) 32 rfl rfl (by decide) (by omega) ?_ | refine shr_g (m := 4294967296) 32 rfl (by decide) (by omega) rfl ?_
    | refine fz_all (by omega) ?_ | (refine smk ?_ ?_; constructor))
  exact ⟨ret_e (bv_eq (decide_eq_true hle))⟩
theorem p_formX (b1 : Bool) (l1 : List Int) (e1 : Int) (b2 : Bool) (l2 : List Int) (e2 : Int) (o1 : okD 18446744073709551616 l1) (o2 : okD 18446744073709551616 l2) : FC Tryz.prog G 66 [Sp b1 l1 e1 b2 l2 e2] (· = .val (.bool (spF b1 l1 e1 b2 l2 e2))) := by
  have hs : spF b1 l1 e1 b2 l2 e2 = (dyF b1 l1 e1 && (dyF b2 l2 e2 && decide (VV (sgv b1 l1) e1 ≤ VV (sgv b2 l2) e2))) := rfl
  cases h1 : dyF b1 l1 e1 with
  | false =>
    rw [hs, h1]
    have f1 := y_formN (G := G) b1 l1 e1 o1 h1
    refine FC.intro (X := XX) tok Tryz.func66 rfl Tryz.ntmps66 (by rw [Tryz.results66]) (by kernel_rfl) rfl ?_; intro F hG hO
    rw [← hG] at f1
    repeat' ((try (conv => whnf)); first
  | ((with_reducible refine cg ?_); first | refine ceq f1 rfl ?_)
  
  | with_reducible first
    | refine Chk.mk' (by first | omega | exact trivial | (simp only [List.length_append, List.length_set, List.length_replicate, List.length_take, List.length_drop, List.length_cons, List.length_nil, List.length_map]; omega)) ?_
    | refine wrap_g (by dsimp only [inR]; omega) ?_
    | refine idx_g (by omega) ?_ | refine idx_l _ rfl (by decide) ?_ | refine BothG.mk ?_ ?_ | refine fork_tt ?_ | refine fork_ff ?_
    | (refine fork_e (c := true) (by decide) ?_; refine fork_tt ?_) | (refine fork_e (c := false) (by decide) ?_; refine fork_ff ?_)
    | refine fork_t (by omega) ?_ | refine fork_f (by omega) ?_ | (refine fork_d ?_ ?_ <;> intro hc) | refine fork_n ?_ | (refine fork_b ?_ ?_ <;> intro hc)
    | refine SlcG.mk (by omega) ?_ | refine MakG.mk (by dsimp only; omega) ?_
    | refine AppG.mk (by first | omega | (simp only [List.length_append, List.length_set, List.length_replicate, List.length_take, List.length_drop, List.length_cons, List.length_nil, List.length_map]; omega)) (by dsimp only [List.length_cons, List.length_nil]; omega) (by omega) ?_
    | refine div_g (by omega) (by omega) (by dsimp only [inR]; omega) ?_ | refine mod_g (by omega) (by omega) ?_
    | refine mask_g (m := 4294967296) 32 rfl rfl (by decide) (by omega) ?_ | refine shr_g (m := 4294967296) 32 rfl (by decide) (by omega) rfl ?_
    | refine fz_all (by omega) ?_ | (refine smk ?_ ?_; constructor))
    exact ⟨ret_e rfl⟩
  | true =>
    obtain ⟨n, g1, rfl, rfl, s1⟩ := dyF_ex2 o1 h1
    have f1 := y_form (G := G) g1
    cases h2 : dyF b2 l2 e2 with
    | false =>
      rw [hs, h1, h2]
      have f2 := y_formN (G := G) b2 l2 e2 o2 h2
      refine FC.intro (X := XX) tok Tryz.func66 rfl Tryz.ntmps66 (by rw [Tryz.results66]) (by kernel_rfl) rfl ?_; intro F hG hO
      rw [← hG] at f1 f2
      repeat' ((try (conv => whnf)); first
  | ((with_reducible refine cg ?_); first | refine ceq f1 rfl ?_ | refine ceq f2 rfl ?_)
  
  | with_reducible first
    | refine Chk.mk' (by first | omega | exact trivial | (simp only [List.length_append, List.length_set, List.length_replicate, List.length_take, List.length_drop, List.length_cons, List.length_nil, List.length_map]; omega)) ?_
    | refine wrap_g (by dsimp only [inR]; omega) ?_
    | refine idx_g (by omega) ?_ | refine idx_l _ rfl (by decide) ?_ | refine BothG.mk ?_ ?_ | refine fork_tt ?_ | refine fork_ff ?_
    | (refine fork_e (c := true) (by decide) ?_; refine fork_tt ?_) | (refine fork_e (c := false) (by decide) ?_; refine fork_ff ?_)
    | refine fork_t (by omega) ?_ | refine fork_f (by omega) ?_ | (refine fork_d ?_ ?_ <;> intro hc) | refine fork_n ?_ | (refine fork_b ?_ ?_ <;> intro hc)
    | refine SlcG.mk (by omega) ?_ | refine MakG.mk (by dsimp only; omega) ?_
    | refine AppG.mk (by first | omega | (simp only [List.length_append, List.length_set, List.length_replicate, List.length_take, List.length_drop, List.length_cons, List.length_nil, List.length_map]; omega)) (by dsimp only [List.length_cons, List.length_nil]; omega) (by omega) ?_
    | refine div_g (by omega) (by omega) (by dsimp only [inR]; omega) ?_ | refine mod_g (by omega) (by omega) ?_
    | refine mask_g (m := 4294967296) 32 rfl rfl (by decide) (by omega) ?_ | refine shr_g (m := 4294967296) 32 rfl (by decide) (by omega) rfl ?_
    | refine fz_all (by omega) ?_ | (refine smk ?_ ?_; constructor))
      exact ⟨ret_e rfl⟩
    | true =>
      obtain ⟨m, g2, rfl, rfl, s2⟩ := dyF_ex2 o2 h2
      rw [hs, h1, h2, s1, s2]
      have f2 := y_form (G := G) g2
      have f3 := p_cmp (G := G) (a := (n, e1)) (b := (m, e2)) g1 g2
      have hc := cmpV_pos (n := n) (e := e1) (m := m) (f := e2)
      refine FC.intro (X := XX) tok Tryz.func66 rfl Tryz.ntmps66 (by rw [Tryz.results66]) (by kernel_rfl) rfl ?_; intro F hG hO
      rw [← hG] at f1 f2 f3
      repeat' ((try (conv => whnf)); first
  | ((with_reducible refine cg ?_); first | refine ceq f1 rfl ?_ | refine ceq f2 rfl ?_ | refine ceq f3 rfl ?_)
  
  | with_reducible first
    | refine Chk.mk' (by first | omega | exact trivial | (simp only [List.length_append, List.length_set, List.length_replicate, List.length_take, List.length_drop, List.length_cons, List.length_nil, List.length_map]; omega)) ?_
    | refine wrap_g (by dsimp only [inR]; omega) ?_
    | refine idx_g (by omega) ?_ | refine idx_l _ rfl (by decide) ?_ | refine BothG.mk ?_ ?_ | refine fork_tt ?_ | refine fork_ff ?_
    | (refine fork_e (c := true) (by decide) ?_; refine fork_tt ?_) | (refine fork_e (c := false) (by decide) ?_; refine fork_ff ?_)
    | refine fork_t (by omega) ?_ | refine fork_f (by omega) ?_ | (refine fork_d ?_ ?_ <;> intro hc) | refine fork_n ?_ | (refine fork_b ?_ ?_ <;> intro hc)
    | refine SlcG.mk (by omega) ?_ | refine MakG.mk (by dsimp only; omega) ?_
    | refine AppG.mk (by first | omega | (simp only [List.length_append, List.length_set, List.length_replicate, List.length_take, List.length_drop, List.length_cons, List.length_nil, List.length_map]; omega)) (by dsimp only [List.length_cons, List.length_nil]; omega) (by omega) ?_
    | refine div_g (by omega) (by omega) (by dsimp only [inR]; omega) ?_ | refine mod_g (by omega) (by omega) ?_
    | refine mask_g (m := 4294967296) 32 rfl rfl (by decide) (by omega) ?_ | refine shr_g (m := 4294967296) 32 rfl (by decide) (by omega) rfl ?_
    | refine fz_all (by omega) ?_ | (refine smk ?_ ?_; constructor))
      all_goals (refine ⟨ret_e (bv_eq ?_)⟩; simp only [Bool.true_and]; exact decide_eq_decide.2 (by omega))
theorem not_dec (x y : Int) : (!decide (x < y)) = (true && (true && decide (y ≤ x))) := by
  simp only [Bool.true_and]
  by_cases h : x < y
  · rw [decide_eq_true h, decide_eq_false (by omega)]; rfl
  · rw [decide_eq_false h, decide_eq_true (by omega)]; rfl
theorem q_form {a b : D2} (h : GoodS a b) : FC Tryz.prog G 20 [SP a b] (· = .val (.bool true)) := by
  obtain ⟨g1, g2, hv⟩ := h
  have f1 := r_formg (G := G) g1
  have f2 := r_formg (G := G) g2
  have f3 := q_below (G := G) g2 g1
  rw [decide_eq_false (by omega)] at f3
  refine FC.intro (X := XX) tok Tryz.func20 rfl Tryz.ntmps20 (by rw [Tryz.results20]) (by kernel_rfl) rfl ?_; intro F hG hO
  rw [← hG] at f1 f2 f3
  repeat' ((try (conv => whnf)); first
  | ((with_reducible refine cg ?_); first | refine ceq f1 rfl ?_ | refine ceq f2 rfl ?_ | refine ceq f3 rfl ?_)
  
  | with_reducible first
    | refine Chk.mk' (by first | omega | exact trivial | (simp only [List.length_append, List.length_set, List.length_replicate, List.length_take, List.length_drop, List.length_cons, List.length_nil, List.length_map]; omega)) ?_
    | refine wrap_g (by dsimp only [inR]; omega) ?_
    | refine idx_g (by omega) ?_ | refine idx_l _ rfl (by decide) ?_ | refine BothG.mk ?_ ?_ | refine fork_tt ?_ | refine fork_ff ?_
    | (refine fork_e (c := true) (by decide) ?_; refine fork_tt ?_) | (refine fork_e (c := false) (by decide) ?_; refine fork_ff ?_)
    | refine fork_t (by omega) ?_ | refine fork_f (by omega) ?_ | (refine fork_d ?_ ?_ <;> intro hc) | refine fork_n ?_ | (refine fork_b ?_ ?_ <;> intro hc)
    | refine SlcG.mk (by omega) ?_ | refine MakG.mk (by dsimp only; omega) ?_
    | refine AppG.mk (by first | omega | (simp only [List.length_append, List.length_set, List.length_replicate, List.length_take, List.length_drop, List.length_cons, List.length_nil, List.length_map]; omega)) (by dsimp only [List.length_cons, List.length_nil]; omega) (by omega) ?_
    | refine div_g (by omega) (by omega) (by dsimp only [inR]; omega) ?_ | refine mod_g (by omega) (by omega) ?_
    | refine mask_g (m := 4294967296) 32 rfl rfl (by decide) (by omega) ?_ | refine shr_g (m := 4294967296) 32 rfl (by decide) (by omega) rfl ?_
    | refine fz_all (by omega) ?_ | (refine smk ?_ ?_; constructor))
  exact ⟨ret_e rfl⟩
theorem q_formX (b1 : Bool) (l1 : List Int) (e1 : Int) (b2 : Bool) (l2 : List Int) (e2 : Int) (o1 : okD 18446744073709551616 l1) (o2 : okD 18446744073709551616 l2) : FC Tryz.prog G 20 [Sp b1 l1 e1 b2 l2 e2] (· = .val (.bool (spF b1 l1 e1 b2 l2 e2))) := by
  have hs : spF b1 l1 e1 b2 l2 e2 = (dyF b1 l1 e1 && (dyF b2 l2 e2 && decide (VV (sgv b1 l1) e1 ≤ VV (sgv b2 l2) e2))) := rfl
  cases h1 : dyF b1 l1 e1 with
  | false =>
    rw [hs, h1]
    have f1 := r_formN (G := G) b1 l1 e1 o1 h1
    refine FC.intro (X := XX) tok Tryz.func20 rfl Tryz.ntmps20 (by rw [Tryz.results20]) (by kernel_rfl) rfl ?_; intro F hG hO
    rw [← hG] at f1
    repeat' ((try (conv => whnf)); first
  | ((with_reducible refine cg ?_); first | refine ceq f1 rfl ?_)
  
  | with_reducible first
    | refine Chk.mk' (by first | omega | exact trivial | (simp only [List.length_append, List.length_set, List.length_replicate, List.length_take, List.length_drop, List.length_cons, List.length_nil, List.length_map]; omega)) ?_
    | refine wrap_g (by dsimp only [inR]; omega) ?_
    | refine idx_g (by omega) ?_ | refine idx_l _ rfl (by decide) ?_ | refine BothG.mk ?_ ?_ | refine fork_tt ?_ | refine fork_ff ?_
    | (refine fork_e (c := true) (by decide) ?_; refine fork_tt ?_) | (refine fork_e (c := false) (by decide) ?_; refine fork_ff ?_)
    | refine fork_t (by omega) ?_ | refine fork_f (by omega) ?_ | (refine fork_d ?_ ?_ <;> intro hc) | refine fork_n ?_ | (refine fork_b ?_ ?_ <;> intro hc)
    | refine SlcG.mk (by omega) ?_ | refine MakG.mk (by dsimp only; omega) ?_
    | refine AppG.mk (by first | omega | (simp only [List.length_append, List.length_set, List.length_replicate, List.length_take, List.length_drop, List.length_cons, List.length_nil, List.length_map]; omega)) (by dsimp only [List.length_cons, List.length_nil]; omega) (by omega) ?_
    | refine div_g (by omega) (by omega) (by dsimp only [inR]; omega) ?_ | refine mod_g (by omega) (by omega) ?_
    | refine mask_g (m := 4294967296) 32 rfl rfl (by decide) (by omega) ?_ | refine shr_g (m := 4294967296) 32 rfl (by decide) (by omega) rfl ?_
    | refine fz_all (by omega) ?_ | (refine smk ?_ ?_; constructor))
    exact ⟨ret_e rfl⟩
  | true =>
    obtain ⟨n, g1, rfl, rfl, s1⟩ := dyF_ex2 o1 h1
    have f1 := r_formg (G := G) g1
    cases h2 : dyF b2 l2 e2 with
    | false =>
      rw [hs, h1, h2]
      have f2 := r_formN (G := G) b2 l2 e2 o2 h2
      refine FC.intro (X := XX) tok Tryz.func20 rfl Tryz.ntmps20 (by rw [Tryz.results20]) (by kernel_rfl) rfl ?_; intro F hG hO
      rw [← hG] at f1 f2
      repeat' ((try (conv => whnf)); first
  | ((with_reducible refine cg ?_); first | refine ceq f1 rfl ?_ | refine ceq f2 rfl ?_)
  
  | with_reducible first
    | refine Chk.mk' (by first | omega | exact trivial | (simp only [List.length_append, List.length_set, List.length_replicate, List.length_take, List.length_drop, List.length_cons, List.length_nil, List.length_map]; omega)) ?_
    | refine wrap_g (by dsimp only [inR]; omega) ?_
    | refine idx_g (by omega) ?_ | refine idx_l _ rfl (by decide) ?_ | refine BothG.mk ?_ ?_ | refine fork_tt ?_ | refine fork_ff ?_
    | (refine fork_e (c := true) (by decide) ?_; refine fork_tt ?_) | (refine fork_e (c := false) (by decide) ?_; refine fork_ff ?_)
    | refine fork_t (by omega) ?_ | refine fork_f (by omega) ?_ | (refine fork_d ?_ ?_ <;> intro hc) | refine fork_n ?_ | (refine fork_b ?_ ?_ <;> intro hc)
    | refine SlcG.mk (by omega) ?_ | refine MakG.mk (by dsimp only; omega) ?_
    | refine AppG.mk (by first | omega | (simp only [List.length_append, List.length_set, List.length_replicate, List.length_take, List.length_drop, List.length_cons, List.length_nil, List.length_map]; omega)) (by dsimp only [List.length_cons, List.length_nil]; omega) (by omega) ?_
    | refine div_g (by omega) (by omega) (by dsimp only [inR]; omega) ?_ | refine mod_g (by omega) (by omega) ?_
    | refine mask_g (m := 4294967296) 32 rfl rfl (by decide) (by omega) ?_ | refine shr_g (m := 4294967296) 32 rfl (by decide) (by omega) rfl ?_
    | refine fz_all (by omega) ?_ | (refine smk ?_ ?_; constructor))
      exact ⟨ret_e rfl⟩
    | true =>
      obtain ⟨m, g2, rfl, rfl, s2⟩ := dyF_ex2 o2 h2
      rw [hs, h1, h2, s1, s2]
      have f2 := r_formg (G := G) g2
      have f3 := q_below (G := G) (a := (m, e2)) (b := (n, e1)) g2 g1
      refine FC.intro (X := XX) tok Tryz.func20 rfl Tryz.ntmps20 (by rw [Tryz.results20]) (by kernel_rfl) rfl ?_; intro F hG hO
      rw [← hG] at f1 f2 f3
      repeat' ((try (conv => whnf)); first
  | ((with_reducible refine cg ?_); first | refine ceq f1 rfl ?_ | refine ceq f2 rfl ?_ | refine ceq f3 rfl ?_)
  
  | with_reducible first
    | refine Chk.mk' (by first | omega | exact trivial | (simp only [List.length_append, List.length_set, List.length_replicate, List.length_take, List.length_drop, List.length_cons, List.length_nil, List.length_map]; omega)) ?_
    | refine wrap_g (by dsimp only [inR]; omega) ?_
    | refine idx_g (by omega) ?_ | refine idx_l _ rfl (by decide) ?_ | refine BothG.mk ?_ ?_ | refine fork_tt ?_ | refine fork_ff ?_
    | (refine fork_e (c := true) (by decide) ?_; refine fork_tt ?_) | (refine fork_e (c := false) (by decide) ?_; refine fork_ff ?_)
    | refine fork_t (by omega) ?_ | refine fork_f (by omega) ?_ | (refine fork_d ?_ ?_ <;> intro hc) | refine fork_n ?_ | (refine fork_b ?_ ?_ <;> intro hc)
    | refine SlcG.mk (by omega) ?_ | refine MakG.mk (by dsimp only; omega) ?_
    | refine AppG.mk (by first | omega | (simp only [List.length_append, List.length_set, List.length_replicate, List.length_take, List.length_drop, List.length_cons, List.length_nil, List.length_map]; omega)) (by dsimp only [List.length_cons, List.length_nil]; omega) (by omega) ?_
    | refine div_g (by omega) (by omega) (by dsimp only [inR]; omega) ?_ | refine mod_g (by omega) (by omega) ?_
    | refine mask_g (m := 4294967296) 32 rfl rfl (by decide) (by omega) ?_ | refine shr_g (m := 4294967296) 32 rfl (by decide) (by omega) rfl ?_
    | refine fz_all (by omega) ?_ | (refine smk ?_ ?_; constructor))
      all_goals (refine ⟨ret_e (bv_eq ?_)⟩; exact not_dec _ _)
def chkE (p : Int) (b : Bool) : Int := if p < 1 ∨ 70000 < p then 1 else if b then 0 else 2
theorem p_precise (p : Int) : FC Tryz.prog G 95 [.val (.int .i64 p)] (· = .val (.bool (decide (1 ≤ p) && decide (p ≤ 70000)))) := by
  refine FC.intro (X := XX) tok Tryz.func95 rfl Tryz.ntmps95 (by rw [Tryz.results95]) (by kernel_rfl) rfl ?_; intro F hG hO
  repeat' ((try (conv => whnf)); first
  
  | with_reducible first
    | refine Chk.mk' (by first | omega | exact trivial | (simp only [List.length_append, List.length_set, List.length_replicate, List.length_take, List.length_drop, List.length_cons, List.length_nil, List.length_map]; omega)) ?_
    | refine wrap_g (by dsimp only [inR]; omega) ?_
    | refine idx_g (by omega) ?_ | refine idx_l _ rfl (by decide) ?_ | refine BothG.mk ?_ ?_ | refine fork_tt ?_ | refine fork_ff ?_
    | (refine fork_e (c := true) (by decide) ?_; refine fork_tt ?_) | (refine fork_e (c := false) (by decide) ?_; refine fork_ff ?_)
    | refine fork_t (by omega) ?_ | refine fork_f (by omega) ?_ | (refine fork_d ?_ ?_ <;> intro hc) | refine fork_n ?_ | (refine fork_b ?_ ?_ <;> intro hc)
    | refine SlcG.mk (by omega) ?_ | refine MakG.mk (by dsimp only; omega) ?_
    | refine AppG.mk (by first | omega | (simp only [List.length_append, List.length_set, List.length_replicate, List.length_take, List.length_drop, List.length_cons, List.length_nil, List.length_map]; omega)) (by dsimp only [List.length_cons, List.length_nil]; omega) (by omega) ?_
    | refine div_g (by omega) (by omega) (by dsimp only [inR]; omega) ?_ | refine mod_g (by omega) (by omega) ?_
    | refine mask_g (m := 4294967296) 32 rfl rfl (by decide) (by omega) ?_ | refine shr_g (m := 4294967296) 32 rfl (by decide) (by omega) rfl ?_
    | refine fz_all (by omega) ?_ | (refine smk ?_ ?_; constructor))
  · exact ⟨ret_e (bv_eq (by rw [decide_eq_true hc]; rfl))⟩
  · exact ⟨ret_e (bv_eq (by rw [decide_eq_false hc]; rfl))⟩
theorem p_check1 (p : Int) (b1 : Bool) (l1 : List Int) (e1 : Int) (b2 : Bool) (l2 : List Int) (e2 : Int) (o1 : okD 18446744073709551616 l1) (o2 : okD 18446744073709551616 l2) :
    FC Tryz.prog G 53 [.val (.int .i64 p), .sl 6 [.val (.bool b1), .ws .u64 l1, .val (.int .i64 e1), .val (.bool b2), .ws .u64 l2, .val (.int .i64 e2)]] (· = .val (.int .i64 (chkE p (spF b1 l1 e1 b2 l2 e2)))) := by
  have f1 := p_precise (G := G) p
  have f2 := p_formX (G := G) b1 l1 e1 b2 l2 e2 o1 o2
  unfold chkE
  by_cases hp : p < 1 ∨ 70000 < p
  · rw [precise_no (by omega)] at f1
    rw [if_pos hp]
    refine FC.intro (X := XX) tok Tryz.func53 rfl Tryz.ntmps53 (by rw [Tryz.results53]) (by kernel_rfl) rfl ?_; intro F hG hO
    rw [← hG] at f1
    repeat' ((try (conv => whnf)); first
  | ((with_reducible refine cg ?_); first | refine ceq f1 rfl ?_)
  
  | with_reducible first
    | refine Chk.mk' (by first | omega | exact trivial | (simp only [List.length_append, List.length_set, List.length_replicate, List.length_take, List.length_drop, List.length_cons, List.length_nil, List.length_map]; omega)) ?_
    | refine wrap_g (by dsimp only [inR]; omega) ?_
    | refine idx_g (by omega) ?_ | refine idx_l _ rfl (by decide) ?_ | refine BothG.mk ?_ ?_ | refine fork_tt ?_ | refine fork_ff ?_
    | (refine fork_e (c := true) (by decide) ?_; refine fork_tt ?_) | (refine fork_e (c := false) (by decide) ?_; refine fork_ff ?_)
    | refine fork_t (by omega) ?_ | refine fork_f (by omega) ?_ | (refine fork_d ?_ ?_ <;> intro hc) | refine fork_n ?_ | (refine fork_b ?_ ?_ <;> intro hc)
    | refine SlcG.mk (by omega) ?_ | refine MakG.mk (by dsimp only; omega) ?_
    | refine AppG.mk (by first | omega | (simp only [List.length_append, List.length_set, List.length_replicate, List.length_take, List.length_drop, List.length_cons, List.length_nil, List.length_map]; omega)) (by dsimp only [List.length_cons, List.length_nil]; omega) (by omega) ?_
    | refine div_g (by omega) (by omega) (by dsimp only [inR]; omega) ?_ | refine mod_g (by omega) (by omega) ?_
    | refine mask_g (m := 4294967296) 32 rfl rfl (by decide) (by omega) ?_ | refine shr_g (m := 4294967296) 32 rfl (by decide) (by omega) rfl ?_
    | refine fz_all (by omega) ?_ | (refine smk ?_ ?_; constructor))
    exact ⟨ret_e rfl⟩
  · rw [show (decide (1 ≤ p) && decide (p ≤ 70000)) = true by rw [decide_eq_true (by omega), decide_eq_true (by omega)]; rfl] at f1
    rw [if_neg hp]
    cases hs : spF b1 l1 e1 b2 l2 e2 with
    | false =>
      rw [hs] at f2
      refine FC.intro (X := XX) tok Tryz.func53 rfl Tryz.ntmps53 (by rw [Tryz.results53]) (by kernel_rfl) rfl ?_; intro F hG hO
      rw [← hG] at f1 f2
      repeat' ((try (conv => whnf)); first
  | ((with_reducible refine cg ?_); first | refine ceq f1 rfl ?_ | refine ceq f2 rfl ?_)
  | ((with_reducible refine ilg ?_); refine idx_l 0 (by decide) (by simp) ?_)
  | ((with_reducible refine ilg ?_); refine idx_l 1 (by decide) (by simp) ?_)
  | ((with_reducible refine ilg ?_); refine idx_l 2 (by decide) (by simp) ?_)
  | ((with_reducible refine ilg ?_); refine idx_l 3 (by decide) (by simp) ?_)
  | ((with_reducible refine lg ?_); refine rounds_g 2 tok ?_)
  
  | with_reducible first
    | refine Chk.mk' (by first | omega | exact trivial | (simp only [List.length_append, List.length_set, List.length_replicate, List.length_take, List.length_drop, List.length_cons, List.length_nil, List.length_map]; omega)) ?_
    | refine wrap_g (by dsimp only [inR]; omega) ?_
    | refine idx_g (by omega) ?_ | refine idx_l _ rfl (by decide) ?_ | refine BothG.mk ?_ ?_ | refine fork_tt ?_ | refine fork_ff ?_
    | (refine fork_e (c := true) (by decide) ?_; refine fork_tt ?_) | (refine fork_e (c := false) (by decide) ?_; refine fork_ff ?_)
    | refine fork_t (by omega) ?_ | refine fork_f (by omega) ?_ | (refine fork_d ?_ ?_ <;> intro hc) | refine fork_n ?_ | (refine fork_b ?_ ?_ <;> intro hc)
    | refine SlcG.mk (by omega) ?_ | refine MakG.mk (by dsimp only; omega) ?_
    | refine AppG.mk (by first | omega | (simp only [List.length_append, List.length_set, List.length_replicate, List.length_take, List.length_drop, List.length_cons, List.length_nil, List.length_map]; omega)) (by dsimp only [List.length_cons, List.length_nil]; omega) (by omega) ?_
    | refine div_g (by omega) (by omega) (by dsimp only [inR]; omega) ?_ | refine mod_g (by omega) (by omega) ?_
    | refine mask_g (m := 4294967296) 32 rfl rfl (by decide) (by omega) ?_ | refine shr_g (m := 4294967296) 32 rfl (by decide) (by omega) rfl ?_
    | refine fz_all (by omega) ?_ | (refine smk ?_ ?_; constructor))
      exact ⟨ret_e rfl⟩
    | true =>
      rw [hs] at f2
      refine FC.intro (X := XX) tok Tryz.func53 rfl Tryz.ntmps53 (by rw [Tryz.results53]) (by kernel_rfl) rfl ?_; intro F hG hO
      rw [← hG] at f1 f2
      repeat' ((try (conv => whnf)); first
  | ((with_reducible refine cg ?_); first | refine ceq f1 rfl ?_ | refine ceq f2 rfl ?_)
  | ((with_reducible refine ilg ?_); refine idx_l 0 (by decide) (by simp) ?_)
  | ((with_reducible refine ilg ?_); refine idx_l 1 (by decide) (by simp) ?_)
  | ((with_reducible refine ilg ?_); refine idx_l 2 (by decide) (by simp) ?_)
  | ((with_reducible refine ilg ?_); refine idx_l 3 (by decide) (by simp) ?_)
  | ((with_reducible refine lg ?_); refine rounds_g 2 tok ?_)
  
  | with_reducible first
    | refine Chk.mk' (by first | omega | exact trivial | (simp only [List.length_append, List.length_set, List.length_replicate, List.length_take, List.length_drop, List.length_cons, List.length_nil, List.length_map]; omega)) ?_
    | refine wrap_g (by dsimp only [inR]; omega) ?_
    | refine idx_g (by omega) ?_ | refine idx_l _ rfl (by decide) ?_ | refine BothG.mk ?_ ?_ | refine fork_tt ?_ | refine fork_ff ?_
    | (refine fork_e (c := true) (by decide) ?_; refine fork_tt ?_) | (refine fork_e (c := false) (by decide) ?_; refine fork_ff ?_)
    | refine fork_t (by omega) ?_ | refine fork_f (by omega) ?_ | (refine fork_d ?_ ?_ <;> intro hc) | refine fork_n ?_ | (refine fork_b ?_ ?_ <;> intro hc)
    | refine SlcG.mk (by omega) ?_ | refine MakG.mk (by dsimp only; omega) ?_
    | refine AppG.mk (by first | omega | (simp only [List.length_append, List.length_set, List.length_replicate, List.length_take, List.length_drop, List.length_cons, List.length_nil, List.length_map]; omega)) (by dsimp only [List.length_cons, List.length_nil]; omega) (by omega) ?_
    | refine div_g (by omega) (by omega) (by dsimp only [inR]; omega) ?_ | refine mod_g (by omega) (by omega) ?_
    | refine mask_g (m := 4294967296) 32 rfl rfl (by decide) (by omega) ?_ | refine shr_g (m := 4294967296) 32 rfl (by decide) (by omega) rfl ?_
    | refine fz_all (by omega) ?_ | (refine smk ?_ ?_; constructor))
      exact ⟨ret_e rfl⟩
theorem p_check2 (p : Int) (b1 : Bool) (l1 : List Int) (e1 : Int) (b2 : Bool) (l2 : List Int) (e2 : Int) (b3 : Bool) (l3 : List Int) (e3 : Int) (b4 : Bool) (l4 : List Int) (e4 : Int) (o1 : okD 18446744073709551616 l1) (o2 : okD 18446744073709551616 l2) (o3 : okD 18446744073709551616 l3) (o4 : okD 18446744073709551616 l4) :
    FC Tryz.prog G 53 [.val (.int .i64 p), .sl 6 [.val (.bool b1), .ws .u64 l1, .val (.int .i64 e1), .val (.bool b2), .ws .u64 l2, .val (.int .i64 e2), .val (.bool b3), .ws .u64 l3, .val (.int .i64 e3), .val (.bool b4), .ws .u64 l4, .val (.int .i64 e4)]] (· = .val (.int .i64 (chkE p (spF b1 l1 e1 b2 l2 e2 && spF b3 l3 e3 b4 l4 e4)))) := by
  have f1 := p_precise (G := G) p
  have f2 := p_formX (G := G) b1 l1 e1 b2 l2 e2 o1 o2
  have f3 := p_formX (G := G) b3 l3 e3 b4 l4 e4 o3 o4
  unfold chkE
  by_cases hp : p < 1 ∨ 70000 < p
  · rw [precise_no (by omega)] at f1
    rw [if_pos hp]
    refine FC.intro (X := XX) tok Tryz.func53 rfl Tryz.ntmps53 (by rw [Tryz.results53]) (by kernel_rfl) rfl ?_; intro F hG hO
    rw [← hG] at f1
    repeat' ((try (conv => whnf)); first
  | ((with_reducible refine cg ?_); first | refine ceq f1 rfl ?_)
  
  | with_reducible first
    | refine Chk.mk' (by first | omega | exact trivial | (simp only [List.length_append, List.length_set, List.length_replicate, List.length_take, List.length_drop, List.length_cons, List.length_nil, List.length_map]; omega)) ?_
    | refine wrap_g (by dsimp only [inR]; omega) ?_
    | refine idx_g (by omega) ?_ | refine idx_l _ rfl (by decide) ?_ | refine BothG.mk ?_ ?_ | refine fork_tt ?_ | refine fork_ff ?_
    | (refine fork_e (c := true) (by decide) ?_; refine fork_tt ?_) | (refine fork_e (c := false) (by decide) ?_; refine fork_ff ?_)
    | refine fork_t (by omega) ?_ | refine fork_f (by omega) ?_ | (refine fork_d ?_ ?_ <;> intro hc) | refine fork_n ?_ | (refine fork_b ?_ ?_ <;> intro hc)
    | refine SlcG.mk (by omega) ?_ | refine MakG.mk (by dsimp only; omega) ?_
    | refine AppG.mk (by first | omega | (simp only [List.length_append, List.length_set, List.length_replicate, List.length_take, List.length_drop, List.length_cons, List.length_nil, List.length_map]; omega)) (by dsimp only [List.length_cons, List.length_nil]; omega) (by omega) ?_
    | refine div_g (by omega) (by omega) (by dsimp only [inR]; omega) ?_ | refine mod_g (by omega) (by omega) ?_
    | refine mask_g (m := 4294967296) 32 rfl rfl (by decide) (by omega) ?_ | refine shr_g (m := 4294967296) 32 rfl (by decide) (by omega) rfl ?_
    | refine fz_all (by omega) ?_ | (refine smk ?_ ?_; constructor))
    exact ⟨ret_e rfl⟩
  · rw [show (decide (1 ≤ p) && decide (p ≤ 70000)) = true by rw [decide_eq_true (by omega), decide_eq_true (by omega)]; rfl] at f1
    rw [if_neg hp]
    cases hs : spF b1 l1 e1 b2 l2 e2 with
    | false =>
      rw [hs] at f2
      refine FC.intro (X := XX) tok Tryz.func53 rfl Tryz.ntmps53 (by rw [Tryz.results53]) (by kernel_rfl) rfl ?_; intro F hG hO
      rw [← hG] at f1 f2
      repeat' ((try (conv => whnf)); first
  | ((with_reducible refine cg ?_); first | refine ceq f1 rfl ?_ | refine ceq f2 rfl ?_)
  | ((with_reducible refine ilg ?_); refine idx_l 0 (by decide) (by simp) ?_)
  | ((with_reducible refine ilg ?_); refine idx_l 1 (by decide) (by simp) ?_)
  | ((with_reducible refine ilg ?_); refine idx_l 2 (by decide) (by simp) ?_)
  | ((with_reducible refine ilg ?_); refine idx_l 3 (by decide) (by simp) ?_)
  | ((with_reducible refine lg ?_); refine rounds_g 3 tok ?_)
  
  | with_reducible first
    | refine Chk.mk' (by first | omega | exact trivial | (simp only [List.length_append, List.length_set, List.length_replicate, List.length_take, List.length_drop, List.length_cons, List.length_nil, List.length_map]; omega)) ?_
    | refine wrap_g (by dsimp only [inR]; omega) ?_
    | refine idx_g (by omega) ?_ | refine idx_l _ rfl (by decide) ?_ | refine BothG.mk ?_ ?_ | refine fork_tt ?_ | refine fork_ff ?_
    | (refine fork_e (c := true) (by decide) ?_; refine fork_tt ?_) | (refine fork_e (c := false) (by decide) ?_; refine fork_ff ?_)
    | refine fork_t (by omega) ?_ | refine fork_f (by omega) ?_ | (refine fork_d ?_ ?_ <;> intro hc) | refine fork_n ?_ | (refine fork_b ?_ ?_ <;> intro hc)
    | refine SlcG.mk (by omega) ?_ | refine MakG.mk (by dsimp only; omega) ?_
    | refine AppG.mk (by first | omega | (simp only [List.length_append, List.length_set, List.length_replicate, List.length_take, List.length_drop, List.length_cons, List.length_nil, List.length_map]; omega)) (by dsimp only [List.length_cons, List.length_nil]; omega) (by omega) ?_
    | refine div_g (by omega) (by omega) (by dsimp only [inR]; omega) ?_ | refine mod_g (by omega) (by omega) ?_
    | refine mask_g (m := 4294967296) 32 rfl rfl (by decide) (by omega) ?_ | refine shr_g (m := 4294967296) 32 rfl (by decide) (by omega) rfl ?_
    | refine fz_all (by omega) ?_ | (refine smk ?_ ?_; constructor))
      exact ⟨ret_e rfl⟩
    | true =>
      rw [hs] at f2
      cases ht : spF b3 l3 e3 b4 l4 e4 with
      | false =>
        rw [ht] at f3
        refine FC.intro (X := XX) tok Tryz.func53 rfl Tryz.ntmps53 (by rw [Tryz.results53]) (by kernel_rfl) rfl ?_; intro F hG hO
        rw [← hG] at f1 f2 f3
        repeat' ((try (conv => whnf)); first
  | ((with_reducible refine cg ?_); first | refine ceq f1 rfl ?_ | refine ceq f2 rfl ?_ | refine ceq f3 rfl ?_)
  | ((with_reducible refine ilg ?_); refine idx_l 0 (by decide) (by simp) ?_)
  | ((with_reducible refine ilg ?_); refine idx_l 1 (by decide) (by simp) ?_)
  | ((with_reducible refine ilg ?_); refine idx_l 2 (by decide) (by simp) ?_)
  | ((with_reducible refine ilg ?_); refine idx_l 3 (by decide) (by simp) ?_)
  | ((with_reducible refine lg ?_); refine rounds_g 3 tok ?_)
  
  | with_reducible first
    | refine Chk.mk' (by first | omega | exact trivial | (simp only [List.length_append, List.length_set, List.length_replicate, List.length_take, List.length_drop, List.length_cons, List.length_nil, List.length_map]; omega)) ?_
    | refine wrap_g (by dsimp only [inR]; omega) ?_
    | refine idx_g (by omega) ?_ | refine idx_l _ rfl (by decide) ?_ | refine BothG.mk ?_ ?_ | refine fork_tt ?_ | refine fork_ff ?_
    | (refine fork_e (c := true) (by decide) ?_; refine fork_tt ?_) | (refine fork_e (c := false) (by decide) ?_; refine fork_ff ?_)
    | refine fork_t (by omega) ?_ | refine fork_f (by omega) ?_ | (refine fork_d ?_ ?_ <;> intro hc) | refine fork_n ?_ | (refine fork_b ?_ ?_ <;> intro hc)
    | refine SlcG.mk (by omega) ?_ | refine MakG.mk (by dsimp only; omega) ?_
    | refine AppG.mk (by first | omega | (simp only [List.length_append, List.length_set, List.length_replicate, List.length_take, List.length_drop, List.length_cons, List.length_nil, List.length_map]; omega)) (by dsimp only [List.length_cons, List.length_nil]; omega) (by omega) ?_
    | refine div_g (by omega) (by omega) (by dsimp only [inR]; omega) ?_ | refine mod_g (by omega) (by omega) ?_
    | refine mask_g (m := 4294967296) 32 rfl rfl (by decide) (by omega) ?_ | refine shr_g (m := 4294967296) 32 rfl (by decide) (by omega) rfl ?_
    | refine fz_all (by omega) ?_ | (refine smk ?_ ?_; constructor))
        exact ⟨ret_e rfl⟩
      | true =>
        rw [ht] at f3
        refine FC.intro (X := XX) tok Tryz.func53 rfl Tryz.ntmps53 (by rw [Tryz.results53]) (by kernel_rfl) rfl ?_; intro F hG hO
        rw [← hG] at f1 f2 f3
        repeat' ((try (conv => whnf)); first
  | ((with_reducible refine cg ?_); first | refine ceq f1 rfl ?_ | refine ceq f2 rfl ?_ | refine ceq f3 rfl ?_)
  | ((with_reducible refine ilg ?_); refine idx_l 0 (by decide) (by simp) ?_)
  | ((with_reducible refine ilg ?_); refine idx_l 1 (by decide) (by simp) ?_)
  | ((with_reducible refine ilg ?_); refine idx_l 2 (by decide) (by simp) ?_)
  | ((with_reducible refine ilg ?_); refine idx_l 3 (by decide) (by simp) ?_)
  | ((with_reducible refine lg ?_); refine rounds_g 3 tok ?_)
  
  | with_reducible first
    | refine Chk.mk' (by first | omega | exact trivial | (simp only [List.length_append, List.length_set, List.length_replicate, List.length_take, List.length_drop, List.length_cons, List.length_nil, List.length_map]; omega)) ?_
    | refine wrap_g (by dsimp only [inR]; omega) ?_
    | refine idx_g (by omega) ?_ | refine idx_l _ rfl (by decide) ?_ | refine BothG.mk ?_ ?_ | refine fork_tt ?_ | refine fork_ff ?_
    | (refine fork_e (c := true) (by decide) ?_; refine fork_tt ?_) | (refine fork_e (c := false) (by decide) ?_; refine fork_ff ?_)
    | refine fork_t (by omega) ?_ | refine fork_f (by omega) ?_ | (refine fork_d ?_ ?_ <;> intro hc) | refine fork_n ?_ | (refine fork_b ?_ ?_ <;> intro hc)
    | refine SlcG.mk (by omega) ?_ | refine MakG.mk (by dsimp only; omega) ?_
    | refine AppG.mk (by first | omega | (simp only [List.length_append, List.length_set, List.length_replicate, List.length_take, List.length_drop, List.length_cons, List.length_nil, List.length_map]; omega)) (by dsimp only [List.length_cons, List.length_nil]; omega) (by omega) ?_
    | refine div_g (by omega) (by omega) (by dsimp only [inR]; omega) ?_ | refine mod_g (by omega) (by omega) ?_
    | refine mask_g (m := 4294967296) 32 rfl rfl (by decide) (by omega) ?_ | refine shr_g (m := 4294967296) 32 rfl (by decide) (by omega) rfl ?_
    | refine fz_all (by omega) ?_ | (refine smk ?_ ?_; constructor))
        exact ⟨ret_e rfl⟩
end Go.Proofs.YtpjbgmafnheomaaGreatDoor.Sim
namespace Go.Proofs.YtpjbgmafnheomaaGreatDoor.Sim
open Go.RowKit
set_option linter.unusedVariables false
set_option linter.unusedSimpArgs false
/-- What asks nothing of the world: if it answers once it always answers so. -/
def KM {α : Type} (P : Program) (m : Go.Sem α) : Prop := ∀ w v w1, m.run P w = .ok v w1 → ∀ w', m.run P w' = .ok v w'
section
variable {P : Program}
theorem KM_pure {α : Type} (a : α) : KM P (Pure.pure a : Go.Sem α) := fun w v w1 h w' => by
  simp only [Go.Sem.run_pure, Result.ok.injEq] at h ⊢
  exact ⟨h.1, trivial⟩
theorem KM_stuck {α : Type} (s : String) : KM P (stuck s : Go.Sem α) := fun w v w1 h => by simp at h
theorem KM_halt {α : Type} (s : Halt) : KM P (.halt s : Go.Sem α) := fun w v w1 h => by simp at h
theorem KM_bind {α β : Type} {m : Go.Sem α} {f : α → Go.Sem β} (h1 : KM P m) (h2 : ∀ v, KM P (f v)) : KM P (m >>= f) := fun w v w1 h w' => by
  rw [Go.Sem.run_bind] at h ⊢
  cases hm : m.run P w with
  | ok u w2 =>
    rw [hm, Result.andThen_ok] at h
    rw [h1 w u w2 hm w', Result.andThen_ok]
    exact h2 u _ _ _ h w'
  | halt e w2 => rw [hm, Result.andThen_halt] at h; cases h
theorem KM_underlying (t : TypeId) : KM P (underlying t) := by
  unfold underlying
  refine KM_bind (fun w v w1 h w' => ?_) fun p => ?_
  · rw [run_program] at h ⊢
    cases h; rfl
  · split
    · exact KM_pure _
    · exact KM_stuck _
theorem KM_sizeOf (t : TypeId) : KM P (sizeOf t) := by
  unfold sizeOf typeInfo
  refine KM_bind (KM_bind (fun w v w1 h w' => ?_) fun p => ?_) fun i => KM_pure _
  · rw [run_program] at h ⊢
    cases h; rfl
  · split
    · exact KM_pure _
    · exact KM_stuck _
theorem KM_asInt (v : Value) : KM P (asIntOf v) := by
  unfold asIntOf
  split
  · exact KM_pure _
  · exact KM_halt _
  · exact KM_stuck _
theorem KM_sure (v : Value) : KM P (Instr.sureAddr v) := by
  unfold Instr.sureAddr
  split
  · exact KM_pure _
  · exact KM_stuck _
theorem no_bind {α β : Type} {m : Go.Sem α} {f : α → Go.Sem β} (h : ∀ u w v w1, (f u).run P w ≠ .ok v w1) (w : World) (v : β) (w1 : World) : (m >>= f).run P w ≠ .ok v w1 := fun hh => by
  rw [Go.Sem.run_bind] at hh
  cases hm : m.run P w with
  | ok u w2 => rw [hm, Result.andThen_ok] at hh; exact h _ _ _ _ hh
  | halt e w2 => rw [hm, Result.andThen_halt] at hh; cases hh
theorem not_bounds {α : Type} (k : IntKind) (x y : Int) (c : BoundsCode) : KM P (boundsPanic k x y c : Go.Sem α) := fun w v w1 h => by
  exfalso
  unfold boundsPanic at h
  dsimp only at h
  have hr : ∀ (a b : Int) (s : Bool) (e : BoundsCode) (w : World) (v : α) (w1 : World), (runtimePanic (.bounds a b s e) : Go.Sem α).run P w ≠ .ok v w1 := fun a b s e w v w1 hh => by
    simp [runtimePanic, goPanic] at hh
  split at h
  · exact no_bind (fun u => hr _ _ _ _) _ _ _ h
  · exact no_bind (fun u => hr _ _ _ _) _ _ _ h
theorem KM_indexAt (t : TypeId) (x i : Value) : KM P (Instr.indexAt t x i) := by
  unfold Instr.indexAt
  refine KM_bind (KM_asInt _) fun r => ?_
  obtain ⟨k, n⟩ := r
  dsimp only
  refine KM_bind (KM_underlying _) fun d => ?_
  repeat' first
    | exact KM_pure _
    | exact KM_stuck _
    | exact KM_halt _
    | exact KM_underlying _
    | exact KM_sizeOf _
    | exact KM_sure _
    | exact not_bounds _ _ _ _
    | (refine KM_bind ?_ fun _ => ?_)
    | split
    | dsimp only
def addrO (P : Program) (o : Oper) : Bool := match o.op with
  | .fieldAddr t _ i => (fldT P t i).isSome
  | .indexAddr _ _ _ => true
  | _ => false
theorem addr_any {o : Oper} {ev : Operand → Value} (h : addrO P o = true) {w : World} {v : Value} (hr : (execOp ev o).run P w = .ok (.value v) w) : ∀ w', (execOp ev o).run P w' = .ok (.value v) w' := by
  unfold addrO at h
  split at h
  · rename_i t x i ho
    obtain ⟨n, hn⟩ := Option.isSome_iff_exists.1 h
    have key : ∃ ad, ev x = .pointer (some ad) := by
      have hf := hn
      unfold fldT at hf
      split at hf
      · rename_i fs hu
        split at hf
        · rename_i f hfi
          simp only [execOp, ho, Instr.fieldAt, Go.Sem.run_bind, run_underlying hu, Result.andThen_ok, hfi] at hr
          generalize ev x = y at hr
          unfold Instr.sureAddr at hr
          split at hr
          · exact ⟨_, rfl⟩
          · simp at hr
        · cases hf
      · cases hf
    obtain ⟨ad, had⟩ := key
    have e : ∀ w, (execOp ev o).run P w = .ok (.value (.pointer (some (ad.add n)))) w := fun w => by simp [execOp, ho, had, run_fa hn]
    rw [e w] at hr
    intro w'
    rw [e w']
    cases hr; rfl
  · rename_i t x y ho
    have hk : KM P (execOp ev o) := by
      simp only [execOp, ho]
      exact KM_bind (KM_indexAt _ _ _) fun _ => KM_pure _
    exact fun w' => hk w _ _ hr w'
  · cases h
end
/-- Orders of a drawn region: one taken first; of those that may come next each. -/
inductive Tm where
  | fin
  | take (i : Nat) (t : Tm)
  | alt (i : Nat) (t : Tm) (r : Tm)
  | non
def Tm.size : Tm → Nat
  | .fin => 0
  | .non => 0
  | .take _ t => t.size + 1
  | .alt _ t r => max (t.size + 1) r.size
def Tm.heads : Tm → List Nat
  | .alt i _ r => i :: r.heads
  | _ => []
section
variable {P : Program} {F : Fr} {TT : List TI} {X : List FuncId} {o : Oper} {s : St} {K : St → Prop}
def vM (P : Program) (F : Fr) (TT : List TI) (X : List FuncId) (all : List Oper) (t : Tm) (s : St) (K : St → Prop) : Prop := match t with
  | .fin => K s
  | .non => True
  | .take i t => vOp P F TT X .S (nthO all i) s fun s => vM P F TT X all t s K
  | .alt i t r => match r with
    | .non => vOp P F TT X (kind X (nthO all i)) (nthO all i) s fun s => vM P F TT X all t s K
    | r => BothG (vOp P F TT X (kind X (nthO all i)) (nthO all i) s fun s => vM P F TT X all t s K) (vM P F TT X all r s K)
def eqL : List Nat → List Nat → Bool
  | [], [] => true
  | x :: l, y :: m => Nat.beq x y && eqL l m
  | _, _ => false
theorem eqL_ok : ∀ {l m : List Nat}, eqL l m = true → l = m
  | [], [], _ => rfl
  | x :: l, y :: m, h => by
    simp only [eqL, Bool.and_eq_true] at h
    rw [Nat.eq_of_beq_eq_true h.1, eqL_ok h.2]
  | [], _ :: _, h => by cases h
  | _ :: _, [], h => by cases h
def chkM (P : Program) (ops : List Oper) (t : Tm) (l : Array Bool) (b : Bool) : Bool := match t with
  | .fin => !b && (Region.ready .any ops.toArray l).isEmpty
  | .non => b
  | .take i t => !b && okI ops i && chkP ops.toArray l i && (pureO (nthO ops i) || addrO P (nthO ops i)) && chkM P ops t (l.setIfInBounds i true) false
  | .alt i t r => (b || eqL (Region.ready .any ops.toArray l) (Tm.heads (.alt i t r))) && okI ops i && chkM P ops t (l.setIfInBounds i true) false && chkM P ops r l true
theorem vM_ok (hTT : TOk P TT) {all : List Oper} : ∀ (t : Tm) (l : Array Bool) (s : St) (b : Bool), chkM P all t l b = true → vM P F TT X all t s K →
    ∀ Q c a w, Inv F c s a w → (∀ c' s' a' w', Inv F c' s' a' w' → K s' → Q .normal a' w') → (∀ cc a w, ¬ Q (.panic cc) a w) →
      (b = false → ∀ f, t.size ≤ f → wpAny P .any all.toArray Q f l a w) ∧ (∀ g, t.size ≤ g + 1 → ∀ j ∈ t.heads, wpOp P all.toArray Q j (wpAny P .any all.toArray Q g (l.setIfInBounds j true)) a w)
  | .fin, l, s, b, hc, h => by
    intro Q c a w hi hq hp
    simp only [chkM, Bool.and_eq_true] at hc
    exact ⟨fun _ f _ => wpAny_done (by simpa [List.isEmpty_iff] using hc.2) (hq c s a w hi h) f, fun g _ j hj => by cases hj⟩
  | .non, l, s, b, hc, h => by
    intro Q c a w hi hq hp
    refine ⟨fun hb => ?_, fun g _ j hj => by cases hj⟩
    simp only [chkM] at hc
    rw [hb] at hc
    cases hc
  | .take i t, l, s, b, hc, h => by
    intro Q c a w hi hq hp
    refine ⟨fun hb f hf => ?_, fun g _ j hj => by cases hj⟩
    simp only [chkM, Bool.and_eq_true] at hc
    obtain ⟨⟨⟨⟨_, c1⟩, c2⟩, c3⟩, c4⟩ := hc
    obtain ⟨g1, g2⟩ := okI_ok c1
    simp only [chkP, Bool.and_eq_true] at c2
    obtain ⟨⟨d1, d2⟩, d3⟩ := c2
    obtain ⟨g, rfl⟩ : ∃ g, f = g + 1 := ⟨f - 1, by simp only [Tm.size] at hf; omega⟩
    obtain ⟨p, h1, h2, h3⟩ := vOp_sem hTT (m := .S) h fun s h => h
    obtain ⟨u, hr, hrun⟩ := h1 c a w hi
    have hall : ∀ w', (execOp a.eval (nthO all i)).run P w' = .ok (.value u) w' := by
      rw [Bool.or_eq_true] at c3
      rcases c3 with c3 | c3
      · exact fun w' => hrun w' (.inr c3)
      · exact addr_any c3 (hrun w (.inl (Ext.refl w)))
    exact wpAny_take g1 d1 d2 d3 (fun c a w h => absurd h (hp _ _ _)) (.inl ⟨pwant_ok hi (g2 s), hall⟩) ((vM_ok hTT t _ _ false c4 h3 Q c _ w (hi.put h2 hr) hq hp).1 rfl g (by simp only [Tm.size] at hf; omega))
  | .alt i t r, l, s, b, hc, h => by
    intro Q c a w hi hq hp
    simp only [chkM, Bool.and_eq_true] at hc
    obtain ⟨⟨⟨c0, c1⟩, c2⟩, c3⟩ := hc
    have both : (vOp P F TT X (kind X (nthO all i)) (nthO all i) s fun s => vM P F TT X all t s K) ∧ vM P F TT X all r s K := by
      cases r with
      | non => exact ⟨h, trivial⟩
      | fin => exact ⟨BothG.a h, BothG.b h⟩
      | take _ _ => exact ⟨BothG.a h, BothG.b h⟩
      | alt _ _ _ => exact ⟨BothG.a h, BothG.b h⟩
    have alts : ∀ g, (Tm.alt i t r).size ≤ g + 1 → ∀ j ∈ (Tm.alt i t r).heads, wpOp P all.toArray Q j (wpAny P .any all.toArray Q g (l.setIfInBounds j true)) a w := by
      intro g hg j hj
      simp only [Tm.heads, List.mem_cons] at hj
      simp only [Tm.size] at hg
      rcases hj with rfl | hj
      · exact vQ_op hTT c1 both.1 hi fun c' s' a' w' hi' hC => (vM_ok hTT t _ s' false c2 hC Q c' a' w' hi' hq hp).1 rfl g (by omega)
      · exact (vM_ok hTT r l s true c3 both.2 Q c a w hi hq hp).2 g (by omega) j hj
    refine ⟨fun hb f hf => ?_, alts⟩
    subst hb
    rw [Bool.false_or] at c0
    obtain ⟨g, rfl⟩ : ∃ g, f = g + 1 := ⟨f - 1, by simp only [Tm.size] at hf; omega⟩
    exact wpAny_all (eqL_ok c0) (by simp [Tm.heads]) fun j hj => alts g hf j hj
theorem draw_m {id : Nat} {ops : List Oper} (t : Tm) (hTT : TOk P TT) (hm : P.follows .mixedOrders = true) (hl : Nat.ble t.size ops.length = true) (hc : chkM P ops t (Array.replicate ops.length false) false = true) (h : vM P F TT X ops t s K) : DrawG P F TT X id ops s K := by
  refine ⟨?_⟩
  intro cx a w hi
  have hi' : Inv F cx s a { w with drawn := w.drawn + 1 } := ⟨hi.W.grow fun _ _ => rfl, hi.nd, hi.sz, hi.tm, hi.kp.drew, hi.rho, hi.new, hi.obp, hi.obB, hi.bbB⟩
  have h1 := (vM_ok hTT t (Array.replicate ops.length false) s false hc h (fun e a w => e = .normal ∧ ∃ cx' s', Inv F cx' s' a w ∧ K s') cx a _ hi' (fun c' s' a' w' hi' hk => ⟨rfl, c', s', hi', hk⟩) (fun cc a w hq => by cases hq.1)).1 rfl ops.toArray.size (by simpa using Nat.le_of_ble_eq_true hl)
  refine wp_mono (wp_region_any hm (by simpa using h1)) ?_
  rintro e a' w' ⟨rfl, cx', s', hi'', hq⟩
  exact ⟨cx', s', hi'', hq⟩
/-- A drawn region has ended: one of a few states. -/
structure JoinG {A : Type} (N : Nat) (S : A → List (Nat × PV)) (B : A → List (List PV)) (O : A → List (Option Row)) (s : St) : Prop where
  h : ∃ y, Weak s N (S y) (B y) (O y)
theorem join {A : Type} {N : Nat} {S : A → List (Nat × PV)} {B : A → List (List PV)} {O : A → List (Option Row)} {t : Nat → PV} {bx : List (List PV)} {ob : List (Option Row)} (y : A) (h3 : hold (S y) t) (hb : ∃ e, bx = B y ++ e) (ho : ∃ e, ob = O y ++ e) : JoinG N S B O ⟨N, t, bx, ob⟩ :=
  ⟨y, ⟨rfl, h3, hb, ho⟩⟩
theorem DrawG.mono {id : Nat} {ops : List Oper} {K' : St → Prop} (h : DrawG P F TT X id ops s K') (k : ∀ c a w s', Inv F c s' a w → K' s' → ∃ c' s'', Inv F c' s'' a w ∧ K s'') : DrawG P F TT X id ops s K := by
  obtain ⟨h⟩ := h
  refine ⟨?_⟩
  intro cx a w hi
  refine wp_mono (h cx a w hi) ?_
  rintro e a' w' hq
  cases e with
  | normal =>
    obtain ⟨cx', s', h1, h2⟩ := hq
    exact k _ _ _ _ h1 h2
  | _ => exact hq
theorem draw_j {A : Type} {id N : Nat} {ops : List Oper} (S : A → List (Nat × PV)) (B : A → List (List PV)) (O : A → List (Option Row)) (t : Tm) (hTT : TOk P TT) (hm : P.follows .mixedOrders = true) (hl : Nat.ble t.size ops.length = true) (hc : chkM P ops t (Array.replicate ops.length false) false = true)
    (hin : ∀ x, inS (B x).length (O x).length (S x) ∧ inBB (B x).length (O x).length (B x) ∧ F.c0.ob.length ≤ (O x).length) (h : vM P F TT X ops t s (JoinG N S B O)) (k : ∀ x, K ⟨N, tab (S x), B x, O x⟩) : DrawG P F TT X id ops s K :=
  DrawG.mono (draw_m t hTT hm hl hc h) fun c a w s' hi hj => by
    obtain ⟨x, hw⟩ := hj.h
    exact ⟨_, _, hi.weak hw (hin x).1 (hin x).2.1 (hin x).2.2, k x⟩
theorem dg {id : Nat} {ops : List Oper} (h : DrawG P F TT X id ops s K) : DrawG P F TT X id ops s K := h
end
end Go.Proofs.YtpjbgmafnheomaaGreatDoor.Sim
