/-
  What the statement SpanHoldsCardSaid leans on, part 15: the logic of walks, digits, contracts of the functions, the plain law. Conditions stand in each theorem.
-/
import Derived.Test.YtpjbgmafnheomaaGreatDoorPkSpanHoldsCardSaidN
namespace Go.Proofs.YtpjbgmafnheomaaGreatDoor.Sim
open Go.RowKit
set_option linter.unusedVariables false
set_option linter.unusedSimpArgs false
set_option maxRecDepth 10000
set_option maxHeartbeats 8000000
variable {G : List (Nat × List Value)}
theorem HoldR.y {r : PV} {t : Int} (h : HoldR r t) : ∃ (x y : D2) (c d : Int), r = .tup [SP x y, .val (.int .i64 c)] ∧ c = 5 * d ∧ (0 ≤ d ∧ d ≤ 1) ∧ GoodS x y ∧ (Unit → c = 0 → x.v * 2 ^ 1048576 ≤ t ∧ t ≤ y.v * 2 ^ 1048576) := by
  rcases h with h | ⟨x, y, h, g⟩
  · exact ⟨(0, 0), (0, 0), 5, 1, h, rfl, by omega, GoodS.zero, fun _ h => by omega⟩
  · exact ⟨x, y, 0, 0, h, rfl, by omega, g.1, fun _ _ => g.2⟩
theorem HoldQ.y {r : PV} {u v : Int} (h : HoldQ r u v) : ∃ (x y : D2) (c d : Int), r = .tup [SP x y, .val (.int .i64 c)] ∧ c = 5 * d ∧ (0 ≤ d ∧ d ≤ 1) ∧ GoodS x y ∧ (Unit → c = 0 → x.v * v ≤ u * 2 ^ 1048576 ∧ u * 2 ^ 1048576 ≤ y.v * v) := by
  rcases h with h | ⟨x, y, h, g⟩
  · exact ⟨(0, 0), (0, 0), 5, 1, h, rfl, by omega, GoodS.zero, fun _ h => by omega⟩
  · exact ⟨x, y, 0, 0, h, rfl, by omega, g.1, fun _ _ => g.2⟩
theorem sum_Vc {n e w f : Int} (he : -1048576 ≤ e) (hf : -1048576 ≤ f) : Vc 2097152 (n * 2 ^ (e - min e f).toNat + w * 2 ^ (f - min e f).toNat) (min e f) = (VV n e + VV w f) * 2 ^ 1048576 := by
  rw [Int.add_mul, ← Vc_two he, ← Vc_two hf, Vc_low (n := n) (e := e) (k := min e f) (by omega) (by omega), Vc_low (n := w) (e := f) (k := min e f) (by omega) (by omega)]
  unfold Vc
  rw [Int.add_mul]
theorem bl_good {n e : Int} (h : Good n e) : bl n.natAbs ≤ 524288 := by
  have h1 := h.1
  have := bl_L64 n.natAbs
  omega
theorem LZ_good {n e : Int} (h : Good n e) : LZ n ≤ 65537 := LZ_bound (by have := bl_good h; omega)
theorem quo_holds {x U W : D2} (hx : x.good) (hU : U.good) (hW : W.good) {c : Int} (hc : c = 0 ∨ c = 5) :
    ((Unit → c = 0 → x.v * W.v ≤ U.v * 2 ^ 1048576) → holdS (x.1 * W.1) (x.2 + W.2) U.1 U.2 ≤ c) ∧ ((Unit → c = 0 → U.v * 2 ^ 1048576 ≤ x.v * W.v) → holdS U.1 U.2 (x.1 * W.1) (x.2 + W.2) ≤ c) := by
  have e1 := hx.2.1
  have e2 := hU.2.1
  have e3 := hW.2.1
  have E : Vc 2097152 (x.1 * W.1) (x.2 + W.2) = x.v * W.v := (Vc_mul e1 e3).symm
  have E2 : Vc 2097152 U.1 U.2 = U.v * 2 ^ 1048576 := Vc_two e2
  have b1 := hold_bd (x.1 * W.1) (x.2 + W.2) U.1 U.2
  have b2 := hold_bd U.1 U.2 (x.1 * W.1) (x.2 + W.2)
  constructor
  · intro h
    rcases hc with hc | hc
    · have h1 := h () hc
      rw [← E, ← E2] at h1
      have h2 : ¬ 0 < holdS (x.1 * W.1) (x.2 + W.2) U.1 U.2 := fun q => absurd h1 (Int.not_le.2 ((hold_pos (c := 2097152) (by omega) (by omega)).1 q))
      clear h h1 E E2
      omega
    · clear h E E2
      omega
  · intro h
    rcases hc with hc | hc
    · have h1 := h () hc
      rw [← E, ← E2] at h1
      have h2 : ¬ 0 < holdS U.1 U.2 (x.1 * W.1) (x.2 + W.2) := fun q => absurd h1 (Int.not_le.2 ((hold_pos (c := 2097152) (by omega) (by omega)).1 q))
      clear h h1 E E2
      omega
    · clear h E E2
      omega
def h5v53 (a : D2) (b : D2) : PV := .agg [.val (.bool (decide (a.1 < 0))), .ws .u64 (d64 a.1.natAbs), .val (.int .i64 a.2), .val (.bool (decide (b.1 < 0))), .ws .u64 (d64 b.1.natAbs), .val (.int .i64 b.2)]
def h5v54 (u : D2) : PV := .agg [.val (.bool (decide (u.1 < 0))), .ws .u64 (d64 u.1.natAbs), .val (.int .i64 u.2)]
def h5v55 (U : D2) : PV := .agg [.val (.bool (decide (U.1 < 0))), .ws .u64 (d64 U.1.natAbs), .val (.int .i64 U.2)]
def h5v56 (c : D2) (d : D2) : PV := .agg [.val (.bool (decide (c.1 < 0))), .ws .u64 (d64 c.1.natAbs), .val (.int .i64 c.2), .val (.bool (decide (d.1 < 0))), .ws .u64 (d64 d.1.natAbs), .val (.int .i64 d.2)]
def h5v57 (v : D2) : PV := .agg [.val (.bool (decide (v.1 < 0))), .ws .u64 (d64 v.1.natAbs), .val (.int .i64 v.2)]
def h5v58 (W : D2) : PV := .agg [.val (.bool (decide (W.1 < 0))), .ws .u64 (d64 W.1.natAbs), .val (.int .i64 W.2)]
def h5s (p : Int) : List (Nat × PV) := [(4, .val (.int .i64 (p))), (5, .ptr 0 0), (6, .ptr 1 0), (7, .ptr 2 0), (8, .ptr 3 0)]
def h5b0 (a : D2) (b : D2) (c : D2) (d : D2) (u : D2) (v : D2) : List (List PV) := [[.val (.bool (decide (a.1 < 0))), .ws .u64 (d64 a.1.natAbs), .val (.int .i64 a.2), .val (.bool (decide (b.1 < 0))), .ws .u64 (d64 b.1.natAbs), .val (.int .i64 b.2)], [.val (.bool (decide (c.1 < 0))), .ws .u64 (d64 c.1.natAbs), .val (.int .i64 c.2), .val (.bool (decide (d.1 < 0))), .ws .u64 (d64 d.1.natAbs), .val (.int .i64 d.2)], [.val (.bool (decide (u.1 < 0))), .ws .u64 (d64 u.1.natAbs), .val (.int .i64 u.2)], [.val (.bool (decide (v.1 < 0))), .ws .u64 (d64 v.1.natAbs), .val (.int .i64 v.2)]]
def h5b1 (a : D2) (b : D2) (c : D2) (d : D2) (v : D2) (U : D2) : List (List PV) := [[.val (.bool (decide (a.1 < 0))), .ws .u64 (d64 a.1.natAbs), .val (.int .i64 a.2), .val (.bool (decide (b.1 < 0))), .ws .u64 (d64 b.1.natAbs), .val (.int .i64 b.2)], [.val (.bool (decide (c.1 < 0))), .ws .u64 (d64 c.1.natAbs), .val (.int .i64 c.2), .val (.bool (decide (d.1 < 0))), .ws .u64 (d64 d.1.natAbs), .val (.int .i64 d.2)], [.val (.bool (decide (U.1 < 0))), .ws .u64 (d64 U.1.natAbs), .val (.int .i64 U.2)], [.val (.bool (decide (v.1 < 0))), .ws .u64 (d64 v.1.natAbs), .val (.int .i64 v.2)]]
def h5n (a : D2) (b : D2) (c : D2) (d : D2) (u : D2) (v : D2) (U : D2) (W : D2) (p : Int) : List Nd := [⟨0, h5s p, h5b0 a b c d u v, .alt 0 (.cut 4) (.alt 1 (.cut 3) (.alt 3 (.cut 2) (.alt 4 (.cut 1) .non)))⟩,
  ⟨16, (57, h5v57 v) :: h5s p, h5b0 a b c d u v, .alt 0 (.cut 7) (.alt 1 (.cut 6) (.alt 3 (.cut 5) .non))⟩,
  ⟨8, (56, h5v56 c d) :: h5s p, h5b0 a b c d u v, .alt 0 (.cut 9) (.alt 1 (.cut 8) (.alt 4 (.cut 5) .non))⟩,
  ⟨2, (54, h5v54 u) :: h5s p, h5b0 a b c d u v, .alt 0 (.cut 10) (.alt 3 (.cut 8) (.alt 4 (.cut 6) .non))⟩,
  ⟨1, (53, h5v53 a b) :: h5s p, h5b0 a b c d u v, .alt 1 (.cut 10) (.alt 3 (.cut 9) (.alt 4 (.cut 7) .non))⟩,
  ⟨24, (56, h5v56 c d) :: (57, h5v57 v) :: h5s p, h5b0 a b c d u v, .alt 0 (.cut 12) (.alt 1 (.cut 11) .non)⟩,
  ⟨18, (54, h5v54 u) :: (57, h5v57 v) :: h5s p, h5b0 a b c d u v, .alt 0 (.cut 13) (.alt 3 (.cut 11) .non)⟩,
  ⟨17, (53, h5v53 a b) :: (57, h5v57 v) :: h5s p, h5b0 a b c d u v, .alt 1 (.cut 13) (.alt 3 (.cut 12) .non)⟩,
  ⟨10, (54, h5v54 u) :: (56, h5v56 c d) :: h5s p, h5b0 a b c d u v, .alt 0 (.cut 14) (.alt 4 (.cut 11) .non)⟩,
  ⟨9, (53, h5v53 a b) :: (56, h5v56 c d) :: h5s p, h5b0 a b c d u v, .alt 1 (.cut 14) (.alt 4 (.cut 12) .non)⟩,
  ⟨3, (53, h5v53 a b) :: (54, h5v54 u) :: h5s p, h5b0 a b c d u v, .alt 2 (.cut 15) (.alt 3 (.cut 14) (.alt 4 (.cut 13) .non))⟩,
  ⟨26, (54, h5v54 u) :: (56, h5v56 c d) :: (57, h5v57 v) :: h5s p, h5b0 a b c d u v, .alt 0 (.cut 16) .non⟩,
  ⟨25, (53, h5v53 a b) :: (56, h5v56 c d) :: (57, h5v57 v) :: h5s p, h5b0 a b c d u v, .alt 1 (.cut 16) .non⟩,
  ⟨19, (53, h5v53 a b) :: (54, h5v54 u) :: (57, h5v57 v) :: h5s p, h5b0 a b c d u v, .alt 2 (.cut 17) (.alt 3 (.cut 16) .non)⟩,
  ⟨11, (53, h5v53 a b) :: (54, h5v54 u) :: (56, h5v56 c d) :: h5s p, h5b0 a b c d u v, .alt 2 (.cut 18) (.alt 4 (.cut 16) .non)⟩,
  ⟨7, (55, h5v55 U) :: h5s p, h5b0 a b c d u v, .alt 3 (.cut 18) (.alt 4 (.cut 17) .non)⟩,
  ⟨27, (53, h5v53 a b) :: (54, h5v54 u) :: (56, h5v56 c d) :: (57, h5v57 v) :: h5s p, h5b0 a b c d u v, .alt 2 (.cut 19) .non⟩,
  ⟨23, (55, h5v55 U) :: (57, h5v57 v) :: h5s p, h5b0 a b c d u v, .alt 3 (.cut 19) .non⟩,
  ⟨15, (55, h5v55 U) :: (56, h5v56 c d) :: h5s p, h5b0 a b c d u v, .alt 4 (.cut 19) .non⟩,
  ⟨31, (55, h5v55 U) :: (56, h5v56 c d) :: (57, h5v57 v) :: h5s p, h5b0 a b c d u v, .alt 5 (.cut 20) .non⟩,
  ⟨63, (55, h5v55 U) :: (58, h5v58 W) :: h5s p, h5b0 a b c d u v, .alt 6 (.cut 21) .non⟩,
  ⟨127, (58, h5v58 W) :: h5s p, h5b1 a b c d v U, .alt 7 (.fin) .non⟩]
def h5b2 (a : D2) (b : D2) (c : D2) (d : D2) (U : D2) (W : D2) : List (List PV) := [[.val (.bool (decide (a.1 < 0))), .ws .u64 (d64 a.1.natAbs), .val (.int .i64 a.2), .val (.bool (decide (b.1 < 0))), .ws .u64 (d64 b.1.natAbs), .val (.int .i64 b.2)], [.val (.bool (decide (c.1 < 0))), .ws .u64 (d64 c.1.natAbs), .val (.int .i64 c.2), .val (.bool (decide (d.1 < 0))), .ws .u64 (d64 d.1.natAbs), .val (.int .i64 d.2)], [.val (.bool (decide (U.1 < 0))), .ws .u64 (d64 U.1.natAbs), .val (.int .i64 U.2)], [.val (.bool (decide (W.1 < 0))), .ws .u64 (d64 W.1.natAbs), .val (.int .i64 W.2)]]
theorem reg_h5 {g : List (Nat × List Value)} {a : D2} {b : D2} {c : D2} {d : D2} {u : D2} {v : D2} {U : D2} {W : D2} {p : Int} (i1 : FC Tryz.prog g 30 [SP a b, DY u.1 u.2] (· = DY U.1 U.2)) (i2 : FC Tryz.prog g 30 [SP c d, DY v.1 v.2] (· = DY W.1 W.2)) : Reg (A := Unit) Tryz.prog TT XX g 5 (opsB Tryz.f7.body 5) 269 (h5s p) (h5b0 a b c d u v) (fun _ => [(4, .val (.int .i64 (p))), (5, .ptr 0 0), (6, .ptr 1 0), (7, .ptr 2 0), (8, .ptr 3 0)]) (fun _ => h5b2 a b c d U W) := by
  refine ⟨fun F hG hO s K hs hk => ?_⟩; (conv => arg 6; whnf)
  rw [← hG] at i1 i2
  refine draw_dp (A := Unit) (id := 5) (N := 269) (h5n a b c d u v U W p) [] (fun _ => [(4, .val (.int .i64 (p))), (5, .ptr 0 0), (6, .ptr 1 0), (7, .ptr 2 0), (8, .ptr 3 0)]) (fun _ => h5b2 a b c d U W) (fun _ => []) tok mixed (by kernel_rfl) (by kernel_rfl) (by simp [hO]) ⟨_, rfl, by kernel_rfl, hs⟩ (by intro ju; simp [hO]) ?_ hk
  repeat' ((try (conv => whnf)); first
  | ((with_reducible refine cg ?_); refine call_eq (i1) (LpL.refl _) rfl ?_)
  | ((with_reducible refine cg ?_); refine call_eq (i2) (LpL.refl _) rfl ?_)
  | exact joinp () [(0, []), (1, []), (2, []), (3, [])] rfl rfl rfl ⟨_, rfl⟩
  | ((with_reducible refine ct ?_); exact cutj rfl ⟨_, rfl⟩ ⟨_, rfl⟩)
  
  | (with_reducible refine BothG.mk ?_ ?_))
def h6v59 : PV := .ptr 2 0
def h6v60 (U : D2) : PV := .agg [.val (.bool (decide (U.1 < 0))), .ws .u64 (d64 U.1.natAbs)]
def h6v61 (U : D2) : PV := .agg [.val (.bool (decide (U.1 < 0))), .ws .u32 (d32 (U.1).natAbs)]
def h6v62 : PV := .ptr 3 0
def h6v63 (W : D2) : PV := .agg [.val (.bool (decide (W.1 < 0))), .ws .u64 (d64 W.1.natAbs)]
def h6v64 (W : D2) : PV := .agg [.val (.bool (decide (W.1 < 0))), .ws .u32 (d32 (W.1).natAbs)]
def h6s (p : Int) : List (Nat × PV) := [(4, .val (.int .i64 (p))), (5, .ptr 0 0), (6, .ptr 1 0), (7, .ptr 2 0), (8, .ptr 3 0)]
def h6b0 (a : D2) (b : D2) (c : D2) (d : D2) (U : D2) (W : D2) : List (List PV) := [[.val (.bool (decide (a.1 < 0))), .ws .u64 (d64 a.1.natAbs), .val (.int .i64 a.2), .val (.bool (decide (b.1 < 0))), .ws .u64 (d64 b.1.natAbs), .val (.int .i64 b.2)], [.val (.bool (decide (c.1 < 0))), .ws .u64 (d64 c.1.natAbs), .val (.int .i64 c.2), .val (.bool (decide (d.1 < 0))), .ws .u64 (d64 d.1.natAbs), .val (.int .i64 d.2)], [.val (.bool (decide (U.1 < 0))), .ws .u64 (d64 U.1.natAbs), .val (.int .i64 U.2)], [.val (.bool (decide (W.1 < 0))), .ws .u64 (d64 W.1.natAbs), .val (.int .i64 W.2)]]
def h6b1 (a : D2) (b : D2) (c : D2) (d : D2) (U : D2) (W : D2) : List (List PV) := [[.val (.bool (decide (a.1 < 0))), .ws .u64 (d64 a.1.natAbs), .val (.int .i64 a.2), .val (.bool (decide (b.1 < 0))), .ws .u64 (d64 b.1.natAbs), .val (.int .i64 b.2)], [.val (.bool (decide (c.1 < 0))), .ws .u64 (d64 c.1.natAbs), .val (.int .i64 c.2), .val (.bool (decide (d.1 < 0))), .ws .u64 (d64 d.1.natAbs), .val (.int .i64 d.2)], [.val (.bool (decide (U.1 < 0))), .ws .u64 (d64 U.1.natAbs), .val (.int .i64 U.2)], [.val (.bool (decide (W.1 < 0))), .ws .u64 (d64 W.1.natAbs), .val (.int .i64 W.2)], [.val (.bool false), .nil]]
def h6b2 (a : D2) (b : D2) (c : D2) (d : D2) (U : D2) (W : D2) : List (List PV) := [[.val (.bool (decide (a.1 < 0))), .ws .u64 (d64 a.1.natAbs), .val (.int .i64 a.2), .val (.bool (decide (b.1 < 0))), .ws .u64 (d64 b.1.natAbs), .val (.int .i64 b.2)], [.val (.bool (decide (c.1 < 0))), .ws .u64 (d64 c.1.natAbs), .val (.int .i64 c.2), .val (.bool (decide (d.1 < 0))), .ws .u64 (d64 d.1.natAbs), .val (.int .i64 d.2)], [.val (.bool (decide (U.1 < 0))), .ws .u64 (d64 U.1.natAbs), .val (.int .i64 U.2)], [.val (.bool (decide (W.1 < 0))), .ws .u64 (d64 W.1.natAbs), .val (.int .i64 W.2)], [.val (.bool false), .nil], [.val (.bool false), .nil]]
def h6b3 (a : D2) (b : D2) (c : D2) (d : D2) (U : D2) (W : D2) : List (List PV) := [[.val (.bool (decide (a.1 < 0))), .ws .u64 (d64 a.1.natAbs), .val (.int .i64 a.2), .val (.bool (decide (b.1 < 0))), .ws .u64 (d64 b.1.natAbs), .val (.int .i64 b.2)], [.val (.bool (decide (c.1 < 0))), .ws .u64 (d64 c.1.natAbs), .val (.int .i64 c.2), .val (.bool (decide (d.1 < 0))), .ws .u64 (d64 d.1.natAbs), .val (.int .i64 d.2)], [.val (.bool (decide (U.1 < 0))), .ws .u64 (d64 U.1.natAbs), .val (.int .i64 U.2)], [.val (.bool (decide (W.1 < 0))), .ws .u64 (d64 W.1.natAbs), .val (.int .i64 W.2)], [.val (.bool false), .nil], [.val (.bool (decide (U.1 < 0))), .ws .u32 (d32 (U.1).natAbs)]]
def h6b4 (a : D2) (b : D2) (c : D2) (d : D2) (U : D2) (W : D2) : List (List PV) := [[.val (.bool (decide (a.1 < 0))), .ws .u64 (d64 a.1.natAbs), .val (.int .i64 a.2), .val (.bool (decide (b.1 < 0))), .ws .u64 (d64 b.1.natAbs), .val (.int .i64 b.2)], [.val (.bool (decide (c.1 < 0))), .ws .u64 (d64 c.1.natAbs), .val (.int .i64 c.2), .val (.bool (decide (d.1 < 0))), .ws .u64 (d64 d.1.natAbs), .val (.int .i64 d.2)], [.val (.bool (decide (U.1 < 0))), .ws .u64 (d64 U.1.natAbs), .val (.int .i64 U.2)], [.val (.bool (decide (W.1 < 0))), .ws .u64 (d64 W.1.natAbs), .val (.int .i64 W.2)], [.val (.bool (decide (U.1 < 0))), .ws .u32 (d32 (U.1).natAbs)], [.val (.bool false), .nil]]
def h6n (a : D2) (b : D2) (c : D2) (d : D2) (U : D2) (W : D2) (p : Int) : List Nd := [⟨0, h6s p, h6b0 a b c d U W, .take 0 (.take 3 (.alt 1 (.cut 4) (.alt 4 (.cut 3) (.alt 6 (.cut 2) (.alt 7 (.cut 1) .non)))))⟩,
  ⟨137, (59, h6v59) :: (62, h6v62) :: (12, .ptr 4 0) :: h6s p, h6b1 a b c d U W, .alt 1 (.cut 7) (.alt 4 (.cut 6) (.alt 6 (.cut 5) .non))⟩,
  ⟨73, (59, h6v59) :: (62, h6v62) :: (11, .ptr 4 0) :: h6s p, h6b1 a b c d U W, .alt 1 (.cut 10) (.alt 4 (.cut 9) (.alt 7 (.cut 8) .non))⟩,
  ⟨25, (59, h6v59) :: (63, h6v63 W) :: h6s p, h6b0 a b c d U W, .alt 1 (.cut 11) (.alt 6 (.cut 9) (.alt 7 (.cut 6) .non))⟩,
  ⟨11, (60, h6v60 U) :: (62, h6v62) :: h6s p, h6b0 a b c d U W, .alt 2 (.cut 12) (.alt 4 (.cut 11) (.alt 6 (.cut 10) (.alt 7 (.cut 7) .non)))⟩,
  ⟨201, (59, h6v59) :: (62, h6v62) :: (11, .ptr 5 0) :: (12, .ptr 4 0) :: h6s p, h6b2 a b c d U W, .alt 1 (.cut 14) (.alt 4 (.cut 13) .non)⟩,
  ⟨153, (59, h6v59) :: (63, h6v63 W) :: (12, .ptr 4 0) :: h6s p, h6b1 a b c d U W, .alt 1 (.cut 15) (.alt 6 (.cut 13) .non)⟩,
  ⟨139, (60, h6v60 U) :: (62, h6v62) :: (12, .ptr 4 0) :: h6s p, h6b1 a b c d U W, .alt 2 (.cut 16) (.alt 4 (.cut 15) (.alt 6 (.cut 14) .non))⟩,
  ⟨201, (59, h6v59) :: (62, h6v62) :: (11, .ptr 4 0) :: (12, .ptr 5 0) :: h6s p, h6b2 a b c d U W, .alt 1 (.cut 18) (.alt 4 (.cut 17) .non)⟩,
  ⟨89, (59, h6v59) :: (63, h6v63 W) :: (11, .ptr 4 0) :: h6s p, h6b1 a b c d U W, .alt 1 (.cut 19) (.alt 7 (.cut 17) .non)⟩,
  ⟨75, (60, h6v60 U) :: (62, h6v62) :: (11, .ptr 4 0) :: h6s p, h6b1 a b c d U W, .alt 2 (.cut 20) (.alt 4 (.cut 19) (.alt 7 (.cut 18) .non))⟩,
  ⟨27, (60, h6v60 U) :: (63, h6v63 W) :: h6s p, h6b0 a b c d U W, .alt 2 (.cut 21) (.alt 6 (.cut 19) (.alt 7 (.cut 15) .non))⟩,
  ⟨15, (61, h6v61 U) :: (62, h6v62) :: h6s p, h6b0 a b c d U W, .alt 4 (.cut 21) (.alt 6 (.cut 20) (.alt 7 (.cut 16) .non))⟩,
  ⟨217, (59, h6v59) :: (63, h6v63 W) :: (11, .ptr 5 0) :: (12, .ptr 4 0) :: h6s p, h6b2 a b c d U W, .alt 1 (.cut 22) .non⟩,
  ⟨203, (60, h6v60 U) :: (62, h6v62) :: (11, .ptr 5 0) :: (12, .ptr 4 0) :: h6s p, h6b2 a b c d U W, .alt 2 (.cut 23) (.alt 4 (.cut 22) .non)⟩,
  ⟨155, (60, h6v60 U) :: (63, h6v63 W) :: (12, .ptr 4 0) :: h6s p, h6b1 a b c d U W, .alt 2 (.cut 24) (.alt 6 (.cut 22) .non)⟩,
  ⟨143, (61, h6v61 U) :: (62, h6v62) :: (12, .ptr 4 0) :: h6s p, h6b1 a b c d U W, .alt 4 (.cut 24) (.alt 6 (.cut 23) .non)⟩,
  ⟨217, (59, h6v59) :: (63, h6v63 W) :: (11, .ptr 4 0) :: (12, .ptr 5 0) :: h6s p, h6b2 a b c d U W, .alt 1 (.cut 25) .non⟩,
  ⟨203, (60, h6v60 U) :: (62, h6v62) :: (11, .ptr 4 0) :: (12, .ptr 5 0) :: h6s p, h6b2 a b c d U W, .alt 2 (.cut 26) (.alt 4 (.cut 25) .non)⟩,
  ⟨91, (60, h6v60 U) :: (63, h6v63 W) :: (11, .ptr 4 0) :: h6s p, h6b1 a b c d U W, .alt 2 (.cut 27) (.alt 7 (.cut 25) .non)⟩,
  ⟨79, (61, h6v61 U) :: (62, h6v62) :: (11, .ptr 4 0) :: h6s p, h6b1 a b c d U W, .alt 4 (.cut 27) (.alt 7 (.cut 26) .non)⟩,
  ⟨31, (61, h6v61 U) :: (63, h6v63 W) :: h6s p, h6b0 a b c d U W, .alt 5 (.cut 28) (.alt 6 (.cut 27) (.alt 7 (.cut 24) .non))⟩,
  ⟨219, (60, h6v60 U) :: (63, h6v63 W) :: (11, .ptr 5 0) :: (12, .ptr 4 0) :: h6s p, h6b2 a b c d U W, .alt 2 (.cut 29) .non⟩,
  ⟨207, (61, h6v61 U) :: (62, h6v62) :: (11, .ptr 5 0) :: (12, .ptr 4 0) :: h6s p, h6b2 a b c d U W, .alt 4 (.cut 29) .non⟩,
  ⟨159, (61, h6v61 U) :: (63, h6v63 W) :: (12, .ptr 4 0) :: h6s p, h6b1 a b c d U W, .alt 5 (.cut 30) (.alt 6 (.cut 29) .non)⟩,
  ⟨219, (60, h6v60 U) :: (63, h6v63 W) :: (11, .ptr 4 0) :: (12, .ptr 5 0) :: h6s p, h6b2 a b c d U W, .alt 2 (.cut 31) .non⟩,
  ⟨207, (61, h6v61 U) :: (62, h6v62) :: (11, .ptr 4 0) :: (12, .ptr 5 0) :: h6s p, h6b2 a b c d U W, .alt 4 (.cut 31) .non⟩,
  ⟨95, (61, h6v61 U) :: (63, h6v63 W) :: (11, .ptr 4 0) :: h6s p, h6b1 a b c d U W, .alt 5 (.cut 32) (.alt 7 (.cut 31) .non)⟩,
  ⟨63, (61, h6v61 U) :: (64, h6v64 W) :: h6s p, h6b0 a b c d U W, .alt 6 (.cut 32) (.alt 7 (.cut 30) .non)⟩,
  ⟨223, (61, h6v61 U) :: (63, h6v63 W) :: (11, .ptr 5 0) :: (12, .ptr 4 0) :: h6s p, h6b2 a b c d U W, .alt 5 (.cut 33) .non⟩,
  ⟨191, (61, h6v61 U) :: (64, h6v64 W) :: (12, .ptr 4 0) :: h6s p, h6b1 a b c d U W, .alt 6 (.cut 33) .non⟩,
  ⟨223, (61, h6v61 U) :: (63, h6v63 W) :: (11, .ptr 4 0) :: (12, .ptr 5 0) :: h6s p, h6b2 a b c d U W, .alt 5 (.cut 34) .non⟩,
  ⟨127, (61, h6v61 U) :: (64, h6v64 W) :: (11, .ptr 4 0) :: h6s p, h6b1 a b c d U W, .alt 7 (.cut 34) .non⟩,
  ⟨255, (61, h6v61 U) :: (64, h6v64 W) :: (11, .ptr 5 0) :: (12, .ptr 4 0) :: h6s p, h6b2 a b c d U W, .alt 8 (.cut 35) .non⟩,
  ⟨255, (61, h6v61 U) :: (64, h6v64 W) :: (11, .ptr 4 0) :: (12, .ptr 5 0) :: h6s p, h6b2 a b c d U W, .alt 8 (.cut 36) .non⟩,
  ⟨511, (64, h6v64 W) :: (11, .ptr 5 0) :: (12, .ptr 4 0) :: h6s p, h6b3 a b c d U W, .alt 9 (.fin) .non⟩,
  ⟨511, (64, h6v64 W) :: (11, .ptr 4 0) :: (12, .ptr 5 0) :: h6s p, h6b4 a b c d U W, .alt 9 (.fin) .non⟩]
def h6b5 (a : D2) (b : D2) (c : D2) (d : D2) (U : D2) (W : D2) : List (List PV) := [[.val (.bool (decide (a.1 < 0))), .ws .u64 (d64 a.1.natAbs), .val (.int .i64 a.2), .val (.bool (decide (b.1 < 0))), .ws .u64 (d64 b.1.natAbs), .val (.int .i64 b.2)], [.val (.bool (decide (c.1 < 0))), .ws .u64 (d64 c.1.natAbs), .val (.int .i64 c.2), .val (.bool (decide (d.1 < 0))), .ws .u64 (d64 d.1.natAbs), .val (.int .i64 d.2)], [.val (.bool (decide (U.1 < 0))), .ws .u64 (d64 U.1.natAbs), .val (.int .i64 U.2)], [.val (.bool (decide (W.1 < 0))), .ws .u64 (d64 W.1.natAbs), .val (.int .i64 W.2)], [.val (.bool (decide (U.1 < 0))), .ws .u32 (d32 (U.1).natAbs)], [.val (.bool (decide (W.1 < 0))), .ws .u32 (d32 (W.1).natAbs)]]
theorem reg_h6 {g : List (Nat × List Value)} {a : D2} {b : D2} {c : D2} {d : D2} {U : D2} {W : D2} {p : Int} (f1 : FC Tryz.prog g 31 [NI U.1] (· = ZI U.1)) (f2 : FC Tryz.prog g 31 [NI W.1] (· = ZI W.1)) : Reg (A := Unit) Tryz.prog TT XX g 6 (opsB Tryz.f7.body 6) 269 (h6s p) (h6b0 a b c d U W) (fun _ => [(11, .ptr 4 0), (12, .ptr 5 0), (4, .val (.int .i64 (p))), (5, .ptr 0 0), (6, .ptr 1 0), (7, .ptr 2 0), (8, .ptr 3 0)]) (fun _ => h6b5 a b c d U W) := by
  refine ⟨fun F hG hO s K hs hk => ?_⟩; (conv => arg 6; whnf)
  rw [← hG] at f1 f2
  refine draw_dp (A := Unit) (id := 6) (N := 269) (h6n a b c d U W p) [] (fun _ => [(11, .ptr 4 0), (12, .ptr 5 0), (4, .val (.int .i64 (p))), (5, .ptr 0 0), (6, .ptr 1 0), (7, .ptr 2 0), (8, .ptr 3 0)]) (fun _ => h6b5 a b c d U W) (fun _ => []) tok mixed (by kernel_rfl) (by kernel_rfl) (by simp [hO]) ⟨_, rfl, by kernel_rfl, hs⟩ (by intro ju; simp [hO]) ?_ hk
  repeat' ((try (conv => whnf)); first
  | ((with_reducible refine cg ?_); refine call_eq (f1) (LpL.refl _) rfl ?_)
  | ((with_reducible refine cg ?_); refine call_eq (f2) (LpL.refl _) rfl ?_)
  | exact joinp () [(0, []), (1, []), (2, []), (3, []), (4, []), (5, [])] rfl rfl rfl ⟨_, rfl⟩
  | exact joinp () [(0, []), (1, []), (2, []), (3, []), (5, []), (4, [])] rfl rfl rfl ⟨_, rfl⟩
  | ((with_reducible refine ct ?_); exact cutj rfl ⟨_, rfl⟩ ⟨_, rfl⟩)
  
  | (with_reducible refine BothG.mk ?_ ?_))
def hrv232 : PV := .ptr 6 0
def hrv233 (x5 : D2) : PV := .agg [.val (.bool (decide (x5.1 < 0))), .ws .u64 (d64 x5.1.natAbs)]
def hrv234 (x5 : D2) : PV := .agg [.val (.bool (decide (x5.1 < 0))), .ws .u32 (d32 (x5.1).natAbs)]
def hrv235 (Y : Int) : PV := .agg [.val (.bool (decide (Y < 0))), .ws .u32 (d32 (Y).natAbs)]
def hrv236 (x5 : D2) (Y : Int) : PV := .agg [.val (.bool (decide ((x5.1 * Y) < 0))), .ws .u32 (d32 ((x5.1 * Y)).natAbs)]
def hrv238 : PV := .ptr 6 3
def hrv239 (y5 : D2) : PV := .agg [.val (.bool (decide (y5.1 < 0))), .ws .u64 (d64 y5.1.natAbs)]
def hrv240 (y5 : D2) : PV := .agg [.val (.bool (decide (y5.1 < 0))), .ws .u32 (d32 (y5.1).natAbs)]
def hrv241 (Y : Int) : PV := .agg [.val (.bool (decide (Y < 0))), .ws .u32 (d32 (Y).natAbs)]
def hrv242 (y5 : D2) (Y : Int) : PV := .agg [.val (.bool (decide ((y5.1 * Y) < 0))), .ws .u32 (d32 ((y5.1 * Y)).natAbs)]
def hrs : List (Nat × PV) := [(7, .ptr 2 0), (8, .ptr 3 0), (11, .ptr 4 0), (12, .ptr 5 0), (17, .ptr 6 0)]
def hrb0 (a : D2) (b : D2) (c : D2) (d : D2) (U : D2) (W : D2) (x5 : D2) (y5 : D2) (X : Int) (Y : Int) : List (List PV) := [[.val (.bool (decide (a.1 < 0))), .ws .u64 (d64 a.1.natAbs), .val (.int .i64 a.2), .val (.bool (decide (b.1 < 0))), .ws .u64 (d64 b.1.natAbs), .val (.int .i64 b.2)], [.val (.bool (decide (c.1 < 0))), .ws .u64 (d64 c.1.natAbs), .val (.int .i64 c.2), .val (.bool (decide (d.1 < 0))), .ws .u64 (d64 d.1.natAbs), .val (.int .i64 d.2)], [.val (.bool (decide (U.1 < 0))), .ws .u64 (d64 U.1.natAbs), .val (.int .i64 U.2)], [.any, .ws .u64 (d64 W.1.natAbs), .val (.int .i64 W.2)], [.val (.bool (decide (X < 0))), .ws .u32 (d32 (X).natAbs)], [.val (.bool (decide (Y < 0))), .ws .u32 (d32 (Y).natAbs)], [.val (.bool (decide (x5.1 < 0))), .ws .u64 (d64 x5.1.natAbs), .val (.int .i64 x5.2), .val (.bool (decide (y5.1 < 0))), .ws .u64 (d64 y5.1.natAbs), .val (.int .i64 y5.2)]]
def hrb1 (a : D2) (b : D2) (c : D2) (d : D2) (U : D2) (W : D2) (x5 : D2) (y5 : D2) (X : Int) (Y : Int) : List (List PV) := [[.val (.bool (decide (a.1 < 0))), .ws .u64 (d64 a.1.natAbs), .val (.int .i64 a.2), .val (.bool (decide (b.1 < 0))), .ws .u64 (d64 b.1.natAbs), .val (.int .i64 b.2)], [.val (.bool (decide (c.1 < 0))), .ws .u64 (d64 c.1.natAbs), .val (.int .i64 c.2), .val (.bool (decide (d.1 < 0))), .ws .u64 (d64 d.1.natAbs), .val (.int .i64 d.2)], [.val (.bool (decide (U.1 < 0))), .ws .u64 (d64 U.1.natAbs), .val (.int .i64 U.2)], [.any, .ws .u64 (d64 W.1.natAbs), .val (.int .i64 W.2)], [.val (.bool (decide (X < 0))), .ws .u32 (d32 (X).natAbs)], [.val (.bool (decide (Y < 0))), .ws .u32 (d32 (Y).natAbs)], [.val (.bool (decide (x5.1 < 0))), .ws .u64 (d64 x5.1.natAbs), .val (.int .i64 x5.2), .val (.bool (decide (y5.1 < 0))), .ws .u64 (d64 y5.1.natAbs), .val (.int .i64 y5.2)], [.val (.bool false), .nil]]
def hrb2 (a : D2) (b : D2) (c : D2) (d : D2) (U : D2) (W : D2) (x5 : D2) (y5 : D2) (X : Int) (Y : Int) : List (List PV) := [[.val (.bool (decide (a.1 < 0))), .ws .u64 (d64 a.1.natAbs), .val (.int .i64 a.2), .val (.bool (decide (b.1 < 0))), .ws .u64 (d64 b.1.natAbs), .val (.int .i64 b.2)], [.val (.bool (decide (c.1 < 0))), .ws .u64 (d64 c.1.natAbs), .val (.int .i64 c.2), .val (.bool (decide (d.1 < 0))), .ws .u64 (d64 d.1.natAbs), .val (.int .i64 d.2)], [.val (.bool (decide (U.1 < 0))), .ws .u64 (d64 U.1.natAbs), .val (.int .i64 U.2)], [.any, .ws .u64 (d64 W.1.natAbs), .val (.int .i64 W.2)], [.val (.bool (decide (X < 0))), .ws .u32 (d32 (X).natAbs)], [.val (.bool (decide (Y < 0))), .ws .u32 (d32 (Y).natAbs)], [.val (.bool (decide (x5.1 < 0))), .ws .u64 (d64 x5.1.natAbs), .val (.int .i64 x5.2), .val (.bool (decide (y5.1 < 0))), .ws .u64 (d64 y5.1.natAbs), .val (.int .i64 y5.2)], [.val (.bool false), .nil], [.val (.bool false), .nil]]
def hrb3 (a : D2) (b : D2) (c : D2) (d : D2) (U : D2) (W : D2) (x5 : D2) (y5 : D2) (X : Int) (Y : Int) : List (List PV) := [[.val (.bool (decide (a.1 < 0))), .ws .u64 (d64 a.1.natAbs), .val (.int .i64 a.2), .val (.bool (decide (b.1 < 0))), .ws .u64 (d64 b.1.natAbs), .val (.int .i64 b.2)], [.val (.bool (decide (c.1 < 0))), .ws .u64 (d64 c.1.natAbs), .val (.int .i64 c.2), .val (.bool (decide (d.1 < 0))), .ws .u64 (d64 d.1.natAbs), .val (.int .i64 d.2)], [.val (.bool (decide (U.1 < 0))), .ws .u64 (d64 U.1.natAbs), .val (.int .i64 U.2)], [.any, .ws .u64 (d64 W.1.natAbs), .val (.int .i64 W.2)], [.val (.bool (decide (X < 0))), .ws .u32 (d32 (X).natAbs)], [.val (.bool (decide (Y < 0))), .ws .u32 (d32 (Y).natAbs)], [.val (.bool (decide (x5.1 < 0))), .ws .u64 (d64 x5.1.natAbs), .val (.int .i64 x5.2), .val (.bool (decide (y5.1 < 0))), .ws .u64 (d64 y5.1.natAbs), .val (.int .i64 y5.2)], [.val (.bool false), .nil], [.val (.bool (decide ((x5.1 * Y) < 0))), .ws .u32 (d32 ((x5.1 * Y)).natAbs)]]
def hrb4 (a : D2) (b : D2) (c : D2) (d : D2) (U : D2) (W : D2) (x5 : D2) (y5 : D2) (X : Int) (Y : Int) : List (List PV) := [[.val (.bool (decide (a.1 < 0))), .ws .u64 (d64 a.1.natAbs), .val (.int .i64 a.2), .val (.bool (decide (b.1 < 0))), .ws .u64 (d64 b.1.natAbs), .val (.int .i64 b.2)], [.val (.bool (decide (c.1 < 0))), .ws .u64 (d64 c.1.natAbs), .val (.int .i64 c.2), .val (.bool (decide (d.1 < 0))), .ws .u64 (d64 d.1.natAbs), .val (.int .i64 d.2)], [.val (.bool (decide (U.1 < 0))), .ws .u64 (d64 U.1.natAbs), .val (.int .i64 U.2)], [.any, .ws .u64 (d64 W.1.natAbs), .val (.int .i64 W.2)], [.val (.bool (decide (X < 0))), .ws .u32 (d32 (X).natAbs)], [.val (.bool (decide (Y < 0))), .ws .u32 (d32 (Y).natAbs)], [.val (.bool (decide (x5.1 < 0))), .ws .u64 (d64 x5.1.natAbs), .val (.int .i64 x5.2), .val (.bool (decide (y5.1 < 0))), .ws .u64 (d64 y5.1.natAbs), .val (.int .i64 y5.2)], [.val (.bool (decide ((x5.1 * Y) < 0))), .ws .u32 (d32 ((x5.1 * Y)).natAbs)], [.val (.bool false), .nil]]
def hrn (a : D2) (b : D2) (c : D2) (d : D2) (U : D2) (W : D2) (x5 : D2) (y5 : D2) (X : Int) (Y : Int) : List Nd := [⟨0, hrs, hrb0 a b c d U W x5 y5 X Y, .take 0 (.take 1 (.take 6 (.take 7 (.alt 2 (.cut 6) (.alt 4 (.cut 5) (.alt 8 (.cut 4) (.alt 10 (.cut 3) (.alt 12 (.cut 2) (.alt 13 (.cut 1) .non)))))))))⟩,
  ⟨8387, (232, hrv232) :: (238, hrv238) :: (20, .ptr 7 0) :: hrs, hrb1 a b c d U W x5 y5 X Y, .alt 2 (.cut 11) (.alt 4 (.cut 10) (.alt 8 (.cut 9) (.alt 10 (.cut 8) (.alt 12 (.cut 7) .non))))⟩,
  ⟨4291, (232, hrv232) :: (238, hrv238) :: (19, .ptr 7 0) :: hrs, hrb1 a b c d U W x5 y5 X Y, .alt 2 (.cut 16) (.alt 4 (.cut 15) (.alt 8 (.cut 14) (.alt 10 (.cut 13) (.alt 13 (.cut 12) .non))))⟩,
  ⟨1219, (232, hrv232) :: (238, hrv238) :: (241, hrv241 Y) :: hrs, hrb0 a b c d U W x5 y5 X Y, .alt 2 (.cut 19) (.alt 4 (.cut 18) (.alt 8 (.cut 17) (.alt 12 (.cut 13) (.alt 13 (.cut 8) .non))))⟩,
  ⟨451, (232, hrv232) :: (239, hrv239 y5) :: hrs, hrb0 a b c d U W x5 y5 X Y, .alt 2 (.cut 21) (.alt 4 (.cut 20) (.alt 10 (.cut 17) (.alt 12 (.cut 14) (.alt 13 (.cut 9) .non))))⟩,
  ⟨211, (232, hrv232) :: (235, hrv235 Y) :: (238, hrv238) :: hrs, hrb0 a b c d U W x5 y5 X Y, .alt 2 (.cut 22) (.alt 8 (.cut 20) (.alt 10 (.cut 18) (.alt 12 (.cut 15) (.alt 13 (.cut 10) .non))))⟩,
  ⟨199, (233, hrv233 x5) :: (238, hrv238) :: hrs, hrb0 a b c d U W x5 y5 X Y, .alt 3 (.cut 23) (.alt 4 (.cut 22) (.alt 8 (.cut 21) (.alt 10 (.cut 19) (.alt 12 (.cut 16) (.alt 13 (.cut 11) .non)))))⟩,
  ⟨12483, (232, hrv232) :: (238, hrv238) :: (19, .ptr 8 0) :: (20, .ptr 7 0) :: hrs, hrb2 a b c d U W x5 y5 X Y, .alt 2 (.cut 27) (.alt 4 (.cut 26) (.alt 8 (.cut 25) (.alt 10 (.cut 24) .non)))⟩,
  ⟨9411, (232, hrv232) :: (238, hrv238) :: (241, hrv241 Y) :: (20, .ptr 7 0) :: hrs, hrb1 a b c d U W x5 y5 X Y, .alt 2 (.cut 30) (.alt 4 (.cut 29) (.alt 8 (.cut 28) (.alt 12 (.cut 24) .non)))⟩,
  ⟨8643, (232, hrv232) :: (239, hrv239 y5) :: (20, .ptr 7 0) :: hrs, hrb1 a b c d U W x5 y5 X Y, .alt 2 (.cut 32) (.alt 4 (.cut 31) (.alt 10 (.cut 28) (.alt 12 (.cut 25) .non)))⟩,
  ⟨8403, (232, hrv232) :: (235, hrv235 Y) :: (238, hrv238) :: (20, .ptr 7 0) :: hrs, hrb1 a b c d U W x5 y5 X Y, .alt 2 (.cut 33) (.alt 8 (.cut 31) (.alt 10 (.cut 29) (.alt 12 (.cut 26) .non)))⟩,
  ⟨8391, (233, hrv233 x5) :: (238, hrv238) :: (20, .ptr 7 0) :: hrs, hrb1 a b c d U W x5 y5 X Y, .alt 3 (.cut 34) (.alt 4 (.cut 33) (.alt 8 (.cut 32) (.alt 10 (.cut 30) (.alt 12 (.cut 27) .non))))⟩,
  ⟨12483, (232, hrv232) :: (238, hrv238) :: (19, .ptr 7 0) :: (20, .ptr 8 0) :: hrs, hrb2 a b c d U W x5 y5 X Y, .alt 2 (.cut 38) (.alt 4 (.cut 37) (.alt 8 (.cut 36) (.alt 10 (.cut 35) .non)))⟩,
  ⟨5315, (232, hrv232) :: (238, hrv238) :: (241, hrv241 Y) :: (19, .ptr 7 0) :: hrs, hrb1 a b c d U W x5 y5 X Y, .alt 2 (.cut 41) (.alt 4 (.cut 40) (.alt 8 (.cut 39) (.alt 13 (.cut 35) .non)))⟩,
  ⟨4547, (232, hrv232) :: (239, hrv239 y5) :: (19, .ptr 7 0) :: hrs, hrb1 a b c d U W x5 y5 X Y, .alt 2 (.cut 43) (.alt 4 (.cut 42) (.alt 10 (.cut 39) (.alt 13 (.cut 36) .non)))⟩,
  ⟨4307, (232, hrv232) :: (235, hrv235 Y) :: (238, hrv238) :: (19, .ptr 7 0) :: hrs, hrb1 a b c d U W x5 y5 X Y, .alt 2 (.cut 44) (.alt 8 (.cut 42) (.alt 10 (.cut 40) (.alt 13 (.cut 37) .non)))⟩,
  ⟨4295, (233, hrv233 x5) :: (238, hrv238) :: (19, .ptr 7 0) :: hrs, hrb1 a b c d U W x5 y5 X Y, .alt 3 (.cut 45) (.alt 4 (.cut 44) (.alt 8 (.cut 43) (.alt 10 (.cut 41) (.alt 13 (.cut 38) .non))))⟩,
  ⟨1475, (232, hrv232) :: (239, hrv239 y5) :: (241, hrv241 Y) :: hrs, hrb0 a b c d U W x5 y5 X Y, .alt 2 (.cut 47) (.alt 4 (.cut 46) (.alt 12 (.cut 39) (.alt 13 (.cut 28) .non)))⟩,
  ⟨1235, (232, hrv232) :: (235, hrv235 Y) :: (238, hrv238) :: (241, hrv241 Y) :: hrs, hrb0 a b c d U W x5 y5 X Y, .alt 2 (.cut 48) (.alt 8 (.cut 46) (.alt 12 (.cut 40) (.alt 13 (.cut 29) .non)))⟩,
  ⟨1223, (233, hrv233 x5) :: (238, hrv238) :: (241, hrv241 Y) :: hrs, hrb0 a b c d U W x5 y5 X Y, .alt 3 (.cut 49) (.alt 4 (.cut 48) (.alt 8 (.cut 47) (.alt 12 (.cut 41) (.alt 13 (.cut 30) .non))))⟩,
  ⟨467, (232, hrv232) :: (235, hrv235 Y) :: (239, hrv239 y5) :: hrs, hrb0 a b c d U W x5 y5 X Y, .alt 2 (.cut 50) (.alt 10 (.cut 46) (.alt 12 (.cut 42) (.alt 13 (.cut 31) .non)))⟩,
  ⟨455, (233, hrv233 x5) :: (239, hrv239 y5) :: hrs, hrb0 a b c d U W x5 y5 X Y, .alt 3 (.cut 51) (.alt 4 (.cut 50) (.alt 10 (.cut 47) (.alt 12 (.cut 43) (.alt 13 (.cut 32) .non))))⟩,
  ⟨215, (233, hrv233 x5) :: (235, hrv235 Y) :: (238, hrv238) :: hrs, hrb0 a b c d U W x5 y5 X Y, .alt 3 (.cut 52) (.alt 8 (.cut 50) (.alt 10 (.cut 48) (.alt 12 (.cut 44) (.alt 13 (.cut 33) .non))))⟩,
  ⟨207, (234, hrv234 x5) :: (238, hrv238) :: hrs, hrb0 a b c d U W x5 y5 X Y, .alt 4 (.cut 52) (.alt 8 (.cut 51) (.alt 10 (.cut 49) (.alt 12 (.cut 45) (.alt 13 (.cut 34) .non))))⟩,
  ⟨13507, (232, hrv232) :: (238, hrv238) :: (241, hrv241 Y) :: (19, .ptr 8 0) :: (20, .ptr 7 0) :: hrs, hrb2 a b c d U W x5 y5 X Y, .alt 2 (.cut 55) (.alt 4 (.cut 54) (.alt 8 (.cut 53) .non))⟩,
  ⟨12739, (232, hrv232) :: (239, hrv239 y5) :: (19, .ptr 8 0) :: (20, .ptr 7 0) :: hrs, hrb2 a b c d U W x5 y5 X Y, .alt 2 (.cut 57) (.alt 4 (.cut 56) (.alt 10 (.cut 53) .non))⟩,
  ⟨12499, (232, hrv232) :: (235, hrv235 Y) :: (238, hrv238) :: (19, .ptr 8 0) :: (20, .ptr 7 0) :: hrs, hrb2 a b c d U W x5 y5 X Y, .alt 2 (.cut 58) (.alt 8 (.cut 56) (.alt 10 (.cut 54) .non))⟩,
  ⟨12487, (233, hrv233 x5) :: (238, hrv238) :: (19, .ptr 8 0) :: (20, .ptr 7 0) :: hrs, hrb2 a b c d U W x5 y5 X Y, .alt 3 (.cut 59) (.alt 4 (.cut 58) (.alt 8 (.cut 57) (.alt 10 (.cut 55) .non)))⟩,
  ⟨9667, (232, hrv232) :: (239, hrv239 y5) :: (241, hrv241 Y) :: (20, .ptr 7 0) :: hrs, hrb1 a b c d U W x5 y5 X Y, .alt 2 (.cut 61) (.alt 4 (.cut 60) (.alt 12 (.cut 53) .non))⟩,
  ⟨9427, (232, hrv232) :: (235, hrv235 Y) :: (238, hrv238) :: (241, hrv241 Y) :: (20, .ptr 7 0) :: hrs, hrb1 a b c d U W x5 y5 X Y, .alt 2 (.cut 62) (.alt 8 (.cut 60) (.alt 12 (.cut 54) .non))⟩,
  ⟨9415, (233, hrv233 x5) :: (238, hrv238) :: (241, hrv241 Y) :: (20, .ptr 7 0) :: hrs, hrb1 a b c d U W x5 y5 X Y, .alt 3 (.cut 63) (.alt 4 (.cut 62) (.alt 8 (.cut 61) (.alt 12 (.cut 55) .non)))⟩,
  ⟨8659, (232, hrv232) :: (235, hrv235 Y) :: (239, hrv239 y5) :: (20, .ptr 7 0) :: hrs, hrb1 a b c d U W x5 y5 X Y, .alt 2 (.cut 64) (.alt 10 (.cut 60) (.alt 12 (.cut 56) .non))⟩,
  ⟨8647, (233, hrv233 x5) :: (239, hrv239 y5) :: (20, .ptr 7 0) :: hrs, hrb1 a b c d U W x5 y5 X Y, .alt 3 (.cut 65) (.alt 4 (.cut 64) (.alt 10 (.cut 61) (.alt 12 (.cut 57) .non)))⟩,
  ⟨8407, (233, hrv233 x5) :: (235, hrv235 Y) :: (238, hrv238) :: (20, .ptr 7 0) :: hrs, hrb1 a b c d U W x5 y5 X Y, .alt 3 (.cut 66) (.alt 8 (.cut 64) (.alt 10 (.cut 62) (.alt 12 (.cut 58) .non)))⟩,
  ⟨8399, (234, hrv234 x5) :: (238, hrv238) :: (20, .ptr 7 0) :: hrs, hrb1 a b c d U W x5 y5 X Y, .alt 4 (.cut 66) (.alt 8 (.cut 65) (.alt 10 (.cut 63) (.alt 12 (.cut 59) .non)))⟩,
  ⟨13507, (232, hrv232) :: (238, hrv238) :: (241, hrv241 Y) :: (19, .ptr 7 0) :: (20, .ptr 8 0) :: hrs, hrb2 a b c d U W x5 y5 X Y, .alt 2 (.cut 69) (.alt 4 (.cut 68) (.alt 8 (.cut 67) .non))⟩,
  ⟨12739, (232, hrv232) :: (239, hrv239 y5) :: (19, .ptr 7 0) :: (20, .ptr 8 0) :: hrs, hrb2 a b c d U W x5 y5 X Y, .alt 2 (.cut 71) (.alt 4 (.cut 70) (.alt 10 (.cut 67) .non))⟩,
  ⟨12499, (232, hrv232) :: (235, hrv235 Y) :: (238, hrv238) :: (19, .ptr 7 0) :: (20, .ptr 8 0) :: hrs, hrb2 a b c d U W x5 y5 X Y, .alt 2 (.cut 72) (.alt 8 (.cut 70) (.alt 10 (.cut 68) .non))⟩,
  ⟨12487, (233, hrv233 x5) :: (238, hrv238) :: (19, .ptr 7 0) :: (20, .ptr 8 0) :: hrs, hrb2 a b c d U W x5 y5 X Y, .alt 3 (.cut 73) (.alt 4 (.cut 72) (.alt 8 (.cut 71) (.alt 10 (.cut 69) .non)))⟩,
  ⟨5571, (232, hrv232) :: (239, hrv239 y5) :: (241, hrv241 Y) :: (19, .ptr 7 0) :: hrs, hrb1 a b c d U W x5 y5 X Y, .alt 2 (.cut 75) (.alt 4 (.cut 74) (.alt 13 (.cut 67) .non))⟩,
  ⟨5331, (232, hrv232) :: (235, hrv235 Y) :: (238, hrv238) :: (241, hrv241 Y) :: (19, .ptr 7 0) :: hrs, hrb1 a b c d U W x5 y5 X Y, .alt 2 (.cut 76) (.alt 8 (.cut 74) (.alt 13 (.cut 68) .non))⟩,
  ⟨5319, (233, hrv233 x5) :: (238, hrv238) :: (241, hrv241 Y) :: (19, .ptr 7 0) :: hrs, hrb1 a b c d U W x5 y5 X Y, .alt 3 (.cut 77) (.alt 4 (.cut 76) (.alt 8 (.cut 75) (.alt 13 (.cut 69) .non)))⟩,
  ⟨4563, (232, hrv232) :: (235, hrv235 Y) :: (239, hrv239 y5) :: (19, .ptr 7 0) :: hrs, hrb1 a b c d U W x5 y5 X Y, .alt 2 (.cut 78) (.alt 10 (.cut 74) (.alt 13 (.cut 70) .non))⟩,
  ⟨4551, (233, hrv233 x5) :: (239, hrv239 y5) :: (19, .ptr 7 0) :: hrs, hrb1 a b c d U W x5 y5 X Y, .alt 3 (.cut 79) (.alt 4 (.cut 78) (.alt 10 (.cut 75) (.alt 13 (.cut 71) .non)))⟩,
  ⟨4311, (233, hrv233 x5) :: (235, hrv235 Y) :: (238, hrv238) :: (19, .ptr 7 0) :: hrs, hrb1 a b c d U W x5 y5 X Y, .alt 3 (.cut 80) (.alt 8 (.cut 78) (.alt 10 (.cut 76) (.alt 13 (.cut 72) .non)))⟩,
  ⟨4303, (234, hrv234 x5) :: (238, hrv238) :: (19, .ptr 7 0) :: hrs, hrb1 a b c d U W x5 y5 X Y, .alt 4 (.cut 80) (.alt 8 (.cut 79) (.alt 10 (.cut 77) (.alt 13 (.cut 73) .non)))⟩,
  ⟨1491, (232, hrv232) :: (235, hrv235 Y) :: (239, hrv239 y5) :: (241, hrv241 Y) :: hrs, hrb0 a b c d U W x5 y5 X Y, .alt 2 (.cut 81) (.alt 12 (.cut 74) (.alt 13 (.cut 60) .non))⟩,
  ⟨1479, (233, hrv233 x5) :: (239, hrv239 y5) :: (241, hrv241 Y) :: hrs, hrb0 a b c d U W x5 y5 X Y, .alt 3 (.cut 82) (.alt 4 (.cut 81) (.alt 12 (.cut 75) (.alt 13 (.cut 61) .non)))⟩,
  ⟨1239, (233, hrv233 x5) :: (235, hrv235 Y) :: (238, hrv238) :: (241, hrv241 Y) :: hrs, hrb0 a b c d U W x5 y5 X Y, .alt 3 (.cut 83) (.alt 8 (.cut 81) (.alt 12 (.cut 76) (.alt 13 (.cut 62) .non)))⟩,
  ⟨1231, (234, hrv234 x5) :: (238, hrv238) :: (241, hrv241 Y) :: hrs, hrb0 a b c d U W x5 y5 X Y, .alt 4 (.cut 83) (.alt 8 (.cut 82) (.alt 12 (.cut 77) (.alt 13 (.cut 63) .non)))⟩,
  ⟨471, (233, hrv233 x5) :: (235, hrv235 Y) :: (239, hrv239 y5) :: hrs, hrb0 a b c d U W x5 y5 X Y, .alt 3 (.cut 84) (.alt 10 (.cut 81) (.alt 12 (.cut 78) (.alt 13 (.cut 64) .non)))⟩,
  ⟨463, (234, hrv234 x5) :: (239, hrv239 y5) :: hrs, hrb0 a b c d U W x5 y5 X Y, .alt 4 (.cut 84) (.alt 10 (.cut 82) (.alt 12 (.cut 79) (.alt 13 (.cut 65) .non)))⟩,
  ⟨223, (234, hrv234 x5) :: (235, hrv235 Y) :: (238, hrv238) :: hrs, hrb0 a b c d U W x5 y5 X Y, .alt 5 (.cut 85) (.alt 8 (.cut 84) (.alt 10 (.cut 83) (.alt 12 (.cut 80) (.alt 13 (.cut 66) .non))))⟩,
  ⟨13763, (232, hrv232) :: (239, hrv239 y5) :: (241, hrv241 Y) :: (19, .ptr 8 0) :: (20, .ptr 7 0) :: hrs, hrb2 a b c d U W x5 y5 X Y, .alt 2 (.cut 87) (.alt 4 (.cut 86) .non)⟩,
  ⟨13523, (232, hrv232) :: (235, hrv235 Y) :: (238, hrv238) :: (241, hrv241 Y) :: (19, .ptr 8 0) :: (20, .ptr 7 0) :: hrs, hrb2 a b c d U W x5 y5 X Y, .alt 2 (.cut 88) (.alt 8 (.cut 86) .non)⟩,
  ⟨13511, (233, hrv233 x5) :: (238, hrv238) :: (241, hrv241 Y) :: (19, .ptr 8 0) :: (20, .ptr 7 0) :: hrs, hrb2 a b c d U W x5 y5 X Y, .alt 3 (.cut 89) (.alt 4 (.cut 88) (.alt 8 (.cut 87) .non))⟩,
  ⟨12755, (232, hrv232) :: (235, hrv235 Y) :: (239, hrv239 y5) :: (19, .ptr 8 0) :: (20, .ptr 7 0) :: hrs, hrb2 a b c d U W x5 y5 X Y, .alt 2 (.cut 90) (.alt 10 (.cut 86) .non)⟩,
  ⟨12743, (233, hrv233 x5) :: (239, hrv239 y5) :: (19, .ptr 8 0) :: (20, .ptr 7 0) :: hrs, hrb2 a b c d U W x5 y5 X Y, .alt 3 (.cut 91) (.alt 4 (.cut 90) (.alt 10 (.cut 87) .non))⟩,
  ⟨12503, (233, hrv233 x5) :: (235, hrv235 Y) :: (238, hrv238) :: (19, .ptr 8 0) :: (20, .ptr 7 0) :: hrs, hrb2 a b c d U W x5 y5 X Y, .alt 3 (.cut 92) (.alt 8 (.cut 90) (.alt 10 (.cut 88) .non))⟩,
  ⟨12495, (234, hrv234 x5) :: (238, hrv238) :: (19, .ptr 8 0) :: (20, .ptr 7 0) :: hrs, hrb2 a b c d U W x5 y5 X Y, .alt 4 (.cut 92) (.alt 8 (.cut 91) (.alt 10 (.cut 89) .non))⟩,
  ⟨9683, (232, hrv232) :: (235, hrv235 Y) :: (239, hrv239 y5) :: (241, hrv241 Y) :: (20, .ptr 7 0) :: hrs, hrb1 a b c d U W x5 y5 X Y, .alt 2 (.cut 93) (.alt 12 (.cut 86) .non)⟩,
  ⟨9671, (233, hrv233 x5) :: (239, hrv239 y5) :: (241, hrv241 Y) :: (20, .ptr 7 0) :: hrs, hrb1 a b c d U W x5 y5 X Y, .alt 3 (.cut 94) (.alt 4 (.cut 93) (.alt 12 (.cut 87) .non))⟩,
  ⟨9431, (233, hrv233 x5) :: (235, hrv235 Y) :: (238, hrv238) :: (241, hrv241 Y) :: (20, .ptr 7 0) :: hrs, hrb1 a b c d U W x5 y5 X Y, .alt 3 (.cut 95) (.alt 8 (.cut 93) (.alt 12 (.cut 88) .non))⟩,
  ⟨9423, (234, hrv234 x5) :: (238, hrv238) :: (241, hrv241 Y) :: (20, .ptr 7 0) :: hrs, hrb1 a b c d U W x5 y5 X Y, .alt 4 (.cut 95) (.alt 8 (.cut 94) (.alt 12 (.cut 89) .non))⟩,
  ⟨8663, (233, hrv233 x5) :: (235, hrv235 Y) :: (239, hrv239 y5) :: (20, .ptr 7 0) :: hrs, hrb1 a b c d U W x5 y5 X Y, .alt 3 (.cut 96) (.alt 10 (.cut 93) (.alt 12 (.cut 90) .non))⟩,
  ⟨8655, (234, hrv234 x5) :: (239, hrv239 y5) :: (20, .ptr 7 0) :: hrs, hrb1 a b c d U W x5 y5 X Y, .alt 4 (.cut 96) (.alt 10 (.cut 94) (.alt 12 (.cut 91) .non))⟩,
  ⟨8415, (234, hrv234 x5) :: (235, hrv235 Y) :: (238, hrv238) :: (20, .ptr 7 0) :: hrs, hrb1 a b c d U W x5 y5 X Y, .alt 5 (.cut 97) (.alt 8 (.cut 96) (.alt 10 (.cut 95) (.alt 12 (.cut 92) .non)))⟩,
  ⟨13763, (232, hrv232) :: (239, hrv239 y5) :: (241, hrv241 Y) :: (19, .ptr 7 0) :: (20, .ptr 8 0) :: hrs, hrb2 a b c d U W x5 y5 X Y, .alt 2 (.cut 99) (.alt 4 (.cut 98) .non)⟩,
  ⟨13523, (232, hrv232) :: (235, hrv235 Y) :: (238, hrv238) :: (241, hrv241 Y) :: (19, .ptr 7 0) :: (20, .ptr 8 0) :: hrs, hrb2 a b c d U W x5 y5 X Y, .alt 2 (.cut 100) (.alt 8 (.cut 98) .non)⟩,
  ⟨13511, (233, hrv233 x5) :: (238, hrv238) :: (241, hrv241 Y) :: (19, .ptr 7 0) :: (20, .ptr 8 0) :: hrs, hrb2 a b c d U W x5 y5 X Y, .alt 3 (.cut 101) (.alt 4 (.cut 100) (.alt 8 (.cut 99) .non))⟩,
  ⟨12755, (232, hrv232) :: (235, hrv235 Y) :: (239, hrv239 y5) :: (19, .ptr 7 0) :: (20, .ptr 8 0) :: hrs, hrb2 a b c d U W x5 y5 X Y, .alt 2 (.cut 102) (.alt 10 (.cut 98) .non)⟩,
  ⟨12743, (233, hrv233 x5) :: (239, hrv239 y5) :: (19, .ptr 7 0) :: (20, .ptr 8 0) :: hrs, hrb2 a b c d U W x5 y5 X Y, .alt 3 (.cut 103) (.alt 4 (.cut 102) (.alt 10 (.cut 99) .non))⟩,
  ⟨12503, (233, hrv233 x5) :: (235, hrv235 Y) :: (238, hrv238) :: (19, .ptr 7 0) :: (20, .ptr 8 0) :: hrs, hrb2 a b c d U W x5 y5 X Y, .alt 3 (.cut 104) (.alt 8 (.cut 102) (.alt 10 (.cut 100) .non))⟩,
  ⟨12495, (234, hrv234 x5) :: (238, hrv238) :: (19, .ptr 7 0) :: (20, .ptr 8 0) :: hrs, hrb2 a b c d U W x5 y5 X Y, .alt 4 (.cut 104) (.alt 8 (.cut 103) (.alt 10 (.cut 101) .non))⟩,
  ⟨5587, (232, hrv232) :: (235, hrv235 Y) :: (239, hrv239 y5) :: (241, hrv241 Y) :: (19, .ptr 7 0) :: hrs, hrb1 a b c d U W x5 y5 X Y, .alt 2 (.cut 105) (.alt 13 (.cut 98) .non)⟩,
  ⟨5575, (233, hrv233 x5) :: (239, hrv239 y5) :: (241, hrv241 Y) :: (19, .ptr 7 0) :: hrs, hrb1 a b c d U W x5 y5 X Y, .alt 3 (.cut 106) (.alt 4 (.cut 105) (.alt 13 (.cut 99) .non))⟩,
  ⟨5335, (233, hrv233 x5) :: (235, hrv235 Y) :: (238, hrv238) :: (241, hrv241 Y) :: (19, .ptr 7 0) :: hrs, hrb1 a b c d U W x5 y5 X Y, .alt 3 (.cut 107) (.alt 8 (.cut 105) (.alt 13 (.cut 100) .non))⟩,
  ⟨5327, (234, hrv234 x5) :: (238, hrv238) :: (241, hrv241 Y) :: (19, .ptr 7 0) :: hrs, hrb1 a b c d U W x5 y5 X Y, .alt 4 (.cut 107) (.alt 8 (.cut 106) (.alt 13 (.cut 101) .non))⟩,
  ⟨4567, (233, hrv233 x5) :: (235, hrv235 Y) :: (239, hrv239 y5) :: (19, .ptr 7 0) :: hrs, hrb1 a b c d U W x5 y5 X Y, .alt 3 (.cut 108) (.alt 10 (.cut 105) (.alt 13 (.cut 102) .non))⟩,
  ⟨4559, (234, hrv234 x5) :: (239, hrv239 y5) :: (19, .ptr 7 0) :: hrs, hrb1 a b c d U W x5 y5 X Y, .alt 4 (.cut 108) (.alt 10 (.cut 106) (.alt 13 (.cut 103) .non))⟩,
  ⟨4319, (234, hrv234 x5) :: (235, hrv235 Y) :: (238, hrv238) :: (19, .ptr 7 0) :: hrs, hrb1 a b c d U W x5 y5 X Y, .alt 5 (.cut 109) (.alt 8 (.cut 108) (.alt 10 (.cut 107) (.alt 13 (.cut 104) .non)))⟩,
  ⟨1495, (233, hrv233 x5) :: (235, hrv235 Y) :: (239, hrv239 y5) :: (241, hrv241 Y) :: hrs, hrb0 a b c d U W x5 y5 X Y, .alt 3 (.cut 110) (.alt 12 (.cut 105) (.alt 13 (.cut 93) .non))⟩,
  ⟨1487, (234, hrv234 x5) :: (239, hrv239 y5) :: (241, hrv241 Y) :: hrs, hrb0 a b c d U W x5 y5 X Y, .alt 4 (.cut 110) (.alt 12 (.cut 106) (.alt 13 (.cut 94) .non))⟩,
  ⟨1247, (234, hrv234 x5) :: (235, hrv235 Y) :: (238, hrv238) :: (241, hrv241 Y) :: hrs, hrb0 a b c d U W x5 y5 X Y, .alt 5 (.cut 111) (.alt 8 (.cut 110) (.alt 12 (.cut 107) (.alt 13 (.cut 95) .non)))⟩,
  ⟨479, (234, hrv234 x5) :: (235, hrv235 Y) :: (239, hrv239 y5) :: hrs, hrb0 a b c d U W x5 y5 X Y, .alt 5 (.cut 112) (.alt 10 (.cut 110) (.alt 12 (.cut 108) (.alt 13 (.cut 96) .non)))⟩,
  ⟨255, (236, hrv236 x5 Y) :: (238, hrv238) :: hrs, hrb0 a b c d U W x5 y5 X Y, .alt 8 (.cut 112) (.alt 10 (.cut 111) (.alt 12 (.cut 109) (.alt 13 (.cut 97) .non)))⟩,
  ⟨13779, (232, hrv232) :: (235, hrv235 Y) :: (239, hrv239 y5) :: (241, hrv241 Y) :: (19, .ptr 8 0) :: (20, .ptr 7 0) :: hrs, hrb2 a b c d U W x5 y5 X Y, .alt 2 (.cut 113) .non⟩,
  ⟨13767, (233, hrv233 x5) :: (239, hrv239 y5) :: (241, hrv241 Y) :: (19, .ptr 8 0) :: (20, .ptr 7 0) :: hrs, hrb2 a b c d U W x5 y5 X Y, .alt 3 (.cut 114) (.alt 4 (.cut 113) .non)⟩,
  ⟨13527, (233, hrv233 x5) :: (235, hrv235 Y) :: (238, hrv238) :: (241, hrv241 Y) :: (19, .ptr 8 0) :: (20, .ptr 7 0) :: hrs, hrb2 a b c d U W x5 y5 X Y, .alt 3 (.cut 115) (.alt 8 (.cut 113) .non)⟩,
  ⟨13519, (234, hrv234 x5) :: (238, hrv238) :: (241, hrv241 Y) :: (19, .ptr 8 0) :: (20, .ptr 7 0) :: hrs, hrb2 a b c d U W x5 y5 X Y, .alt 4 (.cut 115) (.alt 8 (.cut 114) .non)⟩,
  ⟨12759, (233, hrv233 x5) :: (235, hrv235 Y) :: (239, hrv239 y5) :: (19, .ptr 8 0) :: (20, .ptr 7 0) :: hrs, hrb2 a b c d U W x5 y5 X Y, .alt 3 (.cut 116) (.alt 10 (.cut 113) .non)⟩,
  ⟨12751, (234, hrv234 x5) :: (239, hrv239 y5) :: (19, .ptr 8 0) :: (20, .ptr 7 0) :: hrs, hrb2 a b c d U W x5 y5 X Y, .alt 4 (.cut 116) (.alt 10 (.cut 114) .non)⟩,
  ⟨12511, (234, hrv234 x5) :: (235, hrv235 Y) :: (238, hrv238) :: (19, .ptr 8 0) :: (20, .ptr 7 0) :: hrs, hrb2 a b c d U W x5 y5 X Y, .alt 5 (.cut 117) (.alt 8 (.cut 116) (.alt 10 (.cut 115) .non))⟩,
  ⟨9687, (233, hrv233 x5) :: (235, hrv235 Y) :: (239, hrv239 y5) :: (241, hrv241 Y) :: (20, .ptr 7 0) :: hrs, hrb1 a b c d U W x5 y5 X Y, .alt 3 (.cut 118) (.alt 12 (.cut 113) .non)⟩,
  ⟨9679, (234, hrv234 x5) :: (239, hrv239 y5) :: (241, hrv241 Y) :: (20, .ptr 7 0) :: hrs, hrb1 a b c d U W x5 y5 X Y, .alt 4 (.cut 118) (.alt 12 (.cut 114) .non)⟩,
  ⟨9439, (234, hrv234 x5) :: (235, hrv235 Y) :: (238, hrv238) :: (241, hrv241 Y) :: (20, .ptr 7 0) :: hrs, hrb1 a b c d U W x5 y5 X Y, .alt 5 (.cut 119) (.alt 8 (.cut 118) (.alt 12 (.cut 115) .non))⟩,
  ⟨8671, (234, hrv234 x5) :: (235, hrv235 Y) :: (239, hrv239 y5) :: (20, .ptr 7 0) :: hrs, hrb1 a b c d U W x5 y5 X Y, .alt 5 (.cut 120) (.alt 10 (.cut 118) (.alt 12 (.cut 116) .non))⟩,
  ⟨8447, (236, hrv236 x5 Y) :: (238, hrv238) :: (20, .ptr 7 0) :: hrs, hrb1 a b c d U W x5 y5 X Y, .alt 8 (.cut 120) (.alt 10 (.cut 119) (.alt 12 (.cut 117) .non))⟩,
  ⟨13779, (232, hrv232) :: (235, hrv235 Y) :: (239, hrv239 y5) :: (241, hrv241 Y) :: (19, .ptr 7 0) :: (20, .ptr 8 0) :: hrs, hrb2 a b c d U W x5 y5 X Y, .alt 2 (.cut 121) .non⟩,
  ⟨13767, (233, hrv233 x5) :: (239, hrv239 y5) :: (241, hrv241 Y) :: (19, .ptr 7 0) :: (20, .ptr 8 0) :: hrs, hrb2 a b c d U W x5 y5 X Y, .alt 3 (.cut 122) (.alt 4 (.cut 121) .non)⟩,
  ⟨13527, (233, hrv233 x5) :: (235, hrv235 Y) :: (238, hrv238) :: (241, hrv241 Y) :: (19, .ptr 7 0) :: (20, .ptr 8 0) :: hrs, hrb2 a b c d U W x5 y5 X Y, .alt 3 (.cut 123) (.alt 8 (.cut 121) .non)⟩,
  ⟨13519, (234, hrv234 x5) :: (238, hrv238) :: (241, hrv241 Y) :: (19, .ptr 7 0) :: (20, .ptr 8 0) :: hrs, hrb2 a b c d U W x5 y5 X Y, .alt 4 (.cut 123) (.alt 8 (.cut 122) .non)⟩,
  ⟨12759, (233, hrv233 x5) :: (235, hrv235 Y) :: (239, hrv239 y5) :: (19, .ptr 7 0) :: (20, .ptr 8 0) :: hrs, hrb2 a b c d U W x5 y5 X Y, .alt 3 (.cut 124) (.alt 10 (.cut 121) .non)⟩,
  ⟨12751, (234, hrv234 x5) :: (239, hrv239 y5) :: (19, .ptr 7 0) :: (20, .ptr 8 0) :: hrs, hrb2 a b c d U W x5 y5 X Y, .alt 4 (.cut 124) (.alt 10 (.cut 122) .non)⟩,
  ⟨12511, (234, hrv234 x5) :: (235, hrv235 Y) :: (238, hrv238) :: (19, .ptr 7 0) :: (20, .ptr 8 0) :: hrs, hrb2 a b c d U W x5 y5 X Y, .alt 5 (.cut 125) (.alt 8 (.cut 124) (.alt 10 (.cut 123) .non))⟩,
  ⟨5591, (233, hrv233 x5) :: (235, hrv235 Y) :: (239, hrv239 y5) :: (241, hrv241 Y) :: (19, .ptr 7 0) :: hrs, hrb1 a b c d U W x5 y5 X Y, .alt 3 (.cut 126) (.alt 13 (.cut 121) .non)⟩,
  ⟨5583, (234, hrv234 x5) :: (239, hrv239 y5) :: (241, hrv241 Y) :: (19, .ptr 7 0) :: hrs, hrb1 a b c d U W x5 y5 X Y, .alt 4 (.cut 126) (.alt 13 (.cut 122) .non)⟩,
  ⟨5343, (234, hrv234 x5) :: (235, hrv235 Y) :: (238, hrv238) :: (241, hrv241 Y) :: (19, .ptr 7 0) :: hrs, hrb1 a b c d U W x5 y5 X Y, .alt 5 (.cut 127) (.alt 8 (.cut 126) (.alt 13 (.cut 123) .non))⟩,
  ⟨4575, (234, hrv234 x5) :: (235, hrv235 Y) :: (239, hrv239 y5) :: (19, .ptr 7 0) :: hrs, hrb1 a b c d U W x5 y5 X Y, .alt 5 (.cut 128) (.alt 10 (.cut 126) (.alt 13 (.cut 124) .non))⟩,
  ⟨4351, (236, hrv236 x5 Y) :: (238, hrv238) :: (19, .ptr 7 0) :: hrs, hrb1 a b c d U W x5 y5 X Y, .alt 8 (.cut 128) (.alt 10 (.cut 127) (.alt 13 (.cut 125) .non))⟩,
  ⟨1503, (234, hrv234 x5) :: (235, hrv235 Y) :: (239, hrv239 y5) :: (241, hrv241 Y) :: hrs, hrb0 a b c d U W x5 y5 X Y, .alt 5 (.cut 129) (.alt 12 (.cut 126) (.alt 13 (.cut 118) .non))⟩,
  ⟨1279, (236, hrv236 x5 Y) :: (238, hrv238) :: (241, hrv241 Y) :: hrs, hrb0 a b c d U W x5 y5 X Y, .alt 8 (.cut 129) (.alt 12 (.cut 127) (.alt 13 (.cut 119) .non))⟩,
  ⟨511, (236, hrv236 x5 Y) :: (239, hrv239 y5) :: hrs, hrb0 a b c d U W x5 y5 X Y, .alt 9 (.cut 130) (.alt 10 (.cut 129) (.alt 12 (.cut 128) (.alt 13 (.cut 120) .non)))⟩,
  ⟨13783, (233, hrv233 x5) :: (235, hrv235 Y) :: (239, hrv239 y5) :: (241, hrv241 Y) :: (19, .ptr 8 0) :: (20, .ptr 7 0) :: hrs, hrb2 a b c d U W x5 y5 X Y, .alt 3 (.cut 131) .non⟩,
  ⟨13775, (234, hrv234 x5) :: (239, hrv239 y5) :: (241, hrv241 Y) :: (19, .ptr 8 0) :: (20, .ptr 7 0) :: hrs, hrb2 a b c d U W x5 y5 X Y, .alt 4 (.cut 131) .non⟩,
  ⟨13535, (234, hrv234 x5) :: (235, hrv235 Y) :: (238, hrv238) :: (241, hrv241 Y) :: (19, .ptr 8 0) :: (20, .ptr 7 0) :: hrs, hrb2 a b c d U W x5 y5 X Y, .alt 5 (.cut 132) (.alt 8 (.cut 131) .non)⟩,
  ⟨12767, (234, hrv234 x5) :: (235, hrv235 Y) :: (239, hrv239 y5) :: (19, .ptr 8 0) :: (20, .ptr 7 0) :: hrs, hrb2 a b c d U W x5 y5 X Y, .alt 5 (.cut 133) (.alt 10 (.cut 131) .non)⟩,
  ⟨12543, (236, hrv236 x5 Y) :: (238, hrv238) :: (19, .ptr 8 0) :: (20, .ptr 7 0) :: hrs, hrb2 a b c d U W x5 y5 X Y, .alt 8 (.cut 133) (.alt 10 (.cut 132) .non)⟩,
  ⟨9695, (234, hrv234 x5) :: (235, hrv235 Y) :: (239, hrv239 y5) :: (241, hrv241 Y) :: (20, .ptr 7 0) :: hrs, hrb1 a b c d U W x5 y5 X Y, .alt 5 (.cut 134) (.alt 12 (.cut 131) .non)⟩,
  ⟨9471, (236, hrv236 x5 Y) :: (238, hrv238) :: (241, hrv241 Y) :: (20, .ptr 7 0) :: hrs, hrb1 a b c d U W x5 y5 X Y, .alt 8 (.cut 134) (.alt 12 (.cut 132) .non)⟩,
  ⟨8703, (236, hrv236 x5 Y) :: (239, hrv239 y5) :: (20, .ptr 7 0) :: hrs, hrb1 a b c d U W x5 y5 X Y, .alt 9 (.cut 135) (.alt 10 (.cut 134) (.alt 12 (.cut 133) .non))⟩,
  ⟨13783, (233, hrv233 x5) :: (235, hrv235 Y) :: (239, hrv239 y5) :: (241, hrv241 Y) :: (19, .ptr 7 0) :: (20, .ptr 8 0) :: hrs, hrb2 a b c d U W x5 y5 X Y, .alt 3 (.cut 136) .non⟩,
  ⟨13775, (234, hrv234 x5) :: (239, hrv239 y5) :: (241, hrv241 Y) :: (19, .ptr 7 0) :: (20, .ptr 8 0) :: hrs, hrb2 a b c d U W x5 y5 X Y, .alt 4 (.cut 136) .non⟩,
  ⟨13535, (234, hrv234 x5) :: (235, hrv235 Y) :: (238, hrv238) :: (241, hrv241 Y) :: (19, .ptr 7 0) :: (20, .ptr 8 0) :: hrs, hrb2 a b c d U W x5 y5 X Y, .alt 5 (.cut 137) (.alt 8 (.cut 136) .non)⟩,
  ⟨12767, (234, hrv234 x5) :: (235, hrv235 Y) :: (239, hrv239 y5) :: (19, .ptr 7 0) :: (20, .ptr 8 0) :: hrs, hrb2 a b c d U W x5 y5 X Y, .alt 5 (.cut 138) (.alt 10 (.cut 136) .non)⟩,
  ⟨12543, (236, hrv236 x5 Y) :: (238, hrv238) :: (19, .ptr 7 0) :: (20, .ptr 8 0) :: hrs, hrb2 a b c d U W x5 y5 X Y, .alt 8 (.cut 138) (.alt 10 (.cut 137) .non)⟩,
  ⟨5599, (234, hrv234 x5) :: (235, hrv235 Y) :: (239, hrv239 y5) :: (241, hrv241 Y) :: (19, .ptr 7 0) :: hrs, hrb1 a b c d U W x5 y5 X Y, .alt 5 (.cut 139) (.alt 13 (.cut 136) .non)⟩,
  ⟨5375, (236, hrv236 x5 Y) :: (238, hrv238) :: (241, hrv241 Y) :: (19, .ptr 7 0) :: hrs, hrb1 a b c d U W x5 y5 X Y, .alt 8 (.cut 139) (.alt 13 (.cut 137) .non)⟩,
  ⟨4607, (236, hrv236 x5 Y) :: (239, hrv239 y5) :: (19, .ptr 7 0) :: hrs, hrb1 a b c d U W x5 y5 X Y, .alt 9 (.cut 140) (.alt 10 (.cut 139) (.alt 13 (.cut 138) .non))⟩,
  ⟨1535, (236, hrv236 x5 Y) :: (239, hrv239 y5) :: (241, hrv241 Y) :: hrs, hrb0 a b c d U W x5 y5 X Y, .alt 9 (.cut 141) (.alt 12 (.cut 139) (.alt 13 (.cut 134) .non))⟩,
  ⟨1023, (236, hrv236 x5 Y) :: (240, hrv240 y5) :: hrs, hrb0 a b c d U W x5 y5 X Y, .alt 10 (.cut 141) (.alt 12 (.cut 140) (.alt 13 (.cut 135) .non))⟩,
  ⟨13791, (234, hrv234 x5) :: (235, hrv235 Y) :: (239, hrv239 y5) :: (241, hrv241 Y) :: (19, .ptr 8 0) :: (20, .ptr 7 0) :: hrs, hrb2 a b c d U W x5 y5 X Y, .alt 5 (.cut 142) .non⟩,
  ⟨13567, (236, hrv236 x5 Y) :: (238, hrv238) :: (241, hrv241 Y) :: (19, .ptr 8 0) :: (20, .ptr 7 0) :: hrs, hrb2 a b c d U W x5 y5 X Y, .alt 8 (.cut 142) .non⟩,
  ⟨12799, (236, hrv236 x5 Y) :: (239, hrv239 y5) :: (19, .ptr 8 0) :: (20, .ptr 7 0) :: hrs, hrb2 a b c d U W x5 y5 X Y, .alt 9 (.cut 143) (.alt 10 (.cut 142) .non)⟩,
  ⟨9727, (236, hrv236 x5 Y) :: (239, hrv239 y5) :: (241, hrv241 Y) :: (20, .ptr 7 0) :: hrs, hrb1 a b c d U W x5 y5 X Y, .alt 9 (.cut 144) (.alt 12 (.cut 142) .non)⟩,
  ⟨9215, (236, hrv236 x5 Y) :: (240, hrv240 y5) :: (20, .ptr 7 0) :: hrs, hrb1 a b c d U W x5 y5 X Y, .alt 10 (.cut 144) (.alt 12 (.cut 143) .non)⟩,
  ⟨13791, (234, hrv234 x5) :: (235, hrv235 Y) :: (239, hrv239 y5) :: (241, hrv241 Y) :: (19, .ptr 7 0) :: (20, .ptr 8 0) :: hrs, hrb2 a b c d U W x5 y5 X Y, .alt 5 (.cut 145) .non⟩,
  ⟨13567, (236, hrv236 x5 Y) :: (238, hrv238) :: (241, hrv241 Y) :: (19, .ptr 7 0) :: (20, .ptr 8 0) :: hrs, hrb2 a b c d U W x5 y5 X Y, .alt 8 (.cut 145) .non⟩,
  ⟨12799, (236, hrv236 x5 Y) :: (239, hrv239 y5) :: (19, .ptr 7 0) :: (20, .ptr 8 0) :: hrs, hrb2 a b c d U W x5 y5 X Y, .alt 9 (.cut 146) (.alt 10 (.cut 145) .non)⟩,
  ⟨5631, (236, hrv236 x5 Y) :: (239, hrv239 y5) :: (241, hrv241 Y) :: (19, .ptr 7 0) :: hrs, hrb1 a b c d U W x5 y5 X Y, .alt 9 (.cut 147) (.alt 13 (.cut 145) .non)⟩,
  ⟨5119, (236, hrv236 x5 Y) :: (240, hrv240 y5) :: (19, .ptr 7 0) :: hrs, hrb1 a b c d U W x5 y5 X Y, .alt 10 (.cut 147) (.alt 13 (.cut 146) .non)⟩,
  ⟨2047, (236, hrv236 x5 Y) :: (240, hrv240 y5) :: (241, hrv241 Y) :: hrs, hrb0 a b c d U W x5 y5 X Y, .alt 11 (.cut 148) (.alt 12 (.cut 147) (.alt 13 (.cut 144) .non))⟩,
  ⟨13823, (236, hrv236 x5 Y) :: (239, hrv239 y5) :: (241, hrv241 Y) :: (19, .ptr 8 0) :: (20, .ptr 7 0) :: hrs, hrb2 a b c d U W x5 y5 X Y, .alt 9 (.cut 149) .non⟩,
  ⟨13311, (236, hrv236 x5 Y) :: (240, hrv240 y5) :: (19, .ptr 8 0) :: (20, .ptr 7 0) :: hrs, hrb2 a b c d U W x5 y5 X Y, .alt 10 (.cut 149) .non⟩,
  ⟨10239, (236, hrv236 x5 Y) :: (240, hrv240 y5) :: (241, hrv241 Y) :: (20, .ptr 7 0) :: hrs, hrb1 a b c d U W x5 y5 X Y, .alt 11 (.cut 150) (.alt 12 (.cut 149) .non)⟩,
  ⟨13823, (236, hrv236 x5 Y) :: (239, hrv239 y5) :: (241, hrv241 Y) :: (19, .ptr 7 0) :: (20, .ptr 8 0) :: hrs, hrb2 a b c d U W x5 y5 X Y, .alt 9 (.cut 151) .non⟩,
  ⟨13311, (236, hrv236 x5 Y) :: (240, hrv240 y5) :: (19, .ptr 7 0) :: (20, .ptr 8 0) :: hrs, hrb2 a b c d U W x5 y5 X Y, .alt 10 (.cut 151) .non⟩,
  ⟨6143, (236, hrv236 x5 Y) :: (240, hrv240 y5) :: (241, hrv241 Y) :: (19, .ptr 7 0) :: hrs, hrb1 a b c d U W x5 y5 X Y, .alt 11 (.cut 152) (.alt 13 (.cut 151) .non)⟩,
  ⟨4095, (236, hrv236 x5 Y) :: (242, hrv242 y5 Y) :: hrs, hrb0 a b c d U W x5 y5 X Y, .alt 12 (.cut 152) (.alt 13 (.cut 150) .non)⟩,
  ⟨14335, (236, hrv236 x5 Y) :: (240, hrv240 y5) :: (241, hrv241 Y) :: (19, .ptr 8 0) :: (20, .ptr 7 0) :: hrs, hrb2 a b c d U W x5 y5 X Y, .alt 11 (.cut 153) .non⟩,
  ⟨12287, (236, hrv236 x5 Y) :: (242, hrv242 y5 Y) :: (20, .ptr 7 0) :: hrs, hrb1 a b c d U W x5 y5 X Y, .alt 12 (.cut 153) .non⟩,
  ⟨14335, (236, hrv236 x5 Y) :: (240, hrv240 y5) :: (241, hrv241 Y) :: (19, .ptr 7 0) :: (20, .ptr 8 0) :: hrs, hrb2 a b c d U W x5 y5 X Y, .alt 11 (.cut 154) .non⟩,
  ⟨8191, (236, hrv236 x5 Y) :: (242, hrv242 y5 Y) :: (19, .ptr 7 0) :: hrs, hrb1 a b c d U W x5 y5 X Y, .alt 13 (.cut 154) .non⟩,
  ⟨16383, (236, hrv236 x5 Y) :: (242, hrv242 y5 Y) :: (19, .ptr 8 0) :: (20, .ptr 7 0) :: hrs, hrb2 a b c d U W x5 y5 X Y, .alt 14 (.cut 155) .non⟩,
  ⟨16383, (236, hrv236 x5 Y) :: (242, hrv242 y5 Y) :: (19, .ptr 7 0) :: (20, .ptr 8 0) :: hrs, hrb2 a b c d U W x5 y5 X Y, .alt 14 (.cut 156) .non⟩,
  ⟨32767, (242, hrv242 y5 Y) :: (19, .ptr 8 0) :: (20, .ptr 7 0) :: hrs, hrb3 a b c d U W x5 y5 X Y, .alt 15 (.fin) .non⟩,
  ⟨32767, (242, hrv242 y5 Y) :: (19, .ptr 7 0) :: (20, .ptr 8 0) :: hrs, hrb4 a b c d U W x5 y5 X Y, .alt 15 (.fin) .non⟩]
def hrb5 (a : D2) (b : D2) (c : D2) (d : D2) (U : D2) (W : D2) (x5 : D2) (y5 : D2) (X : Int) (Y : Int) : List (List PV) := [[.val (.bool (decide (a.1 < 0))), .ws .u64 (d64 a.1.natAbs), .val (.int .i64 a.2), .val (.bool (decide (b.1 < 0))), .ws .u64 (d64 b.1.natAbs), .val (.int .i64 b.2)], [.val (.bool (decide (c.1 < 0))), .ws .u64 (d64 c.1.natAbs), .val (.int .i64 c.2), .val (.bool (decide (d.1 < 0))), .ws .u64 (d64 d.1.natAbs), .val (.int .i64 d.2)], [.val (.bool (decide (U.1 < 0))), .ws .u64 (d64 U.1.natAbs), .val (.int .i64 U.2)], [.any, .ws .u64 (d64 W.1.natAbs), .val (.int .i64 W.2)], [.val (.bool (decide (X < 0))), .ws .u32 (d32 (X).natAbs)], [.val (.bool (decide (Y < 0))), .ws .u32 (d32 (Y).natAbs)], [.val (.bool (decide (x5.1 < 0))), .ws .u64 (d64 x5.1.natAbs), .val (.int .i64 x5.2), .val (.bool (decide (y5.1 < 0))), .ws .u64 (d64 y5.1.natAbs), .val (.int .i64 y5.2)], [.val (.bool (decide ((x5.1 * Y) < 0))), .ws .u32 (d32 ((x5.1 * Y)).natAbs)], [.val (.bool (decide ((y5.1 * Y) < 0))), .ws .u32 (d32 ((y5.1 * Y)).natAbs)]]
theorem reg_h32 {g : List (Nat × List Value)} {a : D2} {b : D2} {c : D2} {d : D2} {U : D2} {W : D2} {x5 : D2} {y5 : D2} {X : Int} {Y : Int} (g1 : FC Tryz.prog g 31 [NI x5.1] (· = ZI x5.1)) (g2 : FC Tryz.prog g 31 [NI y5.1] (· = ZI y5.1)) (g3 : FC Tryz.prog g 35 [ZI x5.1, ZI Y] (· = ZI (x5.1 * Y))) (g4 : FC Tryz.prog g 35 [ZI y5.1, ZI Y] (· = ZI (y5.1 * Y))) : Reg (A := Unit) Tryz.prog TT XX g 32 (opsB Tryz.f7.body 32) 269 (hrs) (hrb0 a b c d U W x5 y5 X Y) (fun _ => [(19, .ptr 7 0), (20, .ptr 8 0), (7, .ptr 2 0), (8, .ptr 3 0), (11, .ptr 4 0), (12, .ptr 5 0), (17, .ptr 6 0)]) (fun _ => hrb5 a b c d U W x5 y5 X Y) := by
  refine ⟨fun F hG hO s K hs hk => ?_⟩; (conv => arg 6; whnf)
  rw [← hG] at g1 g2 g3 g4
  refine draw_dp (A := Unit) (id := 32) (N := 269) (hrn a b c d U W x5 y5 X Y) [] (fun _ => [(19, .ptr 7 0), (20, .ptr 8 0), (7, .ptr 2 0), (8, .ptr 3 0), (11, .ptr 4 0), (12, .ptr 5 0), (17, .ptr 6 0)]) (fun _ => hrb5 a b c d U W x5 y5 X Y) (fun _ => []) tok mixed (by kernel_rfl) (by kernel_rfl) (by simp [hO]) ⟨_, rfl, by kernel_rfl, hs⟩ (by intro ju; simp [hO]) ?_ hk
  repeat' ((try (conv => whnf)); first
  | ((with_reducible refine cg ?_); refine call_eq (g1) (LpL.refl _) rfl ?_)
  | ((with_reducible refine cg ?_); refine call_eq (g2) (LpL.refl _) rfl ?_)
  | ((with_reducible refine cg ?_); refine call_eq (g3) (LpL.refl _) rfl ?_)
  | ((with_reducible refine cg ?_); refine call_eq (g4) (LpL.refl _) rfl ?_)
  | exact joinp () [(0, []), (1, []), (2, []), (3, []), (4, []), (5, []), (6, []), (7, []), (8, [])] rfl rfl rfl ⟨_, rfl⟩
  | exact joinp () [(0, []), (1, []), (2, []), (3, []), (4, []), (5, []), (6, []), (8, []), (7, [])] rfl rfl rfl ⟨_, rfl⟩
  | ((with_reducible refine ct ?_); exact cutj rfl ⟨_, rfl⟩ ⟨_, rfl⟩)
  
  | (with_reducible refine BothG.mk ?_ ?_))
def hS1 (p : Int) : List (Nat × PV) := [(4, .val (.int .i64 (p))), (5, .ptr 0 0), (6, .ptr 1 0), (7, .ptr 2 0), (8, .ptr 3 0), (11, .ptr 4 0), (12, .ptr 5 0)]
def hB1 (a b c d U W : D2) : List (List PV) := [[.val (.bool (decide (a.1 < 0))), .ws .u64 (d64 a.1.natAbs), .val (.int .i64 a.2), .val (.bool (decide (b.1 < 0))), .ws .u64 (d64 b.1.natAbs), .val (.int .i64 b.2)], [.val (.bool (decide (c.1 < 0))), .ws .u64 (d64 c.1.natAbs), .val (.int .i64 c.2), .val (.bool (decide (d.1 < 0))), .ws .u64 (d64 d.1.natAbs), .val (.int .i64 d.2)], [.val (.bool (decide (U.1 < 0))), .ws .u64 (d64 U.1.natAbs), .val (.int .i64 U.2)], [.val (.bool (decide (W.1 < 0))), .ws .u64 (d64 W.1.natAbs), .val (.int .i64 W.2)], [.val (.bool (decide (U.1 < 0))), .ws .u32 (d32 (U.1).natAbs)], [.val (.bool (decide (W.1 < 0))), .ws .u32 (d32 (W.1).natAbs)]]
def hB2 (a b c d U W : D2) : List (List PV) := [[.val (.bool (decide (a.1 < 0))), .ws .u64 (d64 a.1.natAbs), .val (.int .i64 a.2), .val (.bool (decide (b.1 < 0))), .ws .u64 (d64 b.1.natAbs), .val (.int .i64 b.2)], [.val (.bool (decide (c.1 < 0))), .ws .u64 (d64 c.1.natAbs), .val (.int .i64 c.2), .val (.bool (decide (d.1 < 0))), .ws .u64 (d64 d.1.natAbs), .val (.int .i64 d.2)], [.val (.bool (decide (U.1 < 0))), .ws .u64 (d64 U.1.natAbs), .val (.int .i64 U.2)], [.any, .ws .u64 (d64 W.1.natAbs), .val (.int .i64 W.2)], [.val (.bool (decide (U.1 < 0))), .ws .u32 (d32 (U.1).natAbs)], [.val (.bool (decide (W.1 < 0))), .ws .u32 (d32 (W.1).natAbs)]]
def hB3 (a b c d U W : D2) : List (List PV) := [[.val (.bool (decide (a.1 < 0))), .ws .u64 (d64 a.1.natAbs), .val (.int .i64 a.2), .val (.bool (decide (b.1 < 0))), .ws .u64 (d64 b.1.natAbs), .val (.int .i64 b.2)], [.val (.bool (decide (c.1 < 0))), .ws .u64 (d64 c.1.natAbs), .val (.int .i64 c.2), .val (.bool (decide (d.1 < 0))), .ws .u64 (d64 d.1.natAbs), .val (.int .i64 d.2)], [.val (.bool (decide (U.1 < 0))), .ws .u64 (d64 U.1.natAbs), .val (.int .i64 U.2)], [.any, .ws .u64 (d64 W.1.natAbs), .val (.int .i64 W.2)], [.val (.bool (decide ((-U.1) < 0))), .ws .u32 (d32 ((-U.1)).natAbs)], [.val (.bool (decide ((-W.1) < 0))), .ws .u32 (d32 ((-W.1)).natAbs)]]
def hT8 : Tm := .take 4 (.alt 0 (.alt 1 (.alt 2 (.alt 3 (.alt 5 (.take 6 (.take 7 (.take 8 (.alt 9 (.alt 10 (.alt 11 (.fin) (.non)) (.non)) (.non))))) (.alt 9 (.alt 5 (.take 6 (.take 7 (.take 8 (.alt 10 (.alt 11 (.fin) (.non)) (.non))))) (.non)) (.non))) (.alt 9 (.alt 3 (.alt 5 (.take 6 (.take 7 (.take 8 (.alt 10 (.alt 11 (.fin) (.non)) (.non))))) (.non)) (.non)) (.non))) (.alt 9 (.alt 2 (.alt 3 (.alt 5 (.take 6 (.take 7 (.take 8 (.alt 10 (.alt 11 (.fin) (.non)) (.non))))) (.non)) (.non)) (.non)) (.non))) (.alt 2 (.alt 1 (.alt 3 (.alt 5 (.take 6 (.take 7 (.take 8 (.alt 9 (.alt 10 (.alt 11 (.fin) (.non)) (.non)) (.non))))) (.alt 9 (.alt 5 (.take 6 (.take 7 (.take 8 (.alt 10 (.alt 11 (.fin) (.non)) (.non))))) (.non)) (.non))) (.alt 9 (.alt 3 (.alt 5 (.take 6 (.take 7 (.take 8 (.alt 10 (.alt 11 (.fin) (.non)) (.non))))) (.non)) (.non)) (.non))) (.alt 9 (.alt 1 (.alt 3 (.alt 5 (.take 6 (.take 7 (.take 8 (.alt 10 (.alt 11 (.fin) (.non)) (.non))))) (.non)) (.non)) (.non)) (.non))) (.alt 9 (.alt 1 (.alt 2 (.alt 3 (.alt 5 (.take 6 (.take 7 (.take 8 (.alt 10 (.alt 11 (.fin) (.non)) (.non))))) (.non)) (.non)) (.non)) (.alt 2 (.alt 1 (.alt 3 (.alt 5 (.take 6 (.take 7 (.take 8 (.alt 10 (.alt 11 (.fin) (.non)) (.non))))) (.non)) (.non)) (.non)) (.non))) (.non)))) (.alt 2 (.alt 0 (.alt 1 (.alt 3 (.alt 5 (.take 6 (.take 7 (.take 8 (.alt 9 (.alt 10 (.alt 11 (.fin) (.non)) (.non)) (.non))))) (.alt 9 (.alt 5 (.take 6 (.take 7 (.take 8 (.alt 10 (.alt 11 (.fin) (.non)) (.non))))) (.non)) (.non))) (.alt 9 (.alt 3 (.alt 5 (.take 6 (.take 7 (.take 8 (.alt 10 (.alt 11 (.fin) (.non)) (.non))))) (.non)) (.non)) (.non))) (.alt 9 (.alt 1 (.alt 3 (.alt 5 (.take 6 (.take 7 (.take 8 (.alt 10 (.alt 11 (.fin) (.non)) (.non))))) (.non)) (.non)) (.non)) (.non))) (.alt 9 (.alt 0 (.alt 1 (.alt 3 (.alt 5 (.take 6 (.take 7 (.take 8 (.alt 10 (.alt 11 (.fin) (.non)) (.non))))) (.non)) (.non)) (.non)) (.non)) (.non))) (.alt 9 (.alt 0 (.alt 1 (.alt 2 (.alt 3 (.alt 5 (.take 6 (.take 7 (.take 8 (.alt 10 (.alt 11 (.fin) (.non)) (.non))))) (.non)) (.non)) (.non)) (.alt 2 (.alt 1 (.alt 3 (.alt 5 (.take 6 (.take 7 (.take 8 (.alt 10 (.alt 11 (.fin) (.non)) (.non))))) (.non)) (.non)) (.non)) (.non))) (.alt 2 (.alt 0 (.alt 1 (.alt 3 (.alt 5 (.take 6 (.take 7 (.take 8 (.alt 10 (.alt 11 (.fin) (.non)) (.non))))) (.non)) (.non)) (.non)) (.non)) (.non))) (.non))))
end Go.Proofs.YtpjbgmafnheomaaGreatDoor.Sim
namespace Go.Proofs.YtpjbgmafnheomaaGreatDoor.Sim
open Go.RowKit
set_option linter.unusedVariables false
set_option linter.unusedSimpArgs false
section
variable {P : Program} {F : Fr} {TT : List TI} {X : List FuncId} {s : St}
def fstR : Code → Option Nat
  | .region id _ _ => some id
  | .seq a b => match fstR a with
    | some i => some i
    | none => fstR b
  | .block _ c => fstR c
  | _ => none
def inJ : List Nat → Nat → Bool
  | [], _ => false
  | j :: js, i => match Nat.beq i j with
    | true => true
    | false => inJ js i
def joinB (js : List Nat) (b : Code) : Option Nat := match fstR b with
  | some i => match inJ js i with
    | true => some i
    | false => none
  | none => none
structure SeqG (P : Program) (F : Fr) (TT : List TI) (X : List FuncId) (js : List Nat) (id : Nat) (a b : Code) (kn kr : St → Prop) (kx : Nat → St → Prop) (s : St) : Prop where
  h : Cd P F (.seq a b) s (mkQ kn kr kx)
def vS (P : Program) (F : Fr) (TT : List TI) (X : List FuncId) (js : List Nat) (c : Code) (kn kr : St → Prop) (kx : Nat → St → Prop) (s : St) : Prop := match c with
  | .skip => kn s
  | .region id ops draw => match draw with
    | false => vL P F TT X ops.toList (ops.toList.map fun o => (o, .L)) s kn
    | true => DrawG P F TT X id ops.toList s kn
  | .seq a b => match joinB js b with
    | some id => SeqG P F TT X js id a b kn kr kx s
    | none => vS P F TT X js a (fun s => vS P F TT X js b kn kr kx s) kr kx s
  | .cond c x y => match pev s c with
    | .val (.bool b) => ForkG b (vS P F TT X js x kn kr kx s) (vS P F TT X js y kn kr kx s)
    | _ => False
  | .block id c => vS P F TT X js c kn kr (fun i s => match Nat.beq i id with
    | true => kn s
    | false => kx i s) s
  | .loop c => LoopG P F TT X c kr kx s
  | .exit id => kx id s
  | .ret => kr s
  | .label _ => kn s
  | .scope c => vS P F TT X js c kn kr kx s
  | _ => False
theorem vS_ok (hTT : TOk P TT) (js : List Nat) : ∀ {c : Code} {kn kr : St → Prop} {kx : Nat → St → Prop} {s : St}, vS P F TT X js c kn kr kx s → Cd P F c s (mkQ kn kr kx) := by
  intro c
  induction c with
  | skip => intro kn kr kx s h; exact Cd.skip h
  | region id ops draw =>
    intro kn kr kx s h
    cases draw with
    | false =>
      have h2 := vL_ok (r := ⟨ops, none⟩) hTT (okAll_text ops.toList) (by simp) h
      have e : (ops.toList.map fun o => (o, Md.L)).map Prod.fst = ops.toList := by simp [Function.comp_def]
      rw [e] at h2
      have e2 : ops.toList.toArray = ops := by simp
      have h3 := Cd.region (id := id) (l := ops.toList) (Q := mkQ kn kr kx) (by rw [e2]; exact h2)
      rw [e2] at h3
      exact h3
    | true =>
      have h2 : DrawG P F TT X id ops.toList s kn := h
      have h3 := h2.h
      simp only [Array.toArray_toList] at h3
      exact h3.mono fun e s hq => by cases e <;> first | exact hq | exact hq.elim
  | seq a b iha ihb =>
    intro kn kr kx s h
    unfold vS at h
    split at h
    · exact h.h
    · refine Cd.seq ((iha h).mono fun e s hq => ?_)
      cases e with
      | normal => exact ihb hq
      | _ => exact hq
  | cond c x y ihx ihy =>
    intro kn kr kx s h
    simp only [vS] at h
    split at h
    · rename_i b hb
      exact Cd.cond hb (fun e => ihx (h.t e)) (fun e => ihy (h.f e))
    · cases h
  | block id c ih =>
    intro kn kr kx s h
    refine Cd.block ((ih h).mono fun e s hq => ?_)
    cases e with
    | exit i =>
      simp only [mkQ] at hq
      simp only [blk]
      split at hq
      · rename_i hb; rw [if_pos (Nat.eq_of_beq_eq_true hb)]; exact hq
      · rename_i hb; rw [if_neg (beq_ne hb)]; exact hq
    | _ => exact hq
  | loop c ih =>
    intro kn kr kx s h
    have h2 : LoopG P F TT X c kr kx s := h
    exact h2.h.mono fun e s hq => by cases e <;> first | exact hq | exact hq.elim
  | label l => intro kn kr kx s h; exact Cd.label h
  | scope c ih => intro kn kr kx s h; exact Cd.scope (ih h) (fun _ _ h => h)
  | exit id => intro kn kr kx s h; exact Cd.exit h
  | ret => intro kn kr kx s h; exact Cd.ret h
  | _ => intro kn kr kx s h; exact (show False from h).elim
theorem sqg {js : List Nat} {id : Nat} {a b : Code} {kn kr : St → Prop} {kx : Nat → St → Prop} (h : SeqG P F TT X js id a b kn kr kx s) : SeqG P F TT X js id a b kn kr kx s := h
theorem seq_j {A : Type} {js : List Nat} {a b : Code} {kn kr : St → Prop} {kx : Nat → St → Prop} (id N : Nat) (S : A → List (Nat × PV)) (B : A → List (List PV)) (O : A → List (Option Row)) (hTT : TOk P TT) (ho : ∀ x, F.c0.ob.length ≤ (O x).length)
    (h : vS P F TT X js a (JoinP N S B O) kr kx s) (k : ∀ x, vS P F TT X js b kn kr kx ⟨N, tab (S x), B x, O x⟩) : SeqG P F TT X js id a b kn kr kx s := by
  refine ⟨?_⟩
  intro cx a' w hi
  refine wp_seq (wp_mono (vS_ok hTT js h cx a' w hi) ?_)
  rintro e a' w' ⟨cx', s', hi', hq⟩
  cases e with
  | normal =>
    obtain ⟨x, σ, h1, h2, h3, h4, h5⟩ := JoinP.h hq
    exact vS_ok hTT js (k x) _ a' w' (hi'.sel h1 h2 h3 h4 h5 (ho x))
  | _ => exact ⟨cx', s', hi', hq⟩
theorem FC.introC {G : List (Nat × List Value)} {f : FuncId} {fn : Func} {cd : Code} {args : List PV} {Q : PV → Prop} {N : Nat} {rs : List ResultVar} (hTT : TOk P TT) (hf : P.funcs[f]? = some fn) (hb : fn.body = some cd) (hN : fn.ntmps = N) (hrs : fn.results.toList = rs) (hc : callable P f = true) (hn : Nat.ble args.length N = true)
    (h : ∀ F : Fr, F.G = G → F.c0.ob.length = 0 → Cd P F cd ⟨N, argT args, [], []⟩ (mkQ (vEnd TT rs Q) (vEnd TT rs Q) (fun _ _ => False))) : FC P G f args Q := by
  refine ⟨hc, ?_⟩
  subst hN; subst hrs
  intro ρ w vs hG hm hr
  have hn := Nat.le_of_ble_eq_true hn
  have hl := hr.len
  refine calls_of_wp hf hb ?_
  have hi : Inv ⟨G, ⟨ρ, [], []⟩, w, hG⟩ ⟨ρ, [], []⟩ ⟨fn.ntmps, argT args, [], []⟩ { tmps := vs.toArray ++ Array.replicate (fn.ntmps - vs.toArray.size) undef, defers := [] } w := by
    refine ⟨⟨hm, rfl, rfl, fun i l hi => by simp at hi, fun i r hi => by simp at hi, fun i j g hi => by simp at hi, fun i j x y l m hi => by simp at hi, fun i x l hi => by simp at hi, fun ad u _ => by simp, fun ad u i x l _ hi => by simp at hi⟩, rfl, by simp; omega, fun t => ?_, Kp.refl _ _ _, fun _ _ h => h, fun _ _ h => .inl h, fun _ _ h => by simp at h, fun _ _ _ h => by simp at h, fun g hg => by simp at hg⟩
    show Rep _ (argT args t) _
    rw [argT_get]
    rcases Nat.lt_or_ge t args.length with ht | ht
    · have h1 := List.getElem?_eq_getElem ht
      obtain ⟨u, hu, hr'⟩ := hr.get h1
      have h2 : (vs.toArray ++ Array.replicate (fn.ntmps - vs.toArray.size) undef).getD t undef = u := by
        rw [Array.getD_eq_getD_getElem?, Array.getElem?_append_left (by simp; omega)]
        simp [hu]
      rw [h2, List.getD_eq_getElem?_getD, h1]
      exact hr'
    · have h2 : (vs.toArray ++ Array.replicate (fn.ntmps - vs.toArray.size) undef).getD t undef = undef := by
        rw [Array.getD_eq_getD_getElem?, Array.getElem?_append_right (by simp; omega)]
        simp only [Array.getElem?_replicate]
        split <;> rfl
      rw [h2, List.getD_eq_getElem?_getD, List.getElem?_eq_none ht]
      exact .val _
  refine wp_mono (h _ rfl rfl _ _ _ hi) ?_
  rintro e a' w' ⟨cx', s', hi', hq⟩
  have fin : vEnd TT fn.results.toList Q s' → a'.defers = [] ∧ ∃ v, (results fn a'.tmps).run P w' = .ok v w' ∧
      ∃ v_1 r_1 ρ', Ending.returned v = .returned v_1 ∧ Q r_1 ∧ (∀ ad u, ρ ad = some u → ρ' ad = some u) ∧ (∀ ad u, ρ' ad = some u → w'.cell? ad = some u) ∧ Rep ⟨ρ', [], []⟩ r_1 v_1 ∧ Below w.heap.size w w' ∧ ∀ ad u, ρ' ad = some u → ρ ad = some u ∨ w.heap.size ≤ ad.block := by
    intro hv
    obtain ⟨l, h1, h2⟩ := vRes_ok hTT hv
    obtain ⟨r, hr1, hr2⟩ : ∃ r, resPV P fn.results.toList s' = some r ∧ fzG s'.ob r (fun r => RetE Q r) := by
      unfold tupG at h2
      unfold resPV
      rw [h1]
      match l, h2 with
      | [], h2 => exact ⟨_, rfl, h2⟩
      | [p], h2 => exact ⟨_, rfl, h2⟩
      | _ :: _ :: _, h2 => exact ⟨_, rfl, h2⟩
    obtain ⟨v, hrep, hrun⟩ := results_ok hi' hr1
    obtain ⟨ρ', e1, e2, e3, e4⟩ := hi'.fz rfl
    obtain ⟨r', g1, g2⟩ := fzG_ok hi' e1 e4 hrep hr2
    obtain ⟨r'', g3, g4⟩ := g2.h
    exact ⟨hi'.nd, v, hrun, v, r'', ρ', rfl, g4, fun ad u hu => e1 _ _ (hi'.rho ad u hu), e2, g3.rep g1, hi'.kp.below, e3⟩
  cases e with
  | normal => exact fin hq
  | ret => exact fin hq
  | _ => exact (show False from hq).elim
theorem FC.introS (js : List Nat) {G : List (Nat × List Value)} {f : FuncId} {fn : Func} {cd : Code} {args : List PV} {Q : PV → Prop} {N : Nat} {rs : List ResultVar} (hTT : TOk P TT) (hf : P.funcs[f]? = some fn) (hb : fn.body = some cd) (hN : fn.ntmps = N) (hrs : fn.results.toList = rs) (hc : callable P f = true) (hn : Nat.ble args.length N = true)
    (h : ∀ F : Fr, F.G = G → F.c0.ob.length = 0 → vS P F TT X js cd (vEnd TT rs Q) (vEnd TT rs Q) (fun _ _ => False) ⟨N, argT args, [], []⟩) : FC P G f args Q :=
  FC.introC hTT hf hb hN hrs hc hn fun F h1 h2 => vS_ok hTT js (h F h1 h2)
end
end Go.Proofs.YtpjbgmafnheomaaGreatDoor.Sim
