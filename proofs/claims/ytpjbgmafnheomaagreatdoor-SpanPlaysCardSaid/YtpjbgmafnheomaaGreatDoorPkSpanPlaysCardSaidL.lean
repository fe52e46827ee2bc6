/-
  Lemmas of SpanPlaysCardSaid, part 12.
-/
import Derived.Test.YtpjbgmafnheomaaGreatDoorPkSpanPlaysCardSaidK
namespace Go.Proofs.YtpjbgmafnheomaaGreatDoor.Sim
open Go.RowKit
set_option linter.unusedVariables false
set_option linter.unusedSimpArgs false
set_option maxRecDepth 10000
set_option maxHeartbeats 8000000
variable {G : Gs}
theorem good_zi {a : D2} (h : a.good) : (bl a.1.natAbs : Int) ≤ 524288 := by have := Good.bl h; omega
theorem mul_bl {x y : Int} (h : (bl x.natAbs : Int) ≤ 524288) (k : (bl y.natAbs : Int) ≤ 524288) : (bl (x * y).natAbs : Int) ≤ 1048576 := by
  have : bl (x * y).natAbs ≤ bl x.natAbs + bl y.natAbs := by
    refine bl_le ?_
    rw [Int.natAbs_mul, Nat.pow_add]
    exact Nat.mul_lt_mul'' (lt_bl _) (lt_bl _)
  omega
theorem r_zfromg {a : D2} (h : a.good) : FC Tryz.prog G 31 [.agg [.val (.bool (decide (a.1 < 0))), .ws .u64 (d64 a.1.natAbs)]] (· = ZI a.1) := by
  have f := r_zfrom (G := G) (decide (a.1 < 0)) (d64 a.1.natAbs) (okD64 _) (by have := good_len h; have := h.1; show L64 a.1.natAbs ≤ _; omega)
  rw [vl_d64, sg_of] at f
  exact f
def l1v13 : PV := .ptr 0 0
def l1v14 (x : D2) : PV := .agg [.val (.bool (decide (x.1 < 0))), .ws .u64 (d64 x.1.natAbs)]
def l1v15 (x : D2) : PV := .agg [.val (.bool (decide (x.1 < 0))), .ws .u32 (d32 (x.1).natAbs)]
def l1v16 : PV := .ptr 3 0
def l1v17 (v : D2) : PV := .agg [.val (.bool (decide (v.1 < 0))), .ws .u64 (d64 v.1.natAbs)]
def l1v18 (v : D2) : PV := .agg [.val (.bool (decide (v.1 < 0))), .ws .u32 (d32 (v.1).natAbs)]
def l1v19 (X : Int) : PV := .agg [.val (.bool (decide (X < 0))), .ws .u32 (d32 (X).natAbs)]
def l1v20 : PV := .ptr 0 2
def l1v21 (x : D2) : PV := .val (.int .i64 (x.2))
def l1v22 : PV := .ptr 3 2
def l1v23 (v : D2) : PV := .val (.int .i64 (v.2))
def l1v24 (x : D2) (v : D2) : PV := .val (.int .i64 (x.2 + v.2))
def l1v10 (x : D2) (v : D2) : PV := .val (.int .i64 (x.2 + v.2))
def l1b0 (x : D2) (y : D2) (u : D2) (v : D2) : List (List PV) := [[.val (.bool (decide (x.1 < 0))), .ws .u64 (d64 x.1.natAbs), .val (.int .i64 x.2)], [.val (.bool (decide (y.1 < 0))), .ws .u64 (d64 y.1.natAbs), .val (.int .i64 y.2)], [.val (.bool (decide (u.1 < 0))), .ws .u64 (d64 u.1.natAbs), .val (.int .i64 u.2)], [.val (.bool (decide (v.1 < 0))), .ws .u64 (d64 v.1.natAbs), .val (.int .i64 v.2)]]
def l1b1 (x : D2) (y : D2) (u : D2) (v : D2) : List (List PV) := [[.val (.bool (decide (x.1 < 0))), .ws .u64 (d64 x.1.natAbs), .val (.int .i64 x.2)], [.val (.bool (decide (y.1 < 0))), .ws .u64 (d64 y.1.natAbs), .val (.int .i64 y.2)], [.val (.bool (decide (u.1 < 0))), .ws .u64 (d64 u.1.natAbs), .val (.int .i64 u.2)], [.val (.bool (decide (v.1 < 0))), .ws .u64 (d64 v.1.natAbs), .val (.int .i64 v.2)], [.val (.bool false), .nil]]
def l1b2 (x : D2) (y : D2) (u : D2) (v : D2) (X : Int) : List (List PV) := [[.val (.bool (decide (x.1 < 0))), .ws .u64 (d64 x.1.natAbs), .val (.int .i64 x.2)], [.val (.bool (decide (y.1 < 0))), .ws .u64 (d64 y.1.natAbs), .val (.int .i64 y.2)], [.val (.bool (decide (u.1 < 0))), .ws .u64 (d64 u.1.natAbs), .val (.int .i64 u.2)], [.val (.bool (decide (v.1 < 0))), .ws .u64 (d64 v.1.natAbs), .val (.int .i64 v.2)], [.val (.bool (decide (X < 0))), .ws .u32 (d32 (X).natAbs)]]
def l1V (x : D2) (v : D2) (X : Int) : List (Nat × PV) := [(4, .ptr 0 0), (5, .ptr 1 0), (6, .ptr 2 0), (7, .ptr 3 0), (13, l1v13), (16, l1v16), (20, l1v20), (22, l1v22), (9, .ptr 4 0), (23, l1v23 v), (21, l1v21 x), (17, l1v17 v), (14, l1v14 x), (15, l1v15 x), (24, l1v24 x v), (18, l1v18 v), (19, l1v19 X)]
def l1n (V : List (Nat × PV)) (B0 B1 B2 : List (List PV)) : List Nd := [⟨0, pk V 15, B0, .take 0 (.take 3 (.take 7 (.take 9 (.alt 1 (.cut 5) (.alt 4 (.cut 4) (.alt 8 (.cut 3) (.alt 10 (.cut 2) (.alt 12 (.cut 1) .non))))))))⟩,
  ⟨4745, pk V 511, B1, .alt 1 (.cut 9) (.alt 4 (.cut 8) (.alt 8 (.cut 7) (.alt 10 (.cut 6) .non)))⟩,
  ⟨1673, pk V 639, B0, .alt 1 (.cut 12) (.alt 4 (.cut 11) (.alt 8 (.cut 10) (.alt 12 (.cut 6) .non)))⟩,
  ⟨905, pk V 1215, B0, .alt 1 (.cut 14) (.alt 4 (.cut 13) (.alt 10 (.cut 10) (.alt 12 (.cut 7) .non)))⟩,
  ⟨665, pk V 2271, B0, .alt 1 (.cut 15) (.alt 8 (.cut 13) (.alt 10 (.cut 11) (.alt 12 (.cut 8) .non)))⟩,
  ⟨651, pk V 4335, B0, .alt 2 (.cut 16) (.alt 4 (.cut 15) (.alt 8 (.cut 14) (.alt 10 (.cut 12) (.alt 12 (.cut 9) .non))))⟩,
  ⟨5769, pk V 895, B1, .alt 1 (.cut 19) (.alt 4 (.cut 18) (.alt 8 (.cut 17) .non))⟩,
  ⟨5001, pk V 1471, B1, .alt 1 (.cut 21) (.alt 4 (.cut 20) (.alt 10 (.cut 17) .non))⟩,
  ⟨4761, pk V 2527, B1, .alt 1 (.cut 22) (.alt 8 (.cut 20) (.alt 10 (.cut 18) .non))⟩,
  ⟨4747, pk V 4591, B1, .alt 2 (.cut 23) (.alt 4 (.cut 22) (.alt 8 (.cut 21) (.alt 10 (.cut 19) .non)))⟩,
  ⟨1929, pk V 1599, B0, .take 11 (.alt 1 (.cut 26) (.alt 4 (.cut 25) (.alt 12 (.cut 24) .non)))⟩,
  ⟨1689, pk V 2655, B0, .alt 1 (.cut 28) (.alt 8 (.cut 27) (.alt 12 (.cut 18) .non))⟩,
  ⟨1675, pk V 4719, B0, .alt 2 (.cut 30) (.alt 4 (.cut 28) (.alt 8 (.cut 29) (.alt 12 (.cut 19) .non)))⟩,
  ⟨921, pk V 3231, B0, .alt 1 (.cut 31) (.alt 10 (.cut 27) (.alt 12 (.cut 20) .non))⟩,
  ⟨907, pk V 5295, B0, .alt 2 (.cut 32) (.alt 4 (.cut 31) (.alt 10 (.cut 29) (.alt 12 (.cut 21) .non)))⟩,
  ⟨667, pk V 6351, B0, .alt 2 (.cut 33) (.alt 8 (.cut 31) (.alt 10 (.cut 28) (.alt 12 (.cut 22) .non)))⟩,
  ⟨655, pk V 8431, B0, .alt 4 (.cut 33) (.alt 8 (.cut 32) (.alt 10 (.cut 30) (.alt 12 (.cut 23) .non)))⟩,
  ⟨6025, pk V 1855, B1, .take 11 (.alt 1 (.cut 35) (.alt 4 (.cut 34) .non))⟩,
  ⟨5785, pk V 2911, B1, .alt 1 (.cut 37) (.alt 8 (.cut 36) .non)⟩,
  ⟨5771, pk V 4975, B1, .alt 2 (.cut 39) (.alt 4 (.cut 37) (.alt 8 (.cut 38) .non))⟩,
  ⟨5017, pk V 3487, B1, .alt 1 (.cut 40) (.alt 10 (.cut 36) .non)⟩,
  ⟨5003, pk V 5551, B1, .alt 2 (.cut 41) (.alt 4 (.cut 40) (.alt 10 (.cut 38) .non))⟩,
  ⟨4763, pk V 6607, B1, .alt 2 (.cut 42) (.alt 8 (.cut 40) (.alt 10 (.cut 37) .non))⟩,
  ⟨4751, pk V 8687, B1, .alt 4 (.cut 42) (.alt 8 (.cut 41) (.alt 10 (.cut 39) .non))⟩,
  ⟨8073, pk V 16703, B1, .alt 1 (.cut 35) (.alt 4 (.cut 34) .non)⟩,
  ⟨3993, pk V 18463, B0, .alt 1 (.cut 43) (.alt 12 (.cut 34) .non)⟩,
  ⟨3979, pk V 20527, B0, .alt 2 (.cut 44) (.alt 4 (.cut 43) (.alt 12 (.cut 35) .non))⟩,
  ⟨1945, pk V 3615, B0, .take 11 (.alt 1 (.cut 43) (.alt 12 (.cut 34) .non))⟩,
  ⟨1691, pk V 6735, B0, .alt 2 (.cut 46) (.alt 8 (.cut 45) (.alt 12 (.cut 37) .non))⟩,
  ⟨1931, pk V 5679, B0, .take 11 (.alt 2 (.cut 44) (.alt 4 (.cut 43) (.alt 12 (.cut 35) .non)))⟩,
  ⟨1679, pk V 8815, B0, .alt 4 (.cut 46) (.alt 8 (.cut 47) (.alt 12 (.cut 39) .non))⟩,
  ⟨923, pk V 7311, B0, .alt 2 (.cut 48) (.alt 10 (.cut 45) (.alt 12 (.cut 40) .non))⟩,
  ⟨911, pk V 9391, B0, .alt 4 (.cut 48) (.alt 10 (.cut 47) (.alt 12 (.cut 41) .non))⟩,
  ⟨671, pk V 10447, B0, .alt 5 (.cut 49) (.alt 8 (.cut 48) (.alt 10 (.cut 46) (.alt 12 (.cut 42) .non)))⟩,
  ⟨8089, pk V 18719, B1, .alt 1 (.cut 50) .non⟩,
  ⟨8075, pk V 20783, B1, .alt 2 (.cut 51) (.alt 4 (.cut 50) .non)⟩,
  ⟨6041, pk V 3871, B1, .take 11 (.alt 1 (.cut 50) .non)⟩,
  ⟨5787, pk V 6991, B1, .alt 2 (.cut 53) (.alt 8 (.cut 52) .non)⟩,
  ⟨6027, pk V 5935, B1, .take 11 (.alt 2 (.cut 51) (.alt 4 (.cut 50) .non))⟩,
  ⟨5775, pk V 9071, B1, .alt 4 (.cut 53) (.alt 8 (.cut 54) .non)⟩,
  ⟨5019, pk V 7567, B1, .alt 2 (.cut 55) (.alt 10 (.cut 52) .non)⟩,
  ⟨5007, pk V 9647, B1, .alt 4 (.cut 55) (.alt 10 (.cut 54) .non)⟩,
  ⟨4767, pk V 10703, B1, .alt 5 (.cut 56) (.alt 8 (.cut 55) (.alt 10 (.cut 53) .non))⟩,
  ⟨3995, pk V 22543, B0, .alt 2 (.cut 57) (.alt 12 (.cut 50) .non)⟩,
  ⟨3983, pk V 24623, B0, .alt 4 (.cut 57) (.alt 12 (.cut 51) .non)⟩,
  ⟨1947, pk V 7695, B0, .take 11 (.alt 2 (.cut 57) (.alt 12 (.cut 50) .non))⟩,
  ⟨1695, pk V 10831, B0, .alt 5 (.cut 59) (.alt 8 (.cut 58) (.alt 12 (.cut 53) .non))⟩,
  ⟨1935, pk V 9775, B0, .take 11 (.alt 4 (.cut 57) (.alt 12 (.cut 51) .non))⟩,
  ⟨927, pk V 11407, B0, .alt 5 (.cut 60) (.alt 10 (.cut 58) (.alt 12 (.cut 55) .non))⟩,
  ⟨703, pk V 41167, B0, .alt 6 (.cut 61) (.alt 8 (.cut 60) (.alt 10 (.cut 59) (.alt 12 (.cut 56) .non)))⟩,
  ⟨8091, pk V 22799, B1, .alt 2 (.cut 62) .non⟩,
  ⟨8079, pk V 24879, B1, .alt 4 (.cut 62) .non⟩,
  ⟨6043, pk V 7951, B1, .take 11 (.alt 2 (.cut 62) .non)⟩,
  ⟨5791, pk V 11087, B1, .alt 5 (.cut 64) (.alt 8 (.cut 63) .non)⟩,
  ⟨6031, pk V 10031, B1, .take 11 (.alt 4 (.cut 62) .non)⟩,
  ⟨5023, pk V 11663, B1, .alt 5 (.cut 65) (.alt 10 (.cut 63) .non)⟩,
  ⟨4799, pk V 41423, B1, .alt 6 (.cut 66) (.alt 8 (.cut 65) (.alt 10 (.cut 64) .non))⟩,
  ⟨3999, pk V 26639, B0, .alt 5 (.cut 67) (.alt 12 (.cut 62) .non)⟩,
  ⟨1951, pk V 11791, B0, .take 11 (.alt 5 (.cut 67) (.alt 12 (.cut 62) .non))⟩,
  ⟨1727, pk V 41551, B0, .alt 6 (.cut 69) (.alt 8 (.cut 68) (.alt 12 (.cut 64) .non))⟩,
  ⟨959, pk V 42127, B0, .alt 6 (.cut 70) (.alt 10 (.cut 68) (.alt 12 (.cut 65) .non))⟩,
  ⟨767, pk V 65743, B0, .alt 8 (.cut 70) (.alt 10 (.cut 69) (.alt 12 (.cut 66) .non))⟩,
  ⟨8095, pk V 26895, B1, .alt 5 (.cut 71) .non⟩,
  ⟨6047, pk V 12047, B1, .take 11 (.alt 5 (.cut 71) .non)⟩,
  ⟨5823, pk V 41807, B1, .alt 6 (.cut 73) (.alt 8 (.cut 72) .non)⟩,
  ⟨5055, pk V 42383, B1, .alt 6 (.cut 74) (.alt 10 (.cut 72) .non)⟩,
  ⟨4863, pk V 65999, B1, .alt 8 (.cut 74) (.alt 10 (.cut 73) (.alt 13 (.cut 75) .non))⟩,
  ⟨4031, pk V 57359, B0, .alt 6 (.cut 76) (.alt 12 (.cut 71) .non)⟩,
  ⟨1983, pk V 42511, B0, .take 11 (.alt 6 (.cut 76) (.alt 12 (.cut 71) .non))⟩,
  ⟨1791, pk V 66127, B0, .alt 8 (.cut 77) (.alt 12 (.cut 73) .non)⟩,
  ⟨1023, pk V 66703, B0, .alt 10 (.cut 77) (.alt 12 (.cut 74) .non)⟩,
  ⟨8127, pk V 57615, B1, .alt 6 (.cut 78) .non⟩,
  ⟨6079, pk V 42767, B1, .take 11 (.alt 6 (.cut 78) .non)⟩,
  ⟨5887, pk V 66383, B1, .alt 8 (.cut 80) (.alt 13 (.cut 79) .non)⟩,
  ⟨5119, pk V 66959, B1, .alt 10 (.cut 80) (.alt 13 (.cut 81) .non)⟩,
  ⟨13055, pk V 463, B2, .alt 8 (.cut 81) (.alt 10 (.cut 79) .non)⟩,
  ⟨4095, pk V 81935, B0, .alt 12 (.cut 78) .non⟩,
  ⟨2047, pk V 67087, B0, .take 11 (.alt 12 (.cut 78) .non)⟩,
  ⟨8191, pk V 82191, B1, .alt 13 (.cut 82) .non⟩,
  ⟨14079, pk V 847, B2, .alt 8 (.cut 83) .non⟩,
  ⟨6143, pk V 67343, B1, .take 11 (.alt 13 (.cut 82) .non)⟩,
  ⟨13311, pk V 1423, B2, .alt 10 (.cut 83) .non⟩,
  ⟨16383, pk V 16655, B2, .alt 14 (.fin) .non⟩,
  ⟨14335, pk V 1807, B2, .take 11 (.alt 14 (.fin) .non)⟩]
def l2v25 : PV := .ptr 2 0
def l2v26 (u : D2) : PV := .agg [.val (.bool (decide (u.1 < 0))), .ws .u64 (d64 u.1.natAbs)]
def l2v27 (u : D2) : PV := .agg [.val (.bool (decide (u.1 < 0))), .ws .u32 (d32 (u.1).natAbs)]
def l2v28 : PV := .ptr 1 0
def l2v29 (y : D2) : PV := .agg [.val (.bool (decide (y.1 < 0))), .ws .u64 (d64 y.1.natAbs)]
def l2v30 (y : D2) : PV := .agg [.val (.bool (decide (y.1 < 0))), .ws .u32 (d32 (y.1).natAbs)]
def l2v31 (Y : Int) : PV := .agg [.val (.bool (decide (Y < 0))), .ws .u32 (d32 (Y).natAbs)]
def l2v32 : PV := .ptr 2 2
def l2v33 (u : D2) : PV := .val (.int .i64 (u.2))
def l2v34 : PV := .ptr 1 2
def l2v35 (y : D2) : PV := .val (.int .i64 (y.2))
def l2v36 (y : D2) (u : D2) : PV := .val (.int .i64 (u.2 + y.2))
def l2v12 (y : D2) (u : D2) : PV := .val (.int .i64 (u.2 + y.2))
def l2b0 (x : D2) (y : D2) (u : D2) (v : D2) (X : Int) : List (List PV) := [[.val (.bool (decide (x.1 < 0))), .ws .u64 (d64 x.1.natAbs), .val (.int .i64 x.2)], [.val (.bool (decide (y.1 < 0))), .ws .u64 (d64 y.1.natAbs), .val (.int .i64 y.2)], [.val (.bool (decide (u.1 < 0))), .ws .u64 (d64 u.1.natAbs), .val (.int .i64 u.2)], [.val (.bool (decide (v.1 < 0))), .ws .u64 (d64 v.1.natAbs), .val (.int .i64 v.2)], [.val (.bool (decide (X < 0))), .ws .u32 (d32 (X).natAbs)]]
def l2b1 (x : D2) (y : D2) (u : D2) (v : D2) (X : Int) : List (List PV) := [[.val (.bool (decide (x.1 < 0))), .ws .u64 (d64 x.1.natAbs), .val (.int .i64 x.2)], [.val (.bool (decide (y.1 < 0))), .ws .u64 (d64 y.1.natAbs), .val (.int .i64 y.2)], [.val (.bool (decide (u.1 < 0))), .ws .u64 (d64 u.1.natAbs), .val (.int .i64 u.2)], [.val (.bool (decide (v.1 < 0))), .ws .u64 (d64 v.1.natAbs), .val (.int .i64 v.2)], [.val (.bool (decide (X < 0))), .ws .u32 (d32 (X).natAbs)], [.val (.bool false), .nil]]
def l2b2 (x : D2) (y : D2) (u : D2) (v : D2) (X : Int) (Y : Int) : List (List PV) := [[.val (.bool (decide (x.1 < 0))), .ws .u64 (d64 x.1.natAbs), .val (.int .i64 x.2)], [.val (.bool (decide (y.1 < 0))), .ws .u64 (d64 y.1.natAbs), .val (.int .i64 y.2)], [.val (.bool (decide (u.1 < 0))), .ws .u64 (d64 u.1.natAbs), .val (.int .i64 u.2)], [.val (.bool (decide (v.1 < 0))), .ws .u64 (d64 v.1.natAbs), .val (.int .i64 v.2)], [.val (.bool (decide (X < 0))), .ws .u32 (d32 (X).natAbs)], [.val (.bool (decide (Y < 0))), .ws .u32 (d32 (Y).natAbs)]]
def l2V (x : D2) (y : D2) (u : D2) (v : D2) (Y : Int) : List (Nat × PV) := [(4, .ptr 0 0), (5, .ptr 1 0), (6, .ptr 2 0), (7, .ptr 3 0), (9, .ptr 4 0), (10, .val (.int .i64 (x.2 + v.2))), (25, l2v25), (28, l2v28), (32, l2v32), (34, l2v34), (11, .ptr 5 0), (35, l2v35 y), (33, l2v33 u), (29, l2v29 y), (26, l2v26 u), (27, l2v27 u), (36, l2v36 y u), (30, l2v30 y), (31, l2v31 Y)]
def l2n (V : List (Nat × PV)) (B0 B1 B2 : List (List PV)) : List Nd := [⟨0, pk V 63, B0, .take 0 (.take 3 (.take 7 (.take 9 (.alt 1 (.cut 5) (.alt 4 (.cut 4) (.alt 8 (.cut 3) (.alt 10 (.cut 2) (.alt 12 (.cut 1) .non))))))))⟩,
  ⟨4745, pk V 2047, B1, .alt 1 (.cut 9) (.alt 4 (.cut 8) (.alt 8 (.cut 7) (.alt 10 (.cut 6) .non)))⟩,
  ⟨1673, pk V 2559, B0, .alt 1 (.cut 12) (.alt 4 (.cut 11) (.alt 8 (.cut 10) (.alt 12 (.cut 6) .non)))⟩,
  ⟨905, pk V 4863, B0, .alt 1 (.cut 14) (.alt 4 (.cut 13) (.alt 10 (.cut 10) (.alt 12 (.cut 7) .non)))⟩,
  ⟨665, pk V 9087, B0, .alt 1 (.cut 15) (.alt 8 (.cut 13) (.alt 10 (.cut 11) (.alt 12 (.cut 8) .non)))⟩,
  ⟨651, pk V 17343, B0, .alt 2 (.cut 16) (.alt 4 (.cut 15) (.alt 8 (.cut 14) (.alt 10 (.cut 12) (.alt 12 (.cut 9) .non))))⟩,
  ⟨5769, pk V 3583, B1, .alt 1 (.cut 19) (.alt 4 (.cut 18) (.alt 8 (.cut 17) .non))⟩,
  ⟨5001, pk V 5887, B1, .alt 1 (.cut 21) (.alt 4 (.cut 20) (.alt 10 (.cut 17) .non))⟩,
  ⟨4761, pk V 10111, B1, .alt 1 (.cut 22) (.alt 8 (.cut 20) (.alt 10 (.cut 18) .non))⟩,
  ⟨4747, pk V 18367, B1, .alt 2 (.cut 23) (.alt 4 (.cut 22) (.alt 8 (.cut 21) (.alt 10 (.cut 19) .non)))⟩,
  ⟨1929, pk V 6399, B0, .take 11 (.alt 1 (.cut 26) (.alt 4 (.cut 25) (.alt 12 (.cut 24) .non)))⟩,
  ⟨1689, pk V 10623, B0, .alt 1 (.cut 28) (.alt 8 (.cut 27) (.alt 12 (.cut 18) .non))⟩,
  ⟨1675, pk V 18879, B0, .alt 2 (.cut 30) (.alt 4 (.cut 28) (.alt 8 (.cut 29) (.alt 12 (.cut 19) .non)))⟩,
  ⟨921, pk V 12927, B0, .alt 1 (.cut 31) (.alt 10 (.cut 27) (.alt 12 (.cut 20) .non))⟩,
  ⟨907, pk V 21183, B0, .alt 2 (.cut 32) (.alt 4 (.cut 31) (.alt 10 (.cut 29) (.alt 12 (.cut 21) .non)))⟩,
  ⟨667, pk V 25407, B0, .alt 2 (.cut 33) (.alt 8 (.cut 31) (.alt 10 (.cut 28) (.alt 12 (.cut 22) .non)))⟩,
  ⟨655, pk V 33727, B0, .alt 4 (.cut 33) (.alt 8 (.cut 32) (.alt 10 (.cut 30) (.alt 12 (.cut 23) .non)))⟩,
  ⟨6025, pk V 7423, B1, .take 11 (.alt 1 (.cut 35) (.alt 4 (.cut 34) .non))⟩,
  ⟨5785, pk V 11647, B1, .alt 1 (.cut 37) (.alt 8 (.cut 36) .non)⟩,
  ⟨5771, pk V 19903, B1, .alt 2 (.cut 39) (.alt 4 (.cut 37) (.alt 8 (.cut 38) .non))⟩,
  ⟨5017, pk V 13951, B1, .alt 1 (.cut 40) (.alt 10 (.cut 36) .non)⟩,
  ⟨5003, pk V 22207, B1, .alt 2 (.cut 41) (.alt 4 (.cut 40) (.alt 10 (.cut 38) .non))⟩,
  ⟨4763, pk V 26431, B1, .alt 2 (.cut 42) (.alt 8 (.cut 40) (.alt 10 (.cut 37) .non))⟩,
  ⟨4751, pk V 34751, B1, .alt 4 (.cut 42) (.alt 8 (.cut 41) (.alt 10 (.cut 39) .non))⟩,
  ⟨8073, pk V 66815, B1, .alt 1 (.cut 35) (.alt 4 (.cut 34) .non)⟩,
  ⟨3993, pk V 73855, B0, .alt 1 (.cut 43) (.alt 12 (.cut 34) .non)⟩,
  ⟨3979, pk V 82111, B0, .alt 2 (.cut 44) (.alt 4 (.cut 43) (.alt 12 (.cut 35) .non))⟩,
  ⟨1945, pk V 14463, B0, .take 11 (.alt 1 (.cut 43) (.alt 12 (.cut 34) .non))⟩,
  ⟨1691, pk V 26943, B0, .alt 2 (.cut 46) (.alt 8 (.cut 45) (.alt 12 (.cut 37) .non))⟩,
  ⟨1931, pk V 22719, B0, .take 11 (.alt 2 (.cut 44) (.alt 4 (.cut 43) (.alt 12 (.cut 35) .non)))⟩,
  ⟨1679, pk V 35263, B0, .alt 4 (.cut 46) (.alt 8 (.cut 47) (.alt 12 (.cut 39) .non))⟩,
  ⟨923, pk V 29247, B0, .alt 2 (.cut 48) (.alt 10 (.cut 45) (.alt 12 (.cut 40) .non))⟩,
  ⟨911, pk V 37567, B0, .alt 4 (.cut 48) (.alt 10 (.cut 47) (.alt 12 (.cut 41) .non))⟩,
  ⟨671, pk V 41791, B0, .alt 5 (.cut 49) (.alt 8 (.cut 48) (.alt 10 (.cut 46) (.alt 12 (.cut 42) .non)))⟩,
  ⟨8089, pk V 74879, B1, .alt 1 (.cut 50) .non⟩,
  ⟨8075, pk V 83135, B1, .alt 2 (.cut 51) (.alt 4 (.cut 50) .non)⟩,
  ⟨6041, pk V 15487, B1, .take 11 (.alt 1 (.cut 50) .non)⟩,
  ⟨5787, pk V 27967, B1, .alt 2 (.cut 53) (.alt 8 (.cut 52) .non)⟩,
  ⟨6027, pk V 23743, B1, .take 11 (.alt 2 (.cut 51) (.alt 4 (.cut 50) .non))⟩,
  ⟨5775, pk V 36287, B1, .alt 4 (.cut 53) (.alt 8 (.cut 54) .non)⟩,
  ⟨5019, pk V 30271, B1, .alt 2 (.cut 55) (.alt 10 (.cut 52) .non)⟩,
  ⟨5007, pk V 38591, B1, .alt 4 (.cut 55) (.alt 10 (.cut 54) .non)⟩,
  ⟨4767, pk V 42815, B1, .alt 5 (.cut 56) (.alt 8 (.cut 55) (.alt 10 (.cut 53) .non))⟩,
  ⟨3995, pk V 90175, B0, .alt 2 (.cut 57) (.alt 12 (.cut 50) .non)⟩,
  ⟨3983, pk V 98495, B0, .alt 4 (.cut 57) (.alt 12 (.cut 51) .non)⟩,
  ⟨1947, pk V 30783, B0, .take 11 (.alt 2 (.cut 57) (.alt 12 (.cut 50) .non))⟩,
  ⟨1695, pk V 43327, B0, .alt 5 (.cut 59) (.alt 8 (.cut 58) (.alt 12 (.cut 53) .non))⟩,
  ⟨1935, pk V 39103, B0, .take 11 (.alt 4 (.cut 57) (.alt 12 (.cut 51) .non))⟩,
  ⟨927, pk V 45631, B0, .alt 5 (.cut 60) (.alt 10 (.cut 58) (.alt 12 (.cut 55) .non))⟩,
  ⟨703, pk V 164671, B0, .alt 6 (.cut 61) (.alt 8 (.cut 60) (.alt 10 (.cut 59) (.alt 12 (.cut 56) .non)))⟩,
  ⟨8091, pk V 91199, B1, .alt 2 (.cut 62) .non⟩,
  ⟨8079, pk V 99519, B1, .alt 4 (.cut 62) .non⟩,
  ⟨6043, pk V 31807, B1, .take 11 (.alt 2 (.cut 62) .non)⟩,
  ⟨5791, pk V 44351, B1, .alt 5 (.cut 64) (.alt 8 (.cut 63) .non)⟩,
  ⟨6031, pk V 40127, B1, .take 11 (.alt 4 (.cut 62) .non)⟩,
  ⟨5023, pk V 46655, B1, .alt 5 (.cut 65) (.alt 10 (.cut 63) .non)⟩,
  ⟨4799, pk V 165695, B1, .alt 6 (.cut 66) (.alt 8 (.cut 65) (.alt 10 (.cut 64) .non))⟩,
  ⟨3999, pk V 106559, B0, .alt 5 (.cut 67) (.alt 12 (.cut 62) .non)⟩,
  ⟨1951, pk V 47167, B0, .take 11 (.alt 5 (.cut 67) (.alt 12 (.cut 62) .non))⟩,
  ⟨1727, pk V 166207, B0, .alt 6 (.cut 69) (.alt 8 (.cut 68) (.alt 12 (.cut 64) .non))⟩,
  ⟨959, pk V 168511, B0, .alt 6 (.cut 70) (.alt 10 (.cut 68) (.alt 12 (.cut 65) .non))⟩,
  ⟨767, pk V 262975, B0, .alt 8 (.cut 70) (.alt 10 (.cut 69) (.alt 12 (.cut 66) .non))⟩,
  ⟨8095, pk V 107583, B1, .alt 5 (.cut 71) .non⟩,
  ⟨6047, pk V 48191, B1, .take 11 (.alt 5 (.cut 71) .non)⟩,
  ⟨5823, pk V 167231, B1, .alt 6 (.cut 73) (.alt 8 (.cut 72) .non)⟩,
  ⟨5055, pk V 169535, B1, .alt 6 (.cut 74) (.alt 10 (.cut 72) .non)⟩,
  ⟨4863, pk V 263999, B1, .alt 8 (.cut 74) (.alt 10 (.cut 73) (.alt 13 (.cut 75) .non))⟩,
  ⟨4031, pk V 229439, B0, .alt 6 (.cut 76) (.alt 12 (.cut 71) .non)⟩,
  ⟨1983, pk V 170047, B0, .take 11 (.alt 6 (.cut 76) (.alt 12 (.cut 71) .non))⟩,
  ⟨1791, pk V 264511, B0, .alt 8 (.cut 77) (.alt 12 (.cut 73) .non)⟩,
  ⟨1023, pk V 266815, B0, .alt 10 (.cut 77) (.alt 12 (.cut 74) .non)⟩,
  ⟨8127, pk V 230463, B1, .alt 6 (.cut 78) .non⟩,
  ⟨6079, pk V 171071, B1, .take 11 (.alt 6 (.cut 78) .non)⟩,
  ⟨5887, pk V 265535, B1, .alt 8 (.cut 80) (.alt 13 (.cut 79) .non)⟩,
  ⟨5119, pk V 267839, B1, .alt 10 (.cut 80) (.alt 13 (.cut 81) .non)⟩,
  ⟨13055, pk V 1855, B2, .alt 8 (.cut 81) (.alt 10 (.cut 79) .non)⟩,
  ⟨4095, pk V 327743, B0, .alt 12 (.cut 78) .non⟩,
  ⟨2047, pk V 268351, B0, .take 11 (.alt 12 (.cut 78) .non)⟩,
  ⟨8191, pk V 328767, B1, .alt 13 (.cut 82) .non⟩,
  ⟨14079, pk V 3391, B2, .alt 8 (.cut 83) .non⟩,
  ⟨6143, pk V 269375, B1, .take 11 (.alt 13 (.cut 82) .non)⟩,
  ⟨13311, pk V 5695, B2, .alt 10 (.cut 83) .non⟩,
  ⟨16383, pk V 66623, B2, .alt 14 (.fin) .non⟩,
  ⟨14335, pk V 7231, B2, .take 11 (.alt 14 (.fin) .non)⟩]
theorem q_less {x y u v : D2} (h1 : x.good) (h2 : y.good) (h3 : u.good) (h4 : v.good) : FC Tryz.prog G 165 [DY x.1 x.2, DY y.1 y.2, DY u.1 u.2, DY v.1 v.2] (· = .val (.bool (decide (x.v * v.v < u.v * y.v)))) := by
  have e1 := h1.2
  have e2 := h2.2
  have e3 := h3.2
  have e4 := h4.2
  have b1 := good_zi h1
  have b2 := good_zi h2
  have b3 := good_zi h3
  have b4 := good_zi h4
  have f1 := r_zfromg (G := G) h1
  have f2 := r_zfromg (G := G) h2
  have f3 := r_zfromg (G := G) h3
  have f4 := r_zfromg (G := G) h4
  have m1 := r_zmul (G := G) x.1 v.1 (Nat.le_trans (LZ_bound (by omega)) (by decide)) (Nat.le_trans (LZ_bound (by omega)) (by decide))
  have m2 := r_zmul (G := G) u.1 y.1 (Nat.le_trans (LZ_bound (by omega)) (by decide)) (Nat.le_trans (LZ_bound (by omega)) (by decide))
  have c1 := mul_bl b1 b4
  have c2 := mul_bl b3 b2
  have k := q_hold (G := G) (x.1 * v.1) (x.2 + v.2) (u.1 * y.1) (u.2 + y.2) (by omega) (by omega) (by omega) (by omega)
  have hl := less_V h1 h2 h3 h4
  obtain ⟨z, hz⟩ : ∃ z, z = holdS (x.1 * v.1) (x.2 + v.2) (u.1 * y.1) (u.2 + y.2) := ⟨_, rfl⟩
  rw [← hz] at k hl
  have hl2 : decide (x.v * v.v < u.v * y.v) = decide (z < 0) := decide_eq_decide.2 hl.symm
  rw [hl2]
  obtain ⟨X, hX⟩ : ∃ X, X = x.1 * v.1 := ⟨_, rfl⟩
  obtain ⟨Y, hY⟩ : ∃ Y, Y = u.1 * y.1 := ⟨_, rfl⟩
  rw [← hX] at m1 k
  rw [← hY] at m2 k
  clear hz hl hl2 hX hY c1 c2 b1 b2 b3 b4
  have e1a := e1.1
  have e1b := e1.2.1
  have e2a := e2.1
  have e2b := e2.2.1
  have e3a := e3.1
  have e3b := e3.2.1
  have e4a := e4.1
  have e4b := e4.2.1
  clear e1 e2 e3 e4
  refine ax_i Tryz.func165 Tryz.ntmps165 ?_; intro F hG hO
  rw [← hG] at f1 f2 f3 f4 m1 m2 k
  repeat' ((try (conv => whnf)); first
 | refine ce f1 ?_ | refine ce f2 ?_ | refine ce f3 ?_ | refine ce f4 ?_ | refine ce m1 ?_ | refine ce m2 ?_ | refine ce k ?_
 | (refine dg ?_; refine draw_dp (A := Unit) (id := 1) (N := 43) (l1n (l1V x v X) (l1b0 x y u v) (l1b1 x y u v) (l1b2 x y u v X)) [] (fun _ => [(9, .ptr 4 0), (10, l1v10 x v), (4, .ptr 0 0), (5, .ptr 1 0), (6, .ptr 2 0), (7, .ptr 3 0)]) (fun _ => l1b2 x y u v X) (fun _ => []) tok mixed (by kernel_rfl) (by kernel_rfl) (by simp [hO]) ⟨_, rfl, by kernel_rfl, cutj rfl ⟨_, rfl⟩ ⟨_, rfl⟩⟩ (by intro ju; simp [hO]) ?_ ?_; rotate_left; intro ju)
 | exact joinp () [(0, []), (1, []), (2, []), (3, []), (4, [])] rfl rfl rfl ⟨_, rfl⟩
 | ((with_reducible refine ct ?_); exact cutj rfl ⟨_, rfl⟩ ⟨_, rfl⟩)
 | (refine dg ?_; refine draw_dp (A := Unit) (id := 2) (N := 43) (l2n (l2V x y u v Y) (l2b0 x y u v X) (l2b1 x y u v X) (l2b2 x y u v X Y)) [] (fun _ => [(11, .ptr 5 0), (12, l2v12 y u), (4, .ptr 0 0), (5, .ptr 1 0), (6, .ptr 2 0), (7, .ptr 3 0), (9, .ptr 4 0), (10, .val (.int .i64 (x.2 + v.2)))]) (fun _ => l2b2 x y u v X Y) (fun _ => []) tok mixed (by kernel_rfl) (by kernel_rfl) (by simp [hO]) ⟨_, rfl, by kernel_rfl, cutj rfl ⟨_, rfl⟩ ⟨_, rfl⟩⟩ (by intro ju; simp [hO]) ?_ ?_; rotate_left; intro ju)
 | exact joinp () [(0, []), (1, []), (2, []), (3, []), (4, []), (5, [])] rfl rfl rfl ⟨_, rfl⟩
 | ((with_reducible refine ct ?_); exact cutj rfl ⟨_, rfl⟩ ⟨_, rfl⟩)
 | (refine dT (id := 1) dt9 ?_)
 | (refine dT (id := 2) dt9 ?_)
 | with_reducible first | refine ax_s ?_ | (refine ax_f ?_ ?_ <;> try intro hc) | fail)
  all_goals exact ⟨ret_e rfl⟩
def opsC (id : Nat) : Code → Option (List Oper)
 | .region i ops _ => cond (Nat.beq i id) (some ops.toList) none
 | .seq a b => match opsC id a with
    | some l => some l
    | none => opsC id b
 | .cond _ a b => match opsC id a with
    | some l => some l
    | none => opsC id b
 | .block _ c => opsC id c
 | .loop c => opsC id c
 | _ => none
def opsB (b : Option Code) (id : Nat) : List Oper := match b with
 | some c => match opsC id c with
    | some l => l
    | none => []
 | none => []
structure Reg {A : Type} (P : Program) (TT : List TI) (X : List FuncId) (G : List (Nat × List Value)) (id : Nat) (ops : List Oper) (N : Nat) (S : List (Nat × PV)) (B : List (List PV)) (S' : A → List (Nat × PV)) (B' : A → List (List PV)) : Prop where
  h : ∀ F : Fr, F.G = G → F.c0.ob.length = 0 → ∀ (s : St) (K : St → Prop), CutG N S B [] s → (∀ x, K ⟨N, tab (S' x), B' x, []⟩) → DrawG P F TT X id ops s K
theorem Reg.use {A : Type} {P : Program} {F : Fr} {TT : List TI} {X : List FuncId} {id N : Nat} {ops : List Oper} {S : List (Nat × PV)} {B : List (List PV)} {S' : A → List (Nat × PV)} {B' : A → List (List PV)} {s : St} {K : St → Prop} (h : Reg P TT X F.G id ops N S B S' B') (hO : F.c0.ob.length = 0) (hs : CutG N S B [] s) (k : ∀ x, K ⟨N, tab (S' x), B' x, []⟩) : DrawG P F TT X id ops s K := h.h F rfl hO s K hs k
section
variable {P : Program} {F : Fr} {TT : List TI} {X : List FuncId} {s : St}
structure RndG (P : Program) (F : Fr) (TT : List TI) (X : List FuncId) (c : Code) (kr : St → Prop) (kx : Nat → St → Prop) (n : Nat) (s : St) : Prop where
  h : vR P F TT X c kr kx n s
theorem rnd0 {c : Code} {kr : St → Prop} {kx : Nat → St → Prop} (n : Nat) (hTT : TOk P TT) (h : RndG P F TT X c kr kx n s) : LoopG P F TT X c kr kx s := rounds_g n hTT h.h
theorem rnd1 {c : Code} {kr : St → Prop} {kx : Nat → St → Prop} {n : Nat} (h : vC P F TT X c (fun s => RndG P F TT X c kr kx n s) kr kx s) : RndG P F TT X c kr kx (n + 1) s := by
  have e : (fun s => RndG P F TT X c kr kx n s) = vR P F TT X c kr kx n := funext fun s => propext ⟨fun h => h.h, fun h => ⟨h⟩⟩
  rw [e] at h
  exact ⟨h⟩
end
theorem dgat {P : Program} {F : Fr} {TT : List TI} {X : List FuncId} {s : St} {K : St → Prop} {id : Nat} {ops : List Oper} (x : Nat) (v : PV) (h0 : s.t x = v) (h : DrawG P F TT X id ops s K) : DrawG P F TT X id ops s K := h
theorem LpL.len : ∀ {l l' : List PV}, LpL l l' → l.length = l'.length
 | _, _, .nil => rfl
 | _, _, .cons _ t => by simp [LpL.len t]
theorem FC.sl0 {P : Program} {G : Gs} {f : FuncId} {z : Nat} {C C' args : List PV} {Q : PV → Prop} (h : FC P G f (.sl z C' :: args) Q) (hl : LpL C C') : FC P G f (.sl z C :: args) Q :=
  ⟨h.c, fun ρ w vs hG hm hr => h.h ρ w vs hG hm (by
    cases hr with
    | cons h1 h2 =>
      refine .cons ?_ h2
      cases h1 with
      | sl h0 h1 h2 h3 h4 => exact .sl h0 (by rw [h1, hl.len]) h2 (hl.rep h3) h4)⟩
theorem Vc_two {n e : Int} (he : -1048576 ≤ e) : Vc 2097152 n e = VV n e * 2 ^ 1048576 := by
  unfold Vc VV
  rw [Int.mul_assoc, ← Int.pow_add]
  congr 2
  omega
theorem mul_V {a c : D2} (h : a.good) (k : c.good) (hc : (toAn (mulP a c)).c = 0) : (toAn (mulP a c)).d.v * 2 ^ 1048576 = a.v * c.v := by
  obtain ⟨h1, g, _⟩ := (mul_ans a c).eq
  obtain ⟨u, hu⟩ : ∃ u, u = toAn (mulP a c) := ⟨_, rfl⟩
  rw [← hu] at h1 hc g ⊢
  unfold An.pv at h1
  rw [hc] at h1
  have e1 := h.2.1
  have e2 := k.2.1
  have hE : dyE 5 ≠ .tup [DY u.x u.y, .val (.int .i64 0)] := fun hh => absurd (tup_inj hh).2.2 (by decide)
  unfold mulP mulS at h1
  split at h1
  · exact absurd h1 hE
  · have hv := told_Vc (c := 2097152) (by omega) h1
    show VV u.x u.y * 2 ^ 1048576 = VV a.1 a.2 * VV c.1 c.2
    rw [← Vc_two g.2.1, hv, Vc_mul e1 e2]
theorem cut_Vc {s E p c : Int} {x y : Int} (hE : -c ≤ E) (h : cutS s E p false = .tup [DY x y, .val (.int .i64 0)]) : Vc c x y ≤ Vc c s E := by
  unfold cutS at h
  split at h
  · exact Int.le_of_eq (told_Vc hE h)
  · rename_i hb
    obtain ⟨j, hj⟩ : ∃ j : Nat, (j : Int) = (bl s.natAbs : Int) - p := ⟨((bl s.natAbs : Int) - p).toNat, by omega⟩
    rw [← hj] at h
    have hv := told_Vc (c := c) (by omega) h
    rw [hv]
    have hw : wholeS s (j : Int) false = s / 2 ^ j := by show s / 2 ^ ((j : Int)).toNat = _; rw [Int.toNat_natCast]
    rw [hw]
    unfold Vc
    rw [show (E + (j : Int) + c).toNat = j + (E + c).toNat by omega, Int.pow_add, ← Int.mul_assoc]
    exact mr (Int.ediv_mul_le _ (Int.ne_of_gt (p2_pos j))) (Int.le_of_lt (p2_pos _))
theorem quo_low {a b : D2} (h : a.good) (g : b.good) (hb : 0 < b.1) {p : Int} (hp : 1 ≤ p ∧ p ≤ 70000) (hc : (toAn (quoP a b p false)).c = 0) : (toAn (quoP a b p false)).d.v * b.v ≤ a.v * 2 ^ 1048576 := by
  obtain ⟨h1, gu, _⟩ := (quo_ans (a := a) (b := b) hp (by omega) false).eq
  obtain ⟨u, hu⟩ : ∃ u, u = toAn (quoP a b p false) := ⟨_, rfl⟩
  rw [← hu] at h1 hc gu ⊢
  unfold An.pv at h1
  rw [hc] at h1
  have hE : dyE 5 ≠ .tup [DY u.x u.y, .val (.int .i64 0)] := fun hh => absurd (tup_inj hh).2.2 (by decide)
  have e1 := h.2.1
  have e2 := g.2.1
  have e3 := g.2.2.1
  have e4 := gu.2.1
  unfold quoP quoS at h1
  rw [if_neg (by omega), if_neg (by omega), if_neg (by omega)] at h1
  split at h1
  · exact absurd h1 hE
  · rename_i l1
    split at h1
    · exact absurd h1 hE
    · rename_i l2
      have hbl := bl_L64 b.1.natAbs
      have hk : quoK a.1 b.1 p 1 = max 0 (p + 1 + bl b.1.natAbs - bl a.1.natAbs) := rfl
      obtain ⟨k, hkk⟩ : ∃ k : Nat, (k : Int) = quoK a.1 b.1 p 1 := ⟨(quoK a.1 b.1 p 1).toNat, by omega⟩
      rw [← hkk, Int.toNat_natCast] at h1
      obtain ⟨c, hcc⟩ : ∃ c : Int, c = 4194304 := ⟨_, rfl⟩
      have hv := cut_Vc (c := c) (by omega) h1
      obtain ⟨s, hs⟩ : ∃ s, s = docQ a.1 b.1 k false := ⟨_, rfl⟩
      have hsm : s * b.1 ≤ a.1 * 2 ^ k := by
        rw [hs]
        show (a.1 * 2 ^ k).fdiv b.1 * b.1 ≤ a.1 * 2 ^ k
        rw [Int.fdiv_eq_ediv_of_nonneg _ (by omega)]
        exact Int.ediv_mul_le _ (by omega)
      rw [← hs] at hv
      -- everything in parts of 2^-c
      have k1 : u.x * 2 ^ (u.y + c).toNat * b.1 ≤ a.1 * 2 ^ (a.2 - b.2 + c).toNat := by
        unfold Vc at hv
        have m1 := mr hv (Int.le_of_lt hb)
        refine Int.le_trans m1 ?_
        rw [Int.mul_right_comm]
        have m2 := mr hsm (Int.le_of_lt (p2_pos (a.2 - b.2 - (k : Int) + c).toNat))
        refine Int.le_trans m2 ?_
        rw [Int.mul_assoc, ← Int.pow_add, show k + (a.2 - b.2 - (k : Int) + c).toNat = (a.2 - b.2 + c).toNat by omega]
        exact Int.le_refl _
      have k2 := mr k1 (Int.le_of_lt (p2_pos (b.2 + 2097152).toNat))
      have t1 : (VV u.x u.y * VV b.1 b.2) * 2 ^ c.toNat = u.x * 2 ^ (u.y + c).toNat * b.1 * 2 ^ (b.2 + 2097152).toNat := by
        have r : u.x * 2 ^ (u.y + c).toNat * b.1 * 2 ^ (b.2 + 2097152).toNat = u.x * b.1 * 2 ^ ((u.y + c).toNat + (b.2 + 2097152).toNat) := by
          rw [Int.mul_right_comm u.x, Int.mul_assoc, ← Int.pow_add]
        rw [r, Vc_mul e4 e2]
        unfold Vc
        rw [Int.mul_assoc, ← Int.pow_add, show (u.y + b.2 + 2097152).toNat + c.toNat = (u.y + c).toNat + (b.2 + 2097152).toNat by omega]
      have t2 : (VV a.1 a.2 * 2 ^ 1048576) * 2 ^ c.toNat = a.1 * 2 ^ (a.2 - b.2 + c).toNat * 2 ^ (b.2 + 2097152).toNat := by
        rw [← Vc_two e1]
        unfold Vc
        rw [Int.mul_assoc, ← Int.pow_add, Int.mul_assoc a.1, ← Int.pow_add, show (a.2 + 2097152).toNat + c.toNat = (a.2 - b.2 + c).toNat + (b.2 + 2097152).toNat by omega]
      show VV u.x u.y * VV b.1 b.2 ≤ VV a.1 a.2 * 2 ^ 1048576
      refine Int.le_of_mul_le_mul_right ?_ (p2_pos c.toNat)
      rw [t1, t2]
      exact k2
theorem docQ_neg (n m : Int) (s : Nat) (up : Bool) : docQ (-n) m s up = -docQ n m s (!up) := by
  cases up
  · show ((-n) * 2 ^ s).fdiv m = - -((-(n * 2 ^ s)).fdiv m)
    rw [Int.neg_neg, Int.neg_mul]
  · show -((-((-n) * 2 ^ s)).fdiv m) = -((n * 2 ^ s).fdiv m)
    rw [Int.neg_mul, Int.neg_neg]
theorem cutS_neg (n e p : Int) (up : Bool) : toAn (cutS (-n) e p up) = (toAn (cutS n e p (!up))).neg := by
  unfold cutS
  rw [Int.natAbs_neg, whole_neg]
  split
  · exact told_neg _ _
  · exact told_neg _ _
theorem quo_neg1 (a b : D2) (p : Int) (up : Bool) (hp : 1 ≤ p ∧ p ≤ 70000) (h0 : b.1 ≠ 0) : toAn (quoP a.neg b p up) = (toAn (quoP a b p (!up))).neg := by
  have e1 : quoK (-a.1) b.1 p 1 = quoK a.1 b.1 p 1 := by unfold quoK; rw [Int.natAbs_neg]
  have en : L64 (-a.1).natAbs = L64 a.1.natAbs := by rw [Int.natAbs_neg]
  show toAn (quoS (-a.1) a.2 b.1 b.2 p up) = (toAn (quoS a.1 a.2 b.1 b.2 p (!up))).neg
  by_cases hl : L64 a.1.natAbs ≤ 4096 ∧ L64 b.1.natAbs ≤ 4096
  · rw [quoS_ok hp h0 (by omega) hl.2, quoS_ok hp h0 hl.1 hl.2, e1, docQ_neg]
    exact cutS_neg _ _ _ _
  · rw [quoS_5 hp h0 (by omega), quoS_5 hp h0 (by omega), dyE_an]
    rfl
theorem quo_high {a b : D2} (h : a.good) (g : b.good) (hb : 0 < b.1) {p : Int} (hp : 1 ≤ p ∧ p ≤ 70000) (hc : (toAn (quoP a b p true)).c = 0) : a.v * 2 ^ 1048576 ≤ (toAn (quoP a b p true)).d.v * b.v := by
  have e := quo_neg1 a b p false hp (by omega)
  have h1 := quo_low (D2.neg_good h) g hb hp (by rw [e]; exact hc)
  rw [e, An.neg_d, D2.neg_v, D2.neg_v, Int.neg_mul, Int.neg_mul] at h1
  have : (!false) = true := rfl
  rw [this] at h1
  omega
theorem spR_inj {a b x y : D2} (h : spR a b = spR x y) (ha : a.good) (hx : x.good) (hb : b.good) (hy : y.good) : a = x ∧ b = y := by
  unfold spR SP at h
  simp only [PV.tup.injEq, PV.agg.injEq, List.cons.injEq, PV.val.injEq, Value.bool.injEq, PV.ws.injEq, Value.int.injEq, true_and, and_true] at h
  obtain ⟨h1, h2, h3, h4, h5, h6⟩ := h
  have k1 : DY a.1 a.2 = DY x.1 x.2 := by unfold DY; rw [h1, h2, h3]
  have k2 : DY b.1 b.2 = DY y.1 y.2 := by unfold DY; rw [h4, h5, h6]
  exact ⟨Prod.ext (DY_inj k1).1 (DY_inj k1).2, Prod.ext (DY_inj k2).1 (DY_inj k2).2⟩
theorem D2.sgn (a : D2) : (a.1 < 0 ↔ a.v < 0) ∧ (0 < a.1 ↔ 0 < a.v) := by
  have h := VV_sign (n := a.1) (e := a.2)
  unfold D2.v
  exact ⟨h.2.symm, h.1.symm⟩
theorem quo_pos {a b c d : D2} (h : GoodS a b) (k : GoodS c d) (hc : 0 < c.1) {p : Int} (hp : 1 ≤ p ∧ p ≤ 70000) : spQuoPos a b c d p = spE 5 ∨ ∃ x y : D2, spQuoPos a b c d p = spR x y ∧ GoodS x y
    ∧ (x.v * c.v ≤ a.v * 2 ^ 1048576 ∨ x.v * d.v ≤ a.v * 2 ^ 1048576) ∧ (b.v * 2 ^ 1048576 ≤ y.v * c.v ∨ b.v * 2 ^ 1048576 ≤ y.v * d.v) := by
  have sc := D2.sgn c
  have sd := D2.sgn d
  have sa := D2.sgn a
  have sb := D2.sgn b
  have hcd := k.2.2
  have hab := h.2.2
  have hcv : 0 < c.v := sc.2.1 hc
  have hdv : 0 < d.v := by omega
  have hd1 : 0 < d.1 := sd.2.2 hdv
  unfold spQuoPos
  obtain ⟨un, hun⟩ : ∃ r, r = (if a.1 < 0 then c else d) := ⟨_, rfl⟩
  obtain ⟨ov, hov⟩ : ∃ r, r = (if b.1 < 0 then d else c) := ⟨_, rfl⟩
  rw [← hun, ← hov]
  have u1 : un.good ∧ 0 < un.1 := by rw [hun]; split <;> first | exact ⟨k.1, hc⟩ | exact ⟨k.2.1, hd1⟩
  have u2 : ov.good ∧ 0 < ov.1 := by rw [hov]; split <;> first | exact ⟨k.1, hc⟩ | exact ⟨k.2.1, hd1⟩
  have l1 := quo_low h.1 u1.1 u1.2 hp
  have l2 := quo_high h.2.1 u2.1 u2.2 hp
  have g1 := An.d_good (quo_ans (a := a) (b := un) hp (by omega) false)
  have g2 := An.d_good (quo_ans (a := b) (b := ov) hp (by omega) true)
  obtain ⟨u, hu⟩ : ∃ u, u = toAn (quoP a un p false) := ⟨_, rfl⟩
  obtain ⟨v, hv⟩ : ∃ v, v = toAn (quoP b ov p true) := ⟨_, rfl⟩
  rw [← hu] at l1 g1 ⊢
  rw [← hv] at l2 g2 ⊢
  by_cases hz : u.c = 0 ∧ v.c = 0
  · refine .inr ⟨u.d, v.d, bothA_ok hz.1 hz.2, ⟨g1, g2, ?_⟩, ?_, ?_⟩
    · have m1 := l1 hz.1
      have m2 := l2 hz.2
      obtain ⟨C, hC⟩ : ∃ C : Int, C = 2 ^ 1048576 := ⟨_, rfl⟩
      have hC0 : 0 < C := hC ▸ p2_pos 1048576
      rw [← hC] at m1 m2
      have ab := mr hab (Int.le_of_lt hC0)
      obtain ⟨X, hX⟩ : ∃ X, X = u.d.v := ⟨_, rfl⟩
      obtain ⟨Y, hY⟩ : ∃ Y, Y = v.d.v := ⟨_, rfl⟩
      rw [← hX] at m1 ⊢
      rw [← hY] at m2 ⊢
      rcases Int.lt_or_le Y X with hlt | hle
      · exfalso
        by_cases ha : a.1 < 0
        · rw [if_pos ha] at hun
          subst hun
          have hav := sa.1.1 ha
          have hx0 : X < 0 := by
            rcases Int.lt_or_le X 0 with q | q
            · exact q
            · exfalso
              have n1 := Int.mul_nonneg q (Int.le_of_lt hcv)
              have n2 := Int.mul_neg_of_neg_of_pos hav hC0
              omega
          by_cases hb : b.1 < 0
          · rw [if_pos hb] at hov
            subst hov
            have n1 := mln hcd (show Y ≤ 0 by omega)
            have n2 := Int.mul_lt_mul_of_pos_right hlt hcv
            omega
          · rw [if_neg hb] at hov
            subst hov
            have hbv : 0 ≤ b.v := by have := sb.1; omega
            have n1 := Int.mul_nonneg hbv (Int.le_of_lt hC0)
            have n2 := Int.mul_neg_of_neg_of_pos (show Y < 0 by omega) hcv
            omega
        · rw [if_neg ha] at hun
          subst hun
          have hav : 0 ≤ a.v := by have := sa.1; omega
          have hb : ¬ b.1 < 0 := fun hh => by have := sb.1.1 hh; omega
          rw [if_neg hb] at hov
          subst hov
          have n0 := Int.mul_nonneg hav (Int.le_of_lt hC0)
          have hy0 : 0 ≤ Y := by
            rcases Int.lt_or_le Y 0 with q | q
            · exfalso
              have n2 := Int.mul_neg_of_neg_of_pos q hcv
              omega
            · exact q
          have n1 := ml hcd (show 0 ≤ X by omega)
          have n2 := Int.mul_lt_mul_of_pos_right hlt hcv
          omega
      · exact hle
    · have m1 := l1 hz.1
      rw [hun] at m1
      split at m1
      · exact .inl m1
      · exact .inr m1
    · have m2 := l2 hz.2
      rw [hov] at m2
      split at m2
      · exact .inr m2
      · exact .inl m2
  · exact .inl (bothA_no (by omega))
end Go.Proofs.YtpjbgmafnheomaaGreatDoor.Sim
