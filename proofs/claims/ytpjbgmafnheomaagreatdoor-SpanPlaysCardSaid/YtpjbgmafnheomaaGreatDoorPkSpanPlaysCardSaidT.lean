/-
  Lemmas of SpanPlaysCardSaid, part 20.
-/
import Derived.Test.YtpjbgmafnheomaaGreatDoorPkSpanPlaysCardSaidS
namespace Go.Proofs.YtpjbgmafnheomaaGreatDoor.Sim
open Go.RowKit
set_option linter.unusedVariables false
set_option linter.unusedSimpArgs false
set_option maxRecDepth 10000
set_option maxHeartbeats 8000000
def t15v99 : PV := .ptr 0 0
def t15v100 (a : D2) : PV := .agg [.val (.bool (decide (a.1 < 0))), .ws .u64 (d64 a.1.natAbs), .val (.int .i64 a.2)]
def t15v101 : PV := .ptr 0 3
def t15v102 (b : D2) : PV := .agg [.val (.bool (decide (b.1 < 0))), .ws .u64 (d64 b.1.natAbs), .val (.int .i64 b.2)]
def t15v103 (a : D2) (b : D2) : PV := .sl 3 [.val (.bool (decide (a.1 < 0))), .ws .u64 (d64 a.1.natAbs), .val (.int .i64 a.2), .val (.bool (decide (b.1 < 0))), .ws .u64 (d64 b.1.natAbs), .val (.int .i64 b.2)]
def t15v104 : PV := .ptr 0 0
def t15v105 (a : D2) : PV := .agg [.val (.bool (decide (a.1 < 0))), .ws .u64 (d64 a.1.natAbs), .val (.int .i64 a.2)]
def t15v106 : PV := .ptr 0 3
def t15v107 (b : D2) : PV := .agg [.val (.bool (decide (b.1 < 0))), .ws .u64 (d64 b.1.natAbs), .val (.int .i64 b.2)]
def t15v108 (a : D2) (b : D2) : PV := .sl 3 [.val (.bool (decide (a.1 < 0))), .ws .u64 (d64 a.1.natAbs), .val (.int .i64 a.2), .val (.bool (decide (b.1 < 0))), .ws .u64 (d64 b.1.natAbs), .val (.int .i64 b.2)]
def t15v109 (a : D2) (b : D2) : PV := .agg [.val (.bool (decide (a.1 < 0))), .ws .u64 (d64 a.1.natAbs), .val (.int .i64 a.2), .val (.bool (decide (b.1 < 0))), .ws .u64 (d64 b.1.natAbs), .val (.int .i64 b.2)]
def t15v110 : PV := .agg [.val (.bool false), .nil, .val (.int .i64 0)]
def t15v111 (hb : Bool) : PV := .val (.bool hb)
def t15v112 (p : Int) : PV := .val (.int .i64 (p))
def t15v113 (x : D2) (y : D2) (c0 : Int) : PV := .tup [SP x y, .val (.int .i64 (c0))]
def t15v115 (c0 : Int) : PV := .val (.int .i64 (c0))
def t15v9 (c0 : Int) : PV := .val (.int .i64 (c0))
def t15s (p : Int) : List (Nat × PV) := [(3, .val (.int .i64 (p))), (5, .ptr 0 0), (6, .ptr 1 0), (8, .ptr 2 0)]
def t15b0 (a : D2) (b : D2) (b3 : Bool) (l3 : List Int) (e3 : Int) (b4 : Bool) (l4 : List Int) (e4 : Int) : List (List PV) := [[.val (.bool (decide (a.1 < 0))), .ws .u64 (d64 a.1.natAbs), .val (.int .i64 a.2), .val (.bool (decide (b.1 < 0))), .ws .u64 (d64 b.1.natAbs), .val (.int .i64 b.2)], [.val (.bool b3), .ws .u64 l3, .val (.int .i64 e3), .val (.bool b4), .ws .u64 l4, .val (.int .i64 e4)], [.val (.bool false), .nil, .val (.int .i64 0), .val (.bool false), .nil, .val (.int .i64 0)]]
def t15b1 (a : D2) (b : D2) (x : D2) (y : D2) (b3 : Bool) (l3 : List Int) (e3 : Int) (b4 : Bool) (l4 : List Int) (e4 : Int) : List (List PV) := [[.val (.bool (decide (a.1 < 0))), .ws .u64 (d64 a.1.natAbs), .val (.int .i64 a.2), .val (.bool (decide (b.1 < 0))), .ws .u64 (d64 b.1.natAbs), .val (.int .i64 b.2)], [.val (.bool b3), .ws .u64 l3, .val (.int .i64 e3), .val (.bool b4), .ws .u64 l4, .val (.int .i64 e4)], [.val (.bool (decide (x.1 < 0))), .ws .u64 (d64 x.1.natAbs), .val (.int .i64 x.2), .val (.bool (decide (y.1 < 0))), .ws .u64 (d64 y.1.natAbs), .val (.int .i64 y.2)]]
def t15V (a : D2) (b : D2) (x : D2) (y : D2) (p : Int) (hb : Bool) (c0 : Int) : List (Nat × PV) := [(3, .val (.int .i64 (p))), (5, .ptr 0 0), (6, .ptr 1 0), (8, .ptr 2 0), (99, t15v99), (101, t15v101), (104, t15v104), (106, t15v106), (110, t15v110), (112, t15v112 p), (109, t15v109 a b), (107, t15v107 b), (105, t15v105 a), (102, t15v102 b), (100, t15v100 a), (111, t15v111 hb), (108, t15v108 a b), (103, t15v103 a b), (113, t15v113 x y c0), (115, t15v115 c0)]
def t15n (V : List (Nat × PV)) (B0 B1 : List (List PV)) : List Nd := [⟨0, pk V 15, B0, .take 0 (.take 2 (.take 5 (.take 7 (.take 13 (.alt 1 (.cut 6) (.alt 3 (.cut 5) (.alt 6 (.cut 4) (.alt 8 (.cut 3) (.alt 10 (.cut 2) (.alt 11 (.cut 1) .non))))))))))⟩,
  ⟨10405, pk V 1023, B0, .alt 1 (.cut 11) (.alt 3 (.cut 10) (.alt 6 (.cut 9) (.alt 8 (.cut 8) (.alt 10 (.cut 7) .non))))⟩,
  ⟨9381, pk V 1791, B0, .alt 1 (.cut 15) (.alt 3 (.cut 14) (.alt 6 (.cut 13) (.alt 8 (.cut 12) (.alt 11 (.cut 7) .non))))⟩,
  ⟨8613, pk V 2687, B0, .alt 1 (.cut 18) (.alt 3 (.cut 17) (.alt 6 (.cut 16) (.alt 10 (.cut 12) (.alt 11 (.cut 8) .non))))⟩,
  ⟨8421, pk V 4799, B0, .alt 1 (.cut 20) (.alt 3 (.cut 19) (.alt 8 (.cut 16) (.alt 10 (.cut 13) (.alt 11 (.cut 9) .non))))⟩,
  ⟨8365, pk V 8927, B0, .alt 1 (.cut 21) (.alt 6 (.cut 19) (.alt 8 (.cut 17) (.alt 10 (.cut 14) (.alt 11 (.cut 10) .non))))⟩,
  ⟨8359, pk V 17135, B0, .alt 3 (.cut 21) (.alt 6 (.cut 20) (.alt 8 (.cut 18) (.alt 10 (.cut 15) (.alt 11 (.cut 11) .non))))⟩,
  ⟨11429, pk V 2047, B0, .alt 1 (.cut 26) (.alt 3 (.cut 25) (.alt 6 (.cut 24) (.alt 8 (.cut 23) (.alt 12 (.cut 22) .non))))⟩,
  ⟨10661, pk V 2943, B0, .alt 1 (.cut 29) (.alt 3 (.cut 28) (.alt 6 (.cut 27) (.alt 10 (.cut 23) .non)))⟩,
  ⟨10469, pk V 5055, B0, .alt 1 (.cut 31) (.alt 3 (.cut 30) (.alt 8 (.cut 27) (.alt 10 (.cut 24) .non)))⟩,
  ⟨10413, pk V 9183, B0, .alt 1 (.cut 32) (.alt 6 (.cut 30) (.alt 8 (.cut 28) (.alt 10 (.cut 25) .non)))⟩,
  ⟨10407, pk V 17391, B0, .alt 3 (.cut 32) (.alt 6 (.cut 31) (.alt 8 (.cut 29) (.alt 10 (.cut 26) .non)))⟩,
  ⟨9637, pk V 3711, B0, .alt 1 (.cut 35) (.alt 3 (.cut 34) (.alt 6 (.cut 33) (.alt 11 (.cut 23) .non)))⟩,
  ⟨9445, pk V 5823, B0, .alt 1 (.cut 37) (.alt 3 (.cut 36) (.alt 8 (.cut 33) (.alt 11 (.cut 24) .non)))⟩,
  ⟨9389, pk V 9951, B0, .alt 1 (.cut 38) (.alt 6 (.cut 36) (.alt 8 (.cut 34) (.alt 11 (.cut 25) .non)))⟩,
  ⟨9383, pk V 18159, B0, .alt 3 (.cut 38) (.alt 6 (.cut 37) (.alt 8 (.cut 35) (.alt 11 (.cut 26) .non)))⟩,
  ⟨8677, pk V 6719, B0, .alt 1 (.cut 41) (.alt 3 (.cut 40) (.alt 9 (.cut 39) (.alt 10 (.cut 33) (.alt 11 (.cut 27) .non))))⟩,
  ⟨8621, pk V 10847, B0, .alt 1 (.cut 42) (.alt 6 (.cut 40) (.alt 10 (.cut 34) (.alt 11 (.cut 28) .non)))⟩,
  ⟨8615, pk V 19055, B0, .alt 3 (.cut 42) (.alt 6 (.cut 41) (.alt 10 (.cut 35) (.alt 11 (.cut 29) .non)))⟩,
  ⟨8429, pk V 12959, B0, .alt 1 (.cut 43) (.alt 8 (.cut 40) (.alt 10 (.cut 36) (.alt 11 (.cut 30) .non)))⟩,
  ⟨8423, pk V 21167, B0, .alt 3 (.cut 43) (.alt 8 (.cut 41) (.alt 10 (.cut 37) (.alt 11 (.cut 31) .non)))⟩,
  ⟨8367, pk V 25295, B0, .alt 4 (.cut 44) (.alt 6 (.cut 43) (.alt 8 (.cut 42) (.alt 10 (.cut 38) (.alt 11 (.cut 32) .non))))⟩,
  ⟨15525, pk V 33535, B0, .alt 1 (.cut 48) (.alt 3 (.cut 47) (.alt 6 (.cut 46) (.alt 8 (.cut 45) .non)))⟩,
  ⟨11685, pk V 3967, B0, .alt 1 (.cut 51) (.alt 3 (.cut 50) (.alt 6 (.cut 49) (.alt 12 (.cut 45) .non)))⟩,
  ⟨11493, pk V 6079, B0, .alt 1 (.cut 53) (.alt 3 (.cut 52) (.alt 8 (.cut 49) (.alt 12 (.cut 46) .non)))⟩,
  ⟨11437, pk V 10207, B0, .alt 1 (.cut 54) (.alt 6 (.cut 52) (.alt 8 (.cut 50) (.alt 12 (.cut 47) .non)))⟩,
  ⟨11431, pk V 18415, B0, .alt 3 (.cut 54) (.alt 6 (.cut 53) (.alt 8 (.cut 51) (.alt 12 (.cut 48) .non)))⟩,
  ⟨10725, pk V 6975, B0, .alt 1 (.cut 57) (.alt 3 (.cut 56) (.alt 9 (.cut 55) (.alt 10 (.cut 49) .non)))⟩,
  ⟨10669, pk V 11103, B0, .alt 1 (.cut 58) (.alt 6 (.cut 56) (.alt 10 (.cut 50) .non))⟩,
  ⟨10663, pk V 19311, B0, .alt 3 (.cut 58) (.alt 6 (.cut 57) (.alt 10 (.cut 51) .non))⟩,
  ⟨10477, pk V 13215, B0, .alt 1 (.cut 59) (.alt 8 (.cut 56) (.alt 10 (.cut 52) .non))⟩,
  ⟨10471, pk V 21423, B0, .alt 3 (.cut 59) (.alt 8 (.cut 57) (.alt 10 (.cut 53) .non))⟩,
  ⟨10415, pk V 25551, B0, .alt 4 (.cut 60) (.alt 6 (.cut 59) (.alt 8 (.cut 58) (.alt 10 (.cut 54) .non)))⟩,
  ⟨9701, pk V 7743, B0, .alt 1 (.cut 63) (.alt 3 (.cut 62) (.alt 9 (.cut 61) (.alt 11 (.cut 49) .non)))⟩,
  ⟨9645, pk V 11871, B0, .alt 1 (.cut 64) (.alt 6 (.cut 62) (.alt 11 (.cut 50) .non))⟩,
  ⟨9639, pk V 20079, B0, .alt 3 (.cut 64) (.alt 6 (.cut 63) (.alt 11 (.cut 51) .non))⟩,
  ⟨9453, pk V 13983, B0, .alt 1 (.cut 65) (.alt 8 (.cut 62) (.alt 11 (.cut 52) .non))⟩,
  ⟨9447, pk V 22191, B0, .alt 3 (.cut 65) (.alt 8 (.cut 63) (.alt 11 (.cut 53) .non))⟩,
  ⟨9391, pk V 26319, B0, .alt 4 (.cut 66) (.alt 6 (.cut 65) (.alt 8 (.cut 64) (.alt 11 (.cut 54) .non)))⟩,
  ⟨9189, pk V 66111, B0, .alt 1 (.cut 68) (.alt 3 (.cut 67) (.alt 10 (.cut 61) (.alt 11 (.cut 55) .non)))⟩,
  ⟨8685, pk V 14879, B0, .alt 1 (.cut 69) (.alt 9 (.cut 67) (.alt 10 (.cut 62) (.alt 11 (.cut 56) .non)))⟩,
  ⟨8679, pk V 23087, B0, .alt 3 (.cut 69) (.alt 9 (.cut 68) (.alt 10 (.cut 63) (.alt 11 (.cut 57) .non)))⟩,
  ⟨8623, pk V 27215, B0, .alt 4 (.cut 70) (.alt 6 (.cut 69) (.alt 10 (.cut 64) (.alt 11 (.cut 58) .non)))⟩,
  ⟨8431, pk V 29327, B0, .alt 4 (.cut 71) (.alt 8 (.cut 69) (.alt 10 (.cut 65) (.alt 11 (.cut 59) .non)))⟩,
  ⟨8383, pk V 131791, B0, .alt 6 (.cut 71) (.alt 8 (.cut 70) (.alt 10 (.cut 66) (.alt 11 (.cut 60) .non)))⟩,
  ⟨15781, pk V 35455, B0, .alt 1 (.cut 74) (.alt 3 (.cut 73) (.alt 6 (.cut 72) .non))⟩,
  ⟨15589, pk V 37567, B0, .alt 1 (.cut 76) (.alt 3 (.cut 75) (.alt 8 (.cut 72) .non))⟩,
  ⟨15533, pk V 41695, B0, .alt 1 (.cut 77) (.alt 6 (.cut 75) (.alt 8 (.cut 73) .non))⟩,
  ⟨15527, pk V 49903, B0, .alt 3 (.cut 77) (.alt 6 (.cut 76) (.alt 8 (.cut 74) .non))⟩,
  ⟨11749, pk V 7999, B0, .alt 1 (.cut 80) (.alt 3 (.cut 79) (.alt 9 (.cut 78) (.alt 12 (.cut 72) .non)))⟩,
  ⟨11693, pk V 12127, B0, .alt 1 (.cut 81) (.alt 6 (.cut 79) (.alt 12 (.cut 73) .non))⟩,
  ⟨11687, pk V 20335, B0, .alt 3 (.cut 81) (.alt 6 (.cut 80) (.alt 12 (.cut 74) .non))⟩,
  ⟨11501, pk V 14239, B0, .alt 1 (.cut 82) (.alt 8 (.cut 79) (.alt 12 (.cut 75) .non))⟩,
  ⟨11495, pk V 22447, B0, .alt 3 (.cut 82) (.alt 8 (.cut 80) (.alt 12 (.cut 76) .non))⟩,
  ⟨11439, pk V 26575, B0, .alt 4 (.cut 83) (.alt 6 (.cut 82) (.alt 8 (.cut 81) (.alt 12 (.cut 77) .non)))⟩,
  ⟨11237, pk V 66367, B0, .alt 1 (.cut 85) (.alt 3 (.cut 84) (.alt 10 (.cut 78) .non))⟩,
  ⟨10733, pk V 15135, B0, .alt 1 (.cut 86) (.alt 9 (.cut 84) (.alt 10 (.cut 79) .non))⟩,
  ⟨10727, pk V 23343, B0, .alt 3 (.cut 86) (.alt 9 (.cut 85) (.alt 10 (.cut 80) .non))⟩,
  ⟨10671, pk V 27471, B0, .alt 4 (.cut 87) (.alt 6 (.cut 86) (.alt 10 (.cut 81) .non))⟩,
  ⟨10479, pk V 29583, B0, .alt 4 (.cut 88) (.alt 8 (.cut 86) (.alt 10 (.cut 82) .non))⟩,
  ⟨10431, pk V 132047, B0, .alt 6 (.cut 88) (.alt 8 (.cut 87) (.alt 10 (.cut 83) .non))⟩,
  ⟨10213, pk V 67135, B0, .alt 1 (.cut 90) (.alt 3 (.cut 89) (.alt 11 (.cut 78) .non))⟩,
  ⟨9709, pk V 15903, B0, .alt 1 (.cut 91) (.alt 9 (.cut 89) (.alt 11 (.cut 79) .non))⟩,
  ⟨9703, pk V 24111, B0, .alt 3 (.cut 91) (.alt 9 (.cut 90) (.alt 11 (.cut 80) .non))⟩,
  ⟨9647, pk V 28239, B0, .alt 4 (.cut 92) (.alt 6 (.cut 91) (.alt 11 (.cut 81) .non))⟩,
  ⟨9455, pk V 30351, B0, .alt 4 (.cut 93) (.alt 8 (.cut 91) (.alt 11 (.cut 82) .non))⟩,
  ⟨9407, pk V 132815, B0, .alt 6 (.cut 93) (.alt 8 (.cut 92) (.alt 11 (.cut 83) .non))⟩,
  ⟨9197, pk V 74271, B0, .alt 1 (.cut 94) (.alt 10 (.cut 89) (.alt 11 (.cut 84) .non))⟩,
  ⟨9191, pk V 82479, B0, .alt 3 (.cut 94) (.alt 10 (.cut 90) (.alt 11 (.cut 85) .non))⟩,
  ⟨8687, pk V 31247, B0, .alt 4 (.cut 95) (.alt 9 (.cut 94) (.alt 10 (.cut 91) (.alt 11 (.cut 86) .non)))⟩,
  ⟨8639, pk V 133711, B0, .alt 6 (.cut 95) (.alt 10 (.cut 92) (.alt 11 (.cut 87) .non))⟩,
  ⟨8447, pk V 135823, B0, .alt 8 (.cut 95) (.alt 10 (.cut 93) (.alt 11 (.cut 88) .non))⟩,
  ⟨15845, pk V 39487, B0, .alt 1 (.cut 98) (.alt 3 (.cut 97) (.alt 9 (.cut 96) .non))⟩,
  ⟨15789, pk V 43615, B0, .alt 1 (.cut 99) (.alt 6 (.cut 97) .non)⟩,
  ⟨15783, pk V 51823, B0, .alt 3 (.cut 99) (.alt 6 (.cut 98) .non)⟩,
  ⟨15597, pk V 45727, B0, .alt 1 (.cut 100) (.alt 8 (.cut 97) .non)⟩,
  ⟨15591, pk V 53935, B0, .alt 3 (.cut 100) (.alt 8 (.cut 98) .non)⟩,
  ⟨15535, pk V 58063, B0, .alt 4 (.cut 101) (.alt 6 (.cut 100) (.alt 8 (.cut 99) .non))⟩,
  ⟨12261, pk V 67391, B0, .alt 1 (.cut 103) (.alt 3 (.cut 102) (.alt 12 (.cut 96) .non))⟩,
  ⟨11757, pk V 16159, B0, .alt 1 (.cut 104) (.alt 9 (.cut 102) (.alt 12 (.cut 97) .non))⟩,
  ⟨11751, pk V 24367, B0, .alt 3 (.cut 104) (.alt 9 (.cut 103) (.alt 12 (.cut 98) .non))⟩,
  ⟨11695, pk V 28495, B0, .alt 4 (.cut 105) (.alt 6 (.cut 104) (.alt 12 (.cut 99) .non))⟩,
  ⟨11503, pk V 30607, B0, .alt 4 (.cut 106) (.alt 8 (.cut 104) (.alt 12 (.cut 100) .non))⟩,
  ⟨11455, pk V 133071, B0, .alt 6 (.cut 106) (.alt 8 (.cut 105) (.alt 12 (.cut 101) .non))⟩,
  ⟨11245, pk V 74527, B0, .alt 1 (.cut 107) (.alt 10 (.cut 102) .non)⟩,
  ⟨11239, pk V 82735, B0, .alt 3 (.cut 107) (.alt 10 (.cut 103) .non)⟩,
  ⟨10735, pk V 31503, B0, .alt 4 (.cut 108) (.alt 9 (.cut 107) (.alt 10 (.cut 104) .non))⟩,
  ⟨10687, pk V 133967, B0, .alt 6 (.cut 108) (.alt 10 (.cut 105) .non)⟩,
  ⟨10495, pk V 136079, B0, .alt 8 (.cut 108) (.alt 10 (.cut 106) .non)⟩,
  ⟨10221, pk V 75295, B0, .alt 1 (.cut 109) (.alt 11 (.cut 102) .non)⟩,
  ⟨10215, pk V 83503, B0, .alt 3 (.cut 109) (.alt 11 (.cut 103) .non)⟩,
  ⟨9711, pk V 32271, B0, .alt 4 (.cut 110) (.alt 9 (.cut 109) (.alt 11 (.cut 104) .non))⟩,
  ⟨9663, pk V 134735, B0, .alt 6 (.cut 110) (.alt 11 (.cut 105) .non)⟩,
  ⟨9471, pk V 136847, B0, .alt 8 (.cut 110) (.alt 11 (.cut 106) .non)⟩,
  ⟨9199, pk V 90639, B0, .alt 4 (.cut 111) (.alt 10 (.cut 109) (.alt 11 (.cut 107) .non))⟩,
  ⟨8703, pk V 137743, B0, .alt 9 (.cut 111) (.alt 10 (.cut 110) (.alt 11 (.cut 108) .non))⟩,
  ⟨16357, pk V 98879, B0, .alt 1 (.cut 113) (.alt 3 (.cut 112) .non)⟩,
  ⟨15853, pk V 47647, B0, .alt 1 (.cut 114) (.alt 9 (.cut 112) .non)⟩,
  ⟨15847, pk V 55855, B0, .alt 3 (.cut 114) (.alt 9 (.cut 113) .non)⟩,
  ⟨15791, pk V 59983, B0, .alt 4 (.cut 115) (.alt 6 (.cut 114) .non)⟩,
  ⟨15599, pk V 62095, B0, .alt 4 (.cut 116) (.alt 8 (.cut 114) .non)⟩,
  ⟨15551, pk V 164559, B0, .alt 6 (.cut 116) (.alt 8 (.cut 115) .non)⟩,
  ⟨12269, pk V 75551, B0, .alt 1 (.cut 117) (.alt 12 (.cut 112) .non)⟩,
  ⟨12263, pk V 83759, B0, .alt 3 (.cut 117) (.alt 12 (.cut 113) .non)⟩,
  ⟨11759, pk V 32527, B0, .alt 4 (.cut 118) (.alt 9 (.cut 117) (.alt 12 (.cut 114) .non))⟩,
  ⟨11711, pk V 134991, B0, .alt 6 (.cut 118) (.alt 12 (.cut 115) .non)⟩,
  ⟨11519, pk V 137103, B0, .alt 8 (.cut 118) (.alt 12 (.cut 116) .non)⟩,
  ⟨11247, pk V 90895, B0, .alt 4 (.cut 119) (.alt 10 (.cut 117) .non)⟩,
  ⟨10751, pk V 137999, B0, .alt 9 (.cut 119) (.alt 10 (.cut 118) .non)⟩,
  ⟨10223, pk V 91663, B0, .alt 4 (.cut 120) (.alt 11 (.cut 117) .non)⟩,
  ⟨9727, pk V 138767, B0, .alt 9 (.cut 120) (.alt 11 (.cut 118) .non)⟩,
  ⟨9215, pk V 197135, B0, .alt 10 (.cut 120) (.alt 11 (.cut 119) .non)⟩,
  ⟨16365, pk V 107039, B0, .alt 1 (.cut 121) .non⟩,
  ⟨16359, pk V 115247, B0, .alt 3 (.cut 121) .non⟩,
  ⟨15855, pk V 64015, B0, .alt 4 (.cut 122) (.alt 9 (.cut 121) .non)⟩,
  ⟨15807, pk V 166479, B0, .alt 6 (.cut 122) .non⟩,
  ⟨15615, pk V 168591, B0, .alt 8 (.cut 122) .non⟩,
  ⟨12271, pk V 91919, B0, .alt 4 (.cut 123) (.alt 12 (.cut 121) .non)⟩,
  ⟨11775, pk V 139023, B0, .alt 9 (.cut 123) (.alt 12 (.cut 122) .non)⟩,
  ⟨11263, pk V 197391, B0, .alt 10 (.cut 123) .non⟩,
  ⟨10239, pk V 198159, B0, .alt 11 (.cut 123) .non⟩,
  ⟨16367, pk V 123407, B0, .alt 4 (.cut 124) .non⟩,
  ⟨15871, pk V 170511, B0, .alt 9 (.cut 124) .non⟩,
  ⟨12287, pk V 198415, B0, .alt 12 (.cut 124) .non⟩,
  ⟨16383, pk V 229903, B0, .alt 14 (.cut 125) .non⟩,
  ⟨32767, pk V 262159, B0, .take 15 (.take 16 (.alt 17 (.cut 126) .non))⟩,
  ⟨262143, pk V 524303, B1, .alt 18 (.fin) .non⟩]
theorem reg_t15 {g : Gs} {a : D2} {b : D2} {x : D2} {y : D2} {b3 : Bool} {l3 : List Int} {e3 : Int} {b4 : Bool} {l4 : List Int} {e4 : Int} {p : Int} {hb : Bool} {c0 : Int} (f1 : FC Tryz.prog g 37 [SP a b, DY ((0, 0) : D2).1 ((0, 0) : D2).2] (· = .val (.bool hb))) (f2 : FC Tryz.prog g 116 [.sl 3 [.val (.bool (decide (a.1 < 0))), .ws .u64 (d64 a.1.natAbs), .val (.int .i64 a.2), .val (.bool (decide (b.1 < 0))), .ws .u64 (d64 b.1.natAbs), .val (.int .i64 b.2)], .sl 3 [.val (.bool (decide (a.1 < 0))), .ws .u64 (d64 a.1.natAbs), .val (.int .i64 a.2), .val (.bool (decide (b.1 < 0))), .ws .u64 (d64 b.1.natAbs), .val (.int .i64 b.2)], .val (.bool hb), .val (.int .i64 p)] (· = .tup [SP x y, .val (.int .i64 c0)])) : Reg (A := Unit) Tryz.prog TT XX g 15 (opsB Tryz.f74.body 15) 126 (t15s p) (t15b0 a b b3 l3 e3 b4 l4 e4) (fun _ => [(9, t15v9 c0), (3, .val (.int .i64 (p))), (5, .ptr 0 0), (6, .ptr 1 0), (8, .ptr 2 0)]) (fun _ => t15b1 a b x y b3 l3 e3 b4 l4 e4) := by
  refine ⟨fun F hG hO s K hs hk => ?_⟩; (conv => arg 6; whnf)
  rw [← hG] at f1 f2
  refine draw_dp (A := Unit) (id := 15) (N := 126) (t15n (t15V a b x y p hb c0) (t15b0 a b b3 l3 e3 b4 l4 e4) (t15b1 a b x y b3 l3 e3 b4 l4 e4)) [] (fun _ => [(9, t15v9 c0), (3, .val (.int .i64 (p))), (5, .ptr 0 0), (6, .ptr 1 0), (8, .ptr 2 0)]) (fun _ => t15b1 a b x y b3 l3 e3 b4 l4 e4) (fun _ => []) tok mixed (by kernel_rfl) (by kernel_rfl) (by simp [hO]) ⟨_, rfl, by kernel_rfl, hs⟩ (by intro ju; simp [hO]) ?_ hk
  repeat' ((try (conv => whnf)); first
 | refine ce f1 ?_ | refine ce f2 ?_
 | (refine cg ?_; refine call_eq f1 (.cons (.refl _) (.cons lp_dy0 .nil)) rfl ?_)
 | exact joinp () [(0, []), (1, []), (2, [])] rfl rfl rfl ⟨_, rfl⟩
 | ((with_reducible refine ct ?_); exact cutj rfl ⟨_, rfl⟩ ⟨_, rfl⟩)
 | (with_reducible refine BothG.mk ?_ ?_))
theorem q_two1 {g : Gs} {a b c d x y : D2} (h : GoodS a b) (k : GoodS c d) {p c0 : Int} (hp : 1 ≤ p ∧ p ≤ 70000) (hr : sumP a b c d p = .tup [SP x y, .val (.int .i64 c0)]) : FC Tryz.prog g 74 [.val (.int .i64 1), SP a b, SP c d, .val (.int .i64 p)] (· = .tup [SP x y, .val (.int .i64 c0)]) := by
  have q1 := q_form (G := g) h
  have q2 := q_form (G := g) k
  have k1 := q_sums (G := g) h.1 k.1 h.2.1 k.2.1 h.2.2 k.2.2 hp
  rw [hr] at k1
  clear hr
  refine ax_i Tryz.func74 Tryz.ntmps74 ?_; intro F hG hO
  rw [← hG] at q1 q2 k1
  repeat' ((try (conv => whnf)); first
 | refine ce q1 ?_ | refine ce q2 ?_ | refine ce k1 ?_
 | (refine dT (id := 15) dt4 ?_)
 | with_reducible first | refine ax_s ?_ | (refine ax_f ?_ ?_ <;> try intro hc) | fail)
  all_goals exact ⟨ret_e rfl⟩
theorem q_two2 {g : Gs} {a b c d x y : D2} (h : GoodS a b) (k : GoodS c d) {p c0 : Int} (hp : 1 ≤ p ∧ p ≤ 70000) (hr : sumP a b d.neg c.neg p = .tup [SP x y, .val (.int .i64 c0)]) : FC Tryz.prog g 74 [.val (.int .i64 2), SP a b, SP c d, .val (.int .i64 p)] (· = .tup [SP x y, .val (.int .i64 c0)]) := by
  have q1 := q_form (G := g) h
  have q2 := q_form (G := g) k
  have k1 := q_sums (G := g) h.1 k.neg.1 h.2.1 k.neg.2.1 h.2.2 k.neg.2.2 hp
  rw [hr] at k1
  have f1 : FC Tryz.prog g 115 [DY d.1 d.2] (· = .tup [DY d.neg.1 d.neg.2, .val (.int .i64 0)]) := r_docneg k.2.1
  have f2 : FC Tryz.prog g 115 [DY c.1 c.2] (· = .tup [DY c.neg.1 c.neg.2, .val (.int .i64 0)]) := r_docneg k.1
  obtain ⟨d', hd⟩ : ∃ r, r = d.neg := ⟨_, rfl⟩
  obtain ⟨c', hc⟩ : ∃ r, r = c.neg := ⟨_, rfl⟩
  rw [← hd] at f1 k1
  rw [← hc] at f2 k1
  clear hr
  refine ax_i Tryz.func74 Tryz.ntmps74 ?_; intro F hG hO
  rw [← hG] at q1 q2 k1 f1 f2
  repeat' ((try (conv => whnf)); first
 | refine ce q1 ?_ | refine ce q2 ?_ | refine ce k1 ?_ | refine ce f1 ?_ | refine ce f2 ?_
 | (refine dT (id := 15) dt4 ?_)
 | with_reducible first | refine ax_s ?_ | (refine ax_f ?_ ?_ <;> try intro hc) | fail)
  all_goals exact ⟨ret_e rfl⟩
theorem q_two3 {g : Gs} {a b c d x y : D2} (h : GoodS a b) (k : GoodS c d) {p c0 : Int} (hp : 1 ≤ p ∧ p ≤ 70000) (hr : spMul a b c d p = .tup [SP x y, .val (.int .i64 c0)]) : FC Tryz.prog g 74 [.val (.int .i64 3), SP a b, SP c d, .val (.int .i64 p)] (· = .tup [SP x y, .val (.int .i64 c0)]) := by
  have q1 := q_form (G := g) h
  have q2 := q_form (G := g) k
  have k1 := q_products4 (G := g) h.1 h.2.1 k.1 k.2.1 hp
  rw [hr] at k1
  clear hr
  refine ax_i Tryz.func74 Tryz.ntmps74 ?_; intro F hG hO
  rw [← hG] at q1 q2 k1
  repeat' ((try (conv => whnf)); first
 | refine ce q1 ?_ | refine ce q2 ?_ | refine ce k1 ?_
 | (refine dT (id := 15) dt4 ?_)
 | with_reducible first | refine ax_s ?_ | (refine ax_f ?_ ?_ <;> try intro hc) | fail)
  all_goals exact ⟨ret_e rfl⟩
theorem q_two4 {g : Gs} {a b x y : D2} (h : GoodS a b) (b3 : Bool) (l3 : List Int) (e3 : Int) (b4 : Bool) (l4 : List Int) (e4 : Int) {p c0 : Int} (hp : 1 ≤ p ∧ p ≤ 70000) (hr : spSqr a b p = .tup [SP x y, .val (.int .i64 c0)]) : FC Tryz.prog g 74 [.val (.int .i64 4), SP a b, Sp b3 l3 e3 b4 l4 e4, .val (.int .i64 p)] (· = .tup [SP x y, .val (.int .i64 c0)]) := by
  have q1 := q_form (G := g) h
  have f1 := q_holds (G := g) (d := ((0, 0) : D2)) h Good.zero
  have sa := D2.sgn a
  have sb := D2.sgn b
  have z0 : D2.v ((0, 0) : D2) = 0 := VV_zero 0
  obtain ⟨hb, hh, f2⟩ : ∃ hb : Bool, hb = hasV a b (0, 0) ∧ FC Tryz.prog g 116 [.sl 3 [.val (.bool (decide (a.1 < 0))), .ws .u64 (d64 a.1.natAbs), .val (.int .i64 a.2), .val (.bool (decide (b.1 < 0))), .ws .u64 (d64 b.1.natAbs), .val (.int .i64 b.2)], .sl 3 [.val (.bool (decide (a.1 < 0))), .ws .u64 (d64 a.1.natAbs), .val (.int .i64 a.2), .val (.bool (decide (b.1 < 0))), .ws .u64 (d64 b.1.natAbs), .val (.int .i64 b.2)], .val (.bool hb), .val (.int .i64 p)] (· = .tup [SP x y, .val (.int .i64 c0)]) := by
    by_cases hz : a.1 ≤ 0 ∧ 0 ≤ b.1
    · refine ⟨true, ?_, ?_⟩
      · unfold hasV; rw [z0, decide_eq_true (by omega), decide_eq_true (by omega)]; rfl
      · have := q_products3 (G := g) (a := a) (b := b) h.1 h.2.1 hp hz
        rwa [hr] at this
    · refine ⟨false, ?_, ?_⟩
      · unfold hasV
        rw [z0]
        by_cases q : a.v ≤ 0
        · rw [decide_eq_true q, decide_eq_false (by omega)]; rfl
        · rw [decide_eq_false q]; rfl
      · have := q_products2 (G := g) (a := a) (b := b) h.1 h.2.1 hp hz
        rwa [hr] at this
  rw [← hh] at f1
  clear hr hh sa sb z0
  refine ax_i Tryz.func74 Tryz.ntmps74 ?_; intro F hG hO
  rw [← hG] at q1 f1 f2
  repeat' ((try (conv => whnf)); first
 | refine ce q1 ?_
 | (refine dg ?_; refine Reg.use (reg_t15 (a := a) (b := b) (x := x) (y := y) (b3 := b3) (l3 := l3) (e3 := e3) (b4 := b4) (l4 := l4) (e4 := e4) (p := p) (hb := hb) (c0 := c0) f1 f2) hO (cutj rfl ⟨_, rfl⟩ ⟨_, rfl⟩) ?_; intro ju)
 | (refine dT (id := 15) dt4 ?_)
 | with_reducible first | refine ax_s ?_ | (refine ax_f ?_ ?_ <;> try intro hc) | fail)
  all_goals exact ⟨ret_e rfl⟩
theorem q_two5 {g : Gs} {a b c d x y : D2} (h : GoodS a b) (k : GoodS c d) {p c0 : Int} (hp : 1 ≤ p ∧ p ≤ 70000) (hr : spQuo a b c d p = .tup [SP x y, .val (.int .i64 c0)]) : FC Tryz.prog g 74 [.val (.int .i64 5), SP a b, SP c d, .val (.int .i64 p)] (· = .tup [SP x y, .val (.int .i64 c0)]) := by
  have q1 := q_form (G := g) h
  have q2 := q_form (G := g) k
  have f1 := q_holds (G := g) (d := ((0, 0) : D2)) k Good.zero
  cases hz : hasV c d (0, 0) with
 | true =>
    rw [hz] at f1
    rw [quo_nought k hz] at hr
    rw [← hr]
    clear hr hz
    refine ax_i Tryz.func74 Tryz.ntmps74 ?_; intro F hG hO
    rw [← hG] at q1 q2 f1
    repeat' ((try (conv => whnf)); first
 | refine ce q1 ?_ | refine ce q2 ?_
 | (refine cg ?_; refine call_eq f1 (.cons (.refl _) (.cons lp_dy0 .nil)) rfl ?_)
 | (refine dT (id := 15) dt4 ?_)
 | with_reducible first | refine ax_s ?_ | (refine ax_f ?_ ?_ <;> try intro hc) | fail)
    all_goals exact ⟨ret_l _ (lp_spE 4) rfl⟩
 | false =>
    rw [hz] at f1
    have sc := D2.sgn c
    have sd := D2.sgn d
    have z0 : D2.v ((0, 0) : D2) = 0 := VV_zero 0
    have hn : 0 < c.1 ∨ d.1 < 0 := by
      unfold hasV at hz
      rw [z0] at hz
      by_cases q : c.v ≤ 0
      · rw [decide_eq_true q] at hz
        by_cases q2 : 0 ≤ d.v
        · rw [decide_eq_true q2] at hz; exact absurd hz (by decide)
        · exact .inr (by omega)
      · exact .inl (by omega)
    have k1 := q_quotients (g := g) h k hn hp
    rw [hr] at k1
    clear hr hz sc sd z0 hn
    refine ax_i Tryz.func74 Tryz.ntmps74 ?_; intro F hG hO
    rw [← hG] at q1 q2 k1 f1
    repeat' ((try (conv => whnf)); first
 | refine ce q1 ?_ | refine ce q2 ?_ | refine ce k1 ?_
 | (refine cg ?_; refine call_eq f1 (.cons (.refl _) (.cons lp_dy0 .nil)) rfl ?_)
 | (refine dT (id := 15) dt4 ?_)
 | with_reducible first | refine ax_s ?_ | (refine ax_f ?_ ?_ <;> try intro hc) | fail)
    all_goals exact ⟨ret_e rfl⟩
theorem q_twoX {g : Gs} (b1 : Bool) (l1 : List Int) (e1 : Int) (b2 : Bool) (l2 : List Int) (e2 : Int) (o1 : okD 18446744073709551616 l1) (o2 : okD 18446744073709551616 l2) (b3 : Bool) (l3 : List Int) (e3 : Int) (b4 : Bool) (l4 : List Int) (e4 : Int) (o3 : okD 18446744073709551616 l3) (o4 : okD 18446744073709551616 l4) (p : Int) {n : Int} (hn : n ≠ 4) (h : chkE p (spF b1 l1 e1 b2 l2 e2 && spF b3 l3 e3 b4 l4 e4) ≠ 0) : FC Tryz.prog g 74 [.val (.int .i64 n), Sp b1 l1 e1 b2 l2 e2, Sp b3 l3 e3 b4 l4 e4, .val (.int .i64 p)] (· = spE (chkE p (spF b1 l1 e1 b2 l2 e2 && spF b3 l3 e3 b4 l4 e4))) := by
  have q1 := q_formX (G := g) b1 l1 e1 b2 l2 e2 o1 o2
  have q2 := q_formX (G := g) b3 l3 e3 b4 l4 e4 o3 o4
  obtain ⟨x, hx⟩ : ∃ x, x = spF b1 l1 e1 b2 l2 e2 := ⟨_, rfl⟩
  rw [← hx] at q1 h ⊢
  clear hx
  obtain ⟨y, hy⟩ : ∃ y, y = spF b3 l3 e3 b4 l4 e4 := ⟨_, rfl⟩
  rw [← hy] at q2 h ⊢
  clear hy
  by_cases hp : 1 ≤ p ∧ p ≤ 70000
  · rw [show chkE p (x && y) = 2 by revert h; unfold chkE; rw [if_neg (by omega)]; cases (x && y) <;> simp]
    have hxy : (x && y) = false := by
      cases hq : (x && y) with
      | false => rfl
      | true => rw [hq] at h; exact absurd (chkE_ok hp) h
    clear h
    cases x
    · skip
      refine ax_i Tryz.func74 Tryz.ntmps74 ?_; intro F hG hO
      rw [← hG] at q1
      repeat' ((try (conv => whnf)); first
 | refine ce q1 ?_
 | (refine dT (id := 15) dt4 ?_)
 | with_reducible first | refine ax_s ?_ | (refine ax_f ?_ ?_ <;> try intro hc) | fail)
      all_goals exact ⟨ret_l _ (lp_spE 2) rfl⟩
    · rw [Bool.true_and] at hxy
      subst hxy
      refine ax_i Tryz.func74 Tryz.ntmps74 ?_; intro F hG hO
      rw [← hG] at q1 q2
      repeat' ((try (conv => whnf)); first
 | refine ce q1 ?_ | refine ce q2 ?_
 | (refine dT (id := 15) dt4 ?_)
 | with_reducible first | refine ax_s ?_ | (refine ax_f ?_ ?_ <;> try intro hc) | fail)
      all_goals exact ⟨ret_l _ (lp_spE 2) rfl⟩
  · rw [chkE_bad _ hp]
    clear h
    refine ax_i Tryz.func74 Tryz.ntmps74 ?_; intro F hG hO
    rw [← hG] at q1
    repeat' ((try (conv => whnf)); first
 | refine ce q1 ?_
 | (refine dT (id := 15) dt4 ?_)
 | with_reducible first | refine ax_s ?_ | (refine ax_f ?_ ?_ <;> try intro hc) | fail)
    all_goals exact ⟨ret_l _ (lp_spE 1) rfl⟩
theorem q_twoX4 {g : Gs} (b1 : Bool) (l1 : List Int) (e1 : Int) (b2 : Bool) (l2 : List Int) (e2 : Int) (o1 : okD 18446744073709551616 l1) (o2 : okD 18446744073709551616 l2) (b3 : Bool) (l3 : List Int) (e3 : Int) (b4 : Bool) (l4 : List Int) (e4 : Int) (o3 : okD 18446744073709551616 l3) (o4 : okD 18446744073709551616 l4) (p : Int) (h : chkE p (spF b1 l1 e1 b2 l2 e2) ≠ 0) : FC Tryz.prog g 74 [.val (.int .i64 4), Sp b1 l1 e1 b2 l2 e2, Sp b3 l3 e3 b4 l4 e4, .val (.int .i64 p)] (· = spE (chkE p (spF b1 l1 e1 b2 l2 e2))) := by
  have q1 := q_formX (G := g) b1 l1 e1 b2 l2 e2 o1 o2
  obtain ⟨x, hx⟩ : ∃ x, x = spF b1 l1 e1 b2 l2 e2 := ⟨_, rfl⟩
  rw [← hx] at q1 h ⊢
  clear hx
  by_cases hp : 1 ≤ p ∧ p ≤ 70000
  · cases x with
    | true => exact absurd (chkE_ok hp) h
    | false =>
    rw [show chkE p false = 2 by unfold chkE; rw [if_neg (by omega)]; rfl]
    clear h
    refine ax_i Tryz.func74 Tryz.ntmps74 ?_; intro F hG hO
    rw [← hG] at q1
    repeat' ((try (conv => whnf)); first
 | refine ce q1 ?_
 | (refine dT (id := 15) dt4 ?_)
 | with_reducible first | refine ax_s ?_ | (refine ax_f ?_ ?_ <;> try intro hc) | fail)
    all_goals exact ⟨ret_l _ (lp_spE 2) rfl⟩
  · rw [chkE_bad _ hp]
    clear h
    refine ax_i Tryz.func74 Tryz.ntmps74 ?_; intro F hG hO
    rw [← hG] at q1
    repeat' ((try (conv => whnf)); first
 | refine ce q1 ?_
 | (refine dT (id := 15) dt4 ?_)
 | with_reducible first | refine ax_s ?_ | (refine ax_f ?_ ?_ <;> try intro hc) | fail)
    all_goals exact ⟨ret_l _ (lp_spE 1) rfl⟩
end Go.Proofs.YtpjbgmafnheomaaGreatDoor.Sim
