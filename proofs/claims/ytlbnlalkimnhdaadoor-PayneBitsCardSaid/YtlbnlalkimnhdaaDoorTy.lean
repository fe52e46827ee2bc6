/-
  The seat's types, as the rules of Sim ask for them, and which functions have bodies. Closed facts of the program.
-/
import Derived.Test.YtlbnlalkimnhdaaDoorSimG
import Derived.Test.YtlbnlalkimnhdaaDoorProg
namespace Go.Proofs.YtlbnlalkimnhdaaDoor.Sim
theorem el22 : elT Tryd.prog 22 = some (3, 1) := by kernel_rfl
theorem el37 : elT Tryd.prog 37 = some (30, 1) := by kernel_rfl
theorem el67 : elT Tryd.prog 67 = some (111, 1) := by kernel_rfl
theorem ag2 : aggT Tryd.prog 2 = some false := by kernel_rfl
theorem ag3 : aggT Tryd.prog 3 = some false := by kernel_rfl
theorem ag4 : aggT Tryd.prog 4 = some false := by kernel_rfl
theorem ag5 : aggT Tryd.prog 5 = some false := by kernel_rfl
theorem ag12 : aggT Tryd.prog 12 = some false := by kernel_rfl
theorem ag21 : aggT Tryd.prog 21 = some false := by kernel_rfl
theorem ag22 : aggT Tryd.prog 22 = some false := by kernel_rfl
theorem ag24 : aggT Tryd.prog 24 = some false := by kernel_rfl
theorem ag25 : aggT Tryd.prog 25 = some true := by kernel_rfl
theorem ag26 : aggT Tryd.prog 26 = some true := by kernel_rfl
theorem ag27 : aggT Tryd.prog 27 = some false := by kernel_rfl
theorem ag30 : aggT Tryd.prog 30 = some false := by kernel_rfl
theorem ag31 : aggT Tryd.prog 31 = some true := by kernel_rfl
theorem ag32 : aggT Tryd.prog 32 = some true := by kernel_rfl
theorem ag37 : aggT Tryd.prog 37 = some false := by kernel_rfl
theorem ag49 : aggT Tryd.prog 49 = some true := by kernel_rfl
theorem ag54 : aggT Tryd.prog 54 = some false := by kernel_rfl
theorem ag61 : aggT Tryd.prog 61 = some true := by kernel_rfl
theorem ag67 : aggT Tryd.prog 67 = some false := by kernel_rfl
theorem ag68 : aggT Tryd.prog 68 = some true := by kernel_rfl
theorem ag69 : aggT Tryd.prog 69 = some true := by kernel_rfl
theorem ag77 : aggT Tryd.prog 77 = some true := by kernel_rfl
theorem ag85 : aggT Tryd.prog 85 = some true := by kernel_rfl
theorem ag86 : aggT Tryd.prog 86 = some true := by kernel_rfl
theorem ag93 : aggT Tryd.prog 93 = some true := by kernel_rfl
theorem ag94 : aggT Tryd.prog 94 = some true := by kernel_rfl
theorem ag96 : aggT Tryd.prog 96 = some true := by kernel_rfl
theorem ag97 : aggT Tryd.prog 97 = some true := by kernel_rfl
theorem ag101 : aggT Tryd.prog 101 = some false := by kernel_rfl
theorem ag111 : aggT Tryd.prog 111 = some false := by kernel_rfl
theorem ag125 : aggT Tryd.prog 125 = some true := by kernel_rfl
theorem ag126 : aggT Tryd.prog 126 = some true := by kernel_rfl
theorem sz2 : szT Tryd.prog 2 = some 1 := by kernel_rfl
theorem sz3 : szT Tryd.prog 3 = some 1 := by kernel_rfl
theorem sz4 : szT Tryd.prog 4 = some 1 := by kernel_rfl
theorem sz5 : szT Tryd.prog 5 = some 1 := by kernel_rfl
theorem sz12 : szT Tryd.prog 12 = some 1 := by kernel_rfl
theorem sz21 : szT Tryd.prog 21 = some 1 := by kernel_rfl
theorem sz22 : szT Tryd.prog 22 = some 1 := by kernel_rfl
theorem sz24 : szT Tryd.prog 24 = some 1 := by kernel_rfl
theorem sz25 : szT Tryd.prog 25 = some 2 := by kernel_rfl
theorem sz26 : szT Tryd.prog 26 = some 2 := by kernel_rfl
theorem sz27 : szT Tryd.prog 27 = some 1 := by kernel_rfl
theorem sz30 : szT Tryd.prog 30 = some 1 := by kernel_rfl
theorem sz31 : szT Tryd.prog 31 = some 4 := by kernel_rfl
theorem sz32 : szT Tryd.prog 32 = some 4 := by kernel_rfl
theorem sz37 : szT Tryd.prog 37 = some 1 := by kernel_rfl
theorem sz49 : szT Tryd.prog 49 = some 4 := by kernel_rfl
theorem sz54 : szT Tryd.prog 54 = some 1 := by kernel_rfl
theorem sz61 : szT Tryd.prog 61 = some 53 := by kernel_rfl
theorem sz67 : szT Tryd.prog 67 = some 1 := by kernel_rfl
theorem sz68 : szT Tryd.prog 68 = some 2 := by kernel_rfl
theorem sz69 : szT Tryd.prog 69 = some 2 := by kernel_rfl
theorem sz77 : szT Tryd.prog 77 = some 20 := by kernel_rfl
theorem sz85 : szT Tryd.prog 85 = some 5 := by kernel_rfl
theorem sz86 : szT Tryd.prog 86 = some 5 := by kernel_rfl
theorem sz93 : szT Tryd.prog 93 = some 6 := by kernel_rfl
theorem sz94 : szT Tryd.prog 94 = some 6 := by kernel_rfl
theorem sz96 : szT Tryd.prog 96 = some 5 := by kernel_rfl
theorem sz97 : szT Tryd.prog 97 = some 5 := by kernel_rfl
theorem sz101 : szT Tryd.prog 101 = some 1 := by kernel_rfl
theorem sz111 : szT Tryd.prog 111 = some 1 := by kernel_rfl
theorem sz125 : szT Tryd.prog 125 = some 4 := by kernel_rfl
theorem sz126 : szT Tryd.prog 126 = some 4 := by kernel_rfl
theorem fl25_0 : fldT Tryd.prog 25 0 = some 0 := by kernel_rfl
theorem fl25_1 : fldT Tryd.prog 25 1 = some 1 := by kernel_rfl
theorem fl26_0 : fldT Tryd.prog 26 0 = some 0 := by kernel_rfl
theorem fl26_1 : fldT Tryd.prog 26 1 = some 1 := by kernel_rfl
theorem fl31_0 : fldT Tryd.prog 31 0 = some 0 := by kernel_rfl
theorem fl31_1 : fldT Tryd.prog 31 1 = some 1 := by kernel_rfl
theorem fl31_2 : fldT Tryd.prog 31 2 = some 2 := by kernel_rfl
theorem fl31_3 : fldT Tryd.prog 31 3 = some 3 := by kernel_rfl
theorem fl32_0 : fldT Tryd.prog 32 0 = some 0 := by kernel_rfl
theorem fl32_1 : fldT Tryd.prog 32 1 = some 1 := by kernel_rfl
theorem fl32_2 : fldT Tryd.prog 32 2 = some 2 := by kernel_rfl
theorem fl32_3 : fldT Tryd.prog 32 3 = some 3 := by kernel_rfl
theorem fl68_0 : fldT Tryd.prog 68 0 = some 0 := by kernel_rfl
theorem fl68_1 : fldT Tryd.prog 68 1 = some 1 := by kernel_rfl
theorem fl69_0 : fldT Tryd.prog 69 0 = some 0 := by kernel_rfl
theorem fl69_1 : fldT Tryd.prog 69 1 = some 1 := by kernel_rfl
theorem fl93_0 : fldT Tryd.prog 93 0 = some 0 := by kernel_rfl
theorem fl93_1 : fldT Tryd.prog 93 1 = some 1 := by kernel_rfl
theorem fl93_2 : fldT Tryd.prog 93 2 = some 2 := by kernel_rfl
theorem fl93_3 : fldT Tryd.prog 93 3 = some 3 := by kernel_rfl
theorem fl93_4 : fldT Tryd.prog 93 4 = some 4 := by kernel_rfl
theorem fl93_5 : fldT Tryd.prog 93 5 = some 5 := by kernel_rfl
theorem fl94_0 : fldT Tryd.prog 94 0 = some 0 := by kernel_rfl
theorem fl94_1 : fldT Tryd.prog 94 1 = some 1 := by kernel_rfl
theorem fl94_2 : fldT Tryd.prog 94 2 = some 2 := by kernel_rfl
theorem fl94_3 : fldT Tryd.prog 94 3 = some 3 := by kernel_rfl
theorem fl94_4 : fldT Tryd.prog 94 4 = some 4 := by kernel_rfl
theorem fl94_5 : fldT Tryd.prog 94 5 = some 5 := by kernel_rfl
theorem fl96_0 : fldT Tryd.prog 96 0 = some 0 := by kernel_rfl
theorem fl96_1 : fldT Tryd.prog 96 1 = some 2 := by kernel_rfl
theorem fl96_2 : fldT Tryd.prog 96 2 = some 4 := by kernel_rfl
theorem fl97_0 : fldT Tryd.prog 97 0 = some 0 := by kernel_rfl
theorem fl97_1 : fldT Tryd.prog 97 1 = some 2 := by kernel_rfl
theorem fl97_2 : fldT Tryd.prog 97 2 = some 4 := by kernel_rfl
theorem fl125_0 : fldT Tryd.prog 125 0 = some 0 := by kernel_rfl
theorem fl125_1 : fldT Tryd.prog 125 1 = some 1 := by kernel_rfl
theorem fl125_2 : fldT Tryd.prog 125 2 = some 2 := by kernel_rfl
theorem fl125_3 : fldT Tryd.prog 125 3 = some 3 := by kernel_rfl
theorem fl126_0 : fldT Tryd.prog 126 0 = some 0 := by kernel_rfl
theorem fl126_1 : fldT Tryd.prog 126 1 = some 1 := by kernel_rfl
theorem fl126_2 : fldT Tryd.prog 126 2 = some 2 := by kernel_rfl
theorem fl126_3 : fldT Tryd.prog 126 3 = some 3 := by kernel_rfl
theorem ar49 : arT Tryd.prog 49 = some (4, 30, 1) := by kernel_rfl
theorem ar61 : arT Tryd.prog 61 = some (53, 30, 1) := by kernel_rfl
theorem ar77 : arT Tryd.prog 77 = some (20, 30, 1) := by kernel_rfl
theorem ar85 : arT Tryd.prog 85 = some (5, 30, 1) := by kernel_rfl
theorem ar86 : arT Tryd.prog 86 = some (5, 30, 1) := by kernel_rfl
theorem bl25 : bldT Tryd.prog 25 = some ([.val (.float .f64 0), .val (.float .f64 0)], [(0, 1), (1, 1)]) := by kernel_rfl
theorem bl26 : bldT Tryd.prog 26 = some ([.val (.float .f64 0), .val (.float .f64 0)], [(0, 1), (1, 1)]) := by kernel_rfl
theorem bl31 : bldT Tryd.prog 31 = some ([.val (.int .u64 0), .val (.int .u64 0), .val (.int .u64 0), .val (.int .u64 0)], [(0, 1), (1, 1), (2, 1), (3, 1)]) := by kernel_rfl
theorem bl32 : bldT Tryd.prog 32 = some ([.val (.int .u64 0), .val (.int .u64 0), .val (.int .u64 0), .val (.int .u64 0)], [(0, 1), (1, 1), (2, 1), (3, 1)]) := by kernel_rfl
theorem bl49 : bldT Tryd.prog 49 = some ([.val (.int .u64 0), .val (.int .u64 0), .val (.int .u64 0), .val (.int .u64 0)], [(0, 1), (1, 1), (2, 1), (3, 1)]) := by kernel_rfl
theorem bl68 : bldT Tryd.prog 68 = some ([.val (.bool false), .nil], [(0, 1), (1, 1)]) := by kernel_rfl
theorem bl69 : bldT Tryd.prog 69 = some ([.val (.bool false), .nil], [(0, 1), (1, 1)]) := by kernel_rfl
theorem bl85 : bldT Tryd.prog 85 = some ([.val (.int .u64 0), .val (.int .u64 0), .val (.int .u64 0), .val (.int .u64 0), .val (.int .u64 0)], [(0, 1), (1, 1), (2, 1), (3, 1), (4, 1)]) := by kernel_rfl
theorem bl86 : bldT Tryd.prog 86 = some ([.val (.int .u64 0), .val (.int .u64 0), .val (.int .u64 0), .val (.int .u64 0), .val (.int .u64 0)], [(0, 1), (1, 1), (2, 1), (3, 1), (4, 1)]) := by kernel_rfl
theorem bl93 : bldT Tryd.prog 93 = some ([.val (.int .u64 0), .val (.int .i64 0), .val (.int .i64 0), .val (.int .i64 0), .val (.int .u64 0), .val (.int .u64 0)], [(0, 1), (1, 1), (2, 1), (3, 1), (4, 1), (5, 1)]) := by kernel_rfl
theorem bl94 : bldT Tryd.prog 94 = some ([.val (.int .u64 0), .val (.int .i64 0), .val (.int .i64 0), .val (.int .i64 0), .val (.int .u64 0), .val (.int .u64 0)], [(0, 1), (1, 1), (2, 1), (3, 1), (4, 1), (5, 1)]) := by kernel_rfl
theorem bl96 : bldT Tryd.prog 96 = some ([.val (.bool false), .nil, .val (.bool false), .nil, .val (.int .i64 0)], [(0, 2), (2, 2), (4, 1)]) := by kernel_rfl
theorem bl97 : bldT Tryd.prog 97 = some ([.val (.bool false), .nil, .val (.bool false), .nil, .val (.int .i64 0)], [(0, 2), (2, 2), (4, 1)]) := by kernel_rfl
theorem bl125 : bldT Tryd.prog 125 = some ([.nil, .nil, .val (.int .i64 0), .val (.bool false)], [(0, 1), (1, 1), (2, 1), (3, 1)]) := by kernel_rfl
theorem bl126 : bldT Tryd.prog 126 = some ([.nil, .nil, .val (.int .i64 0), .val (.bool false)], [(0, 1), (1, 1), (2, 1), (3, 1)]) := by kernel_rfl
theorem ze2 : zeroT Tryd.prog 2 = some [.val (.int .i64 0)] := by kernel_rfl
theorem ze3 : zeroT Tryd.prog 3 = some [.val (.int .i64 0)] := by kernel_rfl
theorem ze4 : zeroT Tryd.prog 4 = some [.val (.bool false)] := by kernel_rfl
theorem ze5 : zeroT Tryd.prog 5 = some [.val (.int .u8 0)] := by kernel_rfl
theorem ze12 : zeroT Tryd.prog 12 = some [.val (.int .u64 0)] := by kernel_rfl
theorem ze21 : zeroT Tryd.prog 21 = some [.val (.int .i32 0)] := by kernel_rfl
theorem ze22 : zeroT Tryd.prog 22 = some [.nil] := by kernel_rfl
theorem ze24 : zeroT Tryd.prog 24 = some [.val (.float .f64 0)] := by kernel_rfl
theorem ze25 : zeroT Tryd.prog 25 = some [.val (.float .f64 0), .val (.float .f64 0)] := by kernel_rfl
theorem ze26 : zeroT Tryd.prog 26 = some [.val (.float .f64 0), .val (.float .f64 0)] := by kernel_rfl
theorem ze27 : zeroT Tryd.prog 27 = some [.val (.int .i64 0)] := by kernel_rfl
theorem ze30 : zeroT Tryd.prog 30 = some [.val (.int .u64 0)] := by kernel_rfl
theorem ze31 : zeroT Tryd.prog 31 = some [.val (.int .u64 0), .val (.int .u64 0), .val (.int .u64 0), .val (.int .u64 0)] := by kernel_rfl
theorem ze32 : zeroT Tryd.prog 32 = some [.val (.int .u64 0), .val (.int .u64 0), .val (.int .u64 0), .val (.int .u64 0)] := by kernel_rfl
theorem ze37 : zeroT Tryd.prog 37 = some [.nil] := by kernel_rfl
theorem ze49 : zeroT Tryd.prog 49 = some [.val (.int .u64 0), .val (.int .u64 0), .val (.int .u64 0), .val (.int .u64 0)] := by kernel_rfl
theorem ze54 : zeroT Tryd.prog 54 = some [.val (.int .u64 0)] := by kernel_rfl
theorem ze67 : zeroT Tryd.prog 67 = some [.nil] := by kernel_rfl
theorem ze68 : zeroT Tryd.prog 68 = some [.val (.bool false), .nil] := by kernel_rfl
theorem ze69 : zeroT Tryd.prog 69 = some [.val (.bool false), .nil] := by kernel_rfl
theorem ze85 : zeroT Tryd.prog 85 = some [.val (.int .u64 0), .val (.int .u64 0), .val (.int .u64 0), .val (.int .u64 0), .val (.int .u64 0)] := by kernel_rfl
theorem ze86 : zeroT Tryd.prog 86 = some [.val (.int .u64 0), .val (.int .u64 0), .val (.int .u64 0), .val (.int .u64 0), .val (.int .u64 0)] := by kernel_rfl
theorem ze93 : zeroT Tryd.prog 93 = some [.val (.int .u64 0), .val (.int .i64 0), .val (.int .i64 0), .val (.int .i64 0), .val (.int .u64 0), .val (.int .u64 0)] := by kernel_rfl
theorem ze94 : zeroT Tryd.prog 94 = some [.val (.int .u64 0), .val (.int .i64 0), .val (.int .i64 0), .val (.int .i64 0), .val (.int .u64 0), .val (.int .u64 0)] := by kernel_rfl
theorem ze96 : zeroT Tryd.prog 96 = some [.val (.bool false), .nil, .val (.bool false), .nil, .val (.int .i64 0)] := by kernel_rfl
theorem ze97 : zeroT Tryd.prog 97 = some [.val (.bool false), .nil, .val (.bool false), .nil, .val (.int .i64 0)] := by kernel_rfl
theorem ze101 : zeroT Tryd.prog 101 = some [.val (.int .i64 0)] := by kernel_rfl
theorem ze111 : zeroT Tryd.prog 111 = some [.val (.int .u32 0)] := by kernel_rfl
theorem ze125 : zeroT Tryd.prog 125 = some [.nil, .nil, .val (.int .i64 0), .val (.bool false)] := by kernel_rfl
theorem ze126 : zeroT Tryd.prog 126 = some [.nil, .nil, .val (.int .i64 0), .val (.bool false)] := by kernel_rfl
theorem ca3 : callable Tryd.prog 3 = true := by kernel_rfl
theorem ca4 : callable Tryd.prog 4 = true := by kernel_rfl
theorem ca5 : callable Tryd.prog 5 = true := by kernel_rfl
theorem ca6 : callable Tryd.prog 6 = true := by kernel_rfl
theorem ca7 : callable Tryd.prog 7 = true := by kernel_rfl
theorem ca8 : callable Tryd.prog 8 = true := by kernel_rfl
theorem ca9 : callable Tryd.prog 9 = true := by kernel_rfl
theorem ca10 : callable Tryd.prog 10 = true := by kernel_rfl
theorem ca11 : callable Tryd.prog 11 = true := by kernel_rfl
theorem ca12 : callable Tryd.prog 12 = true := by kernel_rfl
theorem ca13 : callable Tryd.prog 13 = true := by kernel_rfl
theorem ca14 : callable Tryd.prog 14 = true := by kernel_rfl
theorem ca15 : callable Tryd.prog 15 = true := by kernel_rfl
theorem ca17 : callable Tryd.prog 17 = true := by kernel_rfl
theorem ca18 : callable Tryd.prog 18 = true := by kernel_rfl
theorem ca19 : callable Tryd.prog 19 = true := by kernel_rfl
theorem ca20 : callable Tryd.prog 20 = true := by kernel_rfl
theorem ca21 : callable Tryd.prog 21 = true := by kernel_rfl
theorem ca22 : callable Tryd.prog 22 = true := by kernel_rfl
theorem ca23 : callable Tryd.prog 23 = true := by kernel_rfl
theorem ca24 : callable Tryd.prog 24 = true := by kernel_rfl
theorem ca25 : callable Tryd.prog 25 = true := by kernel_rfl
theorem ca27 : callable Tryd.prog 27 = true := by kernel_rfl
theorem ca28 : callable Tryd.prog 28 = true := by kernel_rfl
theorem ca33 : callable Tryd.prog 33 = true := by kernel_rfl
theorem ca34 : callable Tryd.prog 34 = true := by kernel_rfl
theorem ca35 : callable Tryd.prog 35 = true := by kernel_rfl
theorem ca36 : callable Tryd.prog 36 = true := by kernel_rfl
theorem ca37 : callable Tryd.prog 37 = true := by kernel_rfl
theorem ca38 : callable Tryd.prog 38 = true := by kernel_rfl
theorem ca39 : callable Tryd.prog 39 = true := by kernel_rfl
theorem ca40 : callable Tryd.prog 40 = true := by kernel_rfl
theorem ca41 : callable Tryd.prog 41 = true := by kernel_rfl
theorem ca42 : callable Tryd.prog 42 = true := by kernel_rfl
theorem ca43 : callable Tryd.prog 43 = true := by kernel_rfl
theorem ca44 : callable Tryd.prog 44 = true := by kernel_rfl
theorem ca45 : callable Tryd.prog 45 = true := by kernel_rfl
theorem ca46 : callable Tryd.prog 46 = true := by kernel_rfl
theorem ca47 : callable Tryd.prog 47 = true := by kernel_rfl
theorem ca48 : callable Tryd.prog 48 = true := by kernel_rfl
theorem ca49 : callable Tryd.prog 49 = true := by kernel_rfl
theorem ca50 : callable Tryd.prog 50 = true := by kernel_rfl
theorem ca51 : callable Tryd.prog 51 = true := by kernel_rfl
theorem ca52 : callable Tryd.prog 52 = true := by kernel_rfl
theorem ca53 : callable Tryd.prog 53 = true := by kernel_rfl
theorem ca54 : callable Tryd.prog 54 = true := by kernel_rfl
theorem ca55 : callable Tryd.prog 55 = true := by kernel_rfl
theorem ca56 : callable Tryd.prog 56 = true := by kernel_rfl
theorem ca59 : callable Tryd.prog 59 = true := by kernel_rfl
theorem ca60 : callable Tryd.prog 60 = true := by kernel_rfl
theorem ca61 : callable Tryd.prog 61 = true := by kernel_rfl
theorem ca62 : callable Tryd.prog 62 = true := by kernel_rfl
theorem ca63 : callable Tryd.prog 63 = true := by kernel_rfl
theorem ca64 : callable Tryd.prog 64 = true := by kernel_rfl
theorem ca65 : callable Tryd.prog 65 = true := by kernel_rfl
theorem ca66 : callable Tryd.prog 66 = true := by kernel_rfl
theorem ca67 : callable Tryd.prog 67 = true := by kernel_rfl
theorem ca68 : callable Tryd.prog 68 = true := by kernel_rfl
theorem ca69 : callable Tryd.prog 69 = true := by kernel_rfl
theorem ca70 : callable Tryd.prog 70 = true := by kernel_rfl
theorem ca71 : callable Tryd.prog 71 = true := by kernel_rfl
theorem ca72 : callable Tryd.prog 72 = true := by kernel_rfl
theorem ca73 : callable Tryd.prog 73 = true := by kernel_rfl
theorem ca76 : callable Tryd.prog 76 = true := by kernel_rfl
theorem ca78 : callable Tryd.prog 78 = true := by kernel_rfl
theorem ca79 : callable Tryd.prog 79 = true := by kernel_rfl
theorem ca80 : callable Tryd.prog 80 = true := by kernel_rfl
theorem ca81 : callable Tryd.prog 81 = true := by kernel_rfl
theorem ca82 : callable Tryd.prog 82 = true := by kernel_rfl
theorem ca83 : callable Tryd.prog 83 = true := by kernel_rfl
theorem ca85 : callable Tryd.prog 85 = true := by kernel_rfl
theorem ca86 : callable Tryd.prog 86 = true := by kernel_rfl
theorem ca87 : callable Tryd.prog 87 = true := by kernel_rfl
theorem ca88 : callable Tryd.prog 88 = true := by kernel_rfl
theorem ca89 : callable Tryd.prog 89 = true := by kernel_rfl
theorem ca90 : callable Tryd.prog 90 = true := by kernel_rfl
theorem ca91 : callable Tryd.prog 91 = true := by kernel_rfl
theorem ca92 : callable Tryd.prog 92 = true := by kernel_rfl
theorem ca93 : callable Tryd.prog 93 = true := by kernel_rfl
theorem ca94 : callable Tryd.prog 94 = true := by kernel_rfl
theorem ca95 : callable Tryd.prog 95 = true := by kernel_rfl
theorem ca96 : callable Tryd.prog 96 = true := by kernel_rfl
theorem ca100 : callable Tryd.prog 100 = true := by kernel_rfl
theorem ca103 : callable Tryd.prog 103 = true := by kernel_rfl
theorem ca104 : callable Tryd.prog 104 = true := by kernel_rfl
theorem ca105 : callable Tryd.prog 105 = true := by kernel_rfl
theorem ca106 : callable Tryd.prog 106 = true := by kernel_rfl
theorem ca107 : callable Tryd.prog 107 = true := by kernel_rfl
theorem ca108 : callable Tryd.prog 108 = true := by kernel_rfl
theorem ca109 : callable Tryd.prog 109 = true := by kernel_rfl
theorem ca110 : callable Tryd.prog 110 = true := by kernel_rfl
theorem ca113 : callable Tryd.prog 113 = true := by kernel_rfl
theorem ca114 : callable Tryd.prog 114 = true := by kernel_rfl
theorem ca115 : callable Tryd.prog 115 = true := by kernel_rfl
theorem ca116 : callable Tryd.prog 116 = true := by kernel_rfl
theorem ca117 : callable Tryd.prog 117 = true := by kernel_rfl
theorem ca118 : callable Tryd.prog 118 = true := by kernel_rfl
theorem ca119 : callable Tryd.prog 119 = true := by kernel_rfl
theorem ca120 : callable Tryd.prog 120 = true := by kernel_rfl
theorem ca121 : callable Tryd.prog 121 = true := by kernel_rfl
theorem ca122 : callable Tryd.prog 122 = true := by kernel_rfl
theorem ca125 : callable Tryd.prog 125 = true := by kernel_rfl
theorem ca126 : callable Tryd.prog 126 = true := by kernel_rfl
theorem ca127 : callable Tryd.prog 127 = true := by kernel_rfl
theorem ca128 : callable Tryd.prog 128 = true := by kernel_rfl
theorem ca129 : callable Tryd.prog 129 = true := by kernel_rfl
theorem ca130 : callable Tryd.prog 130 = true := by kernel_rfl
theorem ca131 : callable Tryd.prog 131 = true := by kernel_rfl
theorem ca134 : callable Tryd.prog 134 = true := by kernel_rfl
theorem ca135 : callable Tryd.prog 135 = true := by kernel_rfl
theorem ca136 : callable Tryd.prog 136 = true := by kernel_rfl
theorem ca137 : callable Tryd.prog 137 = true := by kernel_rfl
theorem ca138 : callable Tryd.prog 138 = true := by kernel_rfl
theorem ca139 : callable Tryd.prog 139 = true := by kernel_rfl
theorem ca140 : callable Tryd.prog 140 = true := by kernel_rfl
theorem ca141 : callable Tryd.prog 141 = true := by kernel_rfl
theorem ca142 : callable Tryd.prog 142 = true := by kernel_rfl
theorem ca143 : callable Tryd.prog 143 = true := by kernel_rfl
theorem ca144 : callable Tryd.prog 144 = true := by kernel_rfl
theorem ca145 : callable Tryd.prog 145 = true := by kernel_rfl
theorem ca146 : callable Tryd.prog 146 = true := by kernel_rfl
theorem ca147 : callable Tryd.prog 147 = true := by kernel_rfl
theorem ca148 : callable Tryd.prog 148 = true := by kernel_rfl
theorem ca149 : callable Tryd.prog 149 = true := by kernel_rfl
end Go.Proofs.YtlbnlalkimnhdaaDoor.Sim
