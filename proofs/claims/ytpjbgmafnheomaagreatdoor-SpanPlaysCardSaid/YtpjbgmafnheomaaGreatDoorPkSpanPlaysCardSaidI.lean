/-
  Lemmas of SpanPlaysCardSaid, part 9.
-/
import Derived.Test.YtpjbgmafnheomaaGreatDoorPkSpanPlaysCardSaidH
import Derived.Test.YtpjbgmafnheomaaGreatDoorProg
namespace Go.Proofs.YtpjbgmafnheomaaGreatDoor.Sim
set_option maxRecDepth 100000
def TT : List TI := [⟨2, .int .i64, 1, 8, [.val (.int .i64 0)]⟩, ⟨3, .int .i64, 1, 8, [.val (.int .i64 0)]⟩, ⟨4, .bool, 1, 1, [.val (.bool false)]⟩, ⟨5, .int .u8, 1, 1, [.val (.int .u8 0)]⟩, ⟨12, .int .u64, 1, 8, [.val (.int .u64 0)]⟩, ⟨21, .int .i32, 1, 4, [.val (.int .i32 0)]⟩, ⟨22, .slice 82 1, 1, 24, [.nil]⟩, ⟨23, .str [(4, 0, 1), (22, 1, 1)], 2, 32, [.val (.bool false), .nil]⟩, ⟨24, .str [(4, 0, 1), (22, 1, 1)], 2, 32, [.val (.bool false), .nil]⟩, ⟨25, .str [(24, 0, 2), (3, 2, 1)], 3, 40, [.val (.bool false), .nil, .val (.int .i64 0)]⟩, ⟨26, .str [(24, 0, 2), (3, 2, 1)], 3, 40, [.val (.bool false), .nil, .val (.int .i64 0)]⟩, ⟨27, .str [(26, 0, 3), (26, 3, 3)], 6, 80, [.val (.bool false), .nil, .val (.int .i64 0), .val (.bool false), .nil, .val (.int .i64 0)]⟩, ⟨28, .str [(26, 0, 3), (26, 3, 3)], 6, 80, [.val (.bool false), .nil, .val (.int .i64 0), .val (.bool false), .nil, .val (.int .i64 0)]⟩, ⟨30, .int .i64, 1, 8, [.val (.int .i64 0)]⟩, ⟨48, .str [(3, 0, 1), (28, 1, 6), (28, 7, 6), (26, 13, 3), (3, 16, 1)], 17, 216, [.val (.int .i64 0), .val (.bool false), .nil, .val (.int .i64 0), .val (.bool false), .nil, .val (.int .i64 0), .val (.bool false), .nil, .val (.int .i64 0), .val (.bool false), .nil, .val (.int .i64 0), .val (.bool false), .nil, .val (.int .i64 0), .val (.int .i64 0)]⟩, ⟨49, .str [(3, 0, 1), (28, 1, 6), (28, 7, 6), (26, 13, 3), (3, 16, 1)], 17, 216, [.val (.int .i64 0), .val (.bool false), .nil, .val (.int .i64 0), .val (.bool false), .nil, .val (.int .i64 0), .val (.bool false), .nil, .val (.int .i64 0), .val (.bool false), .nil, .val (.int .i64 0), .val (.bool false), .nil, .val (.int .i64 0), .val (.int .i64 0)]⟩, ⟨51, .slice 138 1, 1, 24, [.nil]⟩, ⟨52, .str [(4, 0, 1), (51, 1, 1)], 2, 32, [.val (.bool false), .nil]⟩, ⟨53, .str [(4, 0, 1), (51, 1, 1)], 2, 32, [.val (.bool false), .nil]⟩, ⟨69, .slice 49 17, 1, 24, [.nil]⟩, ⟨74, .slice 28 6, 1, 24, [.nil]⟩, ⟨76, .slice 3 1, 1, 24, [.nil]⟩, ⟨81, .slice 22 1, 1, 24, [.nil]⟩, ⟨82, .int .u64, 1, 8, [.val (.int .u64 0)]⟩, ⟨94, .slice 26 3, 1, 24, [.nil]⟩, ⟨138, .int .u32, 1, 4, [.val (.int .u32 0)]⟩, ⟨139, .int .u64, 1, 8, [.val (.int .u64 0)]⟩, ⟨193, .arr 64 5 1, 64, 64, [.val (.int .u8 0), .val (.int .u8 0), .val (.int .u8 0), .val (.int .u8 0), .val (.int .u8 0), .val (.int .u8 0), .val (.int .u8 0), .val (.int .u8 0), .val (.int .u8 0), .val (.int .u8 0), .val (.int .u8 0), .val (.int .u8 0), .val (.int .u8 0), .val (.int .u8 0), .val (.int .u8 0), .val (.int .u8 0), .val (.int .u8 0), .val (.int .u8 0), .val (.int .u8 0), .val (.int .u8 0), .val (.int .u8 0), .val (.int .u8 0), .val (.int .u8 0), .val (.int .u8 0), .val (.int .u8 0), .val (.int .u8 0), .val (.int .u8 0), .val (.int .u8 0), .val (.int .u8 0), .val (.int .u8 0), .val (.int .u8 0), .val (.int .u8 0), .val (.int .u8 0), .val (.int .u8 0), .val (.int .u8 0), .val (.int .u8 0), .val (.int .u8 0), .val (.int .u8 0), .val (.int .u8 0), .val (.int .u8 0), .val (.int .u8 0), .val (.int .u8 0), .val (.int .u8 0), .val (.int .u8 0), .val (.int .u8 0), .val (.int .u8 0), .val (.int .u8 0), .val (.int .u8 0), .val (.int .u8 0), .val (.int .u8 0), .val (.int .u8 0), .val (.int .u8 0), .val (.int .u8 0), .val (.int .u8 0), .val (.int .u8 0), .val (.int .u8 0), .val (.int .u8 0), .val (.int .u8 0), .val (.int .u8 0), .val (.int .u8 0), .val (.int .u8 0), .val (.int .u8 0), .val (.int .u8 0), .val (.int .u8 0)]⟩, ⟨202, .int .i64, 1, 8, [.val (.int .i64 0)]⟩]
theorem tok : TOk Tryz.prog TT := ⟨⟨by kernel_rfl, by kernel_rfl, by kernel_rfl, by kernel_rfl, (show Tryz.prog.underlying 2 = some (.int .i64) by kernel_rfl)⟩, ⟨by kernel_rfl, by kernel_rfl, by kernel_rfl, by kernel_rfl, (show Tryz.prog.underlying 3 = some (.int .i64) by kernel_rfl)⟩, ⟨by kernel_rfl, by kernel_rfl, by kernel_rfl, by kernel_rfl, (show Tryz.prog.underlying 4 = some .bool by kernel_rfl)⟩, ⟨by kernel_rfl, by kernel_rfl, by kernel_rfl, by kernel_rfl, (show Tryz.prog.underlying 5 = some (.int .u8) by kernel_rfl)⟩, ⟨by kernel_rfl, by kernel_rfl, by kernel_rfl, by kernel_rfl, (show Tryz.prog.underlying 12 = some (.int .u64) by kernel_rfl)⟩, ⟨by kernel_rfl, by kernel_rfl, by kernel_rfl, by kernel_rfl, (show Tryz.prog.underlying 21 = some (.int .i32) by kernel_rfl)⟩, ⟨by kernel_rfl, by kernel_rfl, by kernel_rfl, by kernel_rfl, (show elT Tryz.prog 22 = some (82, 1) by kernel_rfl)⟩, ⟨by kernel_rfl, by kernel_rfl, by kernel_rfl, by kernel_rfl, (show strT Tryz.prog 23 = some [(4, 0, 1), (22, 1, 1)] by kernel_rfl)⟩, ⟨by kernel_rfl, by kernel_rfl, by kernel_rfl, by kernel_rfl, (show strT Tryz.prog 24 = some [(4, 0, 1), (22, 1, 1)] by kernel_rfl)⟩, ⟨by kernel_rfl, by kernel_rfl, by kernel_rfl, by kernel_rfl, (show strT Tryz.prog 25 = some [(24, 0, 2), (3, 2, 1)] by kernel_rfl)⟩, ⟨by kernel_rfl, by kernel_rfl, by kernel_rfl, by kernel_rfl, (show strT Tryz.prog 26 = some [(24, 0, 2), (3, 2, 1)] by kernel_rfl)⟩, ⟨by kernel_rfl, by kernel_rfl, by kernel_rfl, by kernel_rfl, (show strT Tryz.prog 27 = some [(26, 0, 3), (26, 3, 3)] by kernel_rfl)⟩, ⟨by kernel_rfl, by kernel_rfl, by kernel_rfl, by kernel_rfl, (show strT Tryz.prog 28 = some [(26, 0, 3), (26, 3, 3)] by kernel_rfl)⟩, ⟨by kernel_rfl, by kernel_rfl, by kernel_rfl, by kernel_rfl, (show Tryz.prog.underlying 30 = some (.int .i64) by kernel_rfl)⟩, ⟨by kernel_rfl, by kernel_rfl, by kernel_rfl, by kernel_rfl, (show strT Tryz.prog 48 = some [(3, 0, 1), (28, 1, 6), (28, 7, 6), (26, 13, 3), (3, 16, 1)] by kernel_rfl)⟩, ⟨by kernel_rfl, by kernel_rfl, by kernel_rfl, by kernel_rfl, (show strT Tryz.prog 49 = some [(3, 0, 1), (28, 1, 6), (28, 7, 6), (26, 13, 3), (3, 16, 1)] by kernel_rfl)⟩, ⟨by kernel_rfl, by kernel_rfl, by kernel_rfl, by kernel_rfl, (show elT Tryz.prog 51 = some (138, 1) by kernel_rfl)⟩, ⟨by kernel_rfl, by kernel_rfl, by kernel_rfl, by kernel_rfl, (show strT Tryz.prog 52 = some [(4, 0, 1), (51, 1, 1)] by kernel_rfl)⟩, ⟨by kernel_rfl, by kernel_rfl, by kernel_rfl, by kernel_rfl, (show strT Tryz.prog 53 = some [(4, 0, 1), (51, 1, 1)] by kernel_rfl)⟩, ⟨by kernel_rfl, by kernel_rfl, by kernel_rfl, by kernel_rfl, (show elT Tryz.prog 69 = some (49, 17) by kernel_rfl)⟩, ⟨by kernel_rfl, by kernel_rfl, by kernel_rfl, by kernel_rfl, (show elT Tryz.prog 74 = some (28, 6) by kernel_rfl)⟩, ⟨by kernel_rfl, by kernel_rfl, by kernel_rfl, by kernel_rfl, (show elT Tryz.prog 76 = some (3, 1) by kernel_rfl)⟩, ⟨by kernel_rfl, by kernel_rfl, by kernel_rfl, by kernel_rfl, (show elT Tryz.prog 81 = some (22, 1) by kernel_rfl)⟩, ⟨by kernel_rfl, by kernel_rfl, by kernel_rfl, by kernel_rfl, (show Tryz.prog.underlying 82 = some (.int .u64) by kernel_rfl)⟩, ⟨by kernel_rfl, by kernel_rfl, by kernel_rfl, by kernel_rfl, (show elT Tryz.prog 94 = some (26, 3) by kernel_rfl)⟩, ⟨by kernel_rfl, by kernel_rfl, by kernel_rfl, by kernel_rfl, (show Tryz.prog.underlying 138 = some (.int .u32) by kernel_rfl)⟩, ⟨by kernel_rfl, by kernel_rfl, by kernel_rfl, by kernel_rfl, (show Tryz.prog.underlying 139 = some (.int .u64) by kernel_rfl)⟩, ⟨by kernel_rfl, by kernel_rfl, by kernel_rfl, by kernel_rfl, (show arT Tryz.prog 193 = some (64, 5, 1) by kernel_rfl)⟩, ⟨by kernel_rfl, by kernel_rfl, by kernel_rfl, by kernel_rfl, (show Tryz.prog.underlying 202 = some (.int .i64) by kernel_rfl)⟩, trivial⟩
theorem mixed : Tryz.prog.follows .mixedOrders = true := by kernel_rfl
def XX : List FuncId := [181, 187]
theorem ax_i {G : List (Nat × List Value)} {f : FuncId} {fn : Func} {cd : Code} {args : List PV} {Q : PV → Prop} {N : Nat} {rs : List ResultVar} (hf : Tryz.prog.funcs[f]? = some fn) (hN : fn.ntmps = N) (h : ∀ F : Fr, F.G = G → F.c0.ob.length = 0 → vC Tryz.prog F TT XX cd (vEnd TT rs Q) (vEnd TT rs Q) (fun _ _ => False) ⟨N, argT args, [], []⟩) (hrs : fn.results.toList = rs := by exact rfl) (hb : fn.body = some cd := by exact rfl) (hc : callable Tryz.prog f = true := by kernel_rfl) (hn : Nat.ble args.length N = true := by exact rfl) : FC Tryz.prog G f args Q := FC.intro (X := XX) tok hf hb hN hrs hc hn h
abbrev Gs := List (Nat × List Value)
def dt0 : Tr := (.one 0 (.one 1 (.one 2 (.one 3 (.one 4 (.one 5 (.one 6 (.one 7 (.one 8 (.two (.one 9 (.one 10 (.one 11 (.one 12 (.one 13 (.st (.one 14 (.one 15 (.fin))))))))) (.one 13 (.one 9 (.one 10 (.one 11 (.one 12 (.st (.one 14 (.one 15 (.fin)))))))))))))))))))
def dt1 : Tr := (.one 0 (.one 1 (.one 2 (.one 3 (.one 4 (.one 5 (.one 6 (.one 7 (.two (.one 8 (.one 9 (.one 10 (.one 11 (.one 12 (.st (.one 13 (.one 14 (.fin))))))))) (.one 12 (.one 8 (.one 9 (.one 10 (.one 11 (.st (.one 13 (.one 14 (.fin))))))))))))))))))
def dt2 : Tr := (.one 0 (.one 1 (.one 2 (.one 3 (.one 4 (.one 5 (.two (.one 6 (.one 7 (.st (.one 8 (.st (.one 9 (.fin))))))) (.one 7 (.one 6 (.st (.one 8 (.st (.one 9 (.fin))))))))))))))
def dt4 : Tr := (.one 0 (.one 1 (.one 2 (.one 3 (.one 5 (.one 6 (.one 7 (.one 8 (.one 10 (.one 11 (.one 13 (.two (.one 4 (.two (.one 9 (.one 12 (.one 14 (.one 15 (.one 16 (.st (.one 17 (.one 18 (.fin))))))))) (.one 12 (.one 9 (.one 14 (.one 15 (.one 16 (.st (.one 17 (.one 18 (.fin))))))))))) (.two (.one 9 (.two (.one 4 (.one 12 (.one 14 (.one 15 (.one 16 (.st (.one 17 (.one 18 (.fin))))))))) (.one 12 (.one 4 (.one 14 (.one 15 (.one 16 (.st (.one 17 (.one 18 (.fin))))))))))) (.one 12 (.two (.one 4 (.one 9 (.one 14 (.one 15 (.one 16 (.st (.one 17 (.one 18 (.fin))))))))) (.one 9 (.one 4 (.one 14 (.one 15 (.one 16 (.st (.one 17 (.one 18 (.fin))))))))))))))))))))))))
def dt5 : Tr := (.one 0 (.one 1 (.one 2 (.one 3 (.one 6 (.one 7 (.one 8 (.one 9 (.two (.one 4 (.two (.one 5 (.one 10 (.one 11 (.one 12 (.one 13 (.st (.one 14 (.one 15 (.fin))))))))) (.one 10 (.one 5 (.one 11 (.one 12 (.one 13 (.st (.one 14 (.one 15 (.fin))))))))))) (.one 10 (.one 4 (.one 5 (.one 11 (.one 12 (.one 13 (.st (.one 14 (.one 15 (.fin)))))))))))))))))))
def dt6 : Tr := (.one 0 (.one 1 (.one 2 (.one 3 (.one 6 (.one 7 (.one 8 (.one 9 (.two (.one 4 (.two (.one 5 (.two (.one 10 (.two (.one 11 (.one 12 (.one 13 (.st (.one 14 (.fin)))))) (.one 13 (.one 11 (.one 12 (.st (.one 14 (.fin)))))))) (.one 13 (.one 10 (.one 11 (.one 12 (.st (.one 14 (.fin))))))))) (.two (.one 10 (.two (.one 5 (.two (.one 11 (.one 12 (.one 13 (.st (.one 14 (.fin)))))) (.one 13 (.one 11 (.one 12 (.st (.one 14 (.fin)))))))) (.one 13 (.one 5 (.one 11 (.one 12 (.st (.one 14 (.fin))))))))) (.one 13 (.two (.one 5 (.one 10 (.one 11 (.one 12 (.st (.one 14 (.fin))))))) (.one 10 (.one 5 (.one 11 (.one 12 (.st (.one 14 (.fin)))))))))))) (.two (.one 10 (.two (.one 4 (.two (.one 5 (.two (.one 11 (.one 12 (.one 13 (.st (.one 14 (.fin)))))) (.one 13 (.one 11 (.one 12 (.st (.one 14 (.fin)))))))) (.one 13 (.one 5 (.one 11 (.one 12 (.st (.one 14 (.fin))))))))) (.one 13 (.one 4 (.one 5 (.one 11 (.one 12 (.st (.one 14 (.fin)))))))))) (.one 13 (.two (.one 4 (.two (.one 5 (.one 10 (.one 11 (.one 12 (.st (.one 14 (.fin))))))) (.one 10 (.one 5 (.one 11 (.one 12 (.st (.one 14 (.fin))))))))) (.one 10 (.one 4 (.one 5 (.one 11 (.one 12 (.st (.one 14 (.fin))))))))))))))))))))
def dt7 : Tr := (.one 0 (.one 1 (.one 2 (.one 3 (.two (.one 4 (.one 5 (.st (.one 6 (.st (.one 7 (.fin))))))) (.one 5 (.one 4 (.st (.one 6 (.st (.one 7 (.fin))))))))))))
def dt9 : Tr := (.one 0 (.one 1 (.one 3 (.one 4 (.one 7 (.one 8 (.one 9 (.one 10 (.one 11 (.two (.one 2 (.two (.one 5 (.two (.one 6 (.one 12 (.st (.one 13 (.one 14 (.fin)))))) (.one 12 (.one 6 (.st (.one 13 (.one 14 (.fin)))))))) (.one 12 (.one 5 (.one 6 (.st (.one 13 (.one 14 (.fin))))))))) (.one 12 (.one 2 (.one 5 (.one 6 (.st (.one 13 (.one 14 (.fin))))))))))))))))))
def dg16 : List (List Nat) := [[0, 1, 2, 3, 4, 5, 6, 7, 8, 9, 10, 11, 12, 13, 14, 15, 16]]
def dg25 : List (List Nat) := [[0, 1, 2, 3, 4, 5, 6, 7, 8]]
def dg27 : List (List Nat) := [[0, 1, 2, 3, 4, 5, 6, 7]]
def dg32 : List (List Nat) := [[0, 1, 2, 3, 4, 7, 8, 9, 5, 6, 10, 11, 12, 13]]
def dg33 : List (List Nat) := [[0, 1, 2, 3, 5, 4, 6, 7]]
def dg37 : List (List Nat) := [[0, 1, 2, 4, 5, 6, 3, 7, 8, 9]]
def dg38 : List (List Nat) := [[0, 1, 2, 4, 5, 6, 3, 7, 8], [9], [10], [11], [12, 13]]
def dg39 : List (List Nat) := [[0, 1, 2, 5, 3, 4, 6, 7, 8], [9, 10]]
def dg42 : List (List Nat) := [[0, 1, 3, 4, 2, 5, 6, 7, 8, 9, 10, 11]]
def dg43 : List (List Nat) := [[0, 1, 3, 4, 2, 5, 6, 7, 8, 9, 10]]
def dg45 : List (List Nat) := [[0, 1, 3, 4, 2, 5, 6], [7], [8], [9], [10, 11]]
def dg46 : List (List Nat) := [[0, 1, 3, 4, 2, 5, 6], [7], [8], [9], [10], [11, 12, 13]]
def dg49 : List (List Nat) := [[0, 1, 3, 4, 2, 5], [6], [7], [8], [9, 10]]
def dg52 : List (List Nat) := [[0, 1, 3, 4, 6, 7, 2, 5, 8], [9], [10], [11], [12, 13]]
def dg53 : List (List Nat) := [[0, 1, 3, 4, 7, 8, 9, 10, 11, 2, 5, 6, 12, 13, 14], [15, 16]]
def dg54 : List (List Nat) := [[0, 1, 3, 5, 6, 8, 2, 4, 7, 9, 10, 11]]
def dg57 : List (List Nat) := [[0, 1, 4, 5, 2, 3, 6, 7, 8]]
def dg66 : List (List Nat) := [[], [0], [1], [2], [3], [6], [7], [10, 4, 5, 8, 9, 11], [12], [13], [14, 15], [16, 17]]
theorem dT {F : Fr} {X : List FuncId} {s : St} {K : St → Prop} {id : Nat} {ops : List Oper} (t : Tr) (h : vT Tryz.prog F TT X ops t s K) (hl : Nat.ble t.path.flatten.length ops.length = true := by kernel_rfl) (hc : chkT X ops t (Array.replicate ops.length false) false = true := by kernel_rfl) : DrawG Tryz.prog F TT X id ops s K := draw_t t tok mixed hl hc h
theorem dG {F : Fr} {X : List FuncId} {s : St} {K : St → Prop} {id : Nat} {ops : List Oper} (t : List (List Nat)) (h : vL Tryz.prog F TT X ops (t.flatten.map fun i => (nthO ops i, kind X (nthO ops i))) s K) (hc : chkR X ops (Rg.begin ops.toArray t) t.flatten = true := by kernel_rfl) : DrawG Tryz.prog F TT X id ops s K := draw_g t tok mixed hc h
theorem ce {P : Program} {F : Fr} {s : St} {f : FuncId} {e : Bool} {args : List PV} {r : PV} {K : St → PV → Prop} (h : FC P F.G f args (· = r)) (k : K s r) (hno : noHL args = true := by exact rfl) : CallF P F e f args s K := call_eq h (LpL.refl _) hno k
theorem ax_l {i : Int} {n : Nat} {K : Nat → Prop} {B : Prop} (k : B) (h : B → IdxL i n K := by first | exact fun k => idx_l 0 (by decide) (by simp [repZ]) k | exact fun k => idx_l 1 (by decide) (by simp [repZ]) k | exact fun k => idx_l 2 (by decide) (by simp [repZ]) k | exact fun k => idx_l 3 (by decide) (by simp [repZ]) k) : IdxL i n K := h k
theorem ax_r {c K : Prop} (k : K) (h : c := by simp [repZ]) : Chk c K := Chk.mk' h k
abbrev OPV (K : Int) (b1 : Bool) (l1 : List Int) (e1 : Int) (b2 : Bool) (l2 : List Int) (e2 : Int) (b3 : Bool) (l3 : List Int) (e3 : Int) (b4 : Bool) (l4 : List Int) (e4 : Int) (b5 : Bool) (l5 : List Int) (e5 p : Int) : PV := .agg [.val (.int .i64 K), .val (.bool b1), .ws .u64 l1, .val (.int .i64 e1), .val (.bool b2), .ws .u64 l2, .val (.int .i64 e2), .val (.bool b3), .ws .u64 l3, .val (.int .i64 e3), .val (.bool b4), .ws .u64 l4, .val (.int .i64 e4), .val (.bool b5), .ws .u64 l5, .val (.int .i64 e5), .val (.int .i64 p)]
set_option linter.unusedVariables false
set_option linter.unusedSimpArgs false
def vl (B : Int) : List Int → Int
 | [] => 0
 | x :: l => x + B * vl B l
def okD (B : Int) (l : List Int) : Prop := ∀ x ∈ l, 0 ≤ x ∧ x < B
def trim : List Int → List Int
 | [] => []
 | x :: l => match trim l with
    | [] => if x = 0 then [] else [x]
    | l => x :: l
def dgs (B n : Nat) : List Int := if h : n = 0 ∨ B ≤ 1 then [] else ((n % B : Nat) : Int) :: dgs B (n / B)
termination_by n
decreasing_by exact Nat.div_lt_self (by omega) (by omega)
theorem vl_append (B : Int) (l m : List Int) : vl B (l ++ m) = vl B l + B ^ l.length * vl B m := by
  induction l with
 | nil => simp [vl]
 | cons x l ih =>
    have e : B ^ (l.length + 1) * vl B m = B * (B ^ l.length * vl B m) := by rw [Int.pow_succ, Int.mul_comm (B ^ l.length) B, Int.mul_assoc]
    simp only [List.cons_append, vl, ih, List.length_cons, e, Int.mul_add, Int.add_assoc]
theorem vl_snoc (B : Int) (l : List Int) (x : Int) : vl B (l ++ [x]) = vl B l + B ^ l.length * x := by simp [vl_append, vl]
theorem take_succ_rd (a : List Int) (i : Nat) (h : i < a.length) : a.take (i + 1) = a.take i ++ [rd a i] := by
  rw [List.take_succ_eq_append_getElem h]
  simp [rd, List.getD_eq_getElem?_getD, h]
theorem vl_take_succ (B : Int) (a : List Int) (i : Nat) (h : i < a.length) : vl B (a.take (i + 1)) = vl B (a.take i) + B ^ i * rd a i := by
  rw [take_succ_rd a i h, vl_snoc]
  have : min i a.length = i := by omega
  simp [this]
theorem okD_nil (B : Int) : okD B [] := fun x h => by simp at h
theorem okD_cons {B x : Int} {l : List Int} : okD B (x :: l) ↔ (0 ≤ x ∧ x < B) ∧ okD B l := by simp [okD]
theorem okD_append {B : Int} {l m : List Int} : okD B (l ++ m) ↔ okD B l ∧ okD B m := by
  simp only [okD, List.mem_append]
  exact ⟨fun h => ⟨fun x hx => h x (.inl hx), fun x hx => h x (.inr hx)⟩, fun h x hx => hx.elim (h.1 x) (h.2 x)⟩
theorem okD.take {B : Int} {l : List Int} (h : okD B l) (n : Nat) : okD B (l.take n) := fun x hx => h x (List.mem_of_mem_take hx)
theorem okD.drop {B : Int} {l : List Int} (h : okD B l) (n : Nat) : okD B (l.drop n) := fun x hx => h x (List.mem_of_mem_drop hx)
theorem vl_nonneg {B : Int} (hB : 0 ≤ B) : ∀ {l : List Int}, okD B l → 0 ≤ vl B l
 | [], _ => Int.le_refl 0
 | x :: l, h => by
    have h1 := (okD_cons.1 h).1.1
    have h2 := vl_nonneg hB (okD_cons.1 h).2
    have h3 := Int.mul_nonneg hB h2
    simp only [vl]; omega
theorem vl_lt {B : Int} (hB : 0 < B) : ∀ {l : List Int}, okD B l → vl B l < B ^ l.length
 | [], _ => by simp [vl]
 | x :: l, h => by
    have h1 := (okD_cons.1 h).1.2
    have h2 := vl_lt hB (okD_cons.1 h).2
    have h3 : B * vl B l ≤ B * (B ^ l.length - 1) := Int.mul_le_mul_of_nonneg_left (by omega) (by omega)
    have e : B ^ (l.length + 1) = B * B ^ l.length := by rw [Int.pow_succ, Int.mul_comm]
    have e2 : B * (B ^ l.length - 1) = B * B ^ l.length - B := by rw [Int.mul_sub, Int.mul_one]
    simp only [vl, List.length_cons, e]; omega
theorem okD.trim {B : Int} : ∀ {l : List Int}, okD B l → okD B (trim l)
 | [], _ => okD_nil B
 | x :: l, h => by
    have ih := okD.trim (okD_cons.1 h).2
    simp only [Sim.trim]
    split
    · split
      · exact okD_nil B
      · exact okD_cons.2 ⟨(okD_cons.1 h).1, okD_nil B⟩
    · exact okD_cons.2 ⟨(okD_cons.1 h).1, ih⟩
theorem trim_dgs {B : Nat} (hB : 2 ≤ B) : ∀ {l : List Int}, okD B l → trim l = dgs B (vl B l).toNat
 | [], _ => by unfold dgs; simp [trim, vl]
 | x :: l, h => by
    obtain ⟨hx, hl⟩ := okD_cons.1 h
    have ih := trim_dgs hB hl
    have h0 := vl_nonneg (B := (B : Int)) (by omega) hl
    obtain ⟨n, hn⟩ : ∃ n : Nat, vl B l = n := ⟨(vl B l).toNat, by omega⟩
    obtain ⟨y, rfl⟩ : ∃ y : Nat, x = y := ⟨x.toNat, by omega⟩
    have hy : y < B := by omega
    have e : (vl B ((y : Int) :: l)).toNat = y + B * n := by
      simp only [vl, hn]
      have : ((y : Int) + (B : Int) * (n : Int)) = ((y + B * n : Nat) : Int) := by simp
      rw [this, Int.toNat_natCast]
    rw [e]
    rw [hn] at ih
    simp only [Int.toNat_natCast] at ih
    have hm : (y + B * n) % B = y := by rw [Nat.add_mul_mod_self_left, Nat.mod_eq_of_lt hy]
    have hd : (y + B * n) / B = n := by rw [Nat.add_mul_div_left _ _ (by omega), Nat.div_eq_of_lt hy, Nat.zero_add]
    simp only [trim]
    by_cases hz : y + B * n = 0
    · have hy0 : y = 0 := by omega
      have hn0 : n = 0 := by
        have h1 : B * n = 0 := by omega
        rcases Nat.mul_eq_zero.1 h1 with h | h <;> omega
      subst hy0 hn0
      have : dgs B 0 = [] := by unfold dgs; simp
      rw [ih, this]
      simp [this]
    · have hu : dgs B (y + B * n) = (y : Int) :: dgs B n := by
        rw [dgs, dif_neg (by omega), hm, hd]
      rw [hu, ih]
      split
      · rename_i h0'
        split
        · rename_i hy0
          have hy0 : y = 0 := by omega
          exfalso
          subst hy0
          have hnn : n ≠ 0 := by intro e; subst e; simp at hz
          rw [dgs, dif_neg (by omega)] at h0'
          cases h0'
        · rw [h0']
      · rfl
def d32 (n : Nat) : List Int := dgs 4294967296 n
def d64 (n : Nat) : List Int := dgs 18446744073709551616 n
theorem dgs_ok {B : Nat} (hB : 2 ≤ B) (n : Nat) : okD B (dgs B n) ∧ vl B (dgs B n) = n ∧ trim (dgs B n) = dgs B n := by
  induction n using Nat.strongRecOn with
 | _ n ih =>
    by_cases h0 : n = 0
    · subst h0
      have : dgs B 0 = [] := by unfold dgs; simp
      rw [this]; exact ⟨okD_nil _, rfl, rfl⟩
    · obtain ⟨h1, h2, h3⟩ := ih (n / B) (Nat.div_lt_self (by omega) (by omega))
      have e : dgs B n = ((n % B : Nat) : Int) :: dgs B (n / B) := by rw [dgs, dif_neg (by omega)]
      have hm := Nat.mod_lt n (show 0 < B by omega)
      have hok : okD B (dgs B n) := by rw [e]; exact okD_cons.2 ⟨by omega, h1⟩
      have hv : vl B (dgs B n) = n := by
        rw [e]; simp only [vl, h2]
        have := Nat.mod_add_div n B
        exact_mod_cast this
      refine ⟨hok, hv, ?_⟩
      rw [trim_dgs hB hok, hv]; simp
theorem rd_bd {B : Int} (hB : 0 < B) {a : List Int} (h : okD B a) (i : Int) : 0 ≤ rd a i ∧ rd a i < B := by
  unfold rd
  rw [List.getD_eq_getElem?_getD]
  cases hq : a[i.toNat]? with
 | none => simpa using hB
 | some x => exact h x (List.mem_of_getElem? hq)
theorem rd_out (a : List Int) (i : Nat) (h : a.length ≤ i) : rd a i = 0 := by simp [rd, List.getD_eq_getElem?_getD, h]
theorem vl_take_step (B : Int) (a : List Int) (i : Nat) : vl B (a.take (i + 1)) = vl B (a.take i) + B ^ i * rd a i := by
  by_cases h : i < a.length
  · exact vl_take_succ B a i h
  · rw [rd_out a i (by omega), List.take_of_length_le (by omega), List.take_of_length_le (by omega)]; simp
theorem d32_ok (n : Nat) : okD 4294967296 (d32 n) ∧ vl 4294967296 (d32 n) = n := ⟨(dgs_ok (B := 4294967296) (by decide) n).1, (dgs_ok (B := 4294967296) (by decide) n).2.1⟩
theorem sum_step {B vs d c2 T : Int} (i : Nat) (h : d + B * c2 = T) : vs + B ^ i * d + B ^ (i + 1) * c2 = vs + B ^ i * T := by
  rw [Int.pow_succ, Int.mul_assoc, Int.add_assoc, ← Int.mul_add, h]
theorem drop_rd (a : List Int) (i : Nat) (h : i < a.length) : a.drop i = rd a i :: a.drop (i + 1) := by
  rw [List.drop_eq_getElem_cons h]
  simp [rd, List.getD_eq_getElem?_getD, h]
theorem vl_split (B : Int) (a : List Int) (i : Nat) (h : i ≤ a.length) : vl B a = vl B (a.take i) + B ^ i * vl B (a.drop i) := by
  have := vl_append B (a.take i) (a.drop i)
  rw [List.take_append_drop] at this
  rw [this]; simp [Nat.min_eq_left h]
theorem vl_lt_of {B : Int} (hB : 0 < B) {a b : List Int} (oka : okD B a) (okb : okD B b) (hl : a.length = b.length) (i : Nat) (hi : i < a.length) (hd : a.drop (i + 1) = b.drop (i + 1)) (h : rd a i < rd b i) : vl B a < vl B b := by
  rw [vl_split B a i (by omega), vl_split B b i (by omega), drop_rd a i hi, drop_rd b i (by omega), hd]
  simp only [vl]
  have h1 := vl_lt hB (oka.take i)
  have h2 := vl_nonneg (Int.le_of_lt hB) (okb.take i)
  have hlen : (a.take i).length = i := by simp; omega
  rw [hlen] at h1
  have hp : 0 ≤ B ^ i := Int.pow_nonneg (Int.le_of_lt hB)
  have h3 : B ^ i * (rd a i + 1) ≤ B ^ i * rd b i := Int.mul_le_mul_of_nonneg_left (by omega) hp
  rw [Int.mul_add, Int.mul_one] at h3
  rw [Int.mul_add, Int.mul_add]
  omega
theorem dgs_len {B : Nat} (hB : 2 ≤ B) (n : Nat) : n < B ^ (dgs B n).length ∧ (n ≠ 0 → 0 < (dgs B n).length ∧ B ^ ((dgs B n).length - 1) ≤ n) := by
  induction n using Nat.strongRecOn with
 | _ n ih =>
    by_cases h0 : n = 0
    · subst h0
      have : dgs B 0 = [] := by unfold dgs; simp
      rw [this]; simp
    · obtain ⟨h1, h2⟩ := ih (n / B) (Nat.div_lt_self (by omega) (by omega))
      have e : dgs B n = ((n % B : Nat) : Int) :: dgs B (n / B) := by rw [dgs, dif_neg (by omega)]
      have hdm := Nat.div_add_mod n B
      have hm := Nat.mod_lt n (show 0 < B by omega)
      rw [e]
      simp only [List.length_cons, Nat.add_sub_cancel]
      refine ⟨?_, fun _ => ⟨Nat.succ_pos _, ?_⟩⟩
      · rw [Nat.pow_succ, Nat.mul_comm]
        have : B * (n / B + 1) ≤ B * B ^ (dgs B (n / B)).length := Nat.mul_le_mul_left _ h1
        rw [Nat.mul_add] at this; omega
      · by_cases hq : n / B = 0
        · have : dgs B (n / B) = [] := by rw [hq]; unfold dgs; simp
          rw [this]; simp; omega
        · obtain ⟨g1, g2⟩ := h2 hq
          have e2 : (dgs B (n / B)).length = (dgs B (n / B)).length - 1 + 1 := by omega
          rw [e2, Nat.pow_succ, Nat.mul_comm]
          have := Nat.mul_le_mul_left B g2
          omega
theorem dgs_lt {B : Nat} (hB : 2 ≤ B) {x y : Nat} (h : (dgs B x).length < (dgs B y).length) : x < y := by
  have h1 := (dgs_len hB x).1
  have hy : y ≠ 0 := by
    intro e
    subst e
    have : dgs B 0 = [] := by unfold dgs; simp
    rw [this] at h; simp at h
  obtain ⟨h2, h3⟩ := (dgs_len hB y).2 hy
  exact Nat.lt_of_lt_of_le h1 (Nat.le_trans (Nat.pow_le_pow_right (by omega) (by omega)) h3)
def lenB (B n : Nat) : Nat := (dgs B n).length
theorem lenB_le {B : Nat} (hB : 2 ≤ B) {x n : Nat} (h : x < B ^ n) : lenB B x ≤ n := by
  rcases Nat.lt_or_ge n (lenB B x) with h1 | h1
  · obtain ⟨_, h2⟩ := dgs_len hB x
    by_cases hx : x = 0
    · subst hx
      have : dgs B 0 = [] := by unfold dgs; simp
      simp [lenB, this] at h1
    · obtain ⟨h3, h4⟩ := h2 hx
      have h5 : B ^ n ≤ B ^ ((dgs B x).length - 1) := Nat.pow_le_pow_right (by omega) (by unfold lenB at h1; omega)
      omega
  · exact h1
theorem lenB_lt {B : Nat} (hB : 2 ≤ B) (x : Nat) : x < B ^ lenB B x := (dgs_len hB x).1
theorem lenB_mono {B : Nat} (hB : 2 ≤ B) {x y : Nat} (h : x ≤ y) : lenB B x ≤ lenB B y := lenB_le hB (Nat.lt_of_le_of_lt h (lenB_lt hB y))
theorem lenB_add {B : Nat} (hB : 2 ≤ B) (x y : Nat) : lenB B (x + y) ≤ max (lenB B x) (lenB B y) + 1 := by
  refine lenB_le hB ?_
  have h1 : B ^ lenB B x ≤ B ^ max (lenB B x) (lenB B y) := Nat.pow_le_pow_right (by omega) (by omega)
  have h2 : B ^ lenB B y ≤ B ^ max (lenB B x) (lenB B y) := Nat.pow_le_pow_right (by omega) (by omega)
  have h3 := lenB_lt hB x
  have h4 := lenB_lt hB y
  have h5 : B ^ max (lenB B x) (lenB B y) * 2 ≤ B ^ (max (lenB B x) (lenB B y) + 1) := by rw [Nat.pow_succ]; exact Nat.mul_le_mul_left _ hB
  omega
theorem lenB_mul {B : Nat} (hB : 2 ≤ B) (x y : Nat) : lenB B (x * y) ≤ lenB B x + lenB B y := by
  refine lenB_le hB ?_
  rw [Nat.pow_add]
  have h3 := lenB_lt hB x
  have h4 := lenB_lt hB y
  rcases Nat.eq_zero_or_pos y with h0 | h0
  · subst h0
    have : 0 < B ^ lenB B x * B ^ lenB B 0 := Nat.mul_pos (Nat.pow_pos (by omega)) (Nat.pow_pos (by omega))
    simpa using this
  · exact Nat.lt_of_lt_of_le (Nat.mul_lt_mul_of_pos_right h3 h0) (Nat.mul_le_mul_left _ (Nat.le_of_lt h4))
theorem lenB_zero (B : Nat) : lenB B 0 = 0 := by unfold lenB dgs; simp
theorem lenB_pos {B : Nat} (hB : 2 ≤ B) {x : Nat} (h : x ≠ 0) : 0 < lenB B x := ((dgs_len hB x).2 h).1
theorem lenB_eq_zero {B : Nat} (hB : 2 ≤ B) {x : Nat} : lenB B x = 0 ↔ x = 0 := ⟨fun h => by
  rcases Nat.eq_zero_or_pos x with h0 | h0
  · exact h0
  · have := lenB_pos hB (x := x) (by omega); omega, fun h => by subst h; exact lenB_zero B⟩
theorem lenB_ge {B : Nat} (hB : 2 ≤ B) {x n : Nat} (h : B ^ n ≤ x) : n < lenB B x := by
  rcases Nat.lt_or_ge n (lenB B x) with h1 | h1
  · exact h1
  · have h2 := lenB_lt hB x
    have h3 : B ^ lenB B x ≤ B ^ n := Nat.pow_le_pow_right (by omega) h1
    omega
abbrev L32 (n : Nat) : Nat := lenB 4294967296 n
abbrev L64 (n : Nat) : Nat := lenB 18446744073709551616 n
theorem pow32 (n : Nat) : (4294967296 : Nat) ^ n = 2 ^ (32 * n) := by rw [Nat.pow_mul]
theorem pow64 (n : Nat) : (18446744073709551616 : Nat) ^ n = 2 ^ (64 * n) := by rw [Nat.pow_mul]
theorem L32_le {x n : Nat} (h : x < 2 ^ (32 * n)) : L32 x ≤ n := lenB_le (by decide) (by rw [pow32]; exact h)
theorem L32_lt (x : Nat) : x < 2 ^ (32 * L32 x) := by rw [← pow32]; exact lenB_lt (by decide) x
theorem L64_le {x n : Nat} (h : x < 2 ^ (64 * n)) : L64 x ≤ n := lenB_le (by decide) (by rw [pow64]; exact h)
theorem L64_lt (x : Nat) : x < 2 ^ (64 * L64 x) := by rw [← pow64]; exact lenB_lt (by decide) x
theorem L32_shl (x n : Nat) : L32 (x * 2 ^ n) ≤ L32 x + n / 32 + 1 := by
  refine L32_le ?_
  have h := L32_lt x
  have h2 : x * 2 ^ n < 2 ^ (32 * L32 x) * 2 ^ n := Nat.mul_lt_mul_of_pos_right h (Nat.pow_pos (by decide))
  rw [← Nat.pow_add] at h2
  exact Nat.lt_of_lt_of_le h2 (Nat.pow_le_pow_right (by decide) (by omega))
theorem d64_ok (n : Nat) : okD 18446744073709551616 (d64 n) ∧ vl 18446744073709551616 (d64 n) = n := ⟨(dgs_ok (B := 18446744073709551616) (by decide) n).1, (dgs_ok (B := 18446744073709551616) (by decide) n).2.1⟩
end Go.Proofs.YtpjbgmafnheomaaGreatDoor.Sim
namespace Go.Proofs.YtpjbgmafnheomaaGreatDoor.Sim
open Go.RowKit
set_option linter.unusedVariables false
set_option linter.unusedSimpArgs false
set_option maxRecDepth 10000
set_option maxHeartbeats 2000000
theorem trim_take : ∀ (a : List Int) (m : Nat), m ≤ a.length → (∀ j, m ≤ j → a.getD j 0 = 0) → (m = 0 ∨ a.getD (m - 1) 0 ≠ 0) → trim a = a.take m
 | [], m, _, _, _ => by simp [trim]
 | x :: l, 0, h1, h2, h3 => by
    have := trim_take l 0 (Nat.zero_le _) (fun j _ => by simpa using h2 (j + 1) (Nat.zero_le _)) (.inl rfl)
    have hx : x = 0 := by simpa using h2 0 (Nat.le_refl _)
    simp [trim, this, hx]
 | x :: l, 1, h1, h2, h3 => by
    have := trim_take l 0 (Nat.zero_le _) (fun j _ => by simpa using h2 (j + 1) (by omega)) (.inl rfl)
    have hx : x ≠ 0 := by simpa using h3
    simp [trim, this, hx]
 | x :: l, m + 2, h1, h2, h3 => by
    have := trim_take l (m + 1) (by simpa using h1) (fun j hj => by simpa using h2 (j + 1) (by omega)) (.inr (by simpa using h3))
    cases l with
    | nil => simp at h1
    | cons y l =>
      have e : trim (x :: y :: l) = (match trim (y :: l) with | [] => if x = 0 then [] else [x] | l => x :: l) := rfl
      rw [e, this]; rfl
theorem copied (a : List Int) (m : Nat) (h : m ≤ a.length) : List.take 0 (List.replicate (m : Int).toNat (0 : Int)) ++ List.take (m : Int).toNat (List.take (m : Int).toNat a) ++ List.drop (0 + min (m : Int).toNat (List.take (m : Int).toNat a).length) (List.replicate (m : Int).toNat 0) = a.take m := by
  have : min m (min m a.length) = m := by omega
  simp [this, List.take_take]
def D (n : Nat) : PV := .ws .u32 (d32 n)
theorem iv_eq {k : IntKind} {a b : Int} (h : a = b) : PV.val (.int k a) = .val (.int k b) := by rw [h]
variable {G : Gs}
theorem m_norm (a : List Int) (h : a.length ≤ 1099511627776) : PM Tryz.prog G 118 [.ws .u32 a] [] (Own 138 .u32 (trim a)) := by
  refine PM.intro (X := XX) tok Tryz.func118 rfl Tryz.ntmps118 (by rw [Tryz.results118]) (by kernel_rfl) rfl ?_; intro F hG hO; simp only [List.length_cons, List.length_nil, Nat.zero_add, Nat.reduceAdd] at hO
  repeat' ((try (conv => whnf)); first
 | (refine lg ?_; refine loop_g (A := Nat) (fun m => m ≤ a.length ∧ ∀ j : Nat, m ≤ j → rd a j = 0) id (fun m => [(0, .ws .u32 a), (3, .val (.int .i64 (m : Int)))]) (fun _ => []) (fun _ => []) a.length tok (fun _ => ⟨⟨trivial, trivial, trivial⟩, trivial, by simp only [List.length_nil]; omega⟩) ?_ ⟨rfl, rfl, trivial⟩ ⟨[], rfl⟩ ⟨[], rfl⟩ ?_; rotate_left; rintro m ⟨h1, h2⟩)
 | with_reducible first | refine ax_s ?_ | (refine ax_f ?_ ?_ <;> try intro hc) | fail)
  · exact ⟨again (m - 1) ⟨by omega, fun j hj => by
      rcases Nat.lt_or_ge j m with hjm | hjm
      · rw [show (j : Int) = m - 1 by omega]; assumption
      · exact h2 j hjm⟩ (by simp only [id]; omega) ⟨rfl, iv_eq (by omega), trivial⟩ ⟨[], rfl⟩ ⟨[], rfl⟩⟩
  · have e : trim a = a.take m := trim_take a m h1 (fun j hj => by simpa [rd] using h2 j hj) (.inr (by
      have : ((m : Int) - 1).toNat = m - 1 := by omega
      simpa [rd, this] using hc))
    rw [e]
    exact ⟨ret_own (by simp; omega) (by rw [← copied a m h1]; rfl)⟩
  · have e : trim a = a.take m := trim_take a m h1 (fun j hj => by simpa [rd] using h2 j hj) (.inl (by omega))
    rw [e]
    exact ⟨ret_own (by simp; omega) (by rw [← copied a m h1]; rfl)⟩
  · exact ⟨Nat.le_refl _, fun j hj => by simp [rd, List.getD_eq_getElem?_getD, hj]⟩
theorem r_norm (a : List Int) (h : a.length ≤ 1099511627776) : FC Tryz.prog G 118 [.ws .u32 a] (· = .ws .u32 (trim a)) := Own.fc (m_norm a h)
theorem r_normD (a : List Int) (h : a.length ≤ 1099511627776) (ok : okD 4294967296 a) : FC Tryz.prog G 118 [.ws .u32 a] (· = D (vl 4294967296 a).toNat) :=
  (r_norm a h).mono fun r hr => by rw [hr, D, d32, trim_dgs (B := 4294967296) (by decide) ok]; rfl
end Go.Proofs.YtpjbgmafnheomaaGreatDoor.Sim
namespace Go.Proofs.YtpjbgmafnheomaaGreatDoor.Sim
open Go.RowKit
set_option linter.unusedVariables false
set_option linter.unusedSimpArgs false
set_option maxRecDepth 10000
set_option maxHeartbeats 4000000
variable {G : Gs}
theorem r_word (w : Int) (h : 0 ≤ w ∧ w < 18446744073709551616) : FC Tryz.prog G 124 [.val (.int .u64 w)] (· = D w.toNat) := by
  refine ax_i Tryz.func124 Tryz.ntmps124 ?_; intro F hG hO
  repeat' ((try (conv => whnf)); first
 | (refine cg ?_; refine ce (r_normD [w % 4294967296, w / 4294967296] (by simp) (okD_cons.2 ⟨by omega, okD_cons.2 ⟨by omega, okD_nil _⟩⟩)) ?_)
 | with_reducible first | refine ax_s ?_ | (refine ax_f ?_ ?_ <;> try intro hc) | fail)
  refine ⟨ret_e ?_⟩
  show D _ = D _
  congr 2
  simp only [vl]; omega
theorem add_round {a b s : List Int} {i : Nat} {c T : Int} (h2 : 0 ≤ c) (h3 : c ≤ 1) (h5 : s.length = i) (h6 : okD 4294967296 s) (h7 : vl 4294967296 s + 4294967296 ^ i * c = vl 4294967296 (a.take i) + vl 4294967296 (b.take i)) (ra : 0 ≤ rd a i ∧ rd a i < 4294967296) (rb : 0 ≤ rd b i ∧ rd b i < 4294967296)
    (hT : T = c + rd a i + rd b i) : 0 ≤ T / 4294967296 ∧ T / 4294967296 ≤ 1 ∧ (s ++ [T % 4294967296]).length = i + 1 ∧ okD 4294967296 (s ++ [T % 4294967296]) ∧
      vl 4294967296 (s ++ [T % 4294967296]) + 4294967296 ^ (i + 1) * (T / 4294967296) = vl 4294967296 (a.take (i + 1)) + vl 4294967296 (b.take (i + 1)) := by
  refine ⟨by omega, by omega, by simp [h5], okD_append.2 ⟨h6, okD_cons.2 ⟨by omega, okD_nil _⟩⟩, ?_⟩
  rw [vl_snoc, h5, sum_step (T := T) i (by omega), vl_take_step, vl_take_step, hT, Int.mul_add, Int.mul_add]
  omega
theorem r_add (X Y : Nat) (hX : L32 X ≤ 1073741824) (hY : L32 Y ≤ 1073741824) : FC Tryz.prog G 119 [D X, D Y] (· = D (X + Y)) := by
  obtain ⟨a, ea⟩ : ∃ a, a = d32 X := ⟨_, rfl⟩
  obtain ⟨b, eb⟩ : ∃ b, b = d32 Y := ⟨_, rfl⟩
  obtain ⟨oka, va⟩ := d32_ok X
  obtain ⟨okb, vb⟩ := d32_ok Y
  replace hX : (d32 X).length ≤ 1073741824 := hX
  replace hY : (d32 Y).length ≤ 1073741824 := hY
  unfold D
  rw [← ea] at hX oka va
  rw [← eb] at hY okb vb
  rw [← ea, ← eb]
  refine ax_i Tryz.func119 Tryz.ntmps119 ?_; intro F hG hO
  repeat' ((try (conv => whnf)); first
 | (refine lg ?_; refine loop_g (A := Nat × List Int × Int) (fun (i, s, c) => i ≤ max a.length b.length + 1 ∧ 0 ≤ c ∧ c ≤ 1 ∧ (i = max a.length b.length + 1 → c = 0) ∧ s.length = i ∧ okD 4294967296 s ∧ vl 4294967296 s + 4294967296 ^ i * c = vl 4294967296 (a.take i) + vl 4294967296 (b.take i)) (fun (i, s, c) => max a.length b.length + 2 - i) (fun (i, s, c) => [(0, .ws .u32 a), (1, .ws .u32 b), (5, .arr 0 0 i), (6, .val (.int .u64 c)), (7, .val (.int .i64 (i : Int)))]) (fun _ => []) (fun (i, s, c) => [some ⟨1, 138, .w .u32 s⟩]) (0, [], 0) tok (fun (i, s, c) => ⟨⟨trivial, trivial, Nat.one_pos, trivial, trivial, trivial⟩, trivial, by simp only [List.length_cons]; omega⟩) ?_ ⟨rfl, rfl, rfl, rfl, rfl, trivial⟩ ⟨[], rfl⟩ ⟨[], rfl⟩ ?_; rotate_left; rintro ⟨i, s, c⟩ ⟨h1, h2, h3, h4, h5, h6, h7⟩; have ra := rd_bd (by decide) oka (i : Int); have rb := rd_bd (by decide) okb (i : Int))
 | (refine cg ?_; refine call_fz 0 (B := s) rfl rfl (by omega) (by rw [List.drop_zero, ← h5, List.take_length]) (by omega) ?_; refine ce (r_normD s (by omega) h6) ?_)
 | with_reducible first | refine ax_s ?_ | (refine ax_f ?_ ?_ <;> try intro hc) | fail)
  · obtain ⟨g1, g2, g3, g4, g5⟩ := add_round (T := c + rd a i + rd b i) h2 h3 h5 h6 h7 ra rb rfl
    exact ⟨again (i + 1, _, _) ⟨by omega, g1, g2, by omega, g3, g4, g5⟩ (by dsimp only; omega) ⟨rfl, rfl, rfl, rfl, rfl, trivial⟩ ⟨[], rfl⟩ ⟨[], rfl⟩⟩
  · obtain ⟨g1, g2, g3, g4, g5⟩ := add_round (T := c + rd a i) h2 h3 h5 h6 h7 ra rb (by rw [rd_out b i (by omega)]; omega)
    exact ⟨again (i + 1, _, _) ⟨by omega, g1, g2, by omega, g3, g4, g5⟩ (by dsimp only; omega) ⟨rfl, rfl, rfl, rfl, rfl, trivial⟩ ⟨[], rfl⟩ ⟨[], rfl⟩⟩
  · obtain ⟨g1, g2, g3, g4, g5⟩ := add_round (T := c + rd b i) h2 h3 h5 h6 h7 ra rb (by rw [rd_out a i (by omega)]; omega)
    exact ⟨again (i + 1, _, _) ⟨by omega, g1, g2, by omega, g3, g4, g5⟩ (by dsimp only; omega) ⟨rfl, rfl, rfl, rfl, rfl, trivial⟩ ⟨[], rfl⟩ ⟨[], rfl⟩⟩
  · obtain ⟨g1, g2, g3, g4, g5⟩ := add_round (T := c) h2 h3 h5 h6 h7 ra rb (by rw [rd_out a i (by omega), rd_out b i (by omega)]; omega)
    exact ⟨again (i + 1, _, _) ⟨by omega, g1, g2, by omega, g3, g4, g5⟩ (by dsimp only; omega) ⟨rfl, rfl, rfl, rfl, rfl, trivial⟩ ⟨[], rfl⟩ ⟨[], rfl⟩⟩
  · refine ⟨ret_e ?_⟩
    show D _ = D (X + Y)
    have hc0 : c = 0 := by omega
    rw [hc0, List.take_of_length_le (by omega), List.take_of_length_le (by omega), va, vb] at h7
    congr 1
    simp at h7
    omega
  · exact ⟨by omega, by omega, by omega, fun _ => rfl, rfl, okD_nil _, by simp [vl]⟩
def cmpN (X Y : Nat) : Int := if X < Y then -1 else if X = Y then 0 else 1
theorem r_cmp (X Y : Nat) (hX : L32 X ≤ 1073741824) (hY : L32 Y ≤ 1073741824) : FC Tryz.prog G 120 [D X, D Y] (· = .val (.int .i64 (cmpN X Y))) := by
  obtain ⟨a, ea⟩ : ∃ a, a = d32 X := ⟨_, rfl⟩
  obtain ⟨b, eb⟩ : ∃ b, b = d32 Y := ⟨_, rfl⟩
  obtain ⟨oka, va⟩ := d32_ok X
  obtain ⟨okb, vb⟩ := d32_ok Y
  replace hX : (d32 X).length ≤ 1073741824 := hX
  replace hY : (d32 Y).length ≤ 1073741824 := hY
  have hlt : a.length < b.length → X < Y := fun h => dgs_lt (B := 4294967296) (by decide) (by rw [ea, eb] at h; exact h)
  have hgt : b.length < a.length → Y < X := fun h => dgs_lt (B := 4294967296) (by decide) (by rw [ea, eb] at h; exact h)
  unfold D
  rw [← ea] at hX oka va
  rw [← eb] at hY okb vb
  rw [← ea, ← eb]
  refine ax_i Tryz.func120 Tryz.ntmps120 ?_; intro F hG hO
  repeat' ((try (conv => whnf)); first
 | (refine lg ?_; refine loop_g (A := Nat) (fun m => m ≤ a.length ∧ a.drop m = b.drop m) (fun m => m) (fun m => [(0, .ws .u32 a), (1, .ws .u32 b), (5, .val (.int .i64 ((m : Int) - 1)))]) (fun _ => []) (fun _ => []) a.length tok (fun _ => ⟨⟨trivial, trivial, trivial, trivial⟩, trivial, by simp only [List.length_nil]; omega⟩) ?_ ⟨rfl, rfl, rfl, trivial⟩ ⟨[], rfl⟩ ⟨[], rfl⟩ ?_; rotate_left; rintro m ⟨h1, h2⟩)
 | (refine dG (id := 8) dg25 ?_)
 | (refine dG (id := 10) dg25 ?_)
 | with_reducible first | refine ax_s ?_ | (refine ax_f ?_ ?_ <;> try intro hc) | fail)
  · have h := hlt (by omega)
    exact ⟨ret_e (by rw [cmpN, if_pos h])⟩
  · have h := hgt (by omega)
    exact ⟨ret_e (by rw [cmpN, if_neg (by omega), if_neg (by omega)])⟩
  · have hi : ((m - 1 : Nat) : Int) = (m : Int) - 1 := by omega
    have h := vl_lt_of (by decide) oka okb (by omega) (m - 1) (by omega) (by rw [show m - 1 + 1 = m by omega]; exact h2) (by rw [hi]; assumption)
    exact ⟨ret_e (by rw [cmpN, if_pos (by omega)])⟩
  · have hi : ((m - 1 : Nat) : Int) = (m : Int) - 1 := by omega
    have h := vl_lt_of (by decide) okb oka (by omega) (m - 1) (by omega) (by rw [show m - 1 + 1 = m by omega]; exact h2.symm) (by rw [hi]; assumption)
    exact ⟨ret_e (by rw [cmpN, if_neg (by omega), if_neg (by omega)])⟩
  · have hi : ((m - 1 : Nat) : Int) = (m : Int) - 1 := by omega
    have hdr : a.drop (m - 1) = b.drop (m - 1) := by
      rw [drop_rd a (m - 1) (by omega), drop_rd b (m - 1) (by omega), show m - 1 + 1 = m by omega, h2, hi]
      congr 1; omega
    exact ⟨again (m - 1) ⟨by omega, hdr⟩ (by omega) ⟨rfl, rfl, iv_eq (by omega), trivial⟩ ⟨[], rfl⟩ ⟨[], rfl⟩⟩
  · have hm : m = 0 := by omega
    subst hm
    have hab : a = b := by simpa using h2
    have hXY : X = Y := by rw [hab] at va; omega
    exact ⟨ret_e (by rw [cmpN, if_neg (by omega), if_pos hXY])⟩
  · exact ⟨Nat.le_refl _, by rw [List.drop_length, List.drop_eq_nil_of_le (by omega)]⟩
theorem sub_round {a b s : List Int} {i : Nat} {c d e : Int} (h5 : s.length = i) (h6 : okD 4294967296 s) (h7 : vl 4294967296 s - 4294967296 ^ i * c = vl 4294967296 (a.take i) - vl 4294967296 (b.take i)) (hd : 0 ≤ d ∧ d < 4294967296) (hT : d - 4294967296 * e = rd a i - c - rd b i) :
    (s ++ [d]).length = i + 1 ∧ okD 4294967296 (s ++ [d]) ∧ vl 4294967296 (s ++ [d]) - 4294967296 ^ (i + 1) * e = vl 4294967296 (a.take (i + 1)) - vl 4294967296 (b.take (i + 1)) := by
  refine ⟨by simp [h5], okD_append.2 ⟨h6, okD_cons.2 ⟨hd, okD_nil _⟩⟩, ?_⟩
  have h := sum_step (B := 4294967296) (vs := vl 4294967296 s) (d := d) (c2 := -e) (T := rd a i - c - rd b i) i (by omega)
  rw [Int.mul_neg, Int.mul_sub, Int.mul_sub] at h
  rw [vl_snoc, h5, vl_take_step, vl_take_step]
  omega
theorem r_sub (X Y : Nat) (hX : L32 X ≤ 1073741824) (hY : L32 Y ≤ 1073741824) : FC Tryz.prog G 121 [D X, D Y] (· = D (X - Y)) := by
  have hcmp := r_cmp (G := G) X Y hX hY
  have hw0 := r_word (G := G) 0 (by decide)
  obtain ⟨a, ea⟩ : ∃ a, a = d32 X := ⟨_, rfl⟩
  obtain ⟨b, eb⟩ : ∃ b, b = d32 Y := ⟨_, rfl⟩
  obtain ⟨oka, va⟩ := d32_ok X
  obtain ⟨okb, vb⟩ := d32_ok Y
  replace hX : (d32 X).length ≤ 1073741824 := hX
  replace hY : (d32 Y).length ≤ 1073741824 := hY
  have hlt : a.length < b.length → X < Y := fun h => dgs_lt (B := 4294967296) (by decide) (by rw [ea, eb] at h; exact h)
  unfold D at hcmp ⊢
  rw [← ea] at hX oka va
  rw [← eb] at hY okb vb
  rw [← ea, ← eb] at hcmp ⊢
  refine ax_i Tryz.func121 Tryz.ntmps121 ?_; intro F hG hO
  rw [← hG] at hcmp hw0
  repeat' ((try (conv => whnf)); first
 | refine ce hcmp ?_ | refine ce hw0 ?_
 | (refine cg ?_; refine call_fz 0 (B := s) rfl rfl (by omega) (by rw [List.drop_zero, ← h5, List.take_length]) (by omega) ?_; refine ce (r_normD s (by omega) h6) ?_)
 | (refine lg ?_; refine loop_g (A := Nat × List Int × Int) (fun (i, s, c) => i ≤ a.length ∧ 0 ≤ c ∧ c ≤ 1 ∧ s.length = i ∧ okD 4294967296 s ∧ vl 4294967296 s - 4294967296 ^ i * c = vl 4294967296 (a.take i) - vl 4294967296 (b.take i)) (fun (i, s, c) => a.length - i) (fun (i, s, c) => [(0, .ws .u32 a), (1, .ws .u32 b), (5, .arr 0 0 i), (6, .val (.int .u64 c)), (7, .val (.int .i64 (i : Int)))]) (fun _ => []) (fun (i, s, c) => [some ⟨1, 138, .w .u32 s⟩]) (0, [], 0) tok (fun (i, s, c) => ⟨⟨trivial, trivial, Nat.one_pos, trivial, trivial, trivial⟩, trivial, by simp only [List.length_cons]; omega⟩) ?_ ⟨rfl, rfl, rfl, rfl, rfl, trivial⟩ ⟨[], rfl⟩ ⟨[], rfl⟩ ?_; rotate_left; rintro ⟨i, s, c⟩ ⟨h1, h2, h3, h5, h6, h7⟩; have ra := rd_bd (by decide) oka (i : Int); have rb := rd_bd (by decide) okb (i : Int))
 | with_reducible first | refine ax_s ?_ | (refine ax_f ?_ ?_ <;> try intro hc) | fail)
  · have hle : X - Y = 0 := by
      unfold cmpN at hc
      split at hc
      · omega
      · split at hc
        · omega
        · simp at hc
    exact ⟨ret_e (by rw [hle]; rfl)⟩
  · obtain ⟨g3, g4, g5⟩ := sub_round (d := rd a i + 4294967296 - (c + rd b i)) (e := 1) h5 h6 h7 (by omega) (by omega)
    exact ⟨again (i + 1, _, _) ⟨by omega, by decide, by decide, g3, g4, g5⟩ (by dsimp only; omega) ⟨rfl, rfl, rfl, rfl, rfl, trivial⟩ ⟨[], rfl⟩ ⟨[], rfl⟩⟩
  · obtain ⟨g3, g4, g5⟩ := sub_round (d := rd a i - (c + rd b i)) (e := 0) h5 h6 h7 (by omega) (by omega)
    exact ⟨again (i + 1, _, _) ⟨by omega, by decide, by decide, g3, g4, g5⟩ (by dsimp only; omega) ⟨rfl, rfl, rfl, rfl, rfl, trivial⟩ ⟨[], rfl⟩ ⟨[], rfl⟩⟩
  · obtain ⟨g3, g4, g5⟩ := sub_round (d := rd a i + 4294967296 - c) (e := 1) h5 h6 h7 (by omega) (by rw [rd_out b i (by omega)]; omega)
    exact ⟨again (i + 1, _, _) ⟨by omega, by decide, by decide, g3, g4, g5⟩ (by dsimp only; omega) ⟨rfl, rfl, rfl, rfl, rfl, trivial⟩ ⟨[], rfl⟩ ⟨[], rfl⟩⟩
  · obtain ⟨g3, g4, g5⟩ := sub_round (d := rd a i - c) (e := 0) h5 h6 h7 (by omega) (by rw [rd_out b i (by omega)]; omega)
    exact ⟨again (i + 1, _, _) ⟨by omega, by decide, by decide, g3, g4, g5⟩ (by dsimp only; omega) ⟨rfl, rfl, rfl, rfl, rfl, trivial⟩ ⟨[], rfl⟩ ⟨[], rfl⟩⟩
  · have h8 : ¬ cmpN X Y ≤ 0 := by assumption
    have hgtXY : Y < X := by
      unfold cmpN at h8
      split at h8
      · simp at h8
      · split at h8
        · simp at h8
        · omega
    have hbl : ¬ a.length < b.length := fun h => by have := hlt h; omega
    rw [List.take_of_length_le (by omega), List.take_of_length_le (by omega), va, vb] at h7
    have hv := vl_lt (B := 4294967296) (by decide) h6
    rw [h5] at hv
    have hc01 : c = 0 ∨ c = 1 := by omega
    refine ⟨ret_e ?_⟩
    show D _ = D (X - Y)
    congr 1
    rcases hc01 with e | e
    · rw [e, Int.mul_zero] at h7; omega
    · rw [e, Int.mul_one] at h7; omega
  · exact ⟨by omega, by omega, by omega, rfl, okD_nil _, by simp [vl]⟩
theorem mul_bd {x w : Int} (hx : 0 ≤ x ∧ x < 4294967296) (hw : 0 ≤ w ∧ w < 4294967296) : 0 ≤ x * w ∧ x * w ≤ 18446744065119617025 := by
  refine ⟨Int.mul_nonneg hx.1 hw.1, ?_⟩
  have h1 : x * w ≤ 4294967295 * w := Int.mul_le_mul_of_nonneg_right (by omega) hw.1
  omega
theorem muls_round {a s : List Int} {i : Nat} {c c0 w : Int} (hc : 0 ≤ c ∧ c < 4294967296) (h5 : s.length = i) (h6 : okD 4294967296 s) (h7 : vl 4294967296 s + 4294967296 ^ i * c = vl 4294967296 (a.take i) * w + c0) (hm : 0 ≤ rd a i * w ∧ rd a i * w ≤ 18446744065119617025) :
    0 ≤ (c + rd a i * w) / 4294967296 ∧ (c + rd a i * w) / 4294967296 < 4294967296 ∧ (s ++ [(c + rd a i * w) % 4294967296]).length = i + 1 ∧ okD 4294967296 (s ++ [(c + rd a i * w) % 4294967296]) ∧
      vl 4294967296 (s ++ [(c + rd a i * w) % 4294967296]) + 4294967296 ^ (i + 1) * ((c + rd a i * w) / 4294967296) = vl 4294967296 (a.take (i + 1)) * w + c0 := by
  refine ⟨by omega, by omega, by simp [h5], okD_append.2 ⟨h6, okD_cons.2 ⟨by omega, okD_nil _⟩⟩, ?_⟩
  rw [vl_snoc, h5, sum_step (T := c + rd a i * w) i (by omega), vl_take_step, Int.mul_add, Int.add_mul, Int.mul_assoc]
  omega
theorem r_muls (X : Nat) (w c0 : Int) (hX : L32 X ≤ 1073741824) (hw : 0 ≤ w ∧ w < 4294967296) (hc0 : 0 ≤ c0 ∧ c0 < 4294967296) : FC Tryz.prog G 168 [D X, .val (.int .u32 w), .val (.int .u32 c0)] (· = D (X * w + c0).toNat) := by
  obtain ⟨a, ea⟩ : ∃ a, a = d32 X := ⟨_, rfl⟩
  obtain ⟨oka, va⟩ := d32_ok X
  replace hX : (d32 X).length ≤ 1073741824 := hX
  unfold D
  rw [← ea] at hX oka va
  rw [← ea]
  refine ax_i Tryz.func168 Tryz.ntmps168 ?_; intro F hG hO
  repeat' ((try (conv => whnf)); first
 | (refine cg ?_; refine call_fz 0 (B := s ++ [c]) rfl rfl (by simp only [List.length_append, List.length_cons, List.length_nil]; omega) (by rw [List.drop_zero]; exact List.take_of_length_le (by simp only [List.length_append, List.length_cons, List.length_nil]; omega)) (by omega) ?_; refine call_eq (r_normD (s ++ [c]) (by simp only [List.length_append, List.length_cons, List.length_nil]; omega) (okD_append.2 ⟨h6, okD_cons.2 ⟨h2, okD_nil _⟩⟩)) (LpL.refl _) rfl ?_)
 | (refine lg ?_; refine loop_g (A := Nat × List Int × Int) (fun (i, s, c) => i ≤ a.length ∧ (0 ≤ c ∧ c < 4294967296) ∧ s.length = i ∧ okD 4294967296 s ∧ vl 4294967296 s + 4294967296 ^ i * c = vl 4294967296 (a.take i) * w + c0) (fun (i, s, c) => a.length - i) (fun (i, s, c) => [(0, .ws .u32 a), (1, .val (.int .u32 w)), (7, .arr 0 0 i), (8, .val (.int .u64 c)), (9, .val (.int .i64 (i : Int)))]) (fun _ => []) (fun (i, s, c) => [some ⟨1, 138, .w .u32 s⟩]) (0, [], c0) tok (fun (i, s, c) => ⟨⟨trivial, trivial, Nat.one_pos, trivial, trivial, trivial⟩, trivial, by simp only [List.length_cons]; omega⟩) ?_ ⟨rfl, rfl, rfl, rfl, rfl, trivial⟩ ⟨[], rfl⟩ ⟨[], rfl⟩ ?_; rotate_left; rintro ⟨i, s, c⟩ ⟨h1, h2, h5, h6, h7⟩; have ra := rd_bd (by decide) oka (i : Int); have rm := mul_bd ra hw)
 | with_reducible first | refine ax_s ?_ | (refine ax_f ?_ ?_ <;> try intro hc) | fail)
  · obtain ⟨g1, g2, g3, g4, g5⟩ := muls_round h2 h5 h6 h7 rm
    exact ⟨again (i + 1, _, _) ⟨by omega, ⟨g1, g2⟩, g3, g4, g5⟩ (by dsimp only; omega) ⟨rfl, rfl, rfl, rfl, rfl, trivial⟩ ⟨[], rfl⟩ ⟨[], rfl⟩⟩
  · refine ⟨ret_e ?_⟩
    rw [vl_snoc, h5, h7, List.take_of_length_le (by omega), va]
  · exact ⟨by omega, hc0, rfl, okD_nil _, by simp [vl]⟩
theorem div_bd {l x w : Int} (hl : 0 ≤ l ∧ l < w) (hx : 0 ≤ x ∧ x < 4294967296) (hw : 0 < w) : 0 ≤ (l * 4294967296 + x) / w ∧ (l * 4294967296 + x) / w < 4294967296 := by
  refine ⟨Int.ediv_nonneg (by omega) (by omega), Int.ediv_lt_of_lt_mul hw ?_⟩
  have : (l + 1) * 4294967296 ≤ w * 4294967296 := Int.mul_le_mul_of_nonneg_right (by omega) (by decide)
  rw [Int.mul_comm 4294967296 w]
  omega
theorem div_round {a q : List Int} {m : Nat} {l w : Int} (hm : 0 < m ∧ m ≤ a.length) (hq : q.length = a.length) (hw : 0 < w) (h : vl 4294967296 (a.drop m) = vl 4294967296 (q.drop m) * w + l) :
    vl 4294967296 (a.drop (m - 1)) = vl 4294967296 ((q.set (m - 1) ((l * 4294967296 + rd a ((m : Int) - 1)) / w)).drop (m - 1)) * w + (l * 4294967296 + rd a ((m : Int) - 1)) % w := by
  have hi : ((m - 1 : Nat) : Int) = (m : Int) - 1 := by omega
  have e1 := drop_rd a (m - 1) (by omega)
  rw [show m - 1 + 1 = m by omega, hi] at e1
  have e2 : (q.set (m - 1) ((l * 4294967296 + rd a ((m : Int) - 1)) / w)).drop (m - 1) = (l * 4294967296 + rd a ((m : Int) - 1)) / w :: q.drop m := by
    rw [List.drop_eq_getElem_cons (by simp; omega)]
    simp [show m - 1 + 1 = m by omega]
    exact List.drop_set_of_lt (by omega)
  rw [e1, e2]
  simp only [vl]
  rw [h]
  have hd := Int.mul_ediv_add_emod (l * 4294967296 + rd a ((m : Int) - 1)) w
  rw [Int.mul_comm w] at hd
  rw [Int.add_mul, Int.mul_add, Int.mul_assoc]
  omega
theorem r_divs (X : Nat) (w : Int) (hX : L32 X ≤ 1073741824) (hw : 0 < w ∧ w < 4294967296) : FC Tryz.prog G 209 [D X, .val (.int .u32 w)] (· = .tup [D (X / w).toNat, .val (.int .u32 (X % w))]) := by
  obtain ⟨a, ea⟩ : ∃ a, a = d32 X := ⟨_, rfl⟩
  obtain ⟨oka, va⟩ := d32_ok X
  replace hX : (d32 X).length ≤ 1073741824 := hX
  unfold D
  rw [← ea] at hX oka va
  rw [← ea]
  refine ax_i Tryz.func209 Tryz.ntmps209 ?_; intro F hG hO
  repeat' ((try (conv => whnf)); first
 | (with_reducible refine shl_g (m := 4294967296) 32 rfl (by decide) rfl (by dsimp only [inR]; omega) ?_)
 | (refine cg ?_; refine call_fz 0 (B := q) rfl rfl (by omega) (by rw [List.drop_zero, ← h5, List.take_length]) (by omega) ?_; refine ce (r_normD q (by omega) h6) ?_)
 | (refine lg ?_; refine loop_g (A := Nat × List Int × Int) (fun (m, q, l) => m ≤ a.length ∧ (0 ≤ l ∧ l < w) ∧ q.length = a.length ∧ okD 4294967296 q ∧ vl 4294967296 (a.drop m) = vl 4294967296 (q.drop m) * w + l) (fun (m, q, l) => m) (fun (m, q, l) => [(0, .ws .u32 a), (1, .val (.int .u32 w)), (6, .arr 0 0 a.length), (7, .val (.int .u64 l)), (8, .val (.int .i64 ((m : Int) - 1)))]) (fun _ => []) (fun (m, q, l) => [some ⟨1, 138, .w .u32 q⟩]) (a.length, List.replicate a.length 0, 0) tok (fun (m, q, l) => ⟨⟨trivial, trivial, Nat.one_pos, trivial, trivial, trivial⟩, trivial, by simp only [List.length_cons]; omega⟩) ?_ ⟨rfl, rfl, rfl, rfl, rfl, trivial⟩ ⟨[], rfl⟩ ⟨[], rfl⟩ ?_; rotate_left; rintro ⟨m, q, l⟩ ⟨h1, h2, h5, h6, h7⟩; have ra := rd_bd (by decide) oka ((m : Int) - 1); have rq := div_bd h2 ra hw.1)
 | with_reducible first | refine ax_s ?_ | (refine ax_f ?_ ?_ <;> try intro hc) | fail)
  · have hr := div_round (m := m) (by omega) h5 hw.1 h7
    have hmod := Int.emod_nonneg (l * 4294967296 + rd a ((m : Int) - 1)) (show w ≠ 0 by omega)
    have hmod2 := Int.emod_lt_of_pos (l * 4294967296 + rd a ((m : Int) - 1)) hw.1
    refine ⟨again (m - 1, q.set (m - 1) ((l * 4294967296 + rd a ((m : Int) - 1)) / w), (l * 4294967296 + rd a ((m : Int) - 1)) % w) ⟨by omega, ⟨hmod, hmod2⟩, by simpa using h5, fun x hx => ?_, hr⟩ (by dsimp only; omega) ⟨rfl, rfl, rfl, rfl, iv_eq (by omega), trivial⟩ ⟨[], rfl⟩ ⟨[], ?_⟩⟩
    · rcases List.mem_or_eq_of_mem_set hx with h | h
      · exact h6 x h
      · rw [h]; exact rq
    · have ht : 0 + ((m : Int) - 1).toNat = m - 1 := by omega
      rw [ht]; rfl
  · have hm : m = 0 := by omega
    subst hm
    rw [List.drop_zero, List.drop_zero, va] at h7
    have hq0 := vl_nonneg (B := 4294967296) (by decide) h6
    have e2 : (X : Int) / w = vl 4294967296 q := by
      rw [h7, Int.mul_comm, Int.add_comm, Int.add_mul_ediv_left _ _ (by omega), Int.ediv_eq_zero_of_lt h2.1 h2.2, Int.zero_add]
    have e3 : (X : Int) % w = l := by
      rw [h7, Int.mul_comm, Int.add_comm, Int.add_mul_emod_self_left, Int.emod_eq_of_lt h2.1 h2.2]
    exact ⟨ret_e (by rw [e2, e3])⟩
  · refine ⟨Nat.le_refl _, ⟨by omega, by omega⟩, by simp, fun x hx => ?_, by simp [vl]⟩
    have := List.eq_of_mem_replicate hx
    subst this; decide
end Go.Proofs.YtpjbgmafnheomaaGreatDoor.Sim
namespace Go.Proofs.YtpjbgmafnheomaaGreatDoor.Sim
set_option linter.unusedVariables false
set_option linter.unusedSectionVars false
set_option linter.unusedSimpArgs false
def bl (n : Nat) : Nat := if n = 0 then 0 else Nat.log2 n + 1
theorem lt_bl (n : Nat) : n < 2 ^ bl n := by
  unfold bl
  split
  · rename_i h; subst h; decide
  · rename_i h; exact (Nat.log2_lt h).1 (Nat.lt_succ_self _)
theorem bl_le {n k : Nat} (h : n < 2 ^ k) : bl n ≤ k := by
  unfold bl
  split
  · omega
  · rename_i h0; exact (Nat.log2_lt h0).2 h
theorem bl_ge {n k : Nat} (h : 2 ^ k ≤ n) : k < bl n := by
  rcases Nat.lt_or_ge k (bl n) with h1 | h1
  · exact h1
  · have := Nat.lt_of_lt_of_le (lt_bl n) (Nat.pow_le_pow_right (show 0 < 2 by decide) h1)
    omega
theorem bl_eq {n k : Nat} (h : n < 2 ^ k) (h2 : k = 0 ∨ 2 ^ (k - 1) ≤ n) : bl n = k := by
  have h3 := bl_le h
  rcases h2 with h2 | h2
  · omega
  · have := bl_ge h2; omega
theorem bl_zero : bl 0 = 0 := rfl
theorem bl_pos {n : Nat} (h : n ≠ 0) : 0 < bl n := by unfold bl; rw [if_neg h]; omega
theorem le_of_bl {n : Nat} (h : n ≠ 0) : 2 ^ (bl n - 1) ≤ n := by
  rcases Nat.lt_or_ge n (2 ^ (bl n - 1)) with h1 | h1
  · have := bl_le h1; have := bl_pos h; omega
  · exact h1
theorem bl_eq_zero {n : Nat} : bl n = 0 ↔ n = 0 := ⟨fun h => by
  rcases Nat.eq_zero_or_pos n with h0 | h0
  · exact h0
  · have := bl_pos (n := n) (by omega); omega, fun h => by subst h; rfl⟩
theorem bl_mul_pow (n k : Nat) (h : n ≠ 0) : bl (n * 2 ^ k) = bl n + k := by
  have h1 := lt_bl n
  have h2 := le_of_bl h
  have h3 := bl_pos h
  refine bl_eq ?_ (.inr ?_)
  · rw [Nat.pow_add]; exact Nat.mul_lt_mul_of_pos_right h1 (Nat.pow_pos (by decide))
  · rw [show bl n + k - 1 = (bl n - 1) + k by omega, Nat.pow_add]; exact Nat.mul_le_mul_right _ h2
theorem bl_mono {m n : Nat} (h : m ≤ n) : bl m ≤ bl n := bl_le (Nat.lt_of_le_of_lt h (lt_bl n))
def tz (n : Nat) : Nat := if h : n ≠ 0 ∧ n % 2 = 0 then tz (n / 2) + 1 else 0
termination_by n
decreasing_by omega
theorem tz_ok : ∀ {n : Nat}, n ≠ 0 → ∃ m, n = m * 2 ^ tz n ∧ m % 2 = 1 := by
  intro n
  induction n using Nat.strongRecOn with
 | _ n ih =>
    intro h
    unfold tz
    split
    · rename_i hh
      obtain ⟨m, h1, h2⟩ := ih (n / 2) (by omega) (by omega)
      refine ⟨m, ?_, h2⟩
      rw [Nat.pow_succ, ← Nat.mul_assoc, ← h1]; omega
    · exact ⟨n, by simp, by omega⟩
theorem tz_eq {n m k : Nat} (h : n = m * 2 ^ k) (hm : m % 2 = 1) : tz n = k := by
  induction k generalizing n with
 | zero =>
    unfold tz
    rw [dif_neg]
    simp at h; omega
 | succ k ih =>
    have hp : 0 < 2 ^ k := Nat.pow_pos (by decide)
    have hm0 : 0 < m * 2 ^ k := Nat.mul_pos (by omega) hp
    rw [Nat.pow_succ, ← Nat.mul_assoc] at h
    unfold tz
    rw [dif_pos ⟨by omega, by omega⟩, ih (n := n / 2) (by omega)]
theorem tz_zero : tz 0 = 0 := by unfold tz; simp
theorem odd_div {n : Nat} (h : n ≠ 0) : n = n / 2 ^ tz n * 2 ^ tz n ∧ n / 2 ^ tz n % 2 = 1 := by
  obtain ⟨m, h1, h2⟩ := tz_ok h
  have hp : 0 < 2 ^ tz n := Nat.pow_pos (by decide)
  have e : n / 2 ^ tz n = m := by
    conv => lhs; arg 1; rw [h1]
    exact Nat.mul_div_cancel _ hp
  rw [e]; exact ⟨h1, h2⟩
section
variable {B : Nat} (hB : 2 ≤ B)
include hB
theorem dgs_cons {n : Nat} (h : n ≠ 0) : dgs B n = ((n % B : Nat) : Int) :: dgs B (n / B) := by
  rw [dgs, dif_neg (by omega)]
theorem dgs_nil : dgs B 0 = [] := by rw [dgs, dif_pos (by omega)]
theorem dgs_drop : ∀ (k n : Nat), (dgs B n).drop k = dgs B (n / B ^ k)
 | 0, n => by simp
 | k + 1, n => by
    by_cases h : n = 0
    · subst h; rw [dgs_nil hB, Nat.zero_div, dgs_nil hB, List.drop_nil]
    · rw [dgs_cons hB h, List.drop_succ_cons, dgs_drop k, Nat.div_div_eq_div_mul, Nat.pow_succ, Nat.mul_comm B]
theorem dgs_take : ∀ (k n : Nat), vl B ((dgs B n).take k) = ((n % B ^ k : Nat) : Int)
 | 0, n => by simp [vl, Nat.mod_one]
 | k + 1, n => by
    by_cases h : n = 0
    · subst h; rw [dgs_nil hB]; simp [vl]
    · rw [dgs_cons hB h, List.take_succ_cons]
      simp only [vl]
      rw [dgs_take k]
      have e : n % B ^ (k + 1) = n % B + B * (n / B % B ^ k) := by rw [Nat.pow_succ, Nat.mul_comm (B ^ k), Nat.mod_mul]
      rw [e]
      simp
theorem dgs_rd (n i : Nat) : rd (dgs B n) i = ((n / B ^ i % B : Nat) : Int) := by
  have h := dgs_drop hB i n
  have e : rd (dgs B n) i = rd ((dgs B n).drop i) (0 : Nat) := by simp [rd, List.getD_eq_getElem?_getD]
  rw [e, h]
  by_cases h0 : n / B ^ i = 0
  · rw [h0, dgs_nil hB]; simp [rd]
  · rw [dgs_cons hB h0]; simp [rd]
end
theorem d32_drop (n k : Nat) : (d32 n).drop k = d32 (n / 2 ^ (32 * k)) := by
  have := dgs_drop (B := 4294967296) (by decide) k n
  rw [pow32] at this
  exact this
theorem d64_drop (n k : Nat) : (d64 n).drop k = d64 (n / 2 ^ (64 * k)) := by
  have := dgs_drop (B := 18446744073709551616) (by decide) k n
  rw [pow64] at this
  exact this
theorem d32_take (n k : Nat) : vl 4294967296 ((d32 n).take k) = ((n % 2 ^ (32 * k) : Nat) : Int) := by
  have := dgs_take (B := 4294967296) (by decide) k n
  rw [pow32] at this
  exact this
theorem d64_take (n k : Nat) : vl 18446744073709551616 ((d64 n).take k) = ((n % 2 ^ (64 * k) : Nat) : Int) := by
  have := dgs_take (B := 18446744073709551616) (by decide) k n
  rw [pow64] at this
  exact this
theorem d32_rd (n i : Nat) : rd (d32 n) i = ((n / 2 ^ (32 * i) % 4294967296 : Nat) : Int) := by
  have := dgs_rd (B := 4294967296) (by decide) n i
  rw [pow32] at this
  exact this
theorem d64_rd (n i : Nat) : rd (d64 n) i = ((n / 2 ^ (64 * i) % 18446744073709551616 : Nat) : Int) := by
  have := dgs_rd (B := 18446744073709551616) (by decide) n i
  rw [pow64] at this
  exact this
theorem bl_top (n k : Nat) (h : n / 2 ^ k ≠ 0) : bl n = k + bl (n / 2 ^ k) := by
  have hp : 0 < 2 ^ k := Nat.pow_pos (by decide)
  refine bl_eq ?_ (.inr ?_)
  · rw [Nat.pow_add, Nat.mul_comm]; exact (Nat.div_lt_iff_lt_mul hp).1 (lt_bl _)
  · have := bl_pos h
    rw [show k + bl (n / 2 ^ k) - 1 = (bl (n / 2 ^ k) - 1) + k by omega, Nat.pow_add]
    exact (Nat.le_div_iff_mul_le hp).1 (le_of_bl h)
theorem L32_bl (n : Nat) : L32 n = (bl n + 31) / 32 := by
  by_cases h : n = 0
  · subst h; exact lenB_zero _
  · have h1 := lt_bl n
    have h2 := le_of_bl h
    have h3 := bl_pos h
    have a : L32 n ≤ (bl n + 31) / 32 := L32_le (Nat.lt_of_lt_of_le h1 (Nat.pow_le_pow_right (by decide) (by omega)))
    have b : (bl n - 1) / 32 < L32 n := lenB_ge (by decide) (by rw [pow32]; exact Nat.le_trans (Nat.pow_le_pow_right (by decide) (by omega)) h2)
    omega
theorem L64_bl (n : Nat) : L64 n = (bl n + 63) / 64 := by
  by_cases h : n = 0
  · subst h; exact lenB_zero _
  · have h1 := lt_bl n
    have h2 := le_of_bl h
    have h3 := bl_pos h
    have a : L64 n ≤ (bl n + 63) / 64 := L64_le (Nat.lt_of_lt_of_le h1 (Nat.pow_le_pow_right (by decide) (by omega)))
    have b : (bl n - 1) / 64 < L64 n := lenB_ge (by decide) (by rw [pow64]; exact Nat.le_trans (Nat.pow_le_pow_right (by decide) (by omega)) h2)
    omega
theorem pw32 {n : Nat} (h : n < 32) : 0 < (2 : Int) ^ n ∧ (2 : Int) ^ n < 4294967296 := by
  have h2 : (2 : Nat) ^ n < 2 ^ 32 := Nat.pow_lt_pow_right (by decide) h
  have h1 : 0 < (2 : Nat) ^ n := Nat.pow_pos (by decide)
  have h3 : ((2 : Int) ^ n) = ((2 ^ n : Nat) : Int) := by simp
  obtain ⟨m, hm⟩ : ∃ m : Nat, m = 2 ^ n := ⟨_, rfl⟩
  rw [h3]
  rw [← hm] at h1 h2 ⊢
  have : m < 4294967296 := h2
  omega
theorem pw64 {n : Nat} (h : n < 64) : 0 < (2 : Int) ^ n ∧ (2 : Int) ^ n < 18446744073709551616 := by
  have h2 : (2 : Nat) ^ n < 2 ^ 64 := Nat.pow_lt_pow_right (by decide) h
  have h1 : 0 < (2 : Nat) ^ n := Nat.pow_pos (by decide)
  have h3 : ((2 : Int) ^ n) = ((2 ^ n : Nat) : Int) := by simp
  obtain ⟨m, hm⟩ : ∃ m : Nat, m = 2 ^ n := ⟨_, rfl⟩
  rw [h3]
  rw [← hm] at h1 h2 ⊢
  have : m < 18446744073709551616 := h2
  omega
theorem bit_in (X q r w : Nat) (h : r < w) : X / 2 ^ q % 2 ^ w / 2 ^ r % 2 = X / 2 ^ (q + r) % 2 := by
  have e1 : 2 ^ w = 2 ^ r * 2 ^ (w - r) := by rw [← Nat.pow_add]; congr 1; omega
  rw [e1, Nat.mod_mul_right_div_self, Nat.div_div_eq_div_mul, ← Nat.pow_add]
  refine Nat.mod_mod_of_dvd _ ⟨2 ^ (w - r - 1), ?_⟩
  rw [← Nat.pow_succ']; congr 1; omega
theorem top32 {X : Nat} (h : X ≠ 0) : X / 2 ^ (32 * (L32 X - 1)) < 4294967296 ∧ X / 2 ^ (32 * (L32 X - 1)) ≠ 0 := by
  have h1 : 0 < L32 X := lenB_pos (B := 4294967296) (by decide) h
  have h2 := L32_lt X
  have h3 : 2 ^ (32 * (L32 X - 1)) ≤ X := by
    have := ((dgs_len (B := 4294967296) (by decide) X).2 h).2
    rw [pow32] at this
    exact this
  have hp : 0 < 2 ^ (32 * (L32 X - 1)) := Nat.pow_pos (by decide)
  refine ⟨?_, ?_⟩
  · rw [Nat.div_lt_iff_lt_mul hp]
    have : (4294967296 : Nat) = 2 ^ 32 := by decide
    rw [this, ← Nat.pow_add]
    rwa [show 32 + 32 * (L32 X - 1) = 32 * L32 X by omega]
  · have := Nat.div_pos h3 hp; omega
theorem top64 {X : Nat} (h : X ≠ 0) : X / 2 ^ (64 * (L64 X - 1)) < 18446744073709551616 ∧ X / 2 ^ (64 * (L64 X - 1)) ≠ 0 := by
  have h1 : 0 < L64 X := lenB_pos (B := 18446744073709551616) (by decide) h
  have h2 := L64_lt X
  have h3 : 2 ^ (64 * (L64 X - 1)) ≤ X := by
    have := ((dgs_len (B := 18446744073709551616) (by decide) X).2 h).2
    rw [pow64] at this
    exact this
  have hp : 0 < 2 ^ (64 * (L64 X - 1)) := Nat.pow_pos (by decide)
  refine ⟨?_, ?_⟩
  · rw [Nat.div_lt_iff_lt_mul hp]
    have : (18446744073709551616 : Nat) = 2 ^ 64 := by decide
    rw [this, ← Nat.pow_add]
    rwa [show 64 + 64 * (L64 X - 1) = 64 * L64 X by omega]
  · have := Nat.div_pos h3 hp; omega
theorem d64_two (X j : Nat) : rd (d64 X) j = rd (d32 X) (2 * (j : Int)) + rd (d32 X) (2 * (j : Int) + 1) * 4294967296 := by
  have h0 := d32_rd X (2 * j)
  have h1 := d32_rd X (2 * j + 1)
  rw [show ((2 * j : Nat) : Int) = 2 * (j : Int) by omega] at h0
  rw [show ((2 * j + 1 : Nat) : Int) = 2 * (j : Int) + 1 by omega] at h1
  rw [d64_rd, h0, h1]
  have e1 : X / 2 ^ (32 * (2 * j)) = X / 2 ^ (64 * j) := by congr 2; omega
  have e2 : X / 2 ^ (32 * (2 * j + 1)) = X / 2 ^ (64 * j) / 4294967296 := by
    have : (4294967296 : Nat) = 2 ^ 32 := by decide
    rw [this, Nat.div_div_eq_div_mul, ← Nat.pow_add]; congr 2; omega
  rw [e1, e2]
  omega
theorem mod_step (X k w : Nat) (h : X % 2 ^ k = 0) (h2 : X / 2 ^ k % 2 ^ w = 0) : X % 2 ^ (k + w) = 0 := by
  rw [Nat.pow_add, Nat.mod_mul, h, h2]; simp
theorem pow_le_of_mod {X k : Nat} (h0 : X ≠ 0) (h : X % 2 ^ k = 0) : 2 ^ k ≤ X := by
  rcases Nat.lt_or_ge X (2 ^ k) with h1 | h1
  · rw [Nat.mod_eq_of_lt h1] at h; exact absurd h h0
  · exact h1
def ins (p : List Int) (lo : Nat) (s : List Int) : List Int := p.take lo ++ s ++ p.drop (lo + s.length)
theorem ins_len {p s : List Int} {lo : Nat} (h : lo + s.length ≤ p.length) : (ins p lo s).length = p.length := by
  simp [ins]; omega
theorem ins_nil (p : List Int) (lo : Nat) : ins p lo [] = p := by simp [ins]
theorem ins_get {p s : List Int} {lo : Nat} (h : lo + s.length ≤ p.length) : (ins p lo s).getD (lo + s.length) 0 = rd p ((lo + s.length : Nat) : Int) := by
  have e : (p.take lo ++ s).length = lo + s.length := by simp; omega
  unfold ins
  simp only [List.getD_eq_getElem?_getD, rd, Int.toNat_natCast]
  rw [List.getElem?_append_right (by omega), e, List.getElem?_drop]
  simp
theorem ins_set {p s : List Int} {lo : Nat} (d : Int) (h : lo + s.length < p.length) : (ins p lo s).set (lo + s.length) d = ins p lo (s ++ [d]) := by
  have e : (p.take lo ++ s).length = lo + s.length := by simp; omega
  unfold ins
  rw [List.set_append_right _ _ (by omega), e, Nat.sub_self, List.drop_eq_getElem_cons h]
  simp [Nat.add_assoc]
theorem ins_take {p s : List Int} {lo : Nat} (h : lo + s.length ≤ p.length) : (ins p lo s).take lo = p.take lo := by
  have e : (p.take lo).length = lo := by simp; omega
  unfold ins
  rw [List.append_assoc, List.take_append_of_le_length (by omega), List.take_take, Nat.min_self]
theorem ins_drop {p s : List Int} {lo : Nat} (h : lo + s.length ≤ p.length) : (ins p lo s).drop (lo + s.length) = p.drop (lo + s.length) := by
  have e : (p.take lo ++ s).length = lo + s.length := by simp; omega
  unfold ins
  rw [← e, List.drop_left]
theorem ins_mid {p s : List Int} {lo : Nat} (h : lo + s.length ≤ p.length) : ((ins p lo s).drop lo).take s.length = s := by
  have e : (p.take lo).length = lo := by simp; omega
  unfold ins
  rw [List.append_assoc]
  have : (p.take lo ++ (s ++ p.drop (lo + s.length))).drop lo = s ++ p.drop (lo + s.length) := by
    conv => lhs; rw [← e]
    rw [e, List.drop_left' e]
  rw [this, List.take_left]
theorem ins_ins {p s r : List Int} {lo : Nat} (h : lo + s.length ≤ p.length) (hr : r.length = s.length) : ins (ins p lo s) lo r = ins p lo r := by
  have h1 := ins_take h
  have h2 := ins_drop h
  rw [← hr] at h2
  unfold ins at h1 h2 ⊢
  rw [h1, h2]
theorem ins_okD {B : Int} {p s : List Int} {lo : Nat} (hp : okD B p) (hs : okD B s) : okD B (ins p lo s) := okD_append.2 ⟨okD_append.2 ⟨hp.take _, hs⟩, hp.drop _⟩
theorem rd_drop (p : List Int) (lo i : Nat) : rd (p.drop lo) (i : Int) = rd p ((lo + i : Nat) : Int) := by
  simp only [rd, List.getD_eq_getElem?_getD, Int.toNat_natCast, List.getElem?_drop]
theorem gd_bd {B : Int} (hB : 0 < B) {a : List Int} (ok : okD B a) (j : Nat) : 0 ≤ a.getD j 0 ∧ a.getD j 0 < B := by
  have := rd_bd hB ok (j : Int)
  simpa only [rd, Int.toNat_natCast] using this
theorem gd_rd (a : List Int) (j : Nat) : a.getD j 0 = rd a (j : Int) := by simp only [rd, Int.toNat_natCast]
theorem ins_vl (B : Int) {p s : List Int} {lo : Nat} (h : lo + s.length ≤ p.length) : vl B (ins p lo s) = vl B (p.take lo) + B ^ lo * (vl B s + B ^ s.length * vl B (p.drop (lo + s.length))) := by
  have e : (p.take lo).length = lo := by simp; omega
  unfold ins
  rw [List.append_assoc, vl_append, vl_append, e]
end Go.Proofs.YtpjbgmafnheomaaGreatDoor.Sim
namespace Go.Proofs.YtpjbgmafnheomaaGreatDoor.Sim
open Go.RowKit
set_option linter.unusedVariables false
set_option linter.unusedSimpArgs false
set_option maxRecDepth 10000
set_option maxHeartbeats 4000000
variable {G : Gs}
theorem vl_set (B : Int) (p : List Int) (k : Nat) (d : Int) (h : k < p.length) : vl B (p.set k d) = vl B p + B ^ k * (d - rd p k) := by
  have e1 := vl_split B (p.set k d) k (by simp; omega)
  have e2 := vl_split B p k (by omega)
  have e3 : (p.set k d).drop k = d :: p.drop (k + 1) := by
    rw [List.drop_eq_getElem_cons (by simp; omega)]
    simp
    exact List.drop_set_of_lt (by omega)
  rw [e1, e2, e3, drop_rd p k h, List.take_set_of_le (by omega)]
  simp only [vl, Int.mul_add, Int.mul_sub]
  omega
theorem drop_next {p q : List Int} {m : Nat} (h : p.drop m = q.drop m) : p.drop (m + 1) = q.drop (m + 1) := by
  have := congrArg (List.drop 1) h
  rwa [List.drop_drop, List.drop_drop] at this
theorem vl_zero (B : Int) : ∀ n, vl B (List.replicate n 0) = 0
 | 0 => rfl
 | n + 1 => by simp [List.replicate_succ, vl, vl_zero B n]
theorem mul_bd2 {x y : Int} (hx : 0 ≤ x ∧ x < 4294967296) (hy : 0 ≤ y ∧ y < 4294967296) : 0 ≤ x * y ∧ x * y ≤ 18446744065119617025 := mul_bd hx hy
theorem r_mul (X Y : Nat) (hX : L32 X ≤ 1073741824) (hY : L32 Y ≤ 1073741824) : FC Tryz.prog G 79 [D X, D Y] (· = D (X * Y)) := by
  obtain ⟨a, ea⟩ : ∃ a, a = d32 X := ⟨_, rfl⟩
  obtain ⟨b, eb⟩ : ∃ b, b = d32 Y := ⟨_, rfl⟩
  obtain ⟨oka, va⟩ := d32_ok X
  obtain ⟨okb, vb⟩ := d32_ok Y
  replace hX : (d32 X).length ≤ 1073741824 := hX
  replace hY : (d32 Y).length ≤ 1073741824 := hY
  unfold D
  rw [← ea] at hX oka va
  rw [← eb] at hY okb vb
  rw [← ea, ← eb]
  refine ax_i Tryz.func79 Tryz.ntmps79 ?_; intro F hG hO
  repeat' ((try (conv => whnf)); first
 | (refine lg ?_; refine loop_g (A := Nat × List Int × Int) (fun (j, p, c) => j ≤ b.length ∧ (0 ≤ c ∧ c < 4294967296) ∧ p.length = a.length + b.length ∧ okD 4294967296 p ∧ p.drop (i + j) = p0.drop (i + j) ∧ vl 4294967296 p + 4294967296 ^ (i + j) * c = vl 4294967296 p0 + 4294967296 ^ i * (rd a i * vl 4294967296 (b.take j))) (fun (j, p, c) => b.length - j) (fun (j, p, c) => [(0, .ws .u32 a), (1, .ws .u32 b), (5, .arr 0 0 (a.length + b.length)), (6, .val (.int .i64 (i : Int))), (7, .val (.int .u64 c)), (8, .val (.int .u64 (rd a i))), (9, .val (.int .i64 (j : Int)))]) (fun _ => []) (fun (j, p, c) => [some ⟨1, 138, .w .u32 p⟩]) (0, p0, 0) tok (fun (j, p, c) => ⟨⟨trivial, trivial, Nat.one_pos, trivial, trivial, trivial, trivial, trivial⟩, trivial, by simp only [List.length_cons]; omega⟩) ?_ ⟨rfl, rfl, rfl, rfl, rfl, rfl, rfl, trivial⟩ ⟨[], rfl⟩ ⟨[], rfl⟩ ?_; rotate_left; rintro ⟨j, p, c⟩ ⟨g1, g2, g5, g6, g7, g8⟩; have rb := rd_bd (by decide) okb (j : Int); have rp := gd_bd (by decide) g6 (0 + ((i : Int) + (j : Int)).toNat); have rm := mul_bd2 ra rb)
 | (refine lg ?_; refine loop_g (A := Nat × List Int) (fun (i, p0) => i ≤ a.length ∧ p0.length = a.length + b.length ∧ okD 4294967296 p0 ∧ (∀ k : Nat, i + b.length ≤ k → rd p0 k = 0) ∧ vl 4294967296 p0 = vl 4294967296 (a.take i) * vl 4294967296 b) (fun (i, p0) => a.length - i) (fun (i, p0) => [(0, .ws .u32 a), (1, .ws .u32 b), (5, .arr 0 0 (a.length + b.length)), (6, .val (.int .i64 (i : Int)))]) (fun _ => []) (fun (i, p0) => [some ⟨1, 138, .w .u32 p0⟩]) (0, List.replicate (a.length + b.length) 0) tok (fun (i, p0) => ⟨⟨trivial, trivial, Nat.one_pos, trivial, trivial⟩, trivial, by simp only [List.length_cons]; omega⟩) ?_ ⟨rfl, rfl, rfl, rfl, trivial⟩ ⟨[], rfl⟩ ⟨[], rfl⟩ ?_; rotate_left; rintro ⟨i, p0⟩ ⟨h1, h5, h6, h7, h8⟩; have ra := rd_bd (by decide) oka (i : Int))
 | (refine cg ?_; refine call_fz 0 (B := p0) rfl rfl (by omega) (by rw [List.drop_zero, ← h5, List.take_length]) (by omega) ?_; refine ce (r_normD p0 (by omega) h6) ?_)
 | (refine dG (id := 10) [[0, 1, 2, 3, 4, 5, 6, 7, 8, 9, 10, 11, 12, 13, 14, 15, 16, 17]] ?_)
 | with_reducible first | refine ax_s ?_ | (refine ax_f ?_ ?_ <;> try intro hc) | fail)
  · obtain ⟨T, hT⟩ : ∃ T : Int, T = c + (p.getD (0 + ((i : Int) + (j : Int)).toNat) 0 + rd a i * rd b j) := ⟨_, rfl⟩
    have hk : 0 + ((i : Int) + (j : Int)).toNat = i + j := by omega
    have hrp : rd p ((i + j : Nat) : Int) = p.getD (0 + ((i : Int) + (j : Int)).toNat) 0 := by rw [hk, gd_rd]
    have hv := vl_set 4294967296 p (i + j) (T % 4294967296) (by omega)
    have hs := sum_step (B := 4294967296) (vs := vl 4294967296 p) (d := T % 4294967296 - rd p ((i + j : Nat) : Int)) (c2 := T / 4294967296) (T := c + rd a i * rd b j) (i + j) (by omega)
    refine ⟨again (j + 1, p.set (i + j) (T % 4294967296), T / 4294967296) ⟨by omega, ⟨by omega, by omega⟩, by simpa using g5, fun x hx => ?_, ?_, ?_⟩ (by dsimp only; omega) ⟨rfl, rfl, rfl, rfl, iv_eq (by rw [hT]), rfl, rfl, trivial⟩ ⟨[], rfl⟩ ⟨[], ?_⟩⟩
    · rcases List.mem_or_eq_of_mem_set hx with h | h
      · exact g6 x h
      · rw [h]; omega
    · rw [← Nat.add_assoc, List.drop_set_of_lt (by omega)]; exact drop_next g7
    · rw [hv, ← Nat.add_assoc, hs, vl_take_step]
      have e1 : (4294967296 : Int) ^ (i + j) * (c + rd a i * rd b j) = 4294967296 ^ (i + j) * c + 4294967296 ^ i * (rd a i * (4294967296 ^ j * rd b j)) := by
        rw [Int.mul_add, Int.pow_add, Int.mul_assoc (4294967296 ^ i) (4294967296 ^ j) (rd a i * rd b j), Int.mul_left_comm (4294967296 ^ j) (rd a i) (rd b j)]
      rw [e1, Int.mul_add (rd a i), Int.mul_add (4294967296 ^ i)]
      omega
    · rw [hT, ← hk]; rfl
  · have hk : 0 + ((i : Int) + (b.length : Int)).toNat = i + b.length := by omega
    have hj : j = b.length := by omega
    subst hj
    have hz : rd p ((i + b.length : Nat) : Int) = 0 := by
      have e1 := drop_rd p (i + b.length) (by omega)
      have e2 := drop_rd p0 (i + b.length) (by omega)
      rw [g7, e2] at e1
      have := (List.cons.inj e1).1
      rw [← this]; exact h7 _ (Nat.le_refl _)
    have hv := vl_set 4294967296 p (i + b.length) c (by omega)
    rw [hz, Int.sub_zero] at hv
    refine ⟨again (i + 1, p.set (i + b.length) c) ⟨by omega, by simpa using g5, fun x hx => ?_, fun k hk2 => ?_, ?_⟩ (by dsimp only; omega) ⟨rfl, rfl, rfl, rfl, trivial⟩ ⟨[], rfl⟩ ⟨[], by rw [← hk]; rfl⟩⟩
    · rcases List.mem_or_eq_of_mem_set hx with h | h
      · exact g6 x h
      · rw [h]; exact g2
    · have e3 : (p.set (i + b.length) c).drop (i + b.length + 1) = p0.drop (i + b.length + 1) := by
        rw [List.drop_set_of_lt (by omega)]; exact drop_next g7
      have e4 : rd (p.set (i + b.length) c) k = rd p0 k := by
        have h0 := congrArg (fun l => l.getD (k - (i + b.length + 1)) 0) e3
        simp only [List.getD_eq_getElem?_getD, List.getElem?_drop] at h0
        rw [show i + b.length + 1 + (k - (i + b.length + 1)) = k by omega] at h0
        simpa [rd, List.getD_eq_getElem?_getD] using h0
      rw [e4]; exact h7 k (by omega)
    · rw [hv, g8, h8, vl_take_step, List.take_length, Int.add_mul, Int.mul_assoc]
  · exact ⟨by omega, ⟨by omega, by omega⟩, h5, h6, rfl, by simp [vl]⟩
  · refine ⟨ret_e ?_⟩
    rw [h8, List.take_of_length_le (by omega), va, vb]
    rfl
  · exact ⟨by omega, by simp, fun x hx => by rw [List.eq_of_mem_replicate hx]; decide, fun k _ => by simp [rd, List.getD_eq_getElem?_getD, List.getElem?_replicate]; split <;> rfl, by rw [vl_zero]; simp [vl]⟩
theorem trim_d32 (n : Nat) : trim (d32 n) = d32 n := (dgs_ok (B := 4294967296) (by decide) n).2.2
theorem r_normN (X : Nat) (h : L32 X ≤ 1099511627776) : FC Tryz.prog G 118 [D X] (· = D X) :=
  (r_norm (d32 X) h).mono fun r hr => by rw [hr, trim_d32]; rfl
theorem trim_okD {a : List Int} (ok : okD 4294967296 a) : trim a = d32 (vl 4294967296 a).toNat := trim_dgs (B := 4294967296) (by decide) ok
abbrev OwnD (n : Nat) : PV → List (Option Row) → Prop := Own 138 .u32 (d32 n)
theorem m_normN (X : Nat) (h : L32 X ≤ 1099511627776) : PM Tryz.prog G 118 [.ws .u32 (d32 X)] [] (OwnD X) := by
  have := m_norm (G := G) (d32 X) h
  rwa [trim_d32] at this
theorem m_normD (a : List Int) (h : a.length ≤ 1099511627776) (ok : okD 4294967296 a) : PM Tryz.prog G 118 [.ws .u32 a] [] (OwnD (vl 4294967296 a).toNat) := by
  have := m_norm (G := G) a h
  rwa [trim_okD ok] at this
theorem r_small (n : Int) (h : inR .i64 n) : FC Tryz.prog G 94 [.val (.int .i64 n)] (· = D n.toNat) := by
  dsimp only [inR] at h
  refine ax_i Tryz.func94 Tryz.ntmps94 ?_; intro F hG hO
  repeat' ((try (conv => whnf)); first
 | (refine cg ?_; refine ce (r_word _ (by omega)) ?_)
 | with_reducible first | refine ax_s ?_ | (refine ax_f ?_ ?_ <;> try intro hc) | fail)
  · exact ⟨ret_e (by rw [show n.toNat = 0 by omega]; rfl)⟩
  · exact ⟨ret_e rfl⟩
theorem vl_zeros (k : Nat) (l : List Int) : vl 4294967296 (List.replicate k 0 ++ l) = 4294967296 ^ k * vl 4294967296 l := by
  rw [vl_append, vl_zero, List.length_replicate, Int.zero_add]
theorem shl_val (X : Nat) (n : Int) (h : 0 < n) : (vl 4294967296 (List.replicate (n / 32).toNat 0 ++ d32 ((X : Int) * 2 ^ (n % 32).toNat + 0).toNat)).toNat = X * 2 ^ n.toNat := by
  have e1 : ((X : Int) * 2 ^ (n % 32).toNat + 0).toNat = X * 2 ^ (n % 32).toNat := by
    have : ((X : Int) * 2 ^ (n % 32).toNat + 0) = ((X * 2 ^ (n % 32).toNat : Nat) : Int) := by simp
    rw [this, Int.toNat_natCast]
  rw [e1, vl_zeros, (d32_ok _).2]
  have e2 : ((4294967296 : Int) ^ (n / 32).toNat * ((X * 2 ^ (n % 32).toNat : Nat) : Int)) = ((4294967296 ^ (n / 32).toNat * (X * 2 ^ (n % 32).toNat) : Nat) : Int) := by simp
  rw [e2, Int.toNat_natCast, pow32, Nat.mul_left_comm, ← Nat.pow_add]
  congr 2
  omega
theorem okD_zeros {k : Nat} {l : List Int} (h : okD 4294967296 l) : okD 4294967296 (List.replicate k 0 ++ l) :=
  okD_append.2 ⟨fun x hx => by rw [List.eq_of_mem_replicate hx]; decide, h⟩
theorem m_shl (X : Nat) (n : Int) (hX : L32 X ≤ 536870912) (hn : inR .i64 n) (hn2 : n ≤ 8589934592) : PM Tryz.prog G 122 [D X, .val (.int .i64 n)] [] (OwnD (X * 2 ^ n.toNat)) := by
  dsimp only [inR] at hn
  have hlen : (d32 X).length = L32 X := rfl
  have hM : (d32 ((X : Int) * 2 ^ (n % 32).toNat + 0).toNat).length ≤ L32 X + 1 := by
    have h1 := L32_shl X (n % 32).toNat
    have e1 : ((X : Int) * 2 ^ (n % 32).toNat + 0).toNat = X * 2 ^ (n % 32).toNat := by
      have : ((X : Int) * 2 ^ (n % 32).toNat + 0) = ((X * 2 ^ (n % 32).toNat : Nat) : Int) := by simp
      rw [this, Int.toNat_natCast]
    rw [e1]
    have h2 : (n % 32).toNat / 32 = 0 := by omega
    rw [h2] at h1
    exact h1
  have hw := pw32 (n := (n % 32).toNat) (by omega)
  refine PM.intro (X := XX) tok Tryz.func122 rfl Tryz.ntmps122 (by rw [Tryz.results122]) (by kernel_rfl) rfl ?_; intro F hG hO; simp only [List.length_cons, List.length_nil, Nat.zero_add, Nat.reduceAdd] at hO
  repeat' ((try (conv => whnf)); first
 | (with_reducible refine shl1_g (.inl rfl) (by dsimp only [IntKind.bits]; omega) ?_)
 | (refine cg ?_; refine call_own (m := 0) (m_normN X (by omega)) rfl rfl rfl ?_)
 | (refine cg ?_; refine ce (r_muls X (2 ^ (n % 32).toNat) 0 (by omega) ⟨Int.le_of_lt hw.1, hw.2⟩ (by decide)) ?_)
 | (with_reducible refine AppG.mk (by simp) (by dsimp only; omega) (by omega) ?_)
 | (refine cg ?_; refine call_fz 0 (B := List.replicate (n / 32).toNat 0 ++ d32 ((X : Int) * 2 ^ (n % 32).toNat + 0).toNat) rfl rfl (by simp) (by rw [List.drop_zero]; exact List.take_of_length_le (by simp)) (by omega) ?_; refine call_own (m := 1) (m_normD (List.replicate (n / 32).toNat 0 ++ d32 ((X : Int) * 2 ^ (n % 32).toNat + 0).toNat) (by simp only [List.length_append, List.length_replicate]; omega) (okD_zeros (d32_ok _).1)) rfl rfl rfl ?_)
 | with_reducible first | refine ax_s ?_ | (refine ax_f ?_ ?_ <;> try intro hc) | fail)
  · have : n.toNat = 0 := by omega
    rw [this, Nat.pow_zero, Nat.mul_one]
    exact ⟨ret_own rfl rfl⟩
  · have : X = 0 := (lenB_eq_zero (B := 4294967296) (by decide)).1 (by unfold L32 at hlen; omega)
    subst this
    rw [Nat.zero_mul]
    exact ⟨ret_own rfl rfl⟩
  · rw [← shl_val X n (by omega)]
    exact ⟨ret_own rfl rfl⟩
theorem r_shl (X : Nat) (n : Int) (hX : L32 X ≤ 536870912) (hn : inR .i64 n) (hn2 : n ≤ 8589934592) : FC Tryz.prog G 122 [D X, .val (.int .i64 n)] (· = D (X * 2 ^ n.toNat)) := Own.fc (m_shl X n hX hn hn2)
theorem r_shr (X : Nat) (n : Int) (hX : L32 X ≤ 536870912) (hn : inR .i64 n) : FC Tryz.prog G 194 [D X, .val (.int .i64 n)] (· = D (X / 2 ^ n.toNat)) := by
  dsimp only [inR] at hn
  have hlen : (d32 X).length = L32 X := rfl
  have hw := pw32 (n := (n % 32).toNat) (by omega)
  have hY : L32 (X / 2 ^ (32 * (n / 32).toNat)) ≤ L32 X := lenB_mono (by decide) (Nat.div_le_self _ _)
  have hd := r_divs (G := G) (X / 2 ^ (32 * (n / 32).toNat)) (2 ^ (n % 32).toNat) (by omega) hw
  unfold D at hd
  rw [← d32_drop] at hd
  refine ax_i Tryz.func194 Tryz.ntmps194 ?_; intro F hG hO
  rw [← hG] at hd
  repeat' ((try (conv => whnf)); first
 | (with_reducible refine shl1_g (.inl rfl) (by dsimp only [IntKind.bits]; omega) ?_)
 | (refine cg ?_; refine ce (r_normN X (by omega)) ?_)
 | (refine cg ?_; refine ce (r_word 0 (by decide)) ?_)
 | refine ce hd ?_
 | (refine dG (id := 5) [[0, 1, 2, 3, 4, 5, 6, 7, 8, 9, 10, 11, 12]] ?_)
 | with_reducible first | refine ax_s ?_ | (refine ax_f ?_ ?_ <;> try intro hc) | fail)
  · have : n.toNat = 0 := by omega
    exact ⟨ret_e (by rw [this, Nat.pow_zero, Nat.div_one]; rfl)⟩
  · refine ⟨ret_e ?_⟩
    have h1 := L32_lt X
    have h2 : X < 2 ^ n.toNat := Nat.lt_of_lt_of_le h1 (Nat.pow_le_pow_right (by decide) (by omega))
    rw [Nat.div_eq_of_lt h2]; rfl
  · refine ⟨ret_e ?_⟩
    show D _ = D _
    congr 1
    have h3 : ((2 : Int) ^ (n % 32).toNat) = ((2 ^ (n % 32).toNat : Nat) : Int) := by simp
    rw [h3, ← Int.natCast_ediv, Int.toNat_natCast, Nat.div_div_eq_div_mul, ← Nat.pow_add]
    congr 2; omega
theorem r_bits (X : Nat) (hX : L32 X ≤ 536870912) : FC Tryz.prog G 83 [D X] (· = .val (.int .i64 (bl X : Int))) := by
  have hlen : (d32 X).length = L32 X := rfl
  obtain ⟨T, hT⟩ : ∃ T : Nat, T = X / 2 ^ (32 * (L32 X - 1)) % 4294967296 := ⟨_, rfl⟩
  have hT2 : T < 4294967296 := by rw [hT]; exact Nat.mod_lt _ (by decide)
  have hrd : 0 < L32 X → rd (d32 X) ((L32 X : Int) - 1) = (T : Int) := fun h => by
    have := d32_rd X (L32 X - 1)
    rw [← hT] at this
    rw [← this]; congr 1; omega
  refine ax_i Tryz.func83 Tryz.ntmps83 ?_; intro F hG hO
  repeat' ((try (conv => whnf)); first
 | (refine lg ?_; rw [hlen, hrd (by omega)]; refine loop_g (A := Nat) (fun k => k ≤ 32 ∧ (k = 0 ∨ 2 ^ (k - 1) ≤ T)) (fun k => 32 - k) (fun k => [(3, .val (.int .i64 (32 * ((L32 X : Int) - 1) + (k : Int)))), (4, .val (.int .u32 ((T / 2 ^ k : Nat) : Int)))]) (fun _ => []) (fun _ => []) 0 tok (fun _ => ⟨⟨trivial, trivial, trivial⟩, trivial, by simp only [List.length_nil]; omega⟩) ?_ ⟨iv_eq (by omega), iv_eq (by simp), trivial⟩ ⟨[], rfl⟩ ⟨[], rfl⟩ ?_; rotate_left; rintro k ⟨h1, h2⟩; have hk : T / 2 ^ k ≤ T := Nat.div_le_self _ _)
 | with_reducible first | refine ax_s ?_ | (refine ax_f ?_ ?_ <;> try intro hc) | fail)
  · have : X = 0 := (lenB_eq_zero (B := 4294967296) (by decide)).1 (by unfold L32 at hlen; omega)
    subst this
    exact ⟨ret_e rfl⟩
  · have h3 : 2 ^ k ≤ T := by
      rcases Nat.lt_or_ge T (2 ^ k) with h | h
      · rw [Nat.div_eq_of_lt h] at hc; omega
      · exact h
    have h4 : k < 32 := by
      rcases Nat.lt_or_ge k 32 with h | h
      · exact h
      · have : 2 ^ 32 ≤ 2 ^ k := Nat.pow_le_pow_right (by decide) h
        omega
    refine ⟨again (k + 1) ⟨by omega, .inr (by simpa using h3)⟩ (by omega) ⟨iv_eq (by omega), iv_eq ?_, trivial⟩ ⟨[], rfl⟩ ⟨[], rfl⟩⟩
    rw [Nat.pow_succ, ← Nat.div_div_eq_div_mul]; omega
  · have hX0 : X ≠ 0 := fun h => by subst h; rw [L32, lenB_zero] at hlen; omega
    obtain ⟨t1, t2⟩ := top32 hX0
    have hT' : T = X / 2 ^ (32 * (L32 X - 1)) := by rw [hT]; exact Nat.mod_eq_of_lt t1
    have hp : 0 < 2 ^ k := Nat.pow_pos (by decide)
    have hlt : T < 2 ^ k := by
      rcases Nat.lt_or_ge T (2 ^ k) with h | h
      · exact h
      · have := Nat.div_pos h hp; omega
    have hb : bl X = 32 * (L32 X - 1) + k := by rw [bl_top X _ t2, ← hT', bl_eq hlt h2]
    refine ⟨ret_e (iv_eq ?_)⟩
    rw [hb]
    have := lenB_pos (B := 4294967296) (by decide) hX0
    omega
  · exact ⟨by omega, .inl rfl⟩
theorem r_bit (X : Nat) (i : Int) (hX : L32 X ≤ 536870912) (hi : inR .i64 i) : FC Tryz.prog G 208 [D X, .val (.int .i64 i)] (· = .val (.int .i64 (if i < 0 then 0 else ((X / 2 ^ i.toNat % 2 : Nat) : Int)))) := by
  dsimp only [inR] at hi
  have hlen : (d32 X).length = L32 X := rfl
  obtain ⟨T, hT⟩ : ∃ T : Nat, T = X / 2 ^ (32 * (i / 32).toNat) % 4294967296 := ⟨_, rfl⟩
  have hrd : 0 ≤ i → rd (d32 X) (i / 32) = (T : Int) := fun h => by
    have := d32_rd X (i / 32).toNat
    rw [← hT] at this
    rw [← this]; congr 1; omega
  have hb := rd_bd (by decide) (d32_ok X).1 (i / 32)
  have hb2 : 0 ≤ rd (d32 X) (i / 32) / 2 ^ (i % 32).toNat ∧ rd (d32 X) (i / 32) / 2 ^ (i % 32).toNat < 4294967296 := by
    refine ⟨Int.ediv_nonneg hb.1 (by exact_mod_cast Nat.zero_le _), ?_⟩
    have := Int.ediv_le_self (2 ^ (i % 32).toNat) hb.1
    omega
  refine ax_i Tryz.func208 Tryz.ntmps208 ?_; intro F hG hO
  repeat' ((try (conv => whnf)); first
 | (with_reducible refine shr_p (by omega) (by dsimp only [IntKind.bits]; omega) ?_)
 | (with_reducible refine mask32_g (m := 2) 1 rfl rfl (by decide) (by omega) ?_)
 | with_reducible first | refine ax_s ?_ | (refine ax_f ?_ ?_ <;> try intro hc) | fail)
  · exact ⟨ret_e (by rw [if_pos hc])⟩
  · refine ⟨ret_e ?_⟩
    have h1 := L32_lt X
    have h2 : X < 2 ^ i.toNat := Nat.lt_of_lt_of_le h1 (Nat.pow_le_pow_right (by decide) (by omega))
    rw [if_neg (by assumption), Nat.div_eq_of_lt h2]; rfl
  · refine ⟨ret_e (iv_eq ?_)⟩
    have h4 : ¬ i < 0 := by assumption
    rw [if_neg h4, hrd (by omega), hT]
    have h3 : ((2 : Int) ^ (i % 32).toNat) = ((2 ^ (i % 32).toNat : Nat) : Int) := by simp
    rw [h3]
    have := bit_in X (32 * (i / 32).toNat) (i % 32).toNat 32 (by omega)
    rw [show 32 * (i / 32).toNat + (i % 32).toNat = i.toNat by omega] at this
    rw [← this]
    simp
def N64 (n : Nat) : PV := .ws .u64 (d64 n)
theorem low_val (X k r : Nat) (h : r < 32) : X % 2 ^ (32 * k) + 2 ^ (32 * k) * (X / 2 ^ (32 * k) % 4294967296 % 2 ^ r) = X % 2 ^ (32 * k + r) := by
  have e : X / 2 ^ (32 * k) % 4294967296 % 2 ^ r = X / 2 ^ (32 * k) % 2 ^ r := Nat.mod_mod_of_dvd _ ⟨2 ^ (32 - r), by rw [← Nat.pow_add]; rw [show r + (32 - r) = 32 by omega]⟩
  rw [e, Nat.pow_add, Nat.mod_mul]
theorem r_low (X : Nat) (n : Int) (hX : L32 X ≤ 536870912) (hn : inR .i64 n) : FC Tryz.prog G 231 [D X, .val (.int .i64 n)] (· = D (X % 2 ^ n.toNat)) := by
  dsimp only [inR] at hn
  have hlen : (d32 X).length = L32 X := rfl
  have hw := pw32 (n := (n % 32).toNat) (by omega)
  have hw0 := r_word (G := G) 0 (by decide)
  have hb := rd_bd (by decide) (d32_ok X).1 (n / 32)
  have hm1 := Int.emod_nonneg (rd (d32 X) (n / 32)) (show (2 : Int) ^ (n % 32).toNat ≠ 0 by omega)
  have hm2 := Int.emod_lt_of_pos (rd (d32 X) (n / 32)) hw.1
  have hN : 0 < n → (vl 4294967296 ((d32 X).take (n / 32).toNat)).toNat = X % 2 ^ (32 * (n / 32).toNat) := fun _ => by rw [d32_take, Int.toNat_natCast]
  have hL : L32 (vl 4294967296 ((d32 X).take (n / 32).toNat)).toNat ≤ (n / 32).toNat := by
    rw [d32_take, Int.toNat_natCast]
    exact L32_le (Nat.mod_lt _ (Nat.pow_pos (by decide)))
  have hL2 : (d32 (vl 4294967296 ((d32 X).take (n / 32).toNat)).toNat).length = L32 (vl 4294967296 ((d32 X).take (n / 32).toNat)).toNat := rfl
  refine ax_i Tryz.func231 Tryz.ntmps231 ?_; intro F hG hO
  rw [← hG] at hw0
  repeat' ((try (conv => whnf)); first
 | (with_reducible refine shl1_g (.inl rfl) (by dsimp only [IntKind.bits]; omega) ?_)
 | (refine cg ?_; refine ce (r_normN X (by omega)) ?_)
 | refine ce hw0 ?_
 | (refine cg ?_; refine call_own (m := 0) (m_normD ((d32 X).take (n / 32).toNat) (by rw [List.length_take]; omega) ((d32_ok X).1.take _)) rfl rfl rfl ?_)
 | (refine lg ?_; refine loop_g (A := List Int) (fun s => s.length ≤ (n / 32).toNat ∧ okD 4294967296 s ∧ vl 4294967296 s = ((X % 2 ^ (32 * (n / 32).toNat) : Nat) : Int)) (fun s => (n / 32).toNat - s.length) (fun s => [(0, .ws .u32 (d32 X)), (1, .val (.int .i64 n)), (5, .arr 0 0 s.length)]) (fun _ => []) (fun s => [some ⟨1, 138, .w .u32 s⟩]) (d32 (vl 4294967296 ((d32 X).take (n / 32).toNat)).toNat) tok (fun s => ⟨⟨trivial, trivial, Nat.one_pos, trivial⟩, trivial, by simp only [List.length_cons]; omega⟩) ?_ ⟨rfl, rfl, rfl, trivial⟩ ⟨[], rfl⟩ ⟨[], rfl⟩ ?_; rotate_left; rintro s ⟨h1, h2, h3⟩)
 | (refine cg ?_; refine call_fz 0 (B := s ++ [rd (d32 X) (n / 32) % 2 ^ (n % 32).toNat]) rfl rfl (by simp) (by rw [List.drop_zero]; exact List.take_of_length_le (by simp)) (by omega) ?_; refine call_eq (r_normD (s ++ [rd (d32 X) (n / 32) % 2 ^ (n % 32).toNat]) (by simp only [List.length_append, List.length_cons, List.length_nil]; omega) (okD_append.2 ⟨h2, okD_cons.2 ⟨by omega, okD_nil _⟩⟩)) (LpL.refl _) rfl ?_)
 | (refine dG (id := 8) [[0, 1, 2, 3, 4, 5, 6, 7, 8, 9, 10], [11, 12, 13]] ?_)
 | with_reducible first | refine ax_s ?_ | (refine ax_f ?_ ?_ <;> try intro hc) | fail)
  · exact ⟨ret_e (by rw [show n.toNat = 0 by omega, Nat.pow_zero, Nat.mod_one]; rfl)⟩
  · refine ⟨ret_e ?_⟩
    have h1 := L32_lt X
    have h2 : X < 2 ^ n.toNat := Nat.lt_of_lt_of_le h1 (Nat.pow_le_pow_right (by decide) (by omega))
    rw [Nat.mod_eq_of_lt h2]; rfl
  · refine ⟨again (s ++ [0]) ⟨by simp only [List.length_append, List.length_cons, List.length_nil]; omega, okD_append.2 ⟨h2, okD_cons.2 ⟨by decide, okD_nil _⟩⟩, by rw [vl_snoc, h3]; simp⟩ (by simp only [List.length_append, List.length_cons, List.length_nil]; omega) ⟨rfl, rfl, ?_, trivial⟩ ⟨[], rfl⟩ ⟨[], rfl⟩⟩
    rw [List.length_append]; rfl
  · refine ⟨ret_e ?_⟩
    show D _ = D _
    congr 1
    have hs : s.length = (n / 32).toNat := by omega
    have hr := d32_rd X (n / 32).toNat
    rw [show (((n / 32).toNat : Nat) : Int) = n / 32 by omega] at hr
    have hv := low_val X (n / 32).toNat (n % 32).toNat (by omega)
    rw [show 32 * (n / 32).toNat + (n % 32).toNat = n.toNat by omega] at hv
    have h3' : ((2 : Int) ^ (n % 32).toNat) = ((2 ^ (n % 32).toNat : Nat) : Int) := by simp
    rw [vl_snoc, hs, h3, hr, h3', ← Int.natCast_emod]
    have e2 : ((4294967296 : Int) ^ (n / 32).toNat) = ((2 ^ (32 * (n / 32).toNat) : Nat) : Int) := by rw [← pow32]; simp
    rw [e2, ← Int.natCast_mul, ← Int.natCast_add, Int.toNat_natCast, hv]
  · refine ⟨by omega, (d32_ok _).1, ?_⟩
    rw [(d32_ok _).2, hN (by omega)]
theorem r_zeros (X : Nat) (hX : L32 X ≤ 536870912) : FC Tryz.prog G 193 [D X] (· = .val (.int .i64 (tz X : Int))) := by
  have hlen : (d32 X).length = L32 X := rfl
  have hL0 : L32 X = 0 → X = 0 := fun h => (lenB_eq_zero (B := 4294967296) (by decide)).1 h
  have hbl := L32_bl X
  refine ax_i Tryz.func193 Tryz.ntmps193 ?_; intro F hG hO
  repeat' ((try (conv => whnf)); first
 | (refine cg ?_; refine call_eq (r_bit X _ (by omega) (by dsimp only [inR]; omega)) (LpL.refl _) rfl ?_)
 | (refine lg ?_; refine loop_g (A := Nat) (fun q => q < L32 X ∧ X % 2 ^ (32 * q) = 0) (fun q => L32 X - q) (fun q => [(0, .ws .u32 (d32 X)), (3, .val (.int .i64 (32 * (q : Int))))]) (fun _ => []) (fun _ => []) 0 tok (fun _ => ⟨⟨trivial, trivial, trivial⟩, trivial, by simp only [List.length_nil]; omega⟩) ?_ ⟨rfl, rfl, trivial⟩ ⟨[], rfl⟩ ⟨[], rfl⟩ ?_; rotate_left; rintro q ⟨h1, h2⟩)
 | (refine lg ?_; refine loop_g (A := Nat) (fun k => k ≤ bl X ∧ X % 2 ^ k = 0) (fun k => bl X - k) (fun k => [(0, .ws .u32 (d32 X)), (3, .val (.int .i64 (k : Int)))]) (fun _ => []) (fun _ => []) (32 * q) tok (fun _ => ⟨⟨trivial, trivial, trivial⟩, trivial, by simp only [List.length_nil]; omega⟩) ?_ ⟨rfl, iv_eq (by omega), trivial⟩ ⟨[], rfl⟩ ⟨[], rfl⟩ ?_; rotate_left; rintro k ⟨h3, h4⟩)
 | with_reducible first | refine ax_s ?_ | (refine ax_f ?_ ?_ <;> try intro hc) | fail)
  · have h0 := hL0 (by omega)
    subst h0
    exact ⟨ret_e (by rw [tz_zero]; rfl)⟩
  · have hX0 : X ≠ 0 := fun h => by subst h; rw [L32, lenB_zero] at h1; omega
    have hr := d32_rd X q
    rw [show 32 * (q : Int) / 32 = (q : Int) by omega, hr] at hc
    have h5 := mod_step X (32 * q) 32 h2 (by have : (2 : Nat) ^ 32 = 4294967296 := by decide
                                             rw [this]; omega)
    have h6 := pow_le_of_mod hX0 h5
    have h7 : q + 1 < L32 X := lenB_ge (by decide) (by rw [pow32]; exact h6)
    exact ⟨again (q + 1) ⟨h7, h5⟩ (by first | omega | (dsimp only; omega) | (simp only [id]; omega)) ⟨rfl, iv_eq (by omega), trivial⟩ ⟨[], rfl⟩ ⟨[], rfl⟩⟩
  · have hX0 : X ≠ 0 := fun h => by subst h; rw [L32, lenB_zero] at h1; omega
    rw [if_neg (by omega), Int.toNat_natCast] at hc
    have h5 := mod_step X k 1 h4 (by rw [Nat.pow_one]; omega)
    have h6 := bl_ge (pow_le_of_mod hX0 h5)
    exact ⟨again (k + 1) ⟨by omega, h5⟩ (by first | omega | (dsimp only; omega) | (simp only [id]; omega)) ⟨rfl, iv_eq (by omega), trivial⟩ ⟨[], rfl⟩ ⟨[], rfl⟩⟩
  · rw [if_neg (by omega), Int.toNat_natCast] at hc
    have h5 := Nat.div_add_mod X (2 ^ k)
    rw [h4, Nat.add_zero, Nat.mul_comm] at h5
    exact ⟨ret_e (by rw [tz_eq h5.symm (by omega)])⟩
  · have hX0 : X ≠ 0 := fun h => by subst h; rw [L32, lenB_zero] at h1; omega
    exact ⟨Nat.le_of_lt (bl_ge (pow_le_of_mod hX0 h2)), h2⟩
  · exact ⟨by omega, by rw [Nat.mul_zero, Nat.pow_zero, Nat.mod_one]⟩
theorem r_to (X : Nat) (hX : L32 X ≤ 536870912) : FC Tryz.prog G 93 [D X] (· = N64 X) := by
  have hlen : (d32 X).length = L32 X := rfl
  have hlen4 : (d64 X).length = L64 X := rfl
  have hb2 := L32_bl X
  have hb4 := L64_bl X
  refine ax_i Tryz.func93 Tryz.ntmps93 ?_; intro F hG hO
  repeat' ((try (conv => whnf)); first
 | (with_reducible refine shl_g (m := 4294967296) 32 rfl (by decide) rfl (by dsimp only [inR]; omega) ?_)
 | (refine cg ?_; refine ce (r_normN X (by omega)) ?_)
 | (refine lg ?_; refine loop_g (A := Nat) (fun j => j ≤ L64 X) (fun j => L64 X - j) (fun j => [(3, .ws .u32 (d32 X)), (4, .arr 0 0 j), (5, .val (.int .i64 (2 * (j : Int))))]) (fun _ => []) (fun j => [some ⟨1, 82, .w .u64 ((d64 X).take j)⟩]) 0 tok (fun s => ⟨⟨trivial, Nat.one_pos, trivial, trivial⟩, trivial, by simp only [List.length_cons]; omega⟩) ?_ ⟨rfl, rfl, iv_eq (by omega), trivial⟩ ⟨[], rfl⟩ ⟨[], rfl⟩ ?_; rotate_left; rintro j h1; have ht : ((d64 X).take j).length = j := (by rw [List.length_take]; omega); have r0 := rd_bd (by decide) (d32_ok X).1 (2 * (j : Int)); have r1 := rd_bd (by decide) (d32_ok X).1 (2 * (j : Int) + 1))
 | with_reducible first | refine ax_s ?_ | (refine ax_f ?_ ?_ <;> try intro hc) | fail)
  · refine ⟨again (j + 1) (by first | omega | (dsimp only; omega) | (simp only [id]; omega)) (by omega) ⟨rfl, rfl, iv_eq (by omega), trivial⟩ ⟨[], rfl⟩ ⟨[], ?_⟩⟩
    rw [take_succ_rd _ _ (by omega), d64_two]; rfl
  · refine ⟨again (j + 1) (by first | omega | (dsimp only; omega) | (simp only [id]; omega)) (by omega) ⟨rfl, rfl, iv_eq (by omega), trivial⟩ ⟨[], rfl⟩ ⟨[], ?_⟩⟩
    have := rd_out (d32 X) (2 * j + 1) (by omega)
    rw [show ((2 * j + 1 : Nat) : Int) = 2 * (j : Int) + 1 by omega] at this
    rw [take_succ_rd _ _ (by omega), d64_two, this, Int.zero_mul, Int.add_zero]; rfl
  · refine ⟨ret_e ?_⟩
    rw [List.take_of_length_le (by omega)]; rfl
  · exact Nat.zero_le _
theorem r_from (a : List Int) (ok : okD 18446744073709551616 a) (hl : a.length ≤ 134217728) : FC Tryz.prog G 76 [.ws .u64 a] (· = D (vl 18446744073709551616 a).toNat) := by
  refine ax_i Tryz.func76 Tryz.ntmps76 ?_; intro F hG hO
  repeat' ((try (conv => whnf)); first
 | (refine lg ?_; refine loop_g (A := Nat × List Int) (fun (i, s) => i ≤ a.length ∧ s.length = 2 * i ∧ okD 4294967296 s ∧ vl 4294967296 s = vl 18446744073709551616 (a.take i)) (fun (i, s) => a.length - i) (fun (i, s) => [(0, .ws .u64 a), (3, .arr 0 0 s.length), (4, .val (.int .i64 (i : Int)))]) (fun _ => []) (fun (i, s) => [some ⟨1, 138, .w .u32 s⟩]) (0, []) tok (fun (i, s) => ⟨⟨trivial, Nat.one_pos, trivial, trivial⟩, trivial, by simp only [List.length_cons]; omega⟩) ?_ ⟨rfl, rfl, rfl, trivial⟩ ⟨[], rfl⟩ ⟨[], rfl⟩ ?_; rotate_left; rintro ⟨i, s⟩ ⟨h1, h2, h3, h4⟩; have ra := rd_bd (by decide) ok (i : Int))
 | (refine cg ?_; refine call_fz 0 (B := s) rfl rfl (by omega) (by rw [List.drop_zero, List.take_length]) (by omega) ?_; refine ce (r_normD s (by omega) h3) ?_)
 | (refine dG (id := 5) [[0, 1, 2, 3, 4, 5, 6, 7, 8, 9, 10, 11, 12, 13], [14, 15]] ?_)
 | with_reducible first | refine ax_s ?_ | (refine ax_f ?_ ?_ <;> try intro hc) | fail)
  · have hv : vl 4294967296 (s ++ [rd a i % 4294967296, rd a i / 4294967296]) = vl 4294967296 s + 4294967296 ^ (2 * i) * (rd a i % 4294967296) + 4294967296 ^ (2 * i + 1) * (rd a i / 4294967296) := by
      rw [show s ++ [rd a i % 4294967296, rd a i / 4294967296] = (s ++ [rd a i % 4294967296]) ++ [rd a i / 4294967296] by simp, vl_snoc, vl_snoc, List.length_append, h2]; rfl
    refine ⟨again (i + 1, s ++ [rd a i % 4294967296, rd a i / 4294967296]) ⟨by omega, by simp; omega, okD_append.2 ⟨h3, okD_cons.2 ⟨by omega, okD_cons.2 ⟨by omega, okD_nil _⟩⟩⟩, ?_⟩ (by first | omega | (dsimp only; omega) | (simp only [id]; omega)) ⟨rfl, ?_, rfl, trivial⟩ ⟨[], rfl⟩ ⟨[], rfl⟩⟩
    · rw [hv, h4, vl_take_step]
      have e1 : (4294967296 : Int) ^ (2 * i + 1) = 4294967296 ^ (2 * i) * 4294967296 := Int.pow_succ ..
      have e2 : (18446744073709551616 : Int) ^ i = 4294967296 ^ (2 * i) := by rw [Int.pow_mul]; rfl
      rw [e1, e2, Int.add_assoc, Int.mul_assoc, ← Int.mul_add]
      congr 2; omega
    · rw [List.length_append]; rfl
  · exact ⟨ret_e (by rw [h4, List.take_of_length_le (by omega)]; rfl)⟩
  · exact ⟨Nat.zero_le _, rfl, okD_nil _, by simp [vl]⟩
theorem r_same (a b : List Int) (hl : a.length ≤ 1099511627776) : FC Tryz.prog G 99 [.ws .u64 a, .ws .u64 b] (· = .val (.bool (decide (a = b)))) := by
  refine ax_i Tryz.func99 Tryz.ntmps99 ?_; intro F hG hO
  repeat' ((try (conv => whnf)); first
 | (refine lg ?_; refine loop_g (A := Nat) (fun i => i ≤ a.length ∧ a.take i = b.take i) (fun i => a.length - i) (fun i => [(0, .ws .u64 a), (1, .ws .u64 b), (5, .val (.int .i64 (i : Int)))]) (fun _ => []) (fun _ => []) 0 tok (fun _ => ⟨⟨trivial, trivial, trivial, trivial⟩, trivial, by simp only [List.length_nil]; omega⟩) ?_ ⟨rfl, rfl, rfl, trivial⟩ ⟨[], rfl⟩ ⟨[], rfl⟩ ?_; rotate_left; rintro i ⟨h1, h2⟩)
 | (refine dG (id := 6) dg25 ?_)
 | with_reducible first | refine ax_s ?_ | (refine ax_f ?_ ?_ <;> try intro hc) | fail)
  · exact ⟨ret_e (by rw [decide_eq_false (fun e => by subst e; exact hc rfl)])⟩
  · refine ⟨ret_e ?_⟩
    rw [decide_eq_false (fun e => by subst e; exact hc rfl)]
  · refine ⟨again (i + 1) ⟨by omega, ?_⟩ (by omega) ⟨rfl, rfl, rfl, trivial⟩ ⟨[], rfl⟩ ⟨[], rfl⟩⟩
    have e : rd a (i : Int) = rd b (i : Int) := by omega
    rw [take_succ_rd _ _ (by omega), take_succ_rd _ _ (by omega), h2, e]
  · have e : a = b := by
      have h3 : a.length = b.length := by omega
      rw [List.take_of_length_le (by omega), List.take_of_length_le (by omega)] at h2
      exact h2
    exact ⟨ret_e (by rw [decide_eq_true e])⟩
  · exact ⟨Nat.zero_le _, rfl⟩
theorem take_round {x s v : List Int} {w c e d c2 e2 : Int} (h6 : okD 4294967296 s) (hv : vl 4294967296 s = vl 4294967296 (x.take s.length) - w * vl 4294967296 (v.take s.length) + 4294967296 ^ s.length * (c + e)) (hd : 0 ≤ d ∧ d < 4294967296) (hT : d = rd x s.length - (c + w * rd v s.length) + 4294967296 * c2 - e + 4294967296 * e2) :
    okD 4294967296 (s ++ [d]) ∧ vl 4294967296 (s ++ [d]) = vl 4294967296 (x.take (s.length + 1)) - w * vl 4294967296 (v.take (s.length + 1)) + 4294967296 ^ (s.length + 1) * (c2 + e2) := by
  refine ⟨okD_append.2 ⟨h6, okD_cons.2 ⟨hd, okD_nil _⟩⟩, ?_⟩
  have h := sum_step (B := 4294967296) (vs := 4294967296 ^ s.length * (c + e)) (d := d) (c2 := -(c2 + e2)) (T := rd x s.length - (c + w * rd v s.length) - e) s.length (by omega)
  rw [vl_snoc, vl_take_step, vl_take_step, hv]
  have e1 : w * (vl 4294967296 (v.take s.length) + 4294967296 ^ s.length * rd v s.length) = w * vl 4294967296 (v.take s.length) + 4294967296 ^ s.length * (w * rd v s.length) := by rw [Int.mul_add, Int.mul_left_comm]
  have e2 : (4294967296 : Int) ^ s.length * (rd x s.length - (c + w * rd v s.length) - e) = 4294967296 ^ s.length * rd x s.length - 4294967296 ^ s.length * (c + e) - 4294967296 ^ s.length * (w * rd v s.length) := by
    rw [← Int.mul_sub, ← Int.mul_sub]; congr 1; omega
  rw [e2, Int.mul_neg] at h
  rw [e1]
  omega
theorem give_round {x s v : List Int} {c d c2 : Int} (h6 : okD 4294967296 s) (hv : vl 4294967296 s + 4294967296 ^ s.length * c = vl 4294967296 (x.take s.length) + vl 4294967296 (v.take s.length)) (hd : 0 ≤ d ∧ d < 4294967296) (hT : d + 4294967296 * c2 = c + rd x s.length + rd v s.length) :
    okD 4294967296 (s ++ [d]) ∧ vl 4294967296 (s ++ [d]) + 4294967296 ^ (s.length + 1) * c2 = vl 4294967296 (x.take (s.length + 1)) + vl 4294967296 (v.take (s.length + 1)) := by
  refine ⟨okD_append.2 ⟨h6, okD_cons.2 ⟨hd, okD_nil _⟩⟩, ?_⟩
  rw [vl_snoc, sum_step (T := c + rd x s.length + rd v s.length) s.length hT, vl_take_step, vl_take_step, Int.mul_add, Int.mul_add]
  omega
def DigI (x v : List Int) (w : Int) (s : List Int) (c e : Int) : Prop := s.length ≤ v.length + 1 ∧ okD 4294967296 s ∧ (0 ≤ c ∧ c < 4294967296) ∧ (0 ≤ e ∧ e ≤ 1) ∧ (s.length = v.length + 1 → c = 0) ∧ vl 4294967296 s = vl 4294967296 (x.take s.length) - w * vl 4294967296 (v.take s.length) + 4294967296 ^ s.length * (c + e)
theorem DigI.step {x v s : List Int} {w c e d e2 T : Int} (h : DigI x v w s c e) (hlt : s.length ≤ v.length) (hw : 0 ≤ w ∧ w < 4294967296) (okv : okD 4294967296 v) (hT0 : T = c + w * rd v s.length) (hd : 0 ≤ d ∧ d < 4294967296) (he2 : 0 ≤ e2 ∧ e2 ≤ 1) (hT : d = rd x s.length - T % 4294967296 - e + 4294967296 * e2) : DigI x v w (s ++ [d]) (T / 4294967296) e2 := by
  obtain ⟨h1, h2, h3, h4, h5, h6⟩ := h
  have hv := rd_bd (by decide) okv (s.length : Int)
  have hm := mul_bd2 hw hv
  have el : (s ++ [d]).length = s.length + 1 := by simp
  obtain ⟨g1, g2⟩ := take_round (x := x) (v := v) (w := w) (c := c) (e := e) (d := d) (c2 := T / 4294967296) (e2 := e2) h2 h6 hd (by omega)
  refine ⟨by omega, g1, by omega, he2, fun hl => ?_, by rw [el]; exact g2⟩
  have hs : s.length = v.length := by omega
  have hz := rd_out v s.length (by omega)
  rw [hz, Int.mul_zero, Int.add_zero] at hT0
  omega
def GivI (y v r : List Int) (c : Int) : Prop := r.length ≤ v.length + 1 ∧ okD 4294967296 r ∧ (0 ≤ c ∧ c ≤ 1) ∧ vl 4294967296 r + 4294967296 ^ r.length * c = vl 4294967296 (y.take r.length) + vl 4294967296 (v.take r.length)
theorem GivI.step {y v r : List Int} {c T : Int} (h : GivI y v r c) (hlt : r.length ≤ v.length) (oky : okD 4294967296 y) (okv : okD 4294967296 v) (hT : T = c + rd y r.length + rd v r.length) : GivI y v (r ++ [T % 4294967296]) (T / 4294967296) := by
  obtain ⟨h1, h2, h3, h4⟩ := h
  have hv := rd_bd (by decide) okv (r.length : Int)
  have hy := rd_bd (by decide) oky (r.length : Int)
  have el : (r ++ [T % 4294967296]).length = r.length + 1 := by simp
  obtain ⟨g1, g2⟩ := give_round (x := y) (v := v) (c := c) (d := T % 4294967296) (c2 := T / 4294967296) h2 h4 (by omega) (by omega)
  exact ⟨by omega, g1, by omega, by rw [el]; exact g2⟩
theorem dig_end {U V w q s B e : Int} (hV : 0 < V) (hq : q = U / V) (hle : q ≤ w) (hs : 0 ≤ s ∧ s < B) (h : s = U - w * V + B * e) (he : 0 ≤ e ∧ e ≤ 1) : (e = 0 → w = q ∧ s = U % V) ∧ (0 < e → q + 1 ≤ w) := by
  have hd := Int.mul_ediv_add_emod U V
  have hm := Int.emod_nonneg U (show V ≠ 0 by omega)
  have hm2 := Int.emod_lt_of_pos U hV
  rw [← hq] at hd
  refine ⟨fun h0 => ?_, fun h1 => ?_⟩
  · subst h0
    have : w = q := by
      rcases Int.lt_or_le q w with h2 | h2
      · exfalso
        have h3 : V * (q + 1) ≤ V * w := Int.mul_le_mul_of_nonneg_left (by omega) (by omega)
        rw [Int.mul_add] at h3
        rw [Int.mul_comm w V] at h
        omega
      · omega
    subst this
    refine ⟨rfl, ?_⟩
    rw [Int.mul_comm w V] at h
    omega
  · have he1 : e = 1 := by omega
    subst he1
    rcases Int.lt_or_le q w with h2 | h2
    · omega
    · exfalso
      have : w = q := by omega
      subst this
      rw [Int.mul_comm w V] at h
      omega
theorem guess_ge {x v : List Int} {V : Int} {m : Nat} (okx : okD 4294967296 x) (okv : okD 4294967296 v) (vv : vl 4294967296 v = V) (hl : v.length = m + 1) (hx : m + 2 ≤ x.length) (hv : 0 < rd v m) (hU : vl 4294967296 (x.take (m + 2)) < 4294967296 * V) :
    vl 4294967296 (x.take (m + 2)) / V ≤ min ((rd x ((m + 1 : Nat) : Int) * 4294967296 + rd x m) / rd v m) 4294967295 := by
  have hV : 0 < V := by
    have h1 := vl_split 4294967296 v m (by omega)
    have h2 := vl_nonneg (B := 4294967296) (by decide) (okv.take m)
    rw [drop_rd v m (by omega), vl, List.drop_eq_nil_of_le (by omega)] at h1
    simp only [vl] at h1
    have h3 : 0 < (4294967296 : Int) ^ m := Int.pow_pos (by decide)
    have h4 := Int.mul_pos h3 hv
    rw [Int.mul_zero, Int.add_zero] at h1
    rw [← vv]
    omega
  have hU0 := vl_nonneg (B := 4294967296) (by decide) (okx.take (m + 2))
  obtain ⟨q, hq⟩ : ∃ q, q = vl 4294967296 (x.take (m + 2)) / V := ⟨_, rfl⟩
  have hd := Int.mul_ediv_add_emod (vl 4294967296 (x.take (m + 2))) V
  have hm := Int.emod_nonneg (vl 4294967296 (x.take (m + 2))) (show V ≠ 0 by omega)
  have hq0 : 0 ≤ q := by rw [hq]; exact Int.ediv_nonneg hU0 (by omega)
  rw [← hq] at hd ⊢
  have h1 : q ≤ 4294967295 := by
    rcases Int.lt_or_le 4294967295 q with h | h
    · exfalso
      have : V * 4294967296 ≤ V * q := Int.mul_le_mul_of_nonneg_left (by omega) (by omega)
      omega
    · exact h
  have h2 : q ≤ (rd x ((m + 1 : Nat) : Int) * 4294967296 + rd x m) / rd v m := by
    refine Int.le_ediv_of_mul_le hv ?_
    have hp : 0 < (4294967296 : Int) ^ m := Int.pow_pos (by decide)
    have a1 : 4294967296 ^ m * rd v m ≤ V := by
      have h1 := vl_split 4294967296 v m (by omega)
      have h2 := vl_nonneg (B := 4294967296) (by decide) (okv.take m)
      rw [drop_rd v m (by omega), vl, List.drop_eq_nil_of_le (by omega)] at h1
      simp only [vl] at h1
      rw [← vv]
      have : (4294967296 : Int) ^ m * (rd v m + 4294967296 * 0) = 4294967296 ^ m * rd v m := by rw [Int.mul_zero, Int.add_zero]
      omega
    have a2 : vl 4294967296 (x.take (m + 2)) < 4294967296 ^ m * (rd x ((m + 1 : Nat) : Int) * 4294967296 + rd x m + 1) := by
      have h1 := vl_take_step 4294967296 x (m + 1)
      have h2 := vl_take_step 4294967296 x m
      have h3 := vl_lt (B := 4294967296) (by decide) (okx.take m)
      rw [List.length_take, Nat.min_eq_left (by omega)] at h3
      rw [h1, h2, Int.pow_succ]
      rw [Int.mul_add, Int.mul_add, Int.mul_one]
      have e1 : (4294967296 : Int) ^ m * 4294967296 * rd x ((m + 1 : Nat) : Int) = 4294967296 ^ m * (rd x ((m + 1 : Nat) : Int) * 4294967296) := by rw [Int.mul_assoc, Int.mul_comm 4294967296]
      rw [e1]
      omega
    have a3 : q * (4294967296 ^ m * rd v m) ≤ q * V := Int.mul_le_mul_of_nonneg_left a1 hq0
    have a4 : 4294967296 ^ m * (q * rd v m) < 4294967296 ^ m * (rd x ((m + 1 : Nat) : Int) * 4294967296 + rd x m + 1) := by
      rw [Int.mul_left_comm]
      rw [Int.mul_comm V q] at hd
      omega
    have := Int.lt_of_mul_lt_mul_left a4 (Int.le_of_lt hp)
    omega
  omega
theorem m_digit (p : List Int) (lo V n : Nat) (hn : L32 V = n) (h0 : 0 < n) (hl : lo + n + 1 ≤ p.length) (hp : p.length ≤ 1073741824) (ok : okD 4294967296 p) (hU : vl 4294967296 ((p.drop lo).take (n + 1)) < 4294967296 * V) :
    PM Tryz.prog G 230 [.arr 0 lo (n + 1), D V] [⟨1, 138, .w .u32 p⟩] fun r rs => r = .val (.int .u32 (vl 4294967296 ((p.drop lo).take (n + 1)) / V)) ∧ ∃ s : List Int, s.length = n + 1 ∧ okD 4294967296 s ∧ vl 4294967296 s = vl 4294967296 ((p.drop lo).take (n + 1)) % V ∧ rs = [some ⟨1, 138, .w .u32 (ins p lo s)⟩] := by
  have hV0 : V ≠ 0 := fun h => by subst h; rw [L32, lenB_zero] at hn; omega
  have htop := top32 hV0
  obtain ⟨v, ev⟩ : ∃ v, v = d32 V := ⟨_, rfl⟩
  obtain ⟨okv, vv⟩ := d32_ok V
  have hvl : v.length = n := by rw [ev]; exact hn
  have hvt : rd v ((n - 1 : Nat) : Int) = ((V / 2 ^ (32 * (L32 V - 1)) : Nat) : Int) := by rw [ev, d32_rd, hn, Nat.mod_eq_of_lt (by rw [← hn]; exact htop.1)]
  unfold D
  rw [← ev] at okv vv
  rw [← ev]
  subst hvl
  have b1 := gd_bd (by decide) ok (lo + (v.length : Int).toNat)
  have b2 := gd_bd (by decide) ok (lo + ((v.length : Int) - 1).toNat)
  have b3 := rd_bd (by decide) okv ((v.length : Int) - 1)
  have e1 : p.getD (lo + (v.length : Int).toNat) 0 = rd (p.drop lo) (v.length : Int) := by rw [Int.toNat_natCast, gd_rd, rd_drop]
  have e2 : p.getD (lo + ((v.length : Int) - 1).toNat) 0 = rd (p.drop lo) ((v.length - 1 : Nat) : Int) := by rw [show ((v.length : Int) - 1).toNat = v.length - 1 by omega, gd_rd, rd_drop]
  have e3 : rd v ((v.length : Int) - 1) = rd v ((v.length - 1 : Nat) : Int) := by congr 1; omega
  have b4 : 0 < rd v ((v.length : Int) - 1) := by
    rw [e3, hvt]
    have := htop.2
    omega
  obtain ⟨x, hx⟩ : ∃ x, x = p.drop lo := ⟨_, rfl⟩
  have okx : okD 4294967296 x := by rw [hx]; exact ok.drop lo
  have hxl : v.length + 1 ≤ x.length := by rw [hx, List.length_drop]; omega
  rw [← hx] at hU e1 e2 ⊢
  obtain ⟨U, hUe⟩ : ∃ U, U = vl 4294967296 (x.take (v.length + 1)) := ⟨_, rfl⟩
  obtain ⟨q, hq⟩ : ∃ q, q = U / (V : Int) := ⟨_, rfl⟩
  obtain ⟨w, hw⟩ : ∃ w, w = min ((p.getD (lo + (v.length : Int).toNat) 0 * 4294967296 + p.getD (lo + ((v.length : Int) - 1).toNat) 0) / rd v ((v.length : Int) - 1)) 4294967295 := ⟨_, rfl⟩
  have hge : q ≤ w := by
    have h1 := guess_ge (m := v.length - 1) okx okv vv (by omega) (by omega) (by rw [← e3]; exact b4) (by rw [show v.length - 1 + 2 = v.length + 1 by omega]; exact hU)
    rw [show v.length - 1 + 2 = v.length + 1 by omega, show v.length - 1 + 1 = v.length by omega, ← hUe, ← hq, ← e1, ← e2, ← e3, ← hw] at h1
    exact h1
  have hU0 : 0 ≤ U := by rw [hUe]; exact vl_nonneg (by decide) (okx.take _)
  have hVp : (0 : Int) < V := by omega
  have hq0 : 0 ≤ q := by rw [hq]; exact Int.ediv_nonneg hU0 (by omega)
  have hwb : 0 ≤ w ∧ w < 4294967296 := by omega
  have hvfull : ∀ k, v.length ≤ k → vl 4294967296 (v.take k) = V := fun k hk => by rw [List.take_of_length_le hk, vv]
  rw [← hUe] at hU ⊢
  rw [← hq]
  refine PM.intro (X := XX) tok Tryz.func230 rfl Tryz.ntmps230 (by rw [Tryz.results230]) (by kernel_rfl) rfl ?_; intro F hG hO; simp only [List.length_cons, List.length_nil, Nat.zero_add, Nat.reduceAdd] at hO
  repeat' ((try (conv => whnf)); first
 | (with_reducible refine shl_g (m := 4294967296) 32 rfl (by decide) rfl (by dsimp only [inR]; omega) ?_)
 | (refine lg ?_; refine loop_g (A := List Int × Int) (fun (r, c) => GivI y v r c) (fun (r, c) => v.length + 1 - r.length) (fun (r, c) => [(0, .arr 0 lo (v.length + 1)), (1, .ws .u32 v), (5, .val (.int .i64 (v.length : Int))), (7, .val (.int .u64 (w2 - 1))), (8, .val (.int .u64 c)), (9, .val (.int .u64 e)), (13, .val (.int .i64 (r.length : Int)))]) (fun _ => []) (fun (r, c) => [some ⟨1, 138, .w .u32 (ins (ins p lo s) lo r)⟩]) ([], 0) tok (fun (r, c) => ⟨⟨Nat.one_pos, trivial, trivial, trivial, trivial, trivial, trivial, trivial⟩, trivial, by simp only [List.length_cons, List.length_nil]; omega⟩) ?_ ⟨rfl, rfl, rfl, rfl, rfl, rfl, rfl, trivial⟩ ⟨[], rfl⟩ ⟨[], (by dsimp only; rw [ins_nil]; rfl)⟩ ?_; rotate_left; rintro ⟨r, c⟩ kI; have kI2 := kI; obtain ⟨k1, k2, k3, k4⟩ := kI2; have ky := rd_bd (by decide) oky (r.length : Int); have kv := rd_bd (by decide) okv (r.length : Int); have kx : (ins (ins p lo s) lo r).getD (lo + (r.length : Int).toNat) 0 = rd y (r.length : Int) := (by rw [Int.toNat_natCast, ins_get (by rw [ins_len (by omega)]; omega), ← rd_drop, hy]); have kl : (ins (ins p lo s) lo r).length = p.length := (by rw [ins_len (by rw [ins_len (by omega)]; omega), ins_len (by omega)]))
 | (refine lg ?_; refine loop_g (A := List Int × Int × Int) (fun (s, w2, e) => s.length = v.length + 1 ∧ okD 4294967296 s ∧ (0 ≤ e ∧ e ≤ 1) ∧ (q ≤ w2 ∧ w2 < 4294967296) ∧ vl 4294967296 s = U - w2 * V + 4294967296 ^ (v.length + 1) * e) (fun (s, w2, e) => w2.toNat) (fun (s, w2, e) => [(0, .arr 0 lo (v.length + 1)), (1, .ws .u32 v), (5, .val (.int .i64 (v.length : Int))), (7, .val (.int .u64 w2)), (9, .val (.int .u64 e))]) (fun _ => []) (fun (s, w2, e) => [some ⟨1, 138, .w .u32 (ins p lo s)⟩]) (s1, w, e0) tok (fun (s, w2, e) => ⟨⟨Nat.one_pos, trivial, trivial, trivial, trivial, trivial⟩, trivial, by simp only [List.length_cons, List.length_nil]; omega⟩) ?_ ⟨rfl, rfl, rfl, rfl, rfl, trivial⟩ ⟨[], rfl⟩ ⟨[], rfl⟩ ?_; rotate_left; rintro ⟨s, w2, e⟩ ⟨j1, j2, j3, j4, j5⟩; have jb := vl_lt (B := 4294967296) (by decide) j2; have jb0 := vl_nonneg (B := 4294967296) (by decide) j2; rw [j1] at jb; have je := dig_end hVp hq j4.1 ⟨jb0, jb⟩ j5 j3; obtain ⟨y, hy⟩ : ∃ y, y = (ins p lo s).drop lo := ⟨_, rfl⟩; have oky : okD 4294967296 y := (by rw [hy]; exact (ins_okD ok j2).drop lo); have hyt : y.take s.length = s := (by rw [hy]; exact ins_mid (by omega)); have jw : 0 < e → 1 ≤ w2 := (fun h => by have := je.2 h; omega))
 | (refine lg ?_; refine loop_g (A := List Int × Int × Int) (fun (s, c, e) => DigI x v w s c e) (fun (s, c, e) => v.length + 1 - s.length) (fun (s, c, e) => [(0, .arr 0 lo (v.length + 1)), (1, .ws .u32 v), (5, .val (.int .i64 (v.length : Int))), (7, .val (.int .u64 w)), (8, .val (.int .u64 c)), (9, .val (.int .u64 e)), (10, .val (.int .i64 (s.length : Int)))]) (fun _ => []) (fun (s, c, e) => [some ⟨1, 138, .w .u32 (ins p lo s)⟩]) ([], 0, 0) tok (fun (s, c, e) => ⟨⟨Nat.one_pos, trivial, trivial, trivial, trivial, trivial, trivial, trivial⟩, trivial, by simp only [List.length_cons, List.length_nil]; omega⟩) ?_ ⟨rfl, rfl, rfl, iv_eq hw.symm, rfl, rfl, rfl, trivial⟩ ⟨[], rfl⟩ ⟨[], (by dsimp only; rw [ins_nil]; rfl)⟩ ?_; rotate_left; rintro ⟨s1, c0, e0⟩ iI; have iI2 := iI; obtain ⟨i1, i2, i3, i4, i5, i6⟩ := iI2; have ix := rd_bd (by decide) okx (s1.length : Int); have iv := rd_bd (by decide) okv (s1.length : Int); have im := mul_bd2 hwb iv; have ig : (ins p lo s1).getD (lo + (s1.length : Int).toNat) 0 = rd x (s1.length : Int) := (by rw [Int.toNat_natCast, ins_get (by omega), ← rd_drop, hx]); have il : (ins p lo s1).length = p.length := ins_len (by omega))
 | (refine dG (id := 2) [[0, 1, 2, 3, 4, 5, 6, 7, 8, 9, 10, 11, 12, 13]] ?_)
 | with_reducible first | refine ax_s ?_ | (refine ax_f ?_ ?_ <;> try intro hc) | fail)
  · refine ⟨again (s1 ++ [((ins p lo s1).getD (lo + (s1.length : Int).toNat) 0 + 4294967296 - ((c0 + w * rd v (s1.length : Int)) % 4294967296 + e0))], _, 1) (DigI.step iI (by omega) hwb okv rfl (d := ((ins p lo s1).getD (lo + (s1.length : Int).toNat) 0 + 4294967296 - ((c0 + w * rd v (s1.length : Int)) % 4294967296 + e0))) (by omega) (by omega) (by omega)) (by simp only [List.length_append, List.length_cons, List.length_nil]; omega) ⟨rfl, rfl, rfl, rfl, rfl, rfl, iv_eq (by simp), trivial⟩ ⟨[], rfl⟩ ⟨[], ?_⟩⟩
    have hset := ins_set (p := p) (s := s1) (lo := lo) ((ins p lo s1).getD (lo + (s1.length : Int).toNat) 0 + 4294967296 - ((c0 + w * rd v (s1.length : Int)) % 4294967296 + e0)) (by omega)
    dsimp only
    rw [← hset]; rfl
  · refine ⟨again (s1 ++ [((ins p lo s1).getD (lo + (s1.length : Int).toNat) 0 - ((c0 + w * rd v (s1.length : Int)) % 4294967296 + e0))], _, 0) (DigI.step iI (by omega) hwb okv rfl (d := ((ins p lo s1).getD (lo + (s1.length : Int).toNat) 0 - ((c0 + w * rd v (s1.length : Int)) % 4294967296 + e0))) (by omega) (by omega) (by omega)) (by simp only [List.length_append, List.length_cons, List.length_nil]; omega) ⟨rfl, rfl, rfl, rfl, rfl, rfl, iv_eq (by simp), trivial⟩ ⟨[], rfl⟩ ⟨[], ?_⟩⟩
    have hset := ins_set (p := p) (s := s1) (lo := lo) ((ins p lo s1).getD (lo + (s1.length : Int).toNat) 0 - ((c0 + w * rd v (s1.length : Int)) % 4294967296 + e0)) (by omega)
    dsimp only
    rw [← hset]; rfl
  · refine ⟨again (s1 ++ [((ins p lo s1).getD (lo + (s1.length : Int).toNat) 0 + 4294967296 - (c0 % 4294967296 + e0))], _, 1) (DigI.step iI (by omega) hwb okv (by rw [rd_out v s1.length (by omega)]; omega) (d := ((ins p lo s1).getD (lo + (s1.length : Int).toNat) 0 + 4294967296 - (c0 % 4294967296 + e0))) (by omega) (by omega) (by omega)) (by simp only [List.length_append, List.length_cons, List.length_nil]; omega) ⟨rfl, rfl, rfl, rfl, rfl, rfl, iv_eq (by simp), trivial⟩ ⟨[], rfl⟩ ⟨[], ?_⟩⟩
    have hset := ins_set (p := p) (s := s1) (lo := lo) ((ins p lo s1).getD (lo + (s1.length : Int).toNat) 0 + 4294967296 - (c0 % 4294967296 + e0)) (by omega)
    dsimp only
    rw [← hset]; rfl
  · refine ⟨again (s1 ++ [((ins p lo s1).getD (lo + (s1.length : Int).toNat) 0 - (c0 % 4294967296 + e0))], _, 0) (DigI.step iI (by omega) hwb okv (by rw [rd_out v s1.length (by omega)]; omega) (d := ((ins p lo s1).getD (lo + (s1.length : Int).toNat) 0 - (c0 % 4294967296 + e0))) (by omega) (by omega) (by omega)) (by simp only [List.length_append, List.length_cons, List.length_nil]; omega) ⟨rfl, rfl, rfl, rfl, rfl, rfl, iv_eq (by simp), trivial⟩ ⟨[], rfl⟩ ⟨[], ?_⟩⟩
    have hset := ins_set (p := p) (s := s1) (lo := lo) ((ins p lo s1).getD (lo + (s1.length : Int).toNat) 0 - (c0 % 4294967296 + e0)) (by omega)
    dsimp only
    rw [← hset]; rfl
  · refine ⟨again (r ++ [(c + (ins (ins p lo s) lo r).getD (lo + (r.length : Int).toNat) 0 + rd v (r.length : Int)) % 4294967296], _) (GivI.step kI (by omega) oky okv (T := (c + (ins (ins p lo s) lo r).getD (lo + (r.length : Int).toNat) 0 + rd v (r.length : Int))) (by omega)) (by simp only [List.length_append, List.length_cons, List.length_nil]; omega) ⟨rfl, rfl, rfl, rfl, rfl, rfl, iv_eq (by simp), trivial⟩ ⟨[], rfl⟩ ⟨[], ?_⟩⟩
    have hset := ins_set (p := ins p lo s) (s := r) (lo := lo) ((c + (ins (ins p lo s) lo r).getD (lo + (r.length : Int).toNat) 0 + rd v (r.length : Int)) % 4294967296) (by rw [ins_len (by omega)]; omega)
    dsimp only
    rw [← hset]; rfl
  · refine ⟨again (r ++ [(c + (ins (ins p lo s) lo r).getD (lo + (r.length : Int).toNat) 0) % 4294967296], _) (GivI.step kI (by omega) oky okv (T := (c + (ins (ins p lo s) lo r).getD (lo + (r.length : Int).toNat) 0)) (by have := rd_out v r.length (by omega); omega)) (by simp only [List.length_append, List.length_cons, List.length_nil]; omega) ⟨rfl, rfl, rfl, rfl, rfl, rfl, iv_eq (by simp), trivial⟩ ⟨[], rfl⟩ ⟨[], ?_⟩⟩
    have hset := ins_set (p := ins p lo s) (s := r) (lo := lo) ((c + (ins (ins p lo s) lo r).getD (lo + (r.length : Int).toNat) 0) % 4294967296) (by rw [ins_len (by omega)]; omega)
    dsimp only
    rw [← hset]; rfl
  · have he1 : e = 1 := by omega
    have hrl : r.length = v.length + 1 := by omega
    have hq1 := je.2 (by omega)
    rw [hrl, hvfull _ (by omega), show v.length + 1 = s.length by omega, hyt] at k4
    have hc : e - min e c = 1 - c := by omega
    refine ⟨again (r, w2 - 1, e - min e c) ⟨hrl, k2, by omega, by omega, ?_⟩ (by first | omega | (dsimp only; omega) | (simp only [id]; omega)) ⟨rfl, rfl, rfl, rfl, rfl, trivial⟩ ⟨[], rfl⟩ ⟨[], ?_⟩⟩
    · rw [hc, Int.sub_mul, Int.one_mul, Int.mul_sub, Int.mul_one]
      rw [he1, Int.mul_one] at j5
      rw [j1] at k4
      omega
    · dsimp only; rw [ins_ins (by omega) (by omega)]; rfl
  · exact ⟨Nat.zero_le _, okD_nil _, by decide, by simp [vl]⟩
  · have he0 : e = 0 := by omega
    obtain ⟨f1, f2⟩ := je.1 he0
    refine ⟨ret_m [0] _ [some ⟨1, 138, .w .u32 (ins p lo s)⟩] rfl rfl (by simp) (fun i h => ?_) rfl ⟨iv_eq f1, s, j1, j2, f2, rfl⟩⟩
    have : i = 0 := by simp at h; omega
    subst this; rfl
  · have hs1 : s1.length = v.length + 1 := by omega
    have hc0 := i5 hs1
    refine ⟨hs1, i2, i4, ⟨hge, hwb.2⟩, ?_⟩
    rw [i6, hs1, hvfull _ (by omega), ← hUe, hc0, Int.zero_add]
  · exact ⟨Nat.zero_le _, okD_nil _, by decide, by decide, fun h => (by simp at h), by simp [vl]⟩
set_option maxHeartbeats 8000000
theorem tail_zero {l : List Int} {k : Nat} (ok : okD 4294967296 l) (h : vl 4294967296 l < 4294967296 ^ k) : vl 4294967296 (l.drop k) = 0 := by
  rcases Nat.lt_or_ge l.length k with h1 | h1
  · rw [List.drop_eq_nil_of_le (by omega)]; rfl
  · have h2 := vl_split 4294967296 l k h1
    have h3 := vl_nonneg (B := 4294967296) (by decide) (ok.take k)
    have h4 := vl_nonneg (B := 4294967296) (by decide) (ok.drop k)
    have hp : 0 < (4294967296 : Int) ^ k := Int.pow_pos (by decide)
    rcases Int.lt_or_le 0 (vl 4294967296 (l.drop k)) with h5 | h5
    · have : 4294967296 ^ k * 1 ≤ 4294967296 ^ k * vl 4294967296 (l.drop k) := Int.mul_le_mul_of_nonneg_left (by omega) (by omega)
      omega
    · omega
theorem div_step {u q s : List Int} {V X d : Int} {j n : Nat} (oku : okD 4294967296 u) (hV : 0 < V) (hVn : V < 4294967296 ^ n) (hj : j + n + 1 ≤ u.length) (hq : j < q.length) (hr : vl 4294967296 (u.drop (j + 1)) < V)
    (hX : X = V * (4294967296 ^ (j + 1) * vl 4294967296 (q.drop (j + 1))) + vl 4294967296 u) :
    vl 4294967296 ((u.drop j).take (n + 1)) < 4294967296 * V ∧ (s.length = n + 1 → vl 4294967296 s = vl 4294967296 ((u.drop j).take (n + 1)) % V → d = vl 4294967296 ((u.drop j).take (n + 1)) / V →
      vl 4294967296 ((ins u j s).drop j) < V ∧ X = V * (4294967296 ^ j * vl 4294967296 ((q.set j d).drop j)) + vl 4294967296 (ins u j s)) := by
  have z1 := tail_zero (oku.drop (j + 1)) (Int.lt_trans hr hVn)
  rw [List.drop_drop] at z1
  have w1 := vl_split 4294967296 (u.drop j) (n + 1) (by rw [List.length_drop]; omega)
  rw [List.drop_drop, show j + (n + 1) = j + 1 + n by omega, z1, Int.mul_zero, Int.add_zero] at w1
  have w2 := drop_rd u j (by omega)
  have bu := rd_bd (by decide) oku (j : Int)
  have w3 : vl 4294967296 (u.drop j) = rd u j + 4294967296 * vl 4294967296 (u.drop (j + 1)) := by rw [w2]; rfl
  rw [← w1]
  refine ⟨by omega, fun hs hv hd => ?_⟩
  have hle : j + s.length ≤ u.length := by omega
  have i1 := ins_drop hle
  have i2 := ins_vl 4294967296 hle
  rw [hs, show j + (n + 1) = j + 1 + n by omega, z1, Int.mul_zero, Int.add_zero] at i2
  have i3 := ins_mid hle
  have i4 := vl_split 4294967296 ((ins u j s).drop j) s.length (by rw [List.length_drop, ins_len hle]; omega)
  rw [i3, List.drop_drop, i1, hs, show j + (n + 1) = j + 1 + n by omega, z1, Int.mul_zero, Int.add_zero] at i4
  have hm := Int.emod_lt_of_pos (vl 4294967296 (u.drop j)) hV
  refine ⟨by rw [i4, hv]; exact hm, ?_⟩
  have e2 : (q.set j d).drop j = d :: q.drop (j + 1) := by
    rw [List.drop_eq_getElem_cons (by simp; omega)]
    simp
    exact List.drop_set_of_lt (by omega)
  have u1 := vl_split 4294967296 u j (by omega)
  have hdm := Int.mul_ediv_add_emod (vl 4294967296 (u.drop j)) V
  rw [e2, i2]
  simp only [vl]
  rw [hX, hv]
  rw [← hd] at hdm
  rw [u1]
  have e3 : V * ((4294967296 : Int) ^ j * (d + 4294967296 * vl 4294967296 (q.drop (j + 1)))) = 4294967296 ^ j * (V * d) + V * (4294967296 ^ (j + 1) * vl 4294967296 (q.drop (j + 1))) := by
    rw [Int.mul_add, Int.mul_add, Int.mul_left_comm V, Int.pow_succ, Int.mul_assoc]
  rw [e3]
  have e4 : (4294967296 : Int) ^ j * vl 4294967296 (u.drop j) = 4294967296 ^ j * (V * d) + 4294967296 ^ j * (vl 4294967296 (u.drop j) % V) := by rw [← Int.mul_add, hdm]
  rw [e4]
  omega
def DivI (X Y s : Nat) (u q : List Int) (m : Nat) : Prop := u.length = L32 X + 1 ∧ okD 4294967296 u ∧ q.length = L32 X + 1 - L32 Y ∧ okD 4294967296 q ∧ m ≤ L32 X + 1 - L32 Y ∧ vl 4294967296 (u.drop m) < ((Y * 2 ^ s : Nat) : Int) ∧ ((X * 2 ^ s : Nat) : Int) = ((Y * 2 ^ s : Nat) : Int) * (4294967296 ^ m * vl 4294967296 (q.drop m)) + vl 4294967296 u
theorem okD_set {B : Int} {l : List Int} {i : Nat} {d : Int} (h : okD B l) (hd : 0 ≤ d ∧ d < B) : okD B (l.set i d) := fun x hx => by
  rcases List.mem_or_eq_of_mem_set hx with h1 | h1
  · exact h x h1
  · rw [h1]; exact hd
theorem DivI.step {X Y s : Nat} {u q : List Int} {m : Nat} (h : DivI X Y s u q m) (hV : 0 < ((Y * 2 ^ s : Nat) : Int)) (hVn : ((Y * 2 ^ s : Nat) : Int) < 4294967296 ^ L32 Y) (hm : 0 < m) :
    vl 4294967296 ((u.drop (m - 1)).take (L32 Y + 1)) < 4294967296 * ((Y * 2 ^ s : Nat) : Int) ∧ ∀ w d, okD 4294967296 w → w.length = L32 Y + 1 → vl 4294967296 w = vl 4294967296 ((u.drop (m - 1)).take (L32 Y + 1)) % ((Y * 2 ^ s : Nat) : Int) → d = vl 4294967296 ((u.drop (m - 1)).take (L32 Y + 1)) / ((Y * 2 ^ s : Nat) : Int) → DivI X Y s (ins u (m - 1) w) (q.set (m - 1) d) (m - 1) := by
  obtain ⟨i1, i2, i3, i4, i5, i6, i7⟩ := h
  have e : m - 1 + 1 = m := by omega
  have hst := fun w d => div_step (X := ((X * 2 ^ s : Nat) : Int)) (V := ((Y * 2 ^ s : Nat) : Int)) (s := w) (d := d) (j := m - 1) (n := L32 Y) (u := u) (q := q) i2 hV hVn (by omega) (by omega) (by rw [e]; exact i6) (by rw [e]; exact i7)
  have h1 := (hst [] 0).1
  refine ⟨h1, fun w d k1 k2 k3 k4 => ?_⟩
  obtain ⟨g1, g2⟩ := (hst w d).2 k2 k3 k4
  have hu := i2.drop (m - 1) |>.take (L32 Y + 1)
  have hd : 0 ≤ d ∧ d < 4294967296 := by
    rw [k4]
    have := vl_nonneg (B := 4294967296) (by decide) hu
    exact ⟨Int.ediv_nonneg this (Int.le_of_lt hV), Int.ediv_lt_of_lt_mul hV h1⟩
  exact ⟨by rw [ins_len (by omega), i1], ins_okD i2 k1, by rw [List.length_set, i3], okD_set i4 hd, by omega, g1, g2⟩
theorem DivI.done {X Y s : Nat} {u q : List Int} (h : DivI X Y s u q 0) (hV : 0 < ((Y * 2 ^ s : Nat) : Int)) (hVn : ((Y * 2 ^ s : Nat) : Int) < 4294967296 ^ L32 Y) (hle : L32 Y ≤ L32 X) : (vl 4294967296 q).toNat = X / Y ∧ (vl 4294967296 (u.take (L32 Y))).toNat = X % Y * 2 ^ s := by
  obtain ⟨i1, i2, i3, i4, i5, i6, i7⟩ := h
  rw [List.drop_zero] at i6 i7
  rw [Int.pow_zero, Int.one_mul] at i7
  have z := tail_zero (k := L32 Y) i2 (Int.lt_trans i6 hVn)
  have w := vl_split 4294967296 u (L32 Y) (by omega)
  rw [z, Int.mul_zero, Int.add_zero] at w
  rw [← w]
  have h0 := vl_nonneg (B := 4294967296) (by decide) i2
  have hq0 := vl_nonneg (B := 4294967296) (by decide) i4
  obtain ⟨Q, hQ⟩ := Int.eq_ofNat_of_zero_le hq0
  obtain ⟨R, hR⟩ := Int.eq_ofNat_of_zero_le h0
  rw [hQ] at i7 ⊢
  rw [hR] at i6 i7 ⊢
  simp only [Int.toNat_natCast]
  have i8 : X * 2 ^ s = Y * 2 ^ s * Q + R := by
    rw [← Int.natCast_mul, ← Int.natCast_add] at i7
    exact Int.ofNat_inj.1 i7
  have i9 : R < Y * 2 ^ s := by omega
  have hp : 0 < 2 ^ s := Nat.pow_pos (by decide)
  refine ⟨?_, ?_⟩
  · rw [← Nat.mul_div_mul_right X Y hp, i8, Nat.mul_add_div (by omega), Nat.div_eq_of_lt i9, Nat.add_zero]
  · rw [← Nat.mul_mod_mul_right, i8, Nat.mul_add_mod, Nat.mod_eq_of_lt i9]
theorem DivI.init {X Y s : Nat} {k : Nat} (hk : L32 (X * 2 ^ s) + k = L32 X + 1) (hXY : L32 Y ≤ L32 X) (h0 : 0 < L32 Y) (hlt : X * 2 ^ s < 2 ^ (32 * L32 X) * 2 ^ s) (hV : 2 ^ (32 * (L32 Y - 1)) * 2 ^ s ≤ Y * 2 ^ s) : DivI X Y s (d32 (X * 2 ^ s) ++ List.replicate k 0) (List.replicate (L32 X + 1 - L32 Y) 0) (L32 X + 1 - L32 Y) := by
  obtain ⟨ok, va⟩ := d32_ok (X * 2 ^ s)
  have hl : (d32 (X * 2 ^ s)).length = L32 (X * 2 ^ s) := rfl
  have hrep : ∀ n, okD 4294967296 (List.replicate n (0 : Int)) := fun n x hx => by rw [List.eq_of_mem_replicate hx]; decide
  have hz : ∀ n, vl 4294967296 (List.replicate n (0 : Int)) = 0 := fun n => vl_zero _ _
  have hu : vl 4294967296 (d32 (X * 2 ^ s) ++ List.replicate k 0) = ((X * 2 ^ s : Nat) : Int) := by rw [vl_append, va, hz, Int.mul_zero, Int.add_zero]
  have oku : okD 4294967296 (d32 (X * 2 ^ s) ++ List.replicate k 0) := okD_append.2 ⟨ok, hrep k⟩
  refine ⟨by simp [hl]; omega, oku, by simp, hrep _, Nat.le_refl _, ?_, ?_⟩
  · have hs := vl_split 4294967296 (d32 (X * 2 ^ s) ++ List.replicate k 0) (L32 X + 1 - L32 Y) (by simp [hl]; omega)
    rw [hu] at hs
    have h1 := vl_nonneg (B := 4294967296) (by decide) (oku.take (L32 X + 1 - L32 Y))
    obtain ⟨Z, hZ⟩ := Int.eq_ofNat_of_zero_le (vl_nonneg (B := 4294967296) (by decide) (oku.drop (L32 X + 1 - L32 Y)))
    rw [hZ] at hs ⊢
    have h2 : 4294967296 ^ (L32 X + 1 - L32 Y) * Z ≤ X * 2 ^ s := by
      have : ((4294967296 ^ (L32 X + 1 - L32 Y) * Z : Nat) : Int) ≤ ((X * 2 ^ s : Nat) : Int) := by
        rw [hs]; simp only [Int.natCast_mul, Int.natCast_pow]; exact Int.le_add_of_nonneg_left h1
      exact Int.ofNat_le.1 this
    have e : 32 * L32 X = 32 * (L32 X + 1 - L32 Y) + 32 * (L32 Y - 1) := by omega
    rw [pow32] at h2
    rw [e, Nat.pow_add, Nat.mul_assoc] at hlt
    have h3 : Z < 2 ^ (32 * (L32 Y - 1)) * 2 ^ s := Nat.lt_of_mul_lt_mul_left (Nat.lt_of_le_of_lt h2 hlt)
    omega
  · rw [List.drop_eq_nil_of_le (by simp)]
    simp only [vl]
    rw [Int.mul_zero, Int.mul_zero, Int.zero_add, hu]
theorem r_divmod (X Y : Nat) (hX : L32 X ≤ 268435456) (hY : L32 Y ≤ 268435456) : FC Tryz.prog G 226 [D X, D Y] (· = .tup [D (X / Y), D (if Y = 0 then 0 else X % Y)]) := by
  have hlx : (d32 X).length = L32 X := rfl
  have hly : (d32 Y).length = L32 Y := rfl
  obtain ⟨T, hT⟩ : ∃ T, T = Y / 2 ^ (32 * (L32 Y - 1)) := ⟨_, rfl⟩
  have hT2 : Unit → Y ≠ 0 → T < 4294967296 ∧ T ≠ 0 := fun _ h => by rw [hT]; exact top32 h
  have hTb : bl T ≤ 32 := by
    by_cases h : Y = 0
    · subst h; rw [hT, Nat.zero_div]; decide
    · exact bl_le (hT2 () h).1
  have hTl : L32 T ≤ 536870912 := by
    by_cases h : Y = 0
    · subst h; rw [hT, Nat.zero_div, L32, lenB_zero]; decide
    · exact Nat.le_trans (L32_le (n := 1) (hT2 () h).1) (by decide)
  obtain ⟨s, hs⟩ : ∃ s : Nat, s = 32 - bl T := ⟨_, rfl⟩
  have hY0 : Unit → L32 Y ≠ 0 → Y ≠ 0 := fun _ h h0 => by subst h0; exact h (lenB_zero _)
  have hV : Unit → Y ≠ 0 → Y * 2 ^ s < 2 ^ (32 * L32 Y) ∧ 2 ^ (32 * (L32 Y - 1)) * 2 ^ s ≤ Y * 2 ^ s := fun _ h => by
    have h1 := lt_bl T
    have h2 : bl Y = 32 * (L32 Y - 1) + bl T := by rw [hT]; exact bl_top Y _ (by rw [← hT]; exact (hT2 () h).2)
    have h3 := lt_bl Y
    have h4 := lenB_pos (B := 4294967296) (by decide) h
    have h5 : 0 < L32 Y := h4
    refine ⟨?_, Nat.mul_le_mul_right _ ?_⟩
    · have h6 : Y * 2 ^ s < 2 ^ bl Y * 2 ^ s := Nat.mul_lt_mul_of_pos_right h3 (Nat.pow_pos (by decide))
      rw [← Nat.pow_add] at h6
      exact Nat.lt_of_lt_of_le h6 (Nat.pow_le_pow_right (by decide) (by omega))
    · exact Nat.le_trans (Nat.pow_le_pow_right (by decide) (by have := bl_pos (hT2 () h).2; omega)) (le_of_bl h)
  have hVl : Unit → Y ≠ 0 → L32 (Y * 2 ^ s) = L32 Y := fun _ h => by
    have h1 := L32_le (hV () h).1
    have h2 : L32 Y ≤ L32 (Y * 2 ^ s) := lenB_mono (by decide) (Nat.le_mul_of_pos_right _ (Nat.pow_pos (by decide)))
    omega
  have hs32 : s ≤ 32 := by omega
  have hUlt : X * 2 ^ s < 2 ^ (32 * L32 X) * 2 ^ s := Nat.mul_lt_mul_of_pos_right (L32_lt X) (Nat.pow_pos (by decide))
  have hUl : L32 (X * 2 ^ s) ≤ L32 X + 1 := by
    apply L32_le
    rw [← Nat.pow_add] at hUlt
    exact Nat.lt_of_lt_of_le hUlt (Nat.pow_le_pow_right (by decide) (by omega))
  have hes : (32 - (bl T : Int)).toNat = s := by omega
  have hr0 : Unit → L32 Y = 1 → rd (d32 Y) 0 = (Y : Int) ∧ 0 < Y ∧ Y < 4294967296 := fun _ h => by
    have h1 := d32_rd Y 0
    have h2 := L32_lt Y
    rw [h] at h2
    have h3 := hY0 () (by omega)
    refine ⟨?_, by omega, h2⟩
    rw [show ((0 : Nat) : Int) = 0 by rfl] at h1
    rw [h1, Nat.pow_zero, Nat.div_one]
    omega
  have hcl : Unit → ¬ cmpN X Y < 0 → Y ≤ X ∧ L32 Y ≤ L32 X := fun _ h => by
    have : Y ≤ X := by
      unfold cmpN at h
      split at h
      · exact absurd (by decide) h
      · omega
    exact ⟨this, lenB_mono (by decide) this⟩
  have hVpp : Unit → Y ≠ 0 → (0 : Int) < ((Y * 2 ^ s : Nat) : Int) := fun _ h => by
    have : 0 < Y * 2 ^ s := Nat.mul_pos (by omega) (Nat.pow_pos (by decide))
    omega
  have hVpq : Unit → Y ≠ 0 → ((Y * 2 ^ s : Nat) : Int) < 4294967296 ^ L32 Y := fun _ h => by
    have h1 := (hV () h).1
    rw [← pow32] at h1
    have h2 := Int.ofNat_lt.2 h1
    simpa using h2
  have hml : Unit → L32 (X % Y * 2 ^ s) ≤ L32 X + 1 := fun _ => Nat.le_trans (lenB_mono (by decide) (Nat.mul_le_mul_right _ (Nat.mod_le _ _))) hUl
  have hcmp := r_cmp (G := G) X Y (by omega) (by omega)
  have hw0 := r_word (G := G) 0 (by decide)
  have hbits := r_bits (G := G) T hTl
  have hdr : (d32 Y).drop (L32 Y - 1) = d32 T := by rw [d32_drop, hT]
  refine ax_i Tryz.func226 Tryz.ntmps226 ?_; intro F hG hO
  rw [← hG] at hcmp hw0 hbits
  repeat' ((try (conv => whnf)); first
 | refine ce hw0 ?_
 | (refine cg ?_; refine ce (r_word ((X : Int) % Y) (by omega)) ?_)
 | refine ce hcmp ?_
 | (refine cg ?_; refine ce (r_normN X (by omega)) ?_)
 | (refine cg ?_; have hr1 := hr0 () (by omega); have hmm := Int.emod_nonneg (X : Int) (b := (Y : Int)) (by omega); have hml := Int.emod_lt_of_pos (X : Int) (b := (Y : Int)) (by omega); rw [hr1.1]; refine ce (r_divs X Y (by omega) (by omega)) ?_)
 | (refine cg ?_; rw [hly, show ((L32 Y : Int) - 1).toNat = L32 Y - 1 by omega, hdr]; refine ce hbits ?_)
 | (refine cg ?_; refine call_eq (r_shl Y (32 - (bl T : Int)) (by omega) (by dsimp only [inR]; omega) (by omega)) (LpL.refl _) rfl ?_; rw [hes])
 | (refine cg ?_; refine call_own (m := 0) (m_shl X (32 - (bl T : Int)) (by omega) (by dsimp only [inR]; omega) (by omega)) rfl rfl rfl ?_; rw [hes])
 | (refine lg ?_; refine loop_g (A := List Int × List Int × Nat) (fun (u, q, m) => DivI X Y s u q m) (fun (u, q, m) => m) (fun (u, q, m) => [(8, .val (.int .i64 (32 - (bl T : Int)))), (9, D (Y * 2 ^ s)), (10, .arr 0 0 (L32 X + 1)), (11, .val (.int .i64 (L32 Y : Int))), (12, .arr 1 0 (L32 X + 1 - L32 Y)), (13, .val (.int .i64 ((m : Int) - 1)))]) (fun _ => []) (fun (u, q, m) => [some ⟨1, 138, .w .u32 u⟩, some ⟨1, 138, .w .u32 q⟩]) (d32 (X * 2 ^ s) ++ List.replicate k 0, List.replicate (L32 X + 1 - L32 Y) 0, L32 X + 1 - L32 Y) tok (fun (u, q, m) => ⟨⟨trivial, trivial, Nat.zero_lt_succ _, trivial, Nat.lt_succ_self 1, trivial, trivial⟩, trivial, by simp only [List.length_cons, List.length_nil]; omega⟩) ?_ ⟨rfl, rfl, congrArg (PV.arr 0 0) (by omega), iv_eq (by omega), congrArg (PV.arr 1 0) (by omega), iv_eq (by omega), trivial⟩ ⟨[], rfl⟩ ⟨[], (by rw [show (((L32 (X * 2 ^ s) + k : Nat) : Int) - ((d32 (Y * 2 ^ s)).length : Int)).toNat = L32 X + 1 - L32 Y by omega]; rfl)⟩ ?_; rotate_left; rintro ⟨u, q, m⟩ hI; have hI2 := hI; obtain ⟨i1, i2, i3, i4, i5, i6, i7⟩ := hI2)
 | (refine lg ?_; refine loop_g (A := Nat) (fun k => L32 (X * 2 ^ s) + k ≤ L32 X + 1) (fun k => L32 X + 1 - k) (fun k => [(0, D X), (8, .val (.int .i64 (32 - (bl T : Int)))), (9, D (Y * 2 ^ s)), (10, .arr 0 0 (L32 (X * 2 ^ s) + k))]) (fun _ => []) (fun k => [some ⟨1, 138, .w .u32 (d32 (X * 2 ^ s) ++ List.replicate k 0)⟩]) 0 tok (fun k => ⟨⟨trivial, trivial, trivial, Nat.one_pos, trivial⟩, trivial, by simp only [List.length_cons, List.length_nil]; omega⟩) ?_ ⟨rfl, rfl, rfl, rfl, trivial⟩ ⟨[], rfl⟩ ⟨[], (by simp)⟩ ?_; rotate_left; rintro k h1; have hlu : (d32 (X * 2 ^ s)).length = L32 (X * 2 ^ s) := rfl; have hlv : (d32 (Y * 2 ^ s)).length = L32 (Y * 2 ^ s) := rfl; have hYn := hVl () (hY0 () (by omega)); have hVp := hVpp () (hY0 () (by omega)); have hVq := hVpq () (hY0 () (by omega)); have hXY := hcl () (by omega))
 | (refine cg ?_; have hst := hI.step hVp hVq; rw [show 0 + ((m : Int) - 1).toNat = m - 1 by omega, show ((m : Int) - 1 + (L32 Y : Int) + 1).toNat - ((m : Int) - 1).toNat = L32 Y + 1 by omega]; refine call_pm [0] (m_digit u (m - 1) (Y * 2 ^ s) (L32 Y) hYn (by omega) (by omega) (by omega) i2 (hst (by omega)).1) rfl rfl rfl (by simp) ?_; rintro r rs ⟨rfl, w, j1, j2, j3, rfl⟩)
 | (refine cg ?_; refine call_fz 0 (B := q) rfl rfl (by omega) (by rw [List.drop_zero]; exact List.take_of_length_le (by omega)) (by omega) ?_; refine ce (r_normD q (by omega) i4) ?_)
 | (refine cg ?_; obtain rfl : m = 0 := (by omega); have hdone := hI.done hVp hVq hXY.2; refine call_fz 0 (B := u.take (L32 Y)) rfl rfl (by omega) (by rw [List.drop_zero, Int.toNat_natCast]) (by omega) ?_; refine call_eq (r_normD (u.take (L32 Y)) (by rw [List.length_take]; omega) (i2.take _)) (LpL.refl _) rfl ?_; rw [hdone.2])
 | (refine cg ?_; refine call_eq (r_shr (X % Y * 2 ^ s) (32 - (bl T : Int)) (by have := hml (); omega) (by dsimp only [inR]; omega)) (LpL.refl _) rfl ?_)
 | (refine dG (id := 19) [[0, 2, 3, 4, 6, 1, 5, 7, 8, 9]] ?_)
 | with_reducible first | refine ax_s ?_ | (refine ax_f ?_ ?_ <;> try intro hc) | fail)
  · have : Y = 0 := (lenB_eq_zero (B := 4294967296) (by decide)).1 (by unfold L32 at hly; omega)
    subst this
    exact ⟨ret_e (by rw [Nat.div_zero, if_pos rfl]; rfl)⟩
  · have : X < Y := by
      unfold cmpN at hc
      split at hc
      · assumption
      · split at hc <;> omega
    exact ⟨ret_e (by rw [Nat.div_eq_of_lt this, if_neg (by omega), Nat.mod_eq_of_lt this]; rfl)⟩
  · refine ⟨ret_e ?_⟩
    rw [if_neg (by omega), ← Int.natCast_ediv, ← Int.natCast_emod, Int.toNat_natCast, Int.toNat_natCast]; rfl
  · refine ⟨again (k + 1) (by omega) (by omega) ⟨rfl, rfl, rfl, rfl, trivial⟩ ⟨[], rfl⟩ ⟨[], ?_⟩⟩
    rw [List.replicate_succ', ← List.append_assoc]; rfl
  · refine ⟨again (ins u (m - 1) w, q.set (m - 1) (vl 4294967296 (List.take (L32 Y + 1) (List.drop (m - 1) u)) / ((Y * 2 ^ s : Nat) : Int)), m - 1) ((hst (by omega)).2 w _ j2 j1 j3 rfl) (by dsimp only; omega) ⟨rfl, rfl, rfl, rfl, rfl, iv_eq (by omega), trivial⟩ ⟨[], rfl⟩ ⟨[], ?_⟩⟩
    dsimp only
    rw [show 0 + ((m : Int) - 1).toNat = m - 1 by omega]; rfl
  · refine ⟨ret_e ?_⟩
    rw [hes, Nat.mul_div_cancel _ (Nat.pow_pos (by decide)), hdone.1, if_neg (hY0 () (by omega))]; rfl
  · exact DivI.init (by omega) hXY.2 (by omega) hUlt (hV () (hY0 () (by omega))).2
  · omega
theorem L32_p2 (n : Nat) : L32 (2 ^ n) ≤ n / 32 + 1 := by
  have := L32_shl 1 n
  rw [Nat.one_mul] at this
  have h1 : L32 1 ≤ 1 := L32_le (by decide)
  apply L32_le
  exact Nat.pow_lt_pow_right (by decide) (by omega)
theorem L32_mul (x y : Nat) : L32 (x * y) ≤ L32 x + L32 y := lenB_mul (by decide) x y
theorem L32_mono {x y : Nat} (h : x ≤ y) : L32 x ≤ L32 y := lenB_mono (by decide) h
theorem L32_add (x y : Nat) : L32 (x + y) ≤ max (L32 x) (L32 y) + 1 := lenB_add (by decide) x y
def ZI (a : Int) : PV := .agg [.val (.bool (decide (a < 0))), .ws .u32 (d32 a.natAbs)]
def LZ (a : Int) : Nat := L32 a.natAbs
def sg (b : Bool) (m : Nat) : Int := match b with
 | true => -(m : Int)
 | false => m
theorem sg_abs (b : Bool) (m : Nat) : (sg b m).natAbs = m := by cases b <;> simp [sg]
theorem L32_pos (m : Nat) : 0 < L32 m ↔ 0 < m := by
  have h := lenB_eq_zero (B := 4294967296) (by decide) (x := m)
  unfold L32
  omega
theorem zi_sg (b : Bool) (m : Nat) (c : Bool) (h : c = (b && decide (0 < m))) : PV.agg [.val (.bool c), .ws .u32 (d32 m)] = ZI (sg b m) := by
  subst h
  unfold ZI
  rw [sg_abs]
  congr 4
  cases b
  · simp only [sg, Bool.false_and]
    exact (decide_eq_false (by omega)).symm
  · simp [sg]
theorem sg_of (a : Int) : sg (decide (a < 0)) a.natAbs = a := by
  by_cases h : a < 0
  · simp only [h, decide_true, sg]; omega
  · simp only [h, decide_false, sg]; omega
theorem r_mk (b : Bool) (m : Nat) (h : L32 m ≤ 1099511627776) : FC Tryz.prog G 75 [.val (.bool b), D m] (· = ZI (sg b m)) := by
  have hl : (d32 m).length = L32 m := rfl
  have hp := L32_pos m
  cases b
  · refine ax_i Tryz.func75 Tryz.ntmps75 ?_; intro F hG hO
    repeat' ((try (conv => whnf)); first
 | (refine cg ?_; refine ce (r_normN m h) ?_)
 | with_reducible first | refine ax_s ?_ | (refine ax_f ?_ ?_ <;> try intro hc) | fail)
    all_goals exact ⟨ret_e (zi_sg _ m _ (by simp))⟩
  · refine ax_i Tryz.func75 Tryz.ntmps75 ?_; intro F hG hO
    repeat' ((try (conv => whnf)); first
 | (refine cg ?_; refine ce (r_normN m h) ?_)
 | with_reducible first | refine ax_s ?_ | (refine ax_f ?_ ?_ <;> try intro hc) | fail)
    all_goals exact ⟨ret_e (zi_sg _ m _ (by rw [Bool.true_and]; exact decide_eq_decide.2 (by omega)))⟩
theorem zi_neg {a : Int} (h : a < 0) : ZI a = .agg [.val (.bool true), D a.natAbs] := by unfold ZI; rw [decide_eq_true h]; rfl
theorem zi_pos {a : Int} (h : ¬ a < 0) : ZI a = .agg [.val (.bool false), D a.natAbs] := by unfold ZI; rw [decide_eq_false h]; rfl
theorem by_sign {a : Int} {p : PV → Prop} (h1 : a < 0 → p (.agg [.val (.bool true), D a.natAbs])) (h2 : ¬ a < 0 → p (.agg [.val (.bool false), D a.natAbs])) : p (ZI a) := by
  by_cases h : a < 0
  · rw [zi_neg h]; exact h1 h
  · rw [zi_pos h]; exact h2 h
theorem zi_eq {a b : Int} (h : a = b) : ZI a = ZI b := by rw [h]
theorem len_pos (m : Nat) : (0 : Int) < ((d32 m).length : Int) ↔ 0 < m := by
  have hl : (d32 m).length = L32 m := rfl
  have hp := L32_pos m
  omega
theorem r_of (n : Int) (h : inR .i64 n) : FC Tryz.prog G 82 [.val (.int .i64 n)] (· = ZI n) := by
  dsimp only [inR] at h
  have l1 : L32 1 ≤ 1 := L32_le (by decide)
  have ln : L32 (0 - (n + 1)).toNat ≤ 2 ∨ 0 ≤ n := by
    rcases Int.lt_or_le n 0 with h1 | h1
    · exact .inl (L32_le (show (0 - (n + 1)).toNat < 2 ^ (32 * 2) by omega))
    · exact .inr h1
  have ln2 : L32 n.toNat ≤ 2 := L32_le (show n.toNat < 2 ^ (32 * 2) by omega)
  have la := L32_add (0 - (n + 1)).toNat 1
  refine ax_i Tryz.func82 Tryz.ntmps82 ?_; intro F hG hO
  repeat' ((try (conv => whnf)); first
 | (refine cg ?_; refine ce (r_word (0 - (n + 1)) (by omega)) ?_)
 | (refine cg ?_; refine ce (r_word 1 (by decide)) ?_)
 | (refine cg ?_; refine ce (r_add (0 - (n + 1)).toNat 1 (by omega) (by omega)) ?_)
 | (refine cg ?_; refine ce (r_mk true ((0 - (n + 1)).toNat + 1) (by omega)) ?_)
 | (refine cg ?_; refine ce (r_word n (by omega)) ?_)
 | (refine cg ?_; refine ce (r_mk false n.toNat (by omega)) ?_)
 | with_reducible first | refine ax_s ?_ | (refine ax_f ?_ ?_ <;> try intro hc) | fail)
  · exact ⟨ret_e (zi_eq (a := sg true ((0 - (n + 1)).toNat + 1)) (by simp only [sg]; omega))⟩
  · exact ⟨ret_e (zi_eq (a := sg false n.toNat) (by simp only [sg]; omega))⟩
theorem r_zfrom (b : Bool) (l : List Int) (ok : okD 18446744073709551616 l) (hl : l.length ≤ 134217728) : FC Tryz.prog G 31 [.agg [.val (.bool b), .ws .u64 l]] (· = ZI (sg b (vl 18446744073709551616 l).toNat)) := by
  have hL : L32 (vl 18446744073709551616 l).toNat ≤ 268435456 := by
    obtain ⟨N, hN⟩ : ∃ N, N = 268435456 := ⟨_, rfl⟩
    rw [← hN]
    apply L32_le
    have h1 := vl_lt (B := 18446744073709551616) (by decide) ok
    have h2 := vl_nonneg (B := 18446744073709551616) (by decide) ok
    have h3 : (vl 18446744073709551616 l).toNat < 18446744073709551616 ^ l.length := by
      have h4 : ((18446744073709551616 ^ l.length : Nat) : Int) = (18446744073709551616 : Int) ^ l.length := by simp
      omega
    rw [pow64] at h3
    exact Nat.lt_of_lt_of_le h3 (Nat.pow_le_pow_right (by decide) (by omega))
  refine ax_i Tryz.func31 Tryz.ntmps31 ?_; intro F hG hO
  repeat' ((try (conv => whnf)); first
 | (refine cg ?_; refine ce (r_from l ok hl) ?_)
 | (refine cg ?_; refine ce (r_mk b (vl 18446744073709551616 l).toNat (by omega)) ?_)
 | (refine dG (id := 1) [[0, 1, 2, 3, 4, 5], [6]] ?_)
 | with_reducible first | refine ax_s ?_ | (refine ax_f ?_ ?_ <;> try intro hc) | fail)
  exact ⟨ret_e rfl⟩
def NI (a : Int) : PV := .agg [.val (.bool (decide (a < 0))), N64 a.natAbs]
theorem r_zto (a : Int) (h : LZ a ≤ 268435456) : FC Tryz.prog G 195 [ZI a] (· = NI a) := by
  unfold LZ at h
  refine by_sign (a := a) (p := fun p => FC _ _ _ [p] _) (fun hs => ?_) (fun hs => ?_)
  all_goals
    have hp := len_pos a.natAbs
    refine ax_i Tryz.func195 Tryz.ntmps195 ?_; intro F hG hO
    repeat' ((try (conv => whnf)); first
 | (refine cg ?_; refine ce (r_to a.natAbs (by omega)) ?_)
 | (refine dG (id := 1) [[0, 1, 2, 3, 4, 5, 6, 7, 8, 9, 10, 11], [12]] ?_)
 | with_reducible first | refine ax_s ?_ | (refine ax_f ?_ ?_ <;> try intro hc) | fail)
  · refine ⟨ret_e ?_⟩
    unfold NI
    rw [show decide (a < 0) = decide ((0 : Int) < ((d32 a.natAbs).length : Int)) from decide_eq_decide.2 (by omega)]; rfl
  · refine ⟨ret_e ?_⟩
    unfold NI
    rw [decide_eq_false hs]; rfl
theorem r_sign (a : Int) : FC Tryz.prog G 80 [ZI a] (· = .val (.int .i64 a.sign)) := by
  refine by_sign (a := a) (p := fun p => FC _ _ _ [p] _) (fun hs => ?_) (fun hs => ?_)
  all_goals
    have hp := len_pos a.natAbs
    refine ax_i Tryz.func80 Tryz.ntmps80 ?_; intro F hG hO
    repeat' ((try (conv => whnf)); first
 | with_reducible first | refine ax_s ?_ | (refine ax_f ?_ ?_ <;> try intro hc) | fail)
  · exact ⟨ret_e (iv_eq (Int.sign_eq_neg_one_of_neg hs).symm)⟩
  · exact ⟨ret_e (iv_eq (by rw [show a = 0 by omega]; rfl))⟩
  · exact ⟨ret_e (iv_eq (Int.sign_eq_one_of_pos (by omega)).symm)⟩
theorem r_flip (a : Int) (h : LZ a ≤ 1099511627776) : FC Tryz.prog G 38 [ZI a] (· = ZI (-a)) := by
  unfold LZ at h
  refine by_sign (a := a) (p := fun p => FC _ _ _ [p] _) (fun hs => ?_) (fun hs => ?_)
  all_goals
    refine ax_i Tryz.func38 Tryz.ntmps38 ?_; intro F hG hO
    repeat' ((try (conv => whnf)); first
 | (refine cg ?_; refine ce (r_mk _ a.natAbs h) ?_)
 | with_reducible first | refine ax_s ?_ | (refine ax_f ?_ ?_ <;> try intro hc) | fail)
  · exact ⟨ret_e (zi_eq (a := sg false a.natAbs) (by simp only [sg]; omega))⟩
  · exact ⟨ret_e (zi_eq (a := sg true a.natAbs) (by simp only [sg]; omega))⟩
theorem cmpN_ge (X Y : Nat) : 0 ≤ cmpN X Y ↔ Y ≤ X := by
  unfold cmpN
  split
  · exact ⟨fun h => by omega, fun h => by omega⟩
  · split
    · exact ⟨fun h => by omega, fun h => by omega⟩
    · exact ⟨fun h => by omega, fun h => by omega⟩
theorem LZ_neg (a : Int) : LZ (-a) = LZ a := by unfold LZ; rw [Int.natAbs_neg]
theorem LZ_add (a b : Int) : LZ (a + b) ≤ max (LZ a) (LZ b) + 1 := Nat.le_trans (L32_mono (Int.natAbs_add_le a b)) (L32_add _ _)
theorem r_zadd (a b : Int) (ha : LZ a ≤ 1073741824) (hb : LZ b ≤ 1073741824) : FC Tryz.prog G 77 [ZI a, ZI b] (· = ZI (a + b)) := by
  unfold LZ at ha hb
  refine by_sign (a := a) (p := fun p => FC _ _ _ [p, _] _) (fun hs => ?_) (fun hs => ?_)
  all_goals
    refine by_sign (a := b) (p := fun p => FC _ _ _ [_, p] _) (fun ht => ?_) (fun ht => ?_)
  all_goals
    have hl := L32_add a.natAbs b.natAbs
    have hc1 := L32_mono (Nat.sub_le a.natAbs b.natAbs)
    have hc2 := L32_mono (Nat.sub_le b.natAbs a.natAbs)
    have hcm := cmpN_ge a.natAbs b.natAbs
    refine ax_i Tryz.func77 Tryz.ntmps77 ?_; intro F hG hO
    repeat' ((try (conv => whnf)); first
 | (refine cg ?_; refine ce (r_add a.natAbs b.natAbs ha hb) ?_)
 | (refine cg ?_; refine ce (r_cmp a.natAbs b.natAbs ha hb) ?_)
 | (refine cg ?_; refine ce (r_sub a.natAbs b.natAbs ha hb) ?_)
 | (refine cg ?_; refine ce (r_sub b.natAbs a.natAbs hb ha) ?_)
 | (refine cg ?_; refine ce (r_mk _ (a.natAbs + b.natAbs) (by omega)) ?_)
 | (refine cg ?_; refine ce (r_mk _ (a.natAbs - b.natAbs) (by omega)) ?_)
 | (refine cg ?_; refine ce (r_mk _ (b.natAbs - a.natAbs) (by omega)) ?_)
 | (refine dG (id := 2) [[0, 1, 2, 3, 4, 5, 6, 7], [8]] ?_)
 | (refine dG (id := 4) [[0, 1, 2, 3, 4, 5, 6, 7], [8]] ?_)
 | (refine dG (id := 5) [[0, 1, 2, 3, 4, 5, 6, 7], [8]] ?_)
 | with_reducible first | refine ax_s ?_ | (refine ax_f ?_ ?_ <;> try intro hc) | fail)
  all_goals first
    | exact ⟨ret_e (zi_eq (a := sg true (a.natAbs + b.natAbs)) (by simp only [sg]; omega))⟩
    | exact ⟨ret_e (zi_eq (a := sg false (a.natAbs + b.natAbs)) (by simp only [sg]; omega))⟩
    | exact ⟨ret_e (zi_eq (a := sg true (a.natAbs - b.natAbs)) (by have := hcm.1 (by omega); simp only [sg]; omega))⟩
    | exact ⟨ret_e (zi_eq (a := sg false (a.natAbs - b.natAbs)) (by have := hcm.1 (by omega); simp only [sg]; omega))⟩
    | exact ⟨ret_e (zi_eq (a := sg true (b.natAbs - a.natAbs)) (by have : ¬ b.natAbs ≤ a.natAbs := fun h => (by have := hcm.2 h; omega); simp only [sg]; omega))⟩
    | exact ⟨ret_e (zi_eq (a := sg false (b.natAbs - a.natAbs)) (by have : ¬ b.natAbs ≤ a.natAbs := fun h => (by have := hcm.2 h; omega); simp only [sg]; omega))⟩
theorem r_zsub (a b : Int) (ha : LZ a ≤ 1073741824) (hb : LZ b ≤ 1073741824) : FC Tryz.prog G 123 [ZI a, ZI b] (· = ZI (a - b)) := by
  have hn := LZ_neg b
  refine ax_i Tryz.func123 Tryz.ntmps123 ?_; intro F hG hO
  repeat' ((try (conv => whnf)); first
 | (refine cg ?_; refine ce (r_flip b (by omega)) ?_)
 | (refine cg ?_; refine ce (r_zadd a (-b) (by omega) (by omega)) ?_)
 | (refine dG (id := 1) [[0, 1, 2, 3], [4]] ?_)
 | with_reducible first | refine ax_s ?_ | (refine ax_f ?_ ?_ <;> try intro hc) | fail)
  exact ⟨ret_e (zi_eq (by omega))⟩
theorem sg_mul (x y : Nat) (s t : Bool) : sg (s != t) (x * y) = sg s x * sg t y := by
  cases s <;> cases t <;> simp [sg, Int.neg_mul, Int.mul_neg, Int.neg_neg]
theorem r_zmul (a b : Int) (ha : LZ a ≤ 536870912) (hb : LZ b ≤ 536870912) : FC Tryz.prog G 35 [ZI a, ZI b] (· = ZI (a * b)) := by
  unfold LZ at ha hb
  have ea := sg_of a
  have eb := sg_of b
  refine by_sign (a := a) (p := fun p => FC _ _ _ [p, _] _) (fun hs => ?_) (fun hs => ?_)
  all_goals
    refine by_sign (a := b) (p := fun p => FC _ _ _ [_, p] _) (fun ht => ?_) (fun ht => ?_)
  all_goals
    have hl := L32_mul a.natAbs b.natAbs
    refine ax_i Tryz.func35 Tryz.ntmps35 ?_; intro F hG hO
    repeat' ((try (conv => whnf)); first
 | (refine cg ?_; refine ce (r_mul a.natAbs b.natAbs (by omega) (by omega)) ?_)
 | (refine cg ?_; refine ce (r_mk _ (a.natAbs * b.natAbs) (by omega)) ?_)
 | (refine dG (id := 1) [[0, 1, 2, 3, 4, 5, 6, 7, 8, 9, 10], [11]] ?_)
 | with_reducible first | refine ax_s ?_ | (refine ax_f ?_ ?_ <;> try intro hc) | fail)
  · rw [decide_eq_true hs] at ea
    rw [decide_eq_true ht] at eb
    exact ⟨ret_e (zi_eq (a := sg (true != true) (a.natAbs * b.natAbs)) (by rw [sg_mul, ea, eb]))⟩
  · rw [decide_eq_true hs] at ea
    rw [decide_eq_false ht] at eb
    exact ⟨ret_e (zi_eq (a := sg (true != false) (a.natAbs * b.natAbs)) (by rw [sg_mul, ea, eb]))⟩
  · rw [decide_eq_false hs] at ea
    rw [decide_eq_true ht] at eb
    exact ⟨ret_e (zi_eq (a := sg (false != true) (a.natAbs * b.natAbs)) (by rw [sg_mul, ea, eb]))⟩
  · rw [decide_eq_false hs] at ea
    rw [decide_eq_false ht] at eb
    exact ⟨ret_e (zi_eq (a := sg (false != false) (a.natAbs * b.natAbs)) (by rw [sg_mul, ea, eb]))⟩
theorem r_zcmp (a b : Int) (ha : LZ a ≤ 1073741824) (hb : LZ b ≤ 1073741824) : FC Tryz.prog G 81 [ZI a, ZI b] (· = .val (.int .i64 (a - b).sign)) := by
  refine ax_i Tryz.func81 Tryz.ntmps81 ?_; intro F hG hO
  repeat' ((try (conv => whnf)); first
 | (refine cg ?_; refine ce (r_zsub a b ha hb) ?_)
 | (refine cg ?_; refine ce (r_sign (a - b)) ?_)
 | with_reducible first | refine ax_s ?_ | (refine ax_f ?_ ?_ <;> try intro hc) | fail)
  exact ⟨ret_e rfl⟩
theorem sg_pow (x k : Nat) (s : Bool) : sg s (x * 2 ^ k) = sg s x * 2 ^ k := by
  cases s <;> simp [sg, Int.neg_mul]
theorem r_zshl (a : Int) (n : Int) (ha : LZ a ≤ 268435456) (hn : inR .i64 n) (hn2 : n ≤ 8589934592) : FC Tryz.prog G 78 [ZI a, .val (.int .i64 n)] (· = ZI (a * 2 ^ n.toNat)) := by
  unfold LZ at ha
  have ea := sg_of a
  refine by_sign (a := a) (p := fun p => FC _ _ _ [p, _] _) (fun hs => ?_) (fun hs => ?_)
  all_goals
    have hl := L32_shl a.natAbs n.toNat
    refine ax_i Tryz.func78 Tryz.ntmps78 ?_; intro F hG hO
    repeat' ((try (conv => whnf)); first
 | (refine cg ?_; refine ce (r_shl a.natAbs n (by omega) hn hn2) ?_)
 | (refine cg ?_; refine ce (r_mk _ (a.natAbs * 2 ^ n.toNat) (by omega)) ?_)
 | (refine dG (id := 1) [[0, 1, 2, 3, 4, 5, 6], [7]] ?_)
 | with_reducible first | refine ax_s ?_ | (refine ax_f ?_ ?_ <;> try intro hc) | fail)
  · rw [decide_eq_true hs] at ea
    exact ⟨ret_e (zi_eq (a := sg true (a.natAbs * 2 ^ n.toNat)) (by rw [sg_pow, ea]))⟩
  · rw [decide_eq_false hs] at ea
    exact ⟨ret_e (zi_eq (a := sg false (a.natAbs * 2 ^ n.toNat)) (by rw [sg_pow, ea]))⟩
theorem div_of {a b q r : Int} (hb : 0 < b) (h : r + b * q = a) (h0 : 0 ≤ r) (h1 : r < b) : a / b = q ∧ a % b = r := (Int.ediv_emod_unique hb).2 ⟨h, h0, h1⟩
theorem nat_dm (x y : Nat) (hy : 0 < y) : ((x % y : Nat) : Int) + (y : Int) * ((x / y : Nat) : Int) = x ∧ ((x % y : Nat) : Int) < y := by
  have := Nat.mod_add_div x y
  have h2 := Nat.mod_lt x hy
  refine ⟨?_, by omega⟩
  have h3 : ((x % y + y * (x / y) : Nat) : Int) = (x : Int) := by rw [this]
  simpa using h3
theorem zi_zero : ZI 0 = .agg [.val (.bool false), .ws .u32 []] := by
  unfold ZI
  rw [show d32 (Int.natAbs 0) = [] from dgs_nil (B := 4294967296) (by decide)]
  rfl
theorem lp_zi0 : Lp (.agg [.val (.bool false), .nil]) (ZI 0) := by
  rw [zi_zero]
  exact .agg (.cons (.refl _) (.cons (.nil _) .nil))
theorem tup_zi {a b c d : Int} (h1 : a = c) (h2 : b = d) : PV.tup [ZI a, ZI b] = .tup [ZI c, ZI d] := by rw [h1, h2]
theorem r_zfloor (a b : Int) (ha : LZ a ≤ 268435454) (hb : LZ b ≤ 268435454) : FC Tryz.prog G 218 [ZI a, ZI b] (· = .tup [ZI (if 0 < b then a / b else 0), ZI (if 0 < b then a % b else 0)]) := by
  unfold LZ at ha hb
  have hsb := r_sign (G := G) b
  by_cases h0 : 0 < b
  · have h0' := h0
    rw [if_pos h0, if_pos h0]
    have hsg : 0 < b.sign := by rw [Int.sign_eq_one_of_pos h0]; decide
    rw [zi_pos (show ¬ b < 0 by omega)] at hsb ⊢
    obtain ⟨d1, d2⟩ := nat_dm a.natAbs b.natAbs (by omega)
    have hbn : ((b.natAbs : Nat) : Int) = b := by omega
    rw [hbn] at d1 d2
    have l1 : L32 1 ≤ 1 := L32_le (by decide)
    have lq := L32_mono (Nat.div_le_self a.natAbs b.natAbs)
    have lr := L32_mono (Nat.mod_le a.natAbs b.natAbs)
    have lq1 := L32_add (a.natAbs / b.natAbs) 1
    have lb := L32_mono (Nat.sub_le b.natAbs (a.natAbs % b.natAbs))
    have hp := len_pos (a.natAbs % b.natAbs)
    have hdm := r_divmod (G := G) a.natAbs b.natAbs (by omega) (by omega)
    rw [if_neg (show ¬ b.natAbs = 0 by omega)] at hdm
    obtain ⟨q, hq⟩ : ∃ q, q = a.natAbs / b.natAbs := ⟨_, rfl⟩
    obtain ⟨r, hr⟩ : ∃ r, r = a.natAbs % b.natAbs := ⟨_, rfl⟩
    rw [← hq] at d1 lq lq1 hdm
    rw [← hr] at d1 d2 lr lb hp hdm
    refine by_sign (a := a) (p := fun p => FC _ _ _ [p, _] _) (fun hs => ?_) (fun hs => ?_)
    all_goals
      refine ax_i Tryz.func218 Tryz.ntmps218 ?_; intro F hG hO
      rw [← hG] at hsb hdm
      repeat' ((try (conv => whnf)); first
 | refine ce hsb ?_ | refine ce hdm ?_
 | (refine cg ?_; refine ce (r_mk _ q (by omega)) ?_)
 | (refine cg ?_; refine ce (r_mk _ r (by omega)) ?_)
 | (refine cg ?_; refine ce (r_word 1 (by decide)) ?_)
 | (refine cg ?_; refine ce (r_add q 1 (by omega) (by omega)) ?_)
 | (refine cg ?_; refine ce (r_mk _ (q + 1) (by omega)) ?_)
 | (refine cg ?_; refine ce (r_sub b.natAbs r (by omega) (by omega)) ?_)
 | (refine cg ?_; refine ce (r_mk _ (b.natAbs - r) (by omega)) ?_)
 | (refine dG (id := 6) [[0, 4, 5, 6, 1, 2, 3, 7, 8], [9], [10]] ?_)
 | with_reducible first | refine ax_s ?_ | (refine ax_f ?_ ?_ <;> try intro hc) | fail)
    · have h0 : r = 0 := by omega
      have := div_of (a := a) (b := b) (q := sg true q) (r := sg false r) h0' (by simp only [sg, Int.mul_neg]; omega) (by simp only [sg]; omega) (by simp only [sg]; omega)
      exact ⟨ret_e (tup_zi (a := sg true q) (b := sg false r) this.1.symm this.2.symm)⟩
    · have := div_of (a := a) (b := b) (q := sg true (q + 1)) (r := sg false (b.natAbs - r)) h0' (by simp only [sg, Int.mul_neg, Int.natCast_add, Int.mul_add, Int.mul_one]; omega) (by simp only [sg]; omega) (by simp only [sg]; omega)
      exact ⟨ret_e (tup_zi (a := sg true (q + 1)) (b := sg false (b.natAbs - r)) this.1.symm this.2.symm)⟩
    · have := div_of (a := a) (b := b) (q := sg false q) (r := sg false r) h0' (by simp only [sg]; omega) (by simp only [sg]; omega) (by simp only [sg]; omega)
      exact ⟨ret_e (tup_zi (a := sg false q) (b := sg false r) this.1.symm this.2.symm)⟩
  · rw [if_neg h0, if_neg h0]
    have hsg : b.sign ≤ 0 := Int.not_lt.1 fun h => h0 (Int.sign_pos_iff.1 h)
    refine by_sign (a := b) (p := fun p => FC _ _ _ [p] _ → FC _ _ _ [_, p] _) (fun hs hsb => ?_) (fun hs hsb => ?_) hsb
    all_goals
      refine ax_i Tryz.func218 Tryz.ntmps218 ?_; intro F hG hO
      rw [← hG] at hsb
      repeat' ((try (conv => whnf)); first
 | refine ce hsb ?_
 | (refine dG (id := 6) [[0, 4, 5, 6, 1, 2, 3, 7, 8], [9], [10]] ?_)
 | with_reducible first | refine ax_s ?_ | (refine ax_f ?_ ?_ <;> try intro hc) | fail)
    all_goals exact ⟨ret_l (.tup [ZI 0, ZI 0]) (.tup (.cons lp_zi0 (.cons lp_zi0 .nil))) rfl⟩
theorem fdiv_if (a b : Int) : (if b < 0 then (if 0 < -b then (-a) / (-b) else 0) else (if 0 < b then a / b else 0)) = a.fdiv b := by
  by_cases h : b < 0
  · rw [if_pos h, if_pos (by omega), ← Int.neg_fdiv_neg, Int.fdiv_eq_ediv_of_nonneg _ (by omega)]
  · rw [if_neg h]
    by_cases h2 : 0 < b
    · rw [if_pos h2, Int.fdiv_eq_ediv_of_nonneg _ (by omega)]
    · rw [if_neg h2, show b = 0 by omega, Int.fdiv_zero]
theorem r_zfdiv (a b : Int) (ha : LZ a ≤ 268435454) (hb : LZ b ≤ 268435454) : FC Tryz.prog G 210 [ZI a, ZI b] (· = ZI (a.fdiv b)) := by
  have ha' := LZ_neg a
  have hb' := LZ_neg b
  have f1 := r_flip (G := G) a (by omega)
  have f2 := r_flip (G := G) b (by omega)
  have f3 := r_zfloor (G := G) (-a) (-b) (by omega) (by omega)
  have f4 := r_zfloor (G := G) a b ha hb
  have e := fdiv_if a b
  by_cases h : b < 0
  · rw [if_pos h] at e
    rw [e] at f3
    refine ax_i Tryz.func210 Tryz.ntmps210 ?_; intro F hG hO
    rw [← hG] at f1 f2 f3 f4
    rw [zi_neg h] at f2 ⊢
    repeat' ((try (conv => whnf)); first
 | refine ce f1 ?_ | refine ce f2 ?_ | refine ce f3 ?_
 | (refine dG (id := 2) [[0, 2, 1, 3], [4], [5]] ?_)
 | with_reducible first | refine ax_s ?_ | (refine ax_f ?_ ?_ <;> try intro hc) | fail)
    exact ⟨ret_e rfl⟩
  · rw [if_neg h] at e
    rw [e] at f4
    refine ax_i Tryz.func210 Tryz.ntmps210 ?_; intro F hG hO
    rw [← hG] at f1 f2 f3 f4
    rw [zi_pos h] at f4 ⊢
    repeat' ((try (conv => whnf)); first
 | refine ce f4 ?_
 | (refine dG (id := 2) [[0, 2, 1, 3], [4], [5]] ?_)
 | with_reducible first | refine ax_s ?_ | (refine ax_f ?_ ?_ <;> try intro hc) | fail)
    exact ⟨ret_e rfl⟩
theorem r_zcdiv (a b : Int) (ha : LZ a ≤ 268435454) (hb : LZ b ≤ 268435454) : FC Tryz.prog G 211 [ZI a, ZI b] (· = ZI (-((-a).fdiv b))) := by
  have ha' := LZ_neg a
  have hq : LZ ((-a).fdiv b) ≤ 268435456 := by
    have h1 : ((-a).fdiv b).natAbs ≤ a.natAbs + 1 := by
      rw [← fdiv_if]
      have key : ∀ x y : Int, 0 < y → (x / y).natAbs ≤ x.natAbs + 1 := fun x y hy => by
        have h1 := Int.mul_ediv_add_emod x y
        have h2 := Int.emod_nonneg x (show y ≠ 0 by omega)
        have h3 := Int.emod_lt_of_pos x hy
        rcases Int.lt_or_le x 0 with hx | hx
        · have h4 : x / y < 0 := Int.ediv_neg_of_neg_of_pos hx hy
          have h5 : x ≤ x / y := by
            have := Int.ediv_mul_le x (show y ≠ 0 by omega)
            rcases Int.lt_or_le (x / y) x with h6 | h6
            · exfalso
              have h7 : (x / y) + 1 ≤ x := h6
              have h8 : y * (x / y + 1) ≤ y * x := Int.mul_le_mul_of_nonneg_left h7 (by omega)
              have h9 : y * x ≤ 1 * x := Int.mul_le_mul_of_nonpos_right (by omega) (by omega)
              rw [Int.mul_add, Int.mul_one] at h8
              omega
            · exact h6
          omega
        · have h4 := Int.ediv_nonneg hx (show 0 ≤ y by omega)
          have h5 := Int.ediv_le_self y hx
          omega
      split
      · split
        · have := key (- -a) (-b) (by omega); omega
        · simp
      · split
        · have := key (-a) b (by omega); omega
        · simp
    have h2 := L32_mono h1
    have h3 := L32_add a.natAbs 1
    have h4 : L32 1 ≤ 1 := L32_le (by decide)
    unfold LZ at ha ⊢
    omega
  refine ax_i Tryz.func211 Tryz.ntmps211 ?_; intro F hG hO
  repeat' ((try (conv => whnf)); first
 | (refine cg ?_; refine ce (r_flip a (by omega)) ?_)
 | (refine cg ?_; refine ce (r_zfdiv (-a) b (by omega) hb) ?_)
 | (refine cg ?_; refine ce (r_flip ((-a).fdiv b) (by omega)) ?_)
 | (refine dG (id := 1) [[0, 2, 1, 3, 4], [5]] ?_)
 | with_reducible first | refine ax_s ?_ | (refine ax_f ?_ ?_ <;> try intro hc) | fail)
  exact ⟨ret_e rfl⟩
theorem r_zfshr (a n : Int) (ha : LZ a ≤ 268435454) (hn : inR .i64 n) : FC Tryz.prog G 228 [ZI a, .val (.int .i64 n)] (· = ZI (a / 2 ^ n.toNat)) := by
  unfold LZ at ha
  have l1 : L32 1 ≤ 1 := L32_le (by decide)
  have lq := L32_mono (Nat.div_le_self a.natAbs (2 ^ n.toNat))
  have lr := L32_mono (Nat.mod_le a.natAbs (2 ^ n.toNat))
  have hp := len_pos (a.natAbs % 2 ^ n.toNat)
  obtain ⟨P, hP⟩ : ∃ P, P = 2 ^ n.toNat := ⟨_, rfl⟩
  have hP0 : 0 < P := by rw [hP]; exact Nat.pow_pos (by decide)
  have hPi : (2 : Int) ^ n.toNat = (P : Int) := by rw [hP]; simp
  obtain ⟨d1, d2⟩ := nat_dm a.natAbs P hP0
  have f1 := r_shr (G := G) a.natAbs n (by omega) hn
  have f2 := r_low (G := G) a.natAbs n (by omega) hn
  rw [hPi]
  rw [← hP] at lq lr hp f1 f2
  obtain ⟨q, hq⟩ : ∃ q, q = a.natAbs / P := ⟨_, rfl⟩
  obtain ⟨r, hr⟩ : ∃ r, r = a.natAbs % P := ⟨_, rfl⟩
  rw [← hq] at d1 lq f1
  rw [← hr] at d1 d2 lr hp f2
  have hle : Unit → n ≤ 0 → P = 1 := fun _ h => by rw [hP, show n.toNat = 0 by omega]
  have ls : ∀ b, LZ (sg b q) ≤ 268435454 := fun b => by unfold LZ; rw [sg_abs]; omega
  refine by_sign (a := a) (p := fun p => FC _ _ _ [p, _] _) (fun hs => ?_) (fun hs => ?_)
  all_goals
    refine ax_i Tryz.func228 Tryz.ntmps228 ?_; intro F hG hO
    rw [← hG] at f1 f2
    repeat' ((try (conv => whnf)); first
 | refine ce f1 ?_ | refine ce f2 ?_
 | (refine cg ?_; refine ce (r_mk _ a.natAbs (by omega)) ?_)
 | (refine cg ?_; refine ce (r_mk _ q (by omega)) ?_)
 | (refine cg ?_; refine call_eq (r_of 1 (by dsimp only [inR]; omega)) (LpL.refl _) rfl ?_)
 | (refine cg ?_; refine call_eq (r_zsub (sg true q) 1 (by have := ls true; omega) (by have : LZ 1 = L32 1 := rfl; omega)) (LpL.refl _) rfl ?_)
 | (refine dT (id := 3) (.one 0 (.one 1 (.one 2 (.one 3 (.one 4 (.two (.one 5 (.two (.one 6 (.one 7 (.st (.one 8 (.fin))))) (.one 7 (.one 6 (.st (.one 8 (.fin))))))) (.one 7 (.one 5 (.one 6 (.st (.one 8 (.fin)))))))))))) ?_)
 | (refine dG (id := 5) [[0, 1, 2], [3]] ?_)
 | with_reducible first | refine ax_s ?_ | (refine ax_f ?_ ?_ <;> try intro hc) | fail)
  all_goals first
    | (exact ⟨ret_e (zi_eq (a := sg true a.natAbs) (by rw [hle () (by omega)]; simp only [sg]; omega))⟩)
    | (exact ⟨ret_e (zi_eq (a := sg false a.natAbs) (by rw [hle () (by omega)]; simp only [sg]; omega))⟩)
    | (exact ⟨ret_e (zi_eq (a := sg true q - 1) (div_of (a := a) (b := (P : Int)) (q := sg true q - 1) (r := (P : Int) - r) (by omega) (by simp only [sg, Int.mul_sub, Int.mul_neg, Int.mul_one]; omega) (by omega) (by omega)).1.symm)⟩)
    | (exact ⟨ret_e (zi_eq (a := sg true q) (div_of (a := a) (b := (P : Int)) (q := sg true q) (r := r) (by omega) (by simp only [sg, Int.mul_neg]; omega) (by omega) (by omega)).1.symm)⟩)
    | (exact ⟨ret_e (zi_eq (a := sg false q) (div_of (a := a) (b := (P : Int)) (q := sg false q) (r := r) (by omega) (by simp only [sg]; omega) (by omega) (by omega)).1.symm)⟩)
theorem LZ_shr (a : Int) (k : Nat) : LZ (a / 2 ^ k) ≤ LZ a + 2 := by
  obtain ⟨P, hP⟩ : ∃ P, P = 2 ^ k := ⟨_, rfl⟩
  have hP0 : 0 < P := by rw [hP]; exact Nat.pow_pos (by decide)
  have hPi : (2 : Int) ^ k = (P : Int) := by rw [hP]; simp
  rw [hPi]
  have h1 : (a / (P : Int)).natAbs ≤ a.natAbs + 1 := by
    have h1 := Int.mul_ediv_add_emod a P
    have h2 := Int.emod_nonneg a (show (P : Int) ≠ 0 by omega)
    have h3 := Int.emod_lt_of_pos a (show (0 : Int) < P by omega)
    rcases Int.lt_or_le a 0 with hx | hx
    · have h4 : a / (P : Int) < 0 := Int.ediv_neg_of_neg_of_pos hx (by omega)
      rcases Int.lt_or_le (a / (P : Int) + 1) a with h6 | h6
      · exfalso
        have h8 : (P : Int) * (a / P + 1) ≤ 1 * (a / P + 1) := Int.mul_le_mul_of_nonpos_right (by omega) (by omega)
        rw [Int.mul_add, Int.mul_one] at h8
        omega
      · omega
    · have h4 := Int.ediv_nonneg hx (show (0 : Int) ≤ P by omega)
      have h5 := Int.ediv_le_self P hx
      omega
  have h2 := L32_mono h1
  have h3 := L32_add a.natAbs 1
  have h4 : L32 1 ≤ 1 := L32_le (by decide)
  unfold LZ
  omega
theorem r_zcshr (a n : Int) (ha : LZ a ≤ 268435454) (hn : inR .i64 n) : FC Tryz.prog G 227 [ZI a, .val (.int .i64 n)] (· = ZI (-((-a) / 2 ^ n.toNat))) := by
  have ha' := LZ_neg a
  have hq := LZ_shr (-a) n.toNat
  refine ax_i Tryz.func227 Tryz.ntmps227 ?_; intro F hG hO
  repeat' ((try (conv => whnf)); first
 | (refine cg ?_; refine ce (r_flip a (by omega)) ?_)
 | (refine cg ?_; refine ce (r_zfshr (-a) n (by omega) hn) ?_)
 | (refine cg ?_; refine ce (r_flip ((-a) / 2 ^ n.toNat) (by omega)) ?_)
 | with_reducible first | refine ax_s ?_ | (refine ax_f ?_ ?_ <;> try intro hc) | fail)
  exact ⟨ret_e rfl⟩
def Dy (b : Bool) (l : List Int) (e : Int) : PV := .agg [.val (.bool b), .ws .u64 l, .val (.int .i64 e)]
def DY (n e : Int) : PV := .agg [.val (.bool (decide (n < 0))), .ws .u64 (d64 n.natAbs), .val (.int .i64 e)]
def formL (l : List Int) : Bool := decide (l.length ≤ 8192) && (decide (l.length = 0) || decide (rd l ((l.length : Int) - 1) ≠ 0))
def dyF (b : Bool) (l : List Int) (e : Int) : Bool := formL l && decide (-1048576 ≤ e) && decide (e ≤ 1048576) && (if l.length = 0 then !b && decide (e = 0) else decide (rd l 0 % 2 = 1))
def Good (n e : Int) : Prop := L64 n.natAbs ≤ 8192 ∧ -1048576 ≤ e ∧ e ≤ 1048576 ∧ (n = 0 → e = 0) ∧ (n ≠ 0 → n % 2 = 1)
theorem L64_pos (m : Nat) : 0 < L64 m ↔ 0 < m := by
  have h := lenB_eq_zero (B := 18446744073709551616) (by decide) (x := m)
  unfold L64
  omega
theorem len64_pos (m : Nat) : (0 : Int) < ((d64 m).length : Int) ↔ 0 < m := by
  have hl : (d64 m).length = L64 m := rfl
  have hp := L64_pos m
  omega
theorem trim_snoc_ne {l : List Int} {x : Int} (h : x ≠ 0) : trim (l ++ [x]) = l ++ [x] := by
  induction l with
 | nil => simp [trim, h]
 | cons y l ih =>
    rw [List.cons_append, trim, ih]
    have : (l ++ [x]).isEmpty = false := by cases l <;> rfl
    simp
theorem formL_trim {l : List Int} (h : formL l = true) : trim l = l ∧ l.length ≤ 8192 := by
  unfold formL at h
  simp only [Bool.and_eq_true, Bool.or_eq_true, decide_eq_true_eq] at h
  refine ⟨?_, h.1⟩
  rcases h.2 with h1 | h1
  · have : l = [] := List.eq_nil_of_length_eq_zero h1
    subst this; rfl
  · rcases List.eq_nil_or_concat l with h2 | ⟨m, x, h2⟩
    · subst h2; rfl
    · rw [List.concat_eq_append] at h2
      subst h2
      refine trim_snoc_ne ?_
      intro h0
      apply h1
      subst h0
      simp [rd, List.getD_eq_getElem?_getD]
theorem formL_eq {l : List Int} (ok : okD 18446744073709551616 l) (h : formL l = true) : l = d64 (vl 18446744073709551616 l).toNat ∧ L64 (vl 18446744073709551616 l).toNat ≤ 8192 := by
  obtain ⟨h1, h2⟩ := formL_trim h
  have h3 : l = d64 (vl 18446744073709551616 l).toNat := by
    have := trim_dgs (B := 18446744073709551616) (by decide) ok
    rw [h1] at this
    exact this
  refine ⟨h3, ?_⟩
  have : (d64 (vl 18446744073709551616 l).toNat).length ≤ 8192 := by rw [← h3]; exact h2
  exact this
theorem d64_top (m : Nat) (h : m ≠ 0) : rd (d64 m) (((d64 m).length : Int) - 1) ≠ 0 := by
  have hp := (L64_pos m).2 (by omega)
  have hl : (d64 m).length = L64 m := rfl
  rw [hl, show ((L64 m : Int) - 1) = ((L64 m - 1 : Nat) : Int) by omega, d64_rd]
  obtain ⟨h1, h2⟩ := top64 h
  rw [Nat.mod_eq_of_lt h1]
  omega
theorem formL_d64 (m : Nat) : formL (d64 m) = decide (L64 m ≤ 8192) := by
  unfold formL
  have hl : (d64 m).length = L64 m := rfl
  by_cases h : m = 0
  · have : L64 m = 0 := by subst h; exact lenB_zero _
    rw [hl, this]; rfl
  · rw [decide_eq_true (d64_top m h), Bool.or_true, Bool.and_true, hl]
theorem rd64_0 (m : Nat) : rd (d64 m) 0 = ((m % 18446744073709551616 : Nat) : Int) := by
  have := d64_rd m 0
  rw [Nat.mul_zero, Nat.pow_zero, Nat.div_one] at this
  exact this
theorem dyF_DY (n e : Int) (h : Good n e) : dyF (decide (n < 0)) (d64 n.natAbs) e = true := by
  obtain ⟨h1, h2, h3, h4, h5⟩ := h
  unfold dyF
  rw [formL_d64, decide_eq_true h1, decide_eq_true h2, decide_eq_true h3]
  have hl := len64_pos n.natAbs
  by_cases h0 : n = 0
  · rw [if_pos (by omega), decide_eq_false (by omega), decide_eq_true (h4 h0)]; rfl
  · rw [if_neg (by omega), rd64_0, decide_eq_true (by have := h5 h0; omega)]; rfl
theorem dyF_ex {b : Bool} {l : List Int} {e : Int} (ok : okD 18446744073709551616 l) (h : dyF b l e = true) : ∃ n, Good n e ∧ Dy b l e = DY n e := by
  unfold dyF at h
  simp only [Bool.and_eq_true, decide_eq_true_eq] at h
  obtain ⟨⟨⟨h1, h2⟩, h3⟩, h4⟩ := h
  obtain ⟨g1, g2⟩ := formL_eq ok h1
  obtain ⟨m, hm⟩ : ∃ m, m = (vl 18446744073709551616 l).toNat := ⟨_, rfl⟩
  rw [← hm] at g1 g2
  subst g1
  have hl := len64_pos m
  by_cases h0 : m = 0
  · rw [if_pos (by omega)] at h4
    simp only [Bool.and_eq_true, Bool.not_eq_true', decide_eq_true_eq] at h4
    subst h0
    refine ⟨0, ⟨by simpa using g2, h2, h3, fun _ => h4.2, fun h => absurd rfl h⟩, ?_⟩
    rw [h4.1, h4.2]; rfl
  · rw [if_neg (by omega), rd64_0] at h4
    have h5 : ((m % 18446744073709551616 : Nat) : Int) % 2 = 1 := by simpa using h4
    refine ⟨sg b m, ⟨by rw [sg_abs]; exact g2, h2, h3, fun h => ?_, fun _ => ?_⟩, ?_⟩
    · cases b <;> simp only [sg] at h <;> omega
    · cases b <;> simp only [sg] <;> omega
    · unfold Dy DY
      rw [sg_abs]
      congr 4
      cases b
      · simp only [sg]; exact (decide_eq_false (by omega)).symm
      · simp only [sg]; exact (decide_eq_true (by omega)).symm
theorem bv_eq {a b : Bool} (h : a = b) : PV.val (.bool a) = PV.val (.bool b) := by rw [h]
theorem r_docforml (l : List Int) : FC Tryz.prog G 105 [.ws .u64 l] (· = .val (.bool (formL l))) := by
  refine ax_i Tryz.func105 Tryz.ntmps105 ?_; intro F hG hO
  repeat' ((try (conv => whnf)); first
 | with_reducible first | refine ax_s ?_ | (refine ax_f ?_ ?_ <;> try intro hc) | fail)
  · refine ⟨ret_e (bv_eq ?_)⟩
    unfold formL
    rw [decide_eq_true (show l.length ≤ 8192 by omega), decide_eq_true (show l.length = 0 by omega)]; rfl
  · refine ⟨ret_e (bv_eq ?_)⟩
    unfold formL
    rw [decide_eq_true (show l.length ≤ 8192 by omega), decide_eq_false (show ¬ l.length = 0 by omega)]; rfl
  · refine ⟨ret_e (bv_eq ?_)⟩
    unfold formL
    rw [decide_eq_false (show ¬ l.length ≤ 8192 by omega)]; rfl
theorem r_twinl (l : List Int) (h : l.length ≤ 17592186044415) : FC Tryz.prog G 73 [.ws .u64 l] (· = .ws .u64 l) := by
  refine ax_i Tryz.func73 Tryz.ntmps73 ?_; intro F hG hO
  repeat' ((try (conv => whnf)); first
 | with_reducible first | refine ax_s ?_ | (refine ax_f ?_ ?_ <;> try intro hc) | fail)
  refine ⟨⟨by simp, ret_e ?_⟩⟩
  simp
theorem r_docform (b : Bool) (l : List Int) (e : Int) (hb : 0 ≤ rd l 0 ∧ rd l 0 < 18446744073709551616) : FC Tryz.prog G 64 [Dy b l e] (· = .val (.bool (dyF b l e))) := by
  have f1 := r_docforml (G := G) l
  refine ax_i Tryz.func64 Tryz.ntmps64 ?_; intro F hG hO
  rw [← hG] at f1
  repeat' ((try (conv => whnf)); first
 | refine ce f1 ?_
 | (with_reducible refine mask_g (m := 2) 1 rfl rfl (by decide) hb ?_)
 | with_reducible first | refine ax_s ?_ | (refine ax_f ?_ ?_ <;> try intro hc) | fail)
  all_goals (refine ⟨ret_e (bv_eq ?_)⟩; unfold dyF)
  · rename_i a1
    rw [a1, decide_eq_false (show ¬ -1048576 ≤ e by omega)]; try rfl
  · rename_i a1 a2
    rw [a1, decide_eq_true (show -1048576 ≤ e by omega), decide_eq_false (show ¬ e ≤ 1048576 by omega)]; try rfl
  · rename_i a1 a2 a3 a4
    rw [a1, hc, decide_eq_true (show -1048576 ≤ e by omega), decide_eq_true (show e ≤ 1048576 by omega), if_pos (show l.length = 0 by omega)]; try rfl
  · rename_i a1 a2 a3 a4
    rw [a1, hc, decide_eq_true (show -1048576 ≤ e by omega), decide_eq_true (show e ≤ 1048576 by omega), if_pos (show l.length = 0 by omega)]; try rfl
  · rename_i a1 a2 a3
    rw [a1, decide_eq_true (show -1048576 ≤ e by omega), decide_eq_true (show e ≤ 1048576 by omega), if_neg (show ¬ l.length = 0 by omega)]; try rfl
  · rw [hc]; try rfl
def dyR (n e : Int) : PV := .tup [DY n e, .val (.int .i64 0)]
def dyE (c : Int) : PV := .tup [DY 0 0, .val (.int .i64 c)]
def toldS (n e : Int) : PV :=
  if n = 0 then dyE 0 else if 1048576 < e then dyE 5 else if e < -1099511627776 then dyE 5 else if 16384 < L32 (n.natAbs / 2 ^ tz n.natAbs) then dyE 5
  else if e + tz n.natAbs < -1048576 then dyE 5 else if 1048576 < e + tz n.natAbs then dyE 5 else dyR (n / 2 ^ tz n.natAbs) (e + tz n.natAbs)
theorem d64_0 : d64 0 = [] := dgs_nil (B := 18446744073709551616) (by decide)
theorem DY_zero : DY 0 0 = .agg [.val (.bool false), .ws .u64 [], .val (.int .i64 0)] := by
  unfold DY
  rw [show d64 (Int.natAbs 0) = [] from d64_0]
  rfl
theorem lp_dy0 : Lp (.agg [.val (.bool false), .nil, .val (.int .i64 0)]) (DY 0 0) := by
  rw [DY_zero]
  exact .agg (.cons (.refl _) (.cons (.nil _) (.cons (.refl _) .nil)))
theorem lp_dyE (c : Int) : Lp (.tup [.agg [.val (.bool false), .nil, .val (.int .i64 0)], .val (.int .i64 c)]) (dyE c) := .tup (.cons lp_dy0 (.cons (.refl _) .nil))
theorem r_nought (b : Bool) (l : List Int) (e : Int) : FC Tryz.prog G 189 [Dy b l e] (· = .val (.bool (decide ((l.length : Int) = 0)))) := by
  refine ax_i Tryz.func189 Tryz.ntmps189 ?_; intro F hG hO
  repeat' ((try (conv => whnf)); first
 | with_reducible first | refine ax_s ?_ | (refine ax_f ?_ ?_ <;> try intro hc) | fail)
  exact ⟨ret_e rfl⟩
theorem r_twin (b : Bool) (l : List Int) (e : Int) (h : l.length ≤ 17592186044415) : FC Tryz.prog G 190 [Dy b l e] (· = Dy b l e) := by
  have f1 := r_twinl (G := G) l h
  refine ax_i Tryz.func190 Tryz.ntmps190 ?_; intro F hG hO
  rw [← hG] at f1
  repeat' ((try (conv => whnf)); first
 | refine ce f1 ?_
 | (refine dG (id := 1) [[0, 1, 2, 3, 4, 5, 8, 9, 6, 7, 10], [11]] ?_)
 | with_reducible first | refine ax_s ?_ | (refine ax_f ?_ ?_ <;> try intro hc) | fail)
  exact ⟨ret_e rfl⟩
def sameB (b : Bool) (l : List Int) (e : Int) (b' : Bool) (l' : List Int) (e' : Int) : Bool := (b == b') && decide (e = e') && decide (l = l')
theorem tz_lt {n : Nat} (h : n ≠ 0) : tz n < 32 * L32 n := by
  obtain ⟨h1, h2⟩ := odd_div h
  have h3 := L32_lt n
  have h4 : 2 ^ tz n ≤ n := by
    have h5 : 1 ≤ n / 2 ^ tz n := by
      rcases Nat.eq_zero_or_pos (n / 2 ^ tz n) with h5 | h5
      · rw [h5] at h2; cases h2
      · exact h5
    have h6 : 1 * 2 ^ tz n ≤ n / 2 ^ tz n * 2 ^ tz n := Nat.mul_le_mul_right _ h5
    rw [← h1, Nat.one_mul] at h6
    exact h6
  exact (Nat.pow_lt_pow_iff_right (a := 2) (by decide)).1 (Nat.lt_of_le_of_lt h4 h3)
theorem exact_div {n : Int} {q t : Nat} (h : n.natAbs = q * 2 ^ t) : n / 2 ^ t = sg (decide (n < 0)) q := by
  have h1 := sg_of n
  rw [h, sg_pow] at h1
  have hp : (0 : Int) < 2 ^ t := Int.pow_pos (by decide)
  conv => lhs; rw [← h1]
  exact Int.mul_ediv_cancel _ (by omega)
theorem r_told (n e : Int) (hn : LZ n ≤ 268435454) (he : inR .i64 e) : FC Tryz.prog G 161 [ZI n, .val (.int .i64 e)] (· = toldS n e) := by
  dsimp only [inR] at he
  have hz := r_zeros (G := G) n.natAbs (by unfold LZ at hn; omega)
  have hp := len_pos n.natAbs
  have hdv : n ≠ 0 → n.natAbs = n.natAbs / 2 ^ tz n.natAbs * 2 ^ tz n.natAbs ∧ n.natAbs / 2 ^ tz n.natAbs % 2 = 1 := fun h => odd_div (n := n.natAbs) (by omega)
  unfold toldS
  obtain ⟨t, ht⟩ : ∃ t, t = tz n.natAbs := ⟨_, rfl⟩
  rw [← ht] at hz hdv ⊢
  have lq := L32_mono (Nat.div_le_self n.natAbs (2 ^ t))
  have htb : t ≤ 8589934592 := by
    by_cases h : n = 0
    · rw [ht, h]; exact Nat.le_trans (Nat.le_of_eq tz_zero) (by decide)
    · have := tz_lt (n := n.natAbs) (by omega)
      unfold LZ at hn
      omega
  unfold LZ at hn
  have f1 := r_shr (G := G) n.natAbs (t : Int) (by omega) (by dsimp only [inR]; omega)
  rw [Int.toNat_natCast] at f1
  obtain ⟨q, hq⟩ : ∃ q, q = n.natAbs / 2 ^ t := ⟨_, rfl⟩
  rw [← hq] at f1 lq hdv ⊢
  have hql : (d32 q).length = L32 q := rfl
  have f3 := r_zto (G := G) (sg (decide (n < 0)) q) (by unfold LZ; rw [sg_abs]; omega)
  refine by_sign (a := n) (p := fun p => FC _ _ _ [p, _] _) (fun hs => ?_) (fun hs => ?_)
  · have hx := exact_div (n := n) (q := q) (t := t) (by have := hdv (by omega); omega)
    rw [decide_eq_true hs] at f3 hx
    rw [hx]
    have hn0 : n ≠ 0 := by omega
    refine ax_i Tryz.func161 Tryz.ntmps161 ?_; intro F hG hO
    rw [← hG] at hz f1 f3
    repeat' ((try (conv => whnf)); first
 | refine ce hz ?_ | refine ce f1 ?_
 | (refine cg ?_; refine ce (r_mk _ q (by omega)) ?_)
 | refine ce f3 ?_
 | with_reducible first | refine ax_s ?_ | (refine ax_f ?_ ?_ <;> try intro hc) | fail)
    all_goals first
      | (exact ⟨ret_l _ (lp_dyE 5) (by repeat (first | rfl | rw [if_neg (by omega)] | rw [if_pos (by omega)]))⟩)
      | (exact ⟨ret_l _ (lp_dyE 0) (by repeat (first | rfl | rw [if_pos (by omega)]))⟩)
      | (refine ⟨ret_e ?_⟩; repeat (first | rfl | rw [if_neg (by omega)]))
  · have hx := exact_div (n := n) (q := q) (t := t) (by by_cases h : n = 0; (rw [hq, h]; simp); (have := hdv h; omega))
    rw [decide_eq_false hs] at f3 hx
    rw [hx]
    refine ax_i Tryz.func161 Tryz.ntmps161 ?_; intro F hG hO
    rw [← hG] at hz f1 f3
    repeat' ((try (conv => whnf)); first
 | refine ce hz ?_ | refine ce f1 ?_
 | (refine cg ?_; refine ce (r_mk _ q (by omega)) ?_)
 | refine ce f3 ?_
 | with_reducible first | refine ax_s ?_ | (refine ax_f ?_ ?_ <;> try intro hc) | fail)
    all_goals first
      | (exact ⟨ret_l _ (lp_dyE 5) (by repeat (first | rfl | rw [if_neg (by omega)] | rw [if_pos (by omega)]))⟩)
      | (exact ⟨ret_l _ (lp_dyE 0) (by repeat (first | rfl | rw [if_pos (by omega)]))⟩)
      | (refine ⟨ret_e ?_⟩; repeat (first | rfl | rw [if_neg (by omega)]))
theorem n_trim (a : List Int) (hl : a.length ≤ 1152921504606846976) : FC Tryz.prog G 173 [.ws .u64 a] (· = .ws .u64 (trim a)) := by
  refine ax_i Tryz.func173 Tryz.ntmps173 ?_; intro F hG hO
  repeat' ((try (conv => whnf)); first
 | (refine lg ?_; refine loop_g (A := Nat) (fun m => m ≤ a.length ∧ ∀ j : Nat, m ≤ j → rd a j = 0) id (fun m => [(0, .ws .u64 a), (3, .val (.int .i64 (m : Int)))]) (fun _ => []) (fun _ => []) a.length tok (fun _ => ⟨⟨trivial, trivial, trivial⟩, trivial, by simp only [List.length_nil]; omega⟩) ?_ ⟨rfl, rfl, trivial⟩ ⟨[], rfl⟩ ⟨[], rfl⟩ ?_; rotate_left; rintro m ⟨h1, h2⟩)
 | with_reducible first | refine ax_s ?_ | (refine ax_f ?_ ?_ <;> try intro hc) | fail)
  · exact ⟨again (m - 1) ⟨by omega, fun j hj => by
      rcases Nat.lt_or_ge j m with hjm | hjm
      · rw [show (j : Int) = m - 1 by omega]; assumption
      · exact h2 j hjm⟩ (by simp only [id]; omega) ⟨rfl, iv_eq (by omega), trivial⟩ ⟨[], rfl⟩ ⟨[], rfl⟩⟩
  · have e : trim a = a.take m := trim_take a m h1 (fun j hj => by simpa [rd] using h2 j hj) (.inr (by
      have : ((m : Int) - 1).toNat = m - 1 := by omega
      simpa [rd, this] using hc))
    exact ⟨ret_e (by rw [e]; simp)⟩
  · have e : trim a = a.take m := trim_take a m h1 (fun j hj => by simpa [rd] using h2 j hj) (.inl (by omega))
    exact ⟨ret_e (by rw [e]; simp)⟩
  · exact ⟨Nat.le_refl _, fun j hj => by simp [rd, List.getD_eq_getElem?_getD, hj]⟩
def natE (c : Int) : PV := .tup [.ws .u64 [], .val (.int .i64 c)]
def natR (X : Nat) : PV := .tup [.ws .u64 (d64 X), .val (.int .i64 0)]
def natL (X : Nat) : List Int := if 8192 < L64 X then [] else d64 X
def natC (X : Nat) : Int := if 8192 < L64 X then 5 else 0
def natT (X : Nat) : PV := .tup [.ws .u64 (natL X), .val (.int .i64 (natC X))]
theorem natT_ok {X : Nat} (h : L64 X ≤ 8192) : natT X = natR X := by unfold natT natL natC; rw [if_neg (by omega), if_neg (by omega)]; rfl
theorem natT_no {X : Nat} (h : 8192 < L64 X) : natT X = natE 5 := by unfold natT natL natC; rw [if_pos h, if_pos h]; rfl
theorem lp_natE (c : Int) : Lp (.tup [.nil, .val (.int .i64 c)]) (natE c) := .tup (.cons (.nil _) (.cons (.refl _) .nil))
theorem trim64 {a : List Int} (ok : okD 18446744073709551616 a) : trim a = d64 (vl 18446744073709551616 a).toNat := trim_dgs (B := 18446744073709551616) (by decide) ok
theorem n_told (a : List Int) (ok : okD 18446744073709551616 a) (hl : a.length ≤ 1152921504606846976) : FC Tryz.prog G 175 [.ws .u64 a] (· = natT (vl 18446744073709551616 a).toNat) := by
  have f1 := n_trim (G := G) a hl
  rw [trim64 ok] at f1
  obtain ⟨X, hX⟩ : ∃ X, X = (vl 18446744073709551616 a).toNat := ⟨_, rfl⟩
  rw [← hX] at f1 ⊢
  have hl : (d64 X).length = L64 X := rfl
  refine ax_i Tryz.func175 Tryz.ntmps175 ?_; intro F hG hO
  rw [← hG] at f1
  repeat' ((try (conv => whnf)); first
 | refine ce f1 ?_
 | with_reducible first | refine ax_s ?_ | (refine ax_f ?_ ?_ <;> try intro hc) | fail)
  · exact ⟨ret_l _ (lp_natE 5) (natT_no (by omega)).symm⟩
  · exact ⟨ret_e (natT_ok (by omega)).symm⟩
theorem n_form (l : List Int) : FC Tryz.prog G 157 [.ws .u64 l] (· = .val (.bool (formL l))) := by
  refine ax_i Tryz.func157 Tryz.ntmps157 ?_; intro F hG hO
  repeat' ((try (conv => whnf)); first
 | with_reducible first | refine ax_s ?_ | (refine ax_f ?_ ?_ <;> try intro hc) | fail)
  · refine ⟨ret_e (bv_eq ?_)⟩
    unfold formL
    rw [decide_eq_true (show l.length ≤ 8192 by omega), decide_eq_true (show l.length = 0 by omega)]; rfl
  · refine ⟨ret_e (bv_eq ?_)⟩
    unfold formL
    rw [decide_eq_true (show l.length ≤ 8192 by omega), decide_eq_false (show ¬ l.length = 0 by omega)]; rfl
  · refine ⟨ret_e (bv_eq ?_)⟩
    unfold formL
    rw [decide_eq_false (show ¬ l.length ≤ 8192 by omega)]; rfl
theorem n_formN (X : Nat) (h : L64 X ≤ 8192) : FC Tryz.prog G 157 [.ws .u64 (d64 X)] (· = .val (.bool true)) := by
  have := n_form (G := G) (d64 X)
  rw [formL_d64, decide_eq_true h] at this
  exact this
theorem d64_word (w : Int) (h : 0 < w ∧ w < 18446744073709551616) : d64 w.toNat = [w] := by
  unfold d64
  rw [dgs_cons (by decide) (by omega), show w.toNat / 18446744073709551616 = 0 by omega, dgs_nil (by decide), Nat.mod_eq_of_lt (by omega)]
  congr 1; omega
theorem n_word (w : Int) (h : 0 ≤ w ∧ w < 18446744073709551616) : FC Tryz.prog G 143 [.val (.int .u64 w)] (· = .ws .u64 (d64 w.toNat)) := by
  refine ax_i Tryz.func143 Tryz.ntmps143 ?_; intro F hG hO
  repeat' ((try (conv => whnf)); first
 | with_reducible first | refine ax_s ?_ | (refine ax_f ?_ ?_ <;> try intro hc) | fail)
  · exact ⟨ret_l _ (.nil .u64) (by rw [show w = 0 by omega]; rw [show d64 (Int.toNat 0) = [] from d64_0])⟩
  · exact ⟨ret_e (by rw [d64_word w (by omega)])⟩
theorem d64_trim (X : Nat) : trim (d64 X) = d64 X := (dgs_ok (B := 18446744073709551616) (by decide) X).2.2
theorem n_trimN (X : Nat) (hX : L64 X ≤ 1073741824) : FC Tryz.prog G 173 [.ws .u64 (d64 X)] (· = .ws .u64 (d64 X)) := by
  have := n_trim (G := G) (d64 X) (Nat.le_trans hX (by decide))
  rw [d64_trim] at this
  exact this
theorem n_cmp (X Y : Nat) (hX : L64 X ≤ 1073741824) (hY : L64 Y ≤ 1073741824) : FC Tryz.prog G 153 [.ws .u64 (d64 X), .ws .u64 (d64 Y)] (· = .val (.int .i64 (cmpN X Y))) := by
  have f1 := n_trimN (G := G) X hX
  have f2 := n_trimN (G := G) Y hY
  obtain ⟨a, ea⟩ : ∃ a, a = d64 X := ⟨_, rfl⟩
  obtain ⟨b, eb⟩ : ∃ b, b = d64 Y := ⟨_, rfl⟩
  obtain ⟨oka, va⟩ := d64_ok X
  obtain ⟨okb, vb⟩ := d64_ok Y
  replace hX : (d64 X).length ≤ 1073741824 := hX
  replace hY : (d64 Y).length ≤ 1073741824 := hY
  have hlt : Unit → a.length < b.length → X < Y := fun _ h => dgs_lt (B := 18446744073709551616) (by decide) (by rw [ea, eb] at h; exact h)
  have hgt : Unit → b.length < a.length → Y < X := fun _ h => dgs_lt (B := 18446744073709551616) (by decide) (by rw [ea, eb] at h; exact h)
  rw [← ea] at hX oka va f1
  rw [← eb] at hY okb vb f2
  rw [← ea, ← eb]
  refine ax_i Tryz.func153 Tryz.ntmps153 ?_; intro F hG hO
  rw [← hG] at f1 f2
  repeat' ((try (conv => whnf)); first
 | refine ce f1 ?_ | refine ce f2 ?_
 | (refine lg ?_; refine loop_g (A := Nat) (fun m => m ≤ a.length ∧ a.drop m = b.drop m) (fun m => m) (fun m => [(5, .ws .u64 a), (6, .ws .u64 b), (7, .val (.int .i64 ((m : Int) - 1)))]) (fun _ => []) (fun _ => []) a.length tok (fun _ => ⟨⟨trivial, trivial, trivial, trivial⟩, trivial, by simp only [List.length_nil]; omega⟩) ?_ ⟨rfl, rfl, rfl, trivial⟩ ⟨[], rfl⟩ ⟨[], rfl⟩ ?_; rotate_left; rintro m ⟨h1, h2⟩)
 | (refine dG (id := 9) dg25 ?_)
 | (refine dG (id := 10) dg25 ?_)
 | with_reducible first | refine ax_s ?_ | (refine ax_f ?_ ?_ <;> try intro hc) | fail)
  · have h := hlt () (by omega)
    exact ⟨ret_e (by rw [cmpN, if_pos h])⟩
  · have h := hgt () (by omega)
    exact ⟨ret_e (by rw [cmpN, if_neg (by omega), if_neg (by omega)])⟩
  · have hi : ((m - 1 : Nat) : Int) = (m : Int) - 1 := by omega
    have h := vl_lt_of (by decide) oka okb (by omega) (m - 1) (by omega) (by rw [show m - 1 + 1 = m by omega]; exact h2) (by rw [hi]; assumption)
    exact ⟨ret_e (by rw [cmpN, if_pos (by omega)])⟩
  · have hi : ((m - 1 : Nat) : Int) = (m : Int) - 1 := by omega
    have h := vl_lt_of (by decide) okb oka (by omega) (m - 1) (by omega) (by rw [show m - 1 + 1 = m by omega]; exact h2.symm) (by rw [hi]; omega)
    exact ⟨ret_e (by rw [cmpN, if_neg (by omega), if_neg (by omega)])⟩
  · have hi : ((m - 1 : Nat) : Int) = (m : Int) - 1 := by omega
    have hdr : a.drop (m - 1) = b.drop (m - 1) := by
      rw [drop_rd a (m - 1) (by omega), drop_rd b (m - 1) (by omega), show m - 1 + 1 = m by omega, h2, hi]
      congr 1; omega
    exact ⟨again (m - 1) ⟨by omega, hdr⟩ (by omega) ⟨rfl, rfl, iv_eq (by omega), trivial⟩ ⟨[], rfl⟩ ⟨[], rfl⟩⟩
  · have hm : m = 0 := by omega
    subst hm
    have hab : a = b := by simpa using h2
    have hXY : X = Y := by rw [hab] at va; omega
    exact ⟨ret_e (by rw [cmpN, if_neg (by omega), if_pos hXY])⟩
  · exact ⟨Nat.le_refl _, by rw [List.drop_length, List.drop_eq_nil_of_le (by omega)]⟩
end Go.Proofs.YtpjbgmafnheomaaGreatDoor.Sim
namespace Go.Proofs.YtpjbgmafnheomaaGreatDoor.Sim
set_option linter.unusedVariables false
set_option linter.unusedSimpArgs false
section
variable {P : Program} {f : FuncId} {fn : Func}
theorem threeR (nm : String) (x y c : Int) (hc : c.toNat ≤ 1) (w : World) : (Extern.MathBitsCarry.three nm [Value.int .u64 x, Value.int .u64 y, Value.int .u64 c].toArray).run P w = .ok (x.toNat, y.toNat, c.toNat) w := by
  have h : Extern.MathBitsCarry.three nm [Value.int .u64 x, Value.int .u64 y, Value.int .u64 c].toArray = (do
      let c ← asInt (Value.int .u64 c)
      if c.toNat > 1 then unsupported (.noEntry ("extern/math/bits." ++ nm ++ ": a carry that is neither 0 nor 1"))
      pure ((← asInt (Value.int .u64 x)).toNat, (← asInt (Value.int .u64 y)).toNat, c.toNat)) := rfl
  have h1 : ¬ c.toNat > 1 := by omega
  rw [h]
  simp [asInt, asIntOf]
  omega
theorem extAdd (hf : P.funcs[f]? = some fn) (h1 : (fn.name == "runtime.NumGoroutine") = false) (h2 : fn.body.isNone = true) (h3 : Extern.findNext fn = none) {e : Array Value → Go.Sem Value} (h4 : Extern.find fn = some e) (he : e = fun args => do let (x, y, c) ← Extern.MathBitsCarry.three "Add64" args; pure (Extern.MathBitsCarry.pair ((x + y + c) % Extern.MathBitsCarry.m64) ((x + y + c) / Extern.MathBitsCarry.m64)))
    {x y c : Int} (hc : c.toNat ≤ 1) : ExtOk P f [.int .u64 x, .int .u64 y, .int .u64 c] (.tup [.val (.int .u64 (Int.ofNat ((x.toNat + y.toNat + c.toNat) % 18446744073709551616))), .val (.int .u64 (Int.ofNat ((x.toNat + y.toNat + c.toNat) / 18446744073709551616)))]) := by
  subst he
  refine ⟨_, fun cx => .tup (.cons (.val _) (.cons (.val _) .nil)), fun w => run_ext hf h1 h2 h3 h4 (fun w => ?_) w⟩
  simp only [Go.Sem.run_bind, threeR _ x y c hc, Result.andThen_ok]
  rfl
theorem extSub (hf : P.funcs[f]? = some fn) (h1 : (fn.name == "runtime.NumGoroutine") = false) (h2 : fn.body.isNone = true) (h3 : Extern.findNext fn = none) {e : Array Value → Go.Sem Value} (h4 : Extern.find fn = some e) (he : e = fun args => do let (x, y, b) ← Extern.MathBitsCarry.three "Sub64" args; pure (Extern.MathBitsCarry.pair ((x + Extern.MathBitsCarry.m64 - y - b) % Extern.MathBitsCarry.m64) (if x < y + b then 1 else 0)))
    {x y c : Int} (hc : c.toNat ≤ 1) : ExtOk P f [.int .u64 x, .int .u64 y, .int .u64 c] (.tup [.val (.int .u64 (Int.ofNat ((x.toNat + 18446744073709551616 - y.toNat - c.toNat) % 18446744073709551616))), .val (.int .u64 (Int.ofNat (if x.toNat < y.toNat + c.toNat then 1 else 0)))]) := by
  subst he
  refine ⟨_, fun cx => .tup (.cons (.val _) (.cons (.val _) .nil)), fun w => run_ext hf h1 h2 h3 h4 (fun w => ?_) w⟩
  simp only [Go.Sem.run_bind, threeR _ x y c hc, Result.andThen_ok]
  simp only [Extern.MathBitsCarry.pair, Extern.MathBitsCarry.m64]
  by_cases hlt : x.toNat < y.toNat + c.toNat
  · rw [if_pos hlt]; rfl
  · rw [if_neg hlt]; rfl
end
theorem add64_g {x y c : Int} {K : PV → Prop} (hx : 0 ≤ x ∧ x < 18446744073709551616) (hy : 0 ≤ y ∧ y < 18446744073709551616) (hc : 0 ≤ c ∧ c ≤ 1) (k : K (.tup [.val (.int .u64 ((x + y + c) % 18446744073709551616)), .val (.int .u64 ((x + y + c) / 18446744073709551616))])) :
    ExtF Tryz.prog 181 [.int .u64 x, .int .u64 y, .int .u64 c] K := by
  refine ⟨_, extAdd Tryz.func181 (by rfl) (by rfl) (by rfl) (by rfl) rfl (x := x) (y := y) (c := c) (by omega), ?_⟩
  have e1 : Int.ofNat ((x.toNat + y.toNat + c.toNat) % 18446744073709551616) = (x + y + c) % 18446744073709551616 := by simp only [Int.ofNat_eq_natCast]; omega
  have e2 : Int.ofNat ((x.toNat + y.toNat + c.toNat) / 18446744073709551616) = (x + y + c) / 18446744073709551616 := by simp only [Int.ofNat_eq_natCast]; omega
  rw [e1, e2]; exact k
theorem sub64_g {x y c : Int} {K : PV → Prop} (hx : 0 ≤ x ∧ x < 18446744073709551616) (hy : 0 ≤ y ∧ y < 18446744073709551616) (hc : 0 ≤ c ∧ c ≤ 1) (k : K (.tup [.val (.int .u64 ((x - y - c) % 18446744073709551616)), .val (.int .u64 (-((x - y - c) / 18446744073709551616)))])) :
    ExtF Tryz.prog 187 [.int .u64 x, .int .u64 y, .int .u64 c] K := by
  refine ⟨_, extSub Tryz.func187 (by rfl) (by rfl) (by rfl) (by rfl) rfl (x := x) (y := y) (c := c) (by omega), ?_⟩
  have e1 : Int.ofNat ((x.toNat + 18446744073709551616 - y.toNat - c.toNat) % 18446744073709551616) = (x - y - c) % 18446744073709551616 := by simp only [Int.ofNat_eq_natCast]; omega
  have e2 : Int.ofNat (if x.toNat < y.toNat + c.toNat then 1 else 0) = -((x - y - c) / 18446744073709551616) := by
    simp only [Int.ofNat_eq_natCast]
    split <;> omega
  rw [e1, e2]; exact k
end Go.Proofs.YtpjbgmafnheomaaGreatDoor.Sim
namespace Go.Proofs.YtpjbgmafnheomaaGreatDoor.Sim
open Go.RowKit
set_option linter.unusedVariables false
set_option linter.unusedSimpArgs false
set_option maxRecDepth 10000
set_option maxHeartbeats 8000000
variable {G : Gs}
theorem ins_full {p s : List Int} (h : s.length = p.length) : ins p 0 s = s := by
  unfold ins
  rw [List.take_zero, List.nil_append, Nat.zero_add, List.drop_eq_nil_of_le (by omega), List.append_nil]
theorem len_snoc (s : List Int) (d : Int) : (s ++ [d]).length = s.length + 1 := by simp
theorem ins_last {p s : List Int} (c : Int) (h : s.length + 1 = p.length) (k : Nat) (hk : k = s.length) : (ins p 0 s).set k c = s ++ [c] := by
  have h1 := ins_set (p := p) (s := s) (lo := 0) c (by omega)
  rw [Nat.zero_add] at h1
  rw [hk, h1, ins_full (by rw [len_snoc]; omega)]
def AddI (u v s : List Int) (c : Int) : Prop := s.length ≤ u.length ∧ okD 18446744073709551616 s ∧ (0 ≤ c ∧ c ≤ 1) ∧ vl 18446744073709551616 s + 18446744073709551616 ^ s.length * c = vl 18446744073709551616 (u.take s.length) + vl 18446744073709551616 (v.take s.length)
theorem AddI.step {u v s : List Int} {c T : Int} (h : AddI u v s c) (hlt : s.length < u.length) (oku : okD 18446744073709551616 u) (okv : okD 18446744073709551616 v) (hT : T = rd u s.length + rd v s.length + c) : AddI u v (s ++ [T % 18446744073709551616]) (T / 18446744073709551616) := by
  obtain ⟨h1, h2, h3, h4⟩ := h
  have ru := rd_bd (by decide) oku (s.length : Int)
  have rv := rd_bd (by decide) okv (s.length : Int)
  refine ⟨by rw [len_snoc]; omega, okD_append.2 ⟨h2, okD_cons.2 ⟨by omega, okD_nil _⟩⟩, by omega, ?_⟩
  rw [vl_snoc, len_snoc, sum_step (T := T) s.length (by omega), vl_take_step, vl_take_step, hT, Int.mul_add, Int.mul_add]
  omega
theorem AddI.done {u v s : List Int} {c : Int} (h : AddI u v s c) (hl : s.length = u.length) (hv : v.length ≤ u.length) : okD 18446744073709551616 (s ++ [c]) ∧ vl 18446744073709551616 (s ++ [c]) = vl 18446744073709551616 u + vl 18446744073709551616 v := by
  obtain ⟨h1, h2, h3, h4⟩ := h
  refine ⟨okD_append.2 ⟨h2, okD_cons.2 ⟨by omega, okD_nil _⟩⟩, ?_⟩
  rw [vl_snoc, h4, List.take_of_length_le (by omega), List.take_of_length_le (by omega)]
def SubI (u v s : List Int) (c : Int) : Prop := s.length ≤ u.length ∧ okD 18446744073709551616 s ∧ (0 ≤ c ∧ c ≤ 1) ∧ vl 18446744073709551616 s - 18446744073709551616 ^ s.length * c = vl 18446744073709551616 (u.take s.length) - vl 18446744073709551616 (v.take s.length)
theorem SubI.step {u v s : List Int} {c T : Int} (h : SubI u v s c) (hlt : s.length < u.length) (oku : okD 18446744073709551616 u) (okv : okD 18446744073709551616 v) (hT : T = rd u s.length - rd v s.length - c) : SubI u v (s ++ [T % 18446744073709551616]) (-(T / 18446744073709551616)) := by
  obtain ⟨h1, h2, h3, h4⟩ := h
  have ru := rd_bd (by decide) oku (s.length : Int)
  have rv := rd_bd (by decide) okv (s.length : Int)
  refine ⟨by rw [len_snoc]; omega, okD_append.2 ⟨h2, okD_cons.2 ⟨by omega, okD_nil _⟩⟩, by omega, ?_⟩
  have h := sum_step (B := 18446744073709551616) (vs := vl 18446744073709551616 s) (d := T % 18446744073709551616) (c2 := T / 18446744073709551616) (T := T) s.length (by omega)
  rw [vl_snoc, len_snoc, Int.mul_neg, Int.sub_neg, h, vl_take_step, vl_take_step, hT, Int.mul_sub, Int.mul_sub]
  omega
theorem n_add (X Y : Nat) (hX : L64 X ≤ 8192) (hY : L64 Y ≤ 8192) : FC Tryz.prog G 142 [.ws .u64 (d64 X), .ws .u64 (d64 Y)] (· = natT (X + Y)) := by
  have fa := n_formN (G := G) X hX
  have fb := n_formN (G := G) Y hY
  obtain ⟨a, ea⟩ : ∃ a, a = d64 X := ⟨_, rfl⟩
  obtain ⟨b, eb⟩ : ∃ b, b = d64 Y := ⟨_, rfl⟩
  obtain ⟨oka, va⟩ := d64_ok X
  obtain ⟨okb, vb⟩ := d64_ok Y
  replace hX : (d64 X).length ≤ 8192 := hX
  replace hY : (d64 Y).length ≤ 8192 := hY
  rw [← ea] at hX oka va fa
  rw [← eb] at hY okb vb fb
  rw [← ea, ← eb]
  by_cases hlen : a.length < b.length
  · have oku := okb
    have okv := oka
    refine ax_i Tryz.func142 Tryz.ntmps142 ?_; intro F hG hO
    rw [← hG] at fa fb
    repeat' ((try (conv => whnf)); first
 | refine ce fa ?_ | refine ce fb ?_
 | (with_reducible refine add64_g (by omega) (by omega) (by omega) ?_)
 | (refine lg ?_; refine loop_g (A := List Int × Int) (fun (s, c) => AddI b a s c) (fun (s, c) => b.length - s.length) (fun (s, c) => [(0, .ws .u64 b), (1, .ws .u64 a), (6, .arr 0 0 (b.length + 1)), (7, .val (.int .u64 c)), (30, .val (.int .i64 (b.length : Int))), (31, .val (.int .i64 (s.length : Int)))]) (fun _ => []) (fun (s, c) => [some ⟨1, 82, .w .u64 (ins (List.replicate (b.length + 1) 0) 0 s)⟩]) ([], 0) tok (fun (s, c) => ⟨⟨trivial, trivial, Nat.one_pos, trivial, trivial, trivial, trivial⟩, trivial, by simp only [List.length_cons]; omega⟩) ?_ ⟨rfl, rfl, congrArg (PV.arr 0 0) (by omega), rfl, rfl, rfl, trivial⟩ ⟨[], rfl⟩ ⟨[], (by dsimp only; rw [ins_nil, show ((b.length : Int) + 1).toNat = b.length + 1 by omega]; rfl)⟩ ?_; rotate_left; rintro ⟨s, c⟩ hI; have hI2 := hI; obtain ⟨i1, i2, i3, i4⟩ := hI2; have ra := rd_bd (by decide) oku (s.length : Int); have rb := rd_bd (by decide) okv (s.length : Int); have hil : (ins (List.replicate (b.length + 1) 0) 0 s).length = b.length + 1 := (by rw [ins_len (by simp; omega)]; simp))
 | (refine cg ?_; have hse : s.length = b.length := (by omega); have hdn := hI.done hse (by omega); have hset := ins_last (p := List.replicate (b.length + 1) 0) (s := s) c (by simp; omega) (0 + ((b.length : Nat) : Int).toNat) (by omega); refine call_fz 0 (B := s ++ [c]) rfl rfl (by rw [hset]; simp; omega) (by rw [hset, List.drop_zero]; exact List.take_of_length_le (by simp; omega)) (by omega) ?_; refine call_eq (n_told (s ++ [c]) hdn.1 (by simp; omega)) (LpL.refl _) rfl ?_; rw [hdn.2])
 | with_reducible first | refine ax_s ?_ | (refine ax_f ?_ ?_ <;> try intro hc) | fail)
    · refine ⟨again (s ++ [(rd b (s.length : Int) + rd a (s.length : Int) + c) % 18446744073709551616], (rd b (s.length : Int) + rd a (s.length : Int) + c) / 18446744073709551616) (hI.step (by omega) oku okv rfl) (by dsimp only; rw [len_snoc]; omega) ⟨rfl, rfl, rfl, rfl, rfl, iv_eq (by rw [len_snoc]; omega), trivial⟩ ⟨[], rfl⟩ ⟨[], ?_⟩⟩
      have hset := ins_set (p := List.replicate (b.length + 1) (0 : Int)) (s := s) (lo := 0) ((rd b (s.length : Int) + rd a (s.length : Int) + c) % 18446744073709551616) (by simp; omega)
      dsimp only
      rw [← hset]; rfl
    · have hz : rd a (s.length : Int) = 0 := rd_out a s.length (by omega)
      refine ⟨again (s ++ [(rd b (s.length : Int) + 0 + c) % 18446744073709551616], (rd b (s.length : Int) + 0 + c) / 18446744073709551616) (hI.step (by omega) oku okv (by rw [hz])) (by dsimp only; rw [len_snoc]; omega) ⟨rfl, rfl, rfl, rfl, rfl, iv_eq (by rw [len_snoc]; omega), trivial⟩ ⟨[], rfl⟩ ⟨[], ?_⟩⟩
      have hset := ins_set (p := List.replicate (b.length + 1) (0 : Int)) (s := s) (lo := 0) ((rd b (s.length : Int) + 0 + c) % 18446744073709551616) (by simp; omega)
      dsimp only
      rw [← hset]; rfl
    · refine ⟨ret_e ?_⟩
      rw [va, vb, ← Int.natCast_add, Int.toNat_natCast, Nat.add_comm Y X]; rfl
    · exact ⟨Nat.zero_le _, okD_nil _, by decide, by simp [vl]⟩
  · have oku := oka
    have okv := okb
    refine ax_i Tryz.func142 Tryz.ntmps142 ?_; intro F hG hO
    rw [← hG] at fa fb
    repeat' ((try (conv => whnf)); first
 | refine ce fa ?_ | refine ce fb ?_
 | (with_reducible refine add64_g (by omega) (by omega) (by omega) ?_)
 | (refine lg ?_; refine loop_g (A := List Int × Int) (fun (s, c) => AddI a b s c) (fun (s, c) => a.length - s.length) (fun (s, c) => [(0, .ws .u64 a), (1, .ws .u64 b), (6, .arr 0 0 (a.length + 1)), (7, .val (.int .u64 c)), (30, .val (.int .i64 (a.length : Int))), (31, .val (.int .i64 (s.length : Int)))]) (fun _ => []) (fun (s, c) => [some ⟨1, 82, .w .u64 (ins (List.replicate (a.length + 1) 0) 0 s)⟩]) ([], 0) tok (fun (s, c) => ⟨⟨trivial, trivial, Nat.one_pos, trivial, trivial, trivial, trivial⟩, trivial, by simp only [List.length_cons]; omega⟩) ?_ ⟨rfl, rfl, congrArg (PV.arr 0 0) (by omega), rfl, rfl, rfl, trivial⟩ ⟨[], rfl⟩ ⟨[], (by dsimp only; rw [ins_nil, show ((a.length : Int) + 1).toNat = a.length + 1 by omega]; rfl)⟩ ?_; rotate_left; rintro ⟨s, c⟩ hI; have hI2 := hI; obtain ⟨i1, i2, i3, i4⟩ := hI2; have ra := rd_bd (by decide) oku (s.length : Int); have rb := rd_bd (by decide) okv (s.length : Int); have hil : (ins (List.replicate (a.length + 1) 0) 0 s).length = a.length + 1 := (by rw [ins_len (by simp; omega)]; simp))
 | (refine cg ?_; have hse : s.length = a.length := (by omega); have hdn := hI.done hse (by omega); have hset := ins_last (p := List.replicate (a.length + 1) 0) (s := s) c (by simp; omega) (0 + ((a.length : Nat) : Int).toNat) (by omega); refine call_fz 0 (B := s ++ [c]) rfl rfl (by rw [hset]; simp; omega) (by rw [hset, List.drop_zero]; exact List.take_of_length_le (by simp; omega)) (by omega) ?_; refine call_eq (n_told (s ++ [c]) hdn.1 (by simp; omega)) (LpL.refl _) rfl ?_; rw [hdn.2])
 | with_reducible first | refine ax_s ?_ | (refine ax_f ?_ ?_ <;> try intro hc) | fail)
    · refine ⟨again (s ++ [(rd a (s.length : Int) + rd b (s.length : Int) + c) % 18446744073709551616], (rd a (s.length : Int) + rd b (s.length : Int) + c) / 18446744073709551616) (hI.step (by omega) oku okv rfl) (by dsimp only; rw [len_snoc]; omega) ⟨rfl, rfl, rfl, rfl, rfl, iv_eq (by rw [len_snoc]; omega), trivial⟩ ⟨[], rfl⟩ ⟨[], ?_⟩⟩
      have hset := ins_set (p := List.replicate (a.length + 1) (0 : Int)) (s := s) (lo := 0) ((rd a (s.length : Int) + rd b (s.length : Int) + c) % 18446744073709551616) (by simp; omega)
      dsimp only
      rw [← hset]; rfl
    · have hz : rd b (s.length : Int) = 0 := rd_out b s.length (by omega)
      refine ⟨again (s ++ [(rd a (s.length : Int) + 0 + c) % 18446744073709551616], (rd a (s.length : Int) + 0 + c) / 18446744073709551616) (hI.step (by omega) oku okv (by rw [hz])) (by dsimp only; rw [len_snoc]; omega) ⟨rfl, rfl, rfl, rfl, rfl, iv_eq (by rw [len_snoc]; omega), trivial⟩ ⟨[], rfl⟩ ⟨[], ?_⟩⟩
      have hset := ins_set (p := List.replicate (a.length + 1) (0 : Int)) (s := s) (lo := 0) ((rd a (s.length : Int) + 0 + c) % 18446744073709551616) (by simp; omega)
      dsimp only
      rw [← hset]; rfl
    · refine ⟨ret_e ?_⟩
      rw [va, vb, ← Int.natCast_add, Int.toNat_natCast]; rfl
    · exact ⟨Nat.zero_le _, okD_nil _, by decide, by simp [vl]⟩
theorem SubI.done {u v s : List Int} {c : Int} (h : SubI u v s c) (hl : s.length = u.length) (hv : v.length ≤ u.length) (oku : okD 18446744073709551616 u) (okv : okD 18446744073709551616 v) (hle : vl 18446744073709551616 v ≤ vl 18446744073709551616 u) : vl 18446744073709551616 s = vl 18446744073709551616 u - vl 18446744073709551616 v := by
  obtain ⟨h1, h2, h3, h4⟩ := h
  rw [List.take_of_length_le (by omega), List.take_of_length_le (by omega)] at h4
  have b1 := vl_lt (B := 18446744073709551616) (by decide) h2
  have b2 := vl_nonneg (B := 18446744073709551616) (by decide) h2
  have hp : (0 : Int) < 18446744073709551616 ^ s.length := Int.pow_pos (by decide)
  rcases (show c = 0 ∨ c = 1 by omega) with h5 | h5
  · rw [h5, Int.mul_zero] at h4; omega
  · rw [h5, Int.mul_one] at h4; omega
theorem n_sub (X Y : Nat) (hX : L64 X ≤ 8192) (hY : L64 Y ≤ 8192) (hle : Y ≤ X) : FC Tryz.prog G 154 [.ws .u64 (d64 X), .ws .u64 (d64 Y)] (· = natR (X - Y)) := by
  have fa := n_formN (G := G) X hX
  have fb := n_formN (G := G) Y hY
  have fc := n_cmp (G := G) X Y (by omega) (by omega)
  have hcm := (cmpN_ge X Y).2 hle
  have hlen : L64 Y ≤ L64 X := lenB_mono (by decide) hle
  have hres : natT (X - Y) = natR (X - Y) := natT_ok (Nat.le_trans (lenB_mono (by decide) (Nat.sub_le X Y)) hX)
  obtain ⟨a, ea⟩ : ∃ a, a = d64 X := ⟨_, rfl⟩
  obtain ⟨b, eb⟩ : ∃ b, b = d64 Y := ⟨_, rfl⟩
  obtain ⟨oka, va⟩ := d64_ok X
  obtain ⟨okb, vb⟩ := d64_ok Y
  replace hX : (d64 X).length ≤ 8192 := hX
  replace hY : (d64 Y).length ≤ 8192 := hY
  replace hlen : (d64 Y).length ≤ (d64 X).length := hlen
  rw [← ea] at hX oka va fa fc hlen
  rw [← eb] at hY okb vb fb fc hlen
  rw [← ea, ← eb, ← hres]
  refine ax_i Tryz.func154 Tryz.ntmps154 ?_; intro F hG hO
  rw [← hG] at fa fb fc
  repeat' ((try (conv => whnf)); first
 | refine ce fa ?_ | refine ce fb ?_ | refine ce fc ?_
 | (with_reducible refine sub64_g (by omega) (by omega) (by omega) ?_)
 | (refine lg ?_; refine loop_g (A := List Int × Int) (fun (s, c) => SubI a b s c) (fun (s, c) => a.length - s.length) (fun (s, c) => [(0, .ws .u64 a), (1, .ws .u64 b), (6, .arr 0 0 a.length), (7, .val (.int .u64 c)), (26, .val (.int .i64 (a.length : Int))), (27, .val (.int .i64 (s.length : Int)))]) (fun _ => []) (fun (s, c) => [some ⟨1, 82, .w .u64 (ins (List.replicate a.length 0) 0 s)⟩]) ([], 0) tok (fun (s, c) => ⟨⟨trivial, trivial, Nat.one_pos, trivial, trivial, trivial, trivial⟩, trivial, by simp only [List.length_cons]; omega⟩) ?_ ⟨rfl, rfl, congrArg (PV.arr 0 0) (by omega), rfl, rfl, rfl, trivial⟩ ⟨[], rfl⟩ ⟨[], (by dsimp only; rw [ins_nil, show ((a.length : Int)).toNat = a.length by omega]; rfl)⟩ ?_; rotate_left; rintro ⟨s, c⟩ hI; have hI2 := hI; obtain ⟨i1, i2, i3, i4⟩ := hI2; have ra := rd_bd (by decide) oka (s.length : Int); have rb := rd_bd (by decide) okb (s.length : Int); have hil : (ins (List.replicate a.length 0) 0 s).length = a.length := (by rw [ins_len (by simp; omega)]; simp))
 | (refine cg ?_; have hse : s.length = a.length := (by omega); have hdn := hI.done hse (by omega) oka okb (by omega); refine call_fz 0 (A := ins (List.replicate a.length 0) 0 s) (B := s) rfl rfl (by omega) (by rw [List.drop_zero, ins_full (by simp; omega)]; exact List.take_of_length_le (by omega)) (by omega) ?_; refine ce (n_told s i2 (by omega)) ?_; rw [hdn])
 | with_reducible first | refine ax_s ?_ | (refine ax_f ?_ ?_ <;> try intro hc) | fail)
  · refine ⟨again (s ++ [(rd a (s.length : Int) - rd b (s.length : Int) - c) % 18446744073709551616], -((rd a (s.length : Int) - rd b (s.length : Int) - c) / 18446744073709551616)) (hI.step (by omega) oka okb rfl) (by dsimp only; rw [len_snoc]; omega) ⟨rfl, rfl, rfl, rfl, rfl, iv_eq (by rw [len_snoc]; omega), trivial⟩ ⟨[], rfl⟩ ⟨[], ?_⟩⟩
    have hset := ins_set (p := List.replicate a.length (0 : Int)) (s := s) (lo := 0) ((rd a (s.length : Int) - rd b (s.length : Int) - c) % 18446744073709551616) (by simp; omega)
    dsimp only
    rw [← hset]; rfl
  · have hz : rd b (s.length : Int) = 0 := rd_out b s.length (by omega)
    refine ⟨again (s ++ [(rd a (s.length : Int) - 0 - c) % 18446744073709551616], -((rd a (s.length : Int) - 0 - c) / 18446744073709551616)) (hI.step (by omega) oka okb (by rw [hz])) (by dsimp only; rw [len_snoc]; omega) ⟨rfl, rfl, rfl, rfl, rfl, iv_eq (by rw [len_snoc]; omega), trivial⟩ ⟨[], rfl⟩ ⟨[], ?_⟩⟩
    have hset := ins_set (p := List.replicate a.length (0 : Int)) (s := s) (lo := 0) ((rd a (s.length : Int) - 0 - c) % 18446744073709551616) (by simp; omega)
    dsimp only
    rw [← hset]; rfl
  · refine ⟨ret_e ?_⟩
    rw [va, vb, show ((X : Int) - (Y : Int)).toNat = X - Y by omega]; rfl
  · exact ⟨Nat.zero_le _, okD_nil _, by decide, by simp [vl]⟩
theorem wrap64 (n : Int) : IntKind.u64.wrap n = n % 18446744073709551616 := by
  simp [IntKind.wrap, IntKind.bits, IntKind.signed]
theorem shl_m {a b : Int} {K : Int → Prop} (hb : 0 ≤ b ∧ b ≤ 64) (x : K (a * 2 ^ b.toNat % 18446744073709551616)) : ShlG .u64 a b K := by
  refine ⟨hb.1, ?_⟩
  rw [show min b.toNat IntKind.u64.bits = b.toNat by simp only [IntKind.bits]; omega, wrap64]
  exact x
theorem or_add {x y k : Nat} (h : x < 2 ^ k) (hy : y % 2 ^ k = 0) : x ||| y = x + y := by
  have h1 := Nat.two_pow_add_eq_or_of_lt h (y / 2 ^ k)
  have h2 := Nat.div_add_mod y (2 ^ k)
  rw [hy, Nat.add_zero] at h2
  rw [h2] at h1
  rw [Nat.or_comm, ← h1, Nat.add_comm]
theorem or_g {a b : Int} {K : Int → Prop} (k : Nat) (ha : 0 ≤ a ∧ a < 18446744073709551616) (hb : 0 ≤ b ∧ b < 18446744073709551616) (h : a < 2 ^ k) (hm : b % 2 ^ k = 0) (hs : a + b < 18446744073709551616) (x : K (a + b)) : BitG .or .u64 a b K := by
  refine ⟨?_⟩
  have e : bitI .or .u64 a b = a + b := by
    obtain ⟨a, rfl⟩ := Int.eq_ofNat_of_zero_le ha.1
    obtain ⟨b, rfl⟩ := Int.eq_ofNat_of_zero_le hb.1
    have h1 : a < 2 ^ k := by
      have : ((2 ^ k : Nat) : Int) = (2 : Int) ^ k := by simp
      omega
    have h2 : b % 2 ^ k = 0 := by
      have h3 : ((b % 2 ^ k : Nat) : Int) = 0 := by rw [← hm]; simp
      omega
    show IntKind.u64.wrap ((BitVec.ofNat 64 a ||| BitVec.ofNat 64 b).toNat : Int) = _
    rw [wrap64, BitVec.toNat_or, BitVec.toNat_ofNat, BitVec.toNat_ofNat]
    rw [Nat.mod_eq_of_lt (by omega), Nat.mod_eq_of_lt (by omega), or_add h1 h2]
    omega
  rw [e]; exact x
theorem ins_over {p t : List Int} {lo : Nat} (c d : Int) (h : lo + t.length < p.length) : (ins p lo (t ++ [c])).set (lo + t.length) d = ins p lo (t ++ [d]) := by
  have e : (p.take lo ++ t).length = lo + t.length := by simp; omega
  unfold ins
  rw [← List.append_assoc, ← List.append_assoc, List.append_assoc, List.set_append_right _ _ (by omega), e, Nat.sub_self]
  simp
theorem ins_zero (n lo : Nat) (h : lo < n) : ins (List.replicate n (0 : Int)) lo [0] = List.replicate n 0 := by
  unfold ins
  rw [List.take_replicate, List.drop_replicate, Nat.min_eq_left (by omega)]
  rw [show [(0 : Int)] = List.replicate 1 0 by rfl, List.replicate_append_replicate, List.replicate_append_replicate]
  congr 1
  simp; omega
theorem ins_getE {p s : List Int} {lo : Nat} (c : Int) (h : lo ≤ p.length) : (ins p lo (s ++ [c])).getD (lo + s.length) 0 = c := by
  have e : (p.take lo ++ s).length = lo + s.length := by simp; omega
  unfold ins
  rw [← List.append_assoc, List.append_assoc, List.getD_eq_getElem?_getD, List.getElem?_append_right (by omega), e, Nat.sub_self]
  simp
def lenTab (s : ByteArray) : Bool := (List.range 256).all fun i => match s[i]? with
 | some b => Nat.beq b.toNat (bl i)
 | none => false
theorem still_lenT {P : Program} {F : Fr} {o : Oper} {st : St} {t : TypeId} {x y : Operand} {s : ByteArray} {k : IntKind} {i : Int} (ho : o.op = .index t x y) (hx : pev st x = .val (.string s)) (hy : pev st y = .val (.int k i)) (ht : P.underlying t = some .string) (hs : lenTab s = true) (h : 0 ≤ i ∧ i < 256) : Still P F o st (.val (.int .u8 ((min (bl i.toNat) 8 : Nat) : Int))) := by
  intro c A w hi
  have h1 := List.all_eq_true.1 hs i.toNat (List.mem_range.2 (by omega))
  refine ⟨_, .val _, fun w' _ => ?_⟩
  cases hb : s[i.toNat]? with
 | none => simp [hb] at h1
 | some b =>
    simp only [hb] at h1
    have h2 := Nat.eq_of_beq_eq_true h1
    have h3 : bl i.toNat ≤ 8 := bl_le (show i.toNat < 2 ^ 8 by omega)
    rw [Nat.min_eq_left h3]
    simp [execOp, ho, pev_val hi hx, pev_val hi hy, Instr.index, asIntOf, run_underlying ht, h.1, hb, h2]
theorem len_end {x : Nat} {z : Int} (k : Nat) (hz : z.toNat = x / 2 ^ k) (h : x / 2 ^ k < 256) (hk : k = 0 ∨ x / 2 ^ k ≠ 0) : (k : Int) + ((min (bl z.toNat) 8 : Nat) : Int) = (bl x : Int) := by
  have h1 : bl z.toNat ≤ 8 := bl_le (by rw [hz]; exact h)
  rw [Nat.min_eq_left h1, hz]
  rcases hk with h2 | h2
  · subst h2; simp
  · rw [bl_top x k h2]; omega
theorem b_len (x : Nat) (h : x < 18446744073709551616) : FC Tryz.prog G 174 [.val (.int .u64 (x : Int))] (· = .val (.int .i64 (bl x : Int))) := by
  refine ax_i Tryz.func174 Tryz.ntmps174 ?_; intro F hG hO
  repeat' ((try (conv => whnf)); first
 | (with_reducible refine shr_g (m := 65536) 16 rfl (by decide) (by omega) rfl ?_)
 | (with_reducible refine shr_g (m := 256) 8 rfl (by decide) (by omega) rfl ?_)
 | (refine RawG.mk ?_; refine vPut_still (still_lenT rfl rfl rfl (by kernel_rfl) (by kernel_rfl) (by omega)) ?_)
 | with_reducible first | refine ax_s ?_ | (refine ax_f ?_ ?_ <;> try intro hc) | fail)
  all_goals (refine ⟨ret_e (iv_eq ?_)⟩)
  · exact len_end (x := x) 56 (show _ = x / 72057594037927936 by omega) (show x / 72057594037927936 < 256 by omega) (.inr (show x / 72057594037927936 ≠ 0 by omega))
  · exact len_end (x := x) 48 (show _ = x / 281474976710656 by omega) (show x / 281474976710656 < 256 by omega) (.inr (show x / 281474976710656 ≠ 0 by omega))
  · exact len_end (x := x) 40 (show _ = x / 1099511627776 by omega) (show x / 1099511627776 < 256 by omega) (.inr (show x / 1099511627776 ≠ 0 by omega))
  · exact len_end (x := x) 32 (show _ = x / 4294967296 by omega) (show x / 4294967296 < 256 by omega) (.inr (show x / 4294967296 ≠ 0 by omega))
  · exact len_end (x := x) 24 (show _ = x / 16777216 by omega) (show x / 16777216 < 256 by omega) (.inr (show x / 16777216 ≠ 0 by omega))
  · exact len_end (x := x) 16 (show _ = x / 65536 by omega) (show x / 65536 < 256 by omega) (.inr (show x / 65536 ≠ 0 by omega))
  · exact len_end (x := x) 8 (show _ = x / 256 by omega) (show x / 256 < 256 by omega) (.inr (show x / 256 ≠ 0 by omega))
  · exact len_end (x := x) 0 (show _ = x / 1 by omega) (show x / 1 < 256 by omega) (.inl rfl)
theorem tz_odd' {n : Nat} (h : n % 2 = 1) : tz n = 0 := tz_eq (m := n) (by simp) h
theorem and_even (a b : Nat) : (2 * a) &&& (2 * b) = 2 * (a &&& b) := by
  apply Nat.eq_of_testBit_eq
  intro i
  cases i with
 | zero => simp [Nat.testBit_zero]
 | succ i =>
    rw [Nat.testBit_and, Nat.testBit_succ, Nat.testBit_succ, Nat.testBit_succ, Nat.mul_div_cancel_left _ (by decide), Nat.mul_div_cancel_left _ (by decide), Nat.mul_div_cancel_left _ (by decide), Nat.testBit_and]
theorem and_neg : ∀ (n x : Nat), 0 < x → x < 2 ^ n → x &&& (2 ^ n - x) = 2 ^ tz x
 | 0, x, h0, h => by simp at h; omega
 | n + 1, x, h0, h => by
    rw [Nat.pow_succ] at h ⊢
    by_cases hx : x % 2 = 0
    · obtain ⟨a, ha⟩ : ∃ a, x = 2 * a := ⟨x / 2, by omega⟩
      subst ha
      have ih := and_neg n a (by omega) (by omega)
      rw [show 2 ^ n * 2 - 2 * a = 2 * (2 ^ n - a) by omega, and_even, ih]
      obtain ⟨m, hm1, hm2⟩ := tz_ok (n := a) (by omega)
      rw [tz_eq (n := 2 * a) (m := m) (k := tz a + 1) (by rw [Nat.pow_succ, ← Nat.mul_assoc, ← hm1]; omega) hm2, Nat.pow_succ]; omega
    · have h1 : tz x = 0 := tz_odd' (by omega)
      rw [h1, Nat.pow_zero]
      apply Nat.eq_of_testBit_eq
      intro i
      have hs := Nat.testBit_two_pow_sub_succ (x := x - 1) (n := n + 1) (by rw [Nat.pow_succ]; omega) i
      rw [show x - 1 + 1 = x by omega, Nat.pow_succ] at hs
      rw [Nat.testBit_and, hs]
      cases i with
      | zero =>
        have h3 : x.testBit 0 = true := by simp [Nat.testBit_zero]; omega
        have h4 : (x - 1).testBit 0 = false := by simp [Nat.testBit_zero]; omega
        rw [h3, h4]; simp
      | succ i =>
        have h5 : (x - 1).testBit (i + 1) = x.testBit (i + 1) := by
          rw [Nat.testBit_succ, Nat.testBit_succ, show (x - 1) / 2 = x / 2 by omega]
        rw [h5]
        cases x.testBit (i + 1) <;> simp [Nat.testBit_succ]
def debT : List Int := [0, 1, 56, 2, 57, 49, 28, 3, 61, 58, 42, 50, 38, 29, 17, 4, 62, 47, 59, 36, 45, 43, 51, 22, 53, 39, 33, 30, 24, 18, 12, 5, 63, 55, 48, 27, 60, 41, 37, 16, 46, 35, 44, 21, 52, 32, 23, 11, 54, 26, 40, 15, 34, 20, 31, 10, 25, 14, 19, 9, 13, 8, 7, 6]
theorem deb_all : (List.range 64).all (fun k => Nat.beq (rd debT ((2 ^ k * 285870213051353865 % 18446744073709551616 / 288230376151711744 : Nat) : Int)).toNat k && decide (0 ≤ rd debT ((2 ^ k * 285870213051353865 % 18446744073709551616 / 288230376151711744 : Nat) : Int))) = true := by decide +kernel
theorem deb_ok (k : Nat) (h : k < 64) : rd debT ((2 ^ k * 285870213051353865 % 18446744073709551616 / 288230376151711744 : Nat) : Int) = (k : Int) := by
  have := List.all_eq_true.1 deb_all k (List.mem_range.2 h)
  simp only [Bool.and_eq_true, decide_eq_true_eq] at this
  have h1 := Nat.eq_of_beq_eq_true this.1
  omega
theorem deb_len : debT.length = 64 := rfl
theorem and_g {a : Int} {K : Int → Prop} (ha : 0 < a ∧ a < 18446744073709551616) (x : K (2 ^ tz a.toNat)) : BitG .and .u64 a (IntKind.u64.wrap (0 - a)) K := by
  refine ⟨?_⟩
  have e : bitI .and .u64 a (IntKind.u64.wrap (0 - a)) = 2 ^ tz a.toNat := by
    obtain ⟨a, rfl⟩ := Int.eq_ofNat_of_zero_le (Int.le_of_lt ha.1)
    have e1 : IntKind.u64.wrap (0 - (a : Int)) = ((18446744073709551616 - a : Nat) : Int) := by rw [wrap64]; omega
    rw [e1]
    show IntKind.u64.wrap ((BitVec.ofNat 64 a &&& BitVec.ofNat 64 (18446744073709551616 - a)).toNat : Int) = _
    rw [wrap64, BitVec.toNat_and, BitVec.toNat_ofNat, BitVec.toNat_ofNat, Nat.mod_eq_of_lt (by omega), Nat.mod_eq_of_lt (by omega)]
    have h1 := and_neg 64 a (by omega) (by omega)
    rw [show (2 : Nat) ^ 64 = 18446744073709551616 by decide] at h1
    rw [h1, Int.toNat_natCast]
    have h2 : 2 ^ tz a < 18446744073709551616 := by rw [← h1]; exact Nat.lt_of_le_of_lt Nat.and_le_left (by omega)
    rw [Int.emod_eq_of_lt (by omega) (by omega)]
    simp
  rw [e]; exact x
theorem tz_64 {x : Nat} (h0 : x ≠ 0) (h : x < 18446744073709551616) : tz x < 64 := by
  have h1 := and_neg 64 x (by omega) (by omega)
  have h2 : 2 ^ tz x ≤ x := by rw [← h1]; exact Nat.and_le_left
  exact (Nat.pow_lt_pow_iff_right (a := 2) (by decide)).1 (Nat.lt_of_le_of_lt h2 (show x < 2 ^ 64 by omega))
theorem b_tz {g : Gs} (hD : (0, debT.map (Value.int .u8)) ∈ g) (x : Nat) (h0 : x ≠ 0) (h : x < 18446744073709551616) : FC Tryz.prog g 186 [.val (.int .u64 (x : Int))] (· = .val (.int .i64 (tz x : Int))) := by
  have h64 := tz_64 h0 h
  have hk := deb_ok (tz x) h64
  refine ax_i Tryz.func186 Tryz.ntmps186 ?_; intro F hG hO
  rw [← hG] at hD
  have hk' : rd debT (2 ^ tz ((x : Int)).toNat * 285870213051353865 % 18446744073709551616 / 288230376151711744) = (tz x : Int) := by
    rw [← hk, Int.toNat_natCast]
    simp
  repeat' ((try (conv => whnf)); first
 | (rw [hk']; with_reducible refine wrap_g (by dsimp only [inR]; omega) ?_)
 | (with_reducible refine wrap_r ?_)
 | (refine and_g (by omega) ?_)
 | (rw [wrap64]; refine shr_g (m := 288230376151711744) 58 rfl (by decide) (Int.emod_nonneg _ (by decide)) rfl ?_)
 | (with_reducible refine TabG.mk ⟨.u8, debT, hD, deb_len, by omega, ?_⟩)
 | with_reducible first | refine ax_s ?_ | (refine ax_f ?_ ?_ <;> try intro hc) | fail)
  exact ⟨ret_e rfl⟩
theorem n_bits (X : Nat) (hX : L64 X ≤ 1073741824) : FC Tryz.prog G 139 [.ws .u64 (d64 X)] (· = .val (.int .i64 (bl X : Int))) := by
  have hl : (d64 X).length = L64 X := rfl
  have hp := len64_pos X
  obtain ⟨T, hT⟩ : ∃ T, T = X / 2 ^ (64 * (L64 X - 1)) := ⟨_, rfl⟩
  have hr : Unit → 0 < L64 X → rd (d64 X) ((L64 X : Int) - 1) = (T : Int) ∧ T < 18446744073709551616 ∧ bl X = 64 * (L64 X - 1) + bl T ∧ bl T ≤ 64 := fun _ h => by
    have h0 : X ≠ 0 := fun h1 => by subst h1; rw [L64, lenB_zero] at h; omega
    obtain ⟨h1, h2⟩ := top64 h0
    rw [← hT] at h1 h2
    refine ⟨?_, h1, ?_, bl_le h1⟩
    · have := d64_rd X (L64 X - 1)
      rw [← hT, Nat.mod_eq_of_lt h1] at this
      rw [← this]; congr 1; omega
    · rw [hT]; exact bl_top X _ (by rw [← hT]; exact h2)
  refine ax_i Tryz.func139 Tryz.ntmps139 ?_; intro F hG hO
  repeat' ((try (conv => whnf)); first
 | (refine cg ?_; refine ce (n_trimN X hX) ?_)
 | (refine cg ?_; have hr2 := hr () (by omega); rw [hl, hr2.1]; refine ce (b_len T hr2.2.1) ?_)
 | with_reducible first | refine ax_s ?_ | (refine ax_f ?_ ?_ <;> try intro hc) | fail)
  · have h0 : X = 0 := by omega
    subst h0
    exact ⟨ret_e rfl⟩
  · have hr2 := hr () (by omega)
    exact ⟨ret_e (iv_eq (by omega))⟩
theorem n_bit (X : Nat) (i : Int) (hX : L64 X ≤ 1073741824) (hi : inR .i64 i) : FC Tryz.prog G 220 [.ws .u64 (d64 X), .val (.int .i64 i)] (· = .val (.bool (decide (0 ≤ i ∧ X / 2 ^ i.toNat % 2 = 1)))) := by
  dsimp only [inR] at hi
  have hl : (d64 X).length = L64 X := rfl
  have hr := rd_bd (by decide) (d64_ok X).1 (i / 64)
  have hp := (pw64 (n := (i % 64).toNat) (by omega)).1
  have hq0 := Int.ediv_nonneg hr.1 (Int.le_of_lt hp)
  have hq1 := Int.ediv_le_self (2 ^ (i % 64).toNat) hr.1
  refine ax_i Tryz.func220 Tryz.ntmps220 ?_; intro F hG hO
  repeat' ((try (conv => whnf)); first
 | (with_reducible refine shr_p (by omega) (by dsimp only [IntKind.bits]; omega) ?_)
 | (with_reducible refine mask_g (m := 2) 1 rfl rfl (by decide) (by omega) ?_)
 | with_reducible first | refine ax_s ?_ | (refine ax_f ?_ ?_ <;> try intro hc) | fail)
  · exact ⟨ret_e (bv_eq (decide_eq_false (fun h => by omega)).symm)⟩
  · refine ⟨ret_e (bv_eq (decide_eq_false (fun h => ?_)).symm)⟩
    have h1 := L64_lt X
    have h2 : X < 2 ^ i.toNat := Nat.lt_of_lt_of_le h1 (Nat.pow_le_pow_right (by decide) (by omega))
    rw [Nat.div_eq_of_lt h2] at h
    exact absurd h.2 (by decide)
  · refine ⟨ret_e (bv_eq ?_)⟩
    have h1 := d64_rd X (i / 64).toNat
    rw [show (((i / 64).toNat : Nat) : Int) = i / 64 by omega] at h1
    have h2 := bit_in X (64 * (i / 64).toNat) (i % 64).toNat 64 (by omega)
    rw [show 64 * (i / 64).toNat + (i % 64).toNat = i.toNat by omega, show (2 : Nat) ^ 64 = 18446744073709551616 by decide] at h2
    have h3 : ((2 : Int) ^ (i % 64).toNat) = ((2 ^ (i % 64).toNat : Nat) : Int) := by simp
    refine decide_eq_decide.2 ?_
    rw [h1, h3, ← Int.natCast_ediv]
    omega
theorem tz_part {X W k : Nat} (h : X % 2 ^ k = 0) (hW : W = X / 2 ^ k % 18446744073709551616) (h0 : W ≠ 0) : tz X = k + tz W := by
  obtain ⟨m, h1, h2⟩ := tz_ok h0
  have hl := tz_64 h0 (by rw [hW]; exact Nat.mod_lt _ (by decide))
  have h3 := Nat.div_add_mod X (2 ^ k)
  rw [h, Nat.add_zero] at h3
  have h4 := Nat.div_add_mod (X / 2 ^ k) 18446744073709551616
  rw [← hW] at h4
  obtain ⟨q, hq⟩ : ∃ q, q = X / 2 ^ k / 18446744073709551616 := ⟨_, rfl⟩
  rw [← hq] at h4
  obtain ⟨t, ht⟩ : ∃ t, t = tz W := ⟨_, rfl⟩
  rw [← ht] at h1 hl ⊢
  have e1 : (18446744073709551616 : Nat) = 2 ^ (63 - t) * 2 * 2 ^ t := by
    rw [Nat.mul_right_comm, ← Nat.pow_add, show 63 - t + t = 63 by omega]
  have h5 : X = (2 * (2 ^ (63 - t) * q) + m) * 2 ^ (k + t) := by
    rw [← h3, ← h4, h1, e1, Nat.pow_add]
    simp only [Nat.add_mul, Nat.mul_add]
    ac_rfl
  exact tz_eq h5 (by omega)
theorem n_trail {g : Gs} (hD : (0, debT.map (Value.int .u8)) ∈ g) (X : Nat) (hX : L64 X ≤ 1073741824) : FC Tryz.prog g 148 [.ws .u64 (d64 X)] (· = .val (.int .i64 (tz X : Int))) := by
  have hl : (d64 X).length = L64 X := rfl
  refine ax_i Tryz.func148 Tryz.ntmps148 ?_; intro F hG hO
  rw [← hG] at hD
  repeat' ((try (conv => whnf)); first
 | (refine lg ?_; refine loop_g (A := Nat) (fun j => j ≤ L64 X ∧ X % 2 ^ (64 * j) = 0) (fun j => L64 X - j) (fun j => [(0, .ws .u64 (d64 X)), (5, .val (.int .i64 (L64 X : Int))), (6, .val (.int .i64 (j : Int)))]) (fun _ => []) (fun _ => []) 0 tok (fun _ => ⟨⟨trivial, trivial, trivial, trivial⟩, trivial, by simp only [List.length_nil]; omega⟩) ?_ ⟨rfl, rfl, rfl, trivial⟩ ⟨[], rfl⟩ ⟨[], rfl⟩ ?_; rotate_left; rintro j ⟨h1, h2⟩; have hr := d64_rd X j; obtain ⟨W, hW⟩ : ∃ W, W = X / 2 ^ (64 * j) % 18446744073709551616 := ⟨_, rfl⟩; rw [← hW] at hr; have hWl : W < 18446744073709551616 := (by rw [hW]; exact Nat.mod_lt _ (by decide)))
 | (refine cg ?_; have h64 := tz_64 (x := W) (by omega) hWl; rw [hr]; refine ce (b_tz hD W (by omega) hWl) ?_)
 | with_reducible first | refine ax_s ?_ | (refine ax_f ?_ ?_ <;> try intro hc) | fail)
  · have h0 : W ≠ 0 := by omega
    have h4 := tz_part h2 hW h0
    exact ⟨ret_e (iv_eq (by rw [h4]; omega))⟩
  · have h0 : W = 0 := by omega
    refine ⟨again (j + 1) ⟨by omega, ?_⟩ (by omega) ⟨rfl, rfl, iv_eq (by omega), trivial⟩ ⟨[], rfl⟩ ⟨[], rfl⟩⟩
    rw [show 64 * (j + 1) = 64 * j + 64 by omega]
    exact mod_step X (64 * j) 64 h2 (by rw [show (2 : Nat) ^ 64 = 18446744073709551616 by decide]; omega)
  · have h3 := L64_lt X
    rw [show L64 X = j by omega] at h3
    rw [Nat.mod_eq_of_lt h3] at h2
    exact ⟨ret_e (iv_eq (by rw [h2, tz_zero]; rfl))⟩
  · exact ⟨Nat.zero_le _, by rw [Nat.mul_zero, Nat.pow_zero, Nat.mod_one]⟩
theorem L32_L64 (x : Nat) : L32 x ≤ 2 * L64 x := L32_le (by have := L64_lt x; rw [show 32 * (2 * L64 x) = 64 * L64 x by omega]; exact this)
theorem Good.lz {n e : Int} (h : Good n e) : LZ n ≤ 16384 := by have := L32_L64 n.natAbs; unfold LZ; have := h.1; omega
theorem bl_L64 (x : Nat) : bl x ≤ 64 * L64 x := bl_le (L64_lt x)
theorem Good.bl {n e : Int} (h : Good n e) : Sim.bl n.natAbs ≤ 524288 := by have := bl_L64 n.natAbs; have := h.1; omega
theorem vl_d64 (m : Nat) : (vl 18446744073709551616 (d64 m)).toNat = m := by rw [(d64_ok m).2, Int.toNat_natCast]
theorem r_zfromN (n : Int) (h : L64 n.natAbs ≤ 134217728) : FC Tryz.prog G 31 [NI n] (· = ZI n) := by
  have := r_zfrom (G := G) (decide (n < 0)) (d64 n.natAbs) (d64_ok _).1 h
  rw [vl_d64, sg_of] at this
  exact this
theorem r_formg {n e : Int} (h : Good n e) : FC Tryz.prog G 64 [DY n e] (· = .val (.bool true)) := by
  have := r_docform (G := G) (decide (n < 0)) (d64 n.natAbs) e (rd_bd (by decide) (d64_ok _).1 0)
  rw [dyF_DY n e h] at this
  exact this
theorem r_noughtg (n e : Int) : FC Tryz.prog G 189 [DY n e] (· = .val (.bool (decide (n = 0)))) := by
  have := r_nought (G := G) (decide (n < 0)) (d64 n.natAbs) e
  have hl := len64_pos n.natAbs
  rw [show decide (((d64 n.natAbs).length : Int) = 0) = decide (n = 0) from decide_eq_decide.2 (by omega)] at this
  exact this
theorem r_twing {n e : Int} (h : Good n e) : FC Tryz.prog G 190 [DY n e] (· = DY n e) := r_twin (G := G) (decide (n < 0)) (d64 n.natAbs) e (Nat.le_trans h.1 (by decide))
def topN (n e : Int) : Int := e + (bl n.natAbs : Int) - 1
theorem r_dtop {n e : Int} (h : Good n e) : FC Tryz.prog G 151 [DY n e] (· = .val (.int .i64 (topN n e))) := by
  have h1 := h.lz
  have h2 := h.bl
  obtain ⟨g1, g2, g3, g4, g5⟩ := h
  unfold LZ at h1
  have f1 := r_from (G := G) (d64 n.natAbs) (d64_ok _).1 (Nat.le_trans g1 (by decide))
  rw [vl_d64] at f1
  refine ax_i Tryz.func151 Tryz.ntmps151 ?_; intro F hG hO
  rw [← hG] at f1
  repeat' ((try (conv => whnf)); first
 | refine ce f1 ?_
 | (refine cg ?_; refine ce (r_bits n.natAbs (by omega)) ?_)
 | (refine dG (id := 1) [[0, 1, 2, 3, 4, 5, 6, 7, 8, 9]] ?_)
 | with_reducible first | refine ax_s ?_ | (refine ax_f ?_ ?_ <;> try intro hc) | fail)
  exact ⟨ret_e rfl⟩
theorem r_dsign {n e : Int} (h : Good n e) : FC Tryz.prog G 150 [DY n e] (· = .val (.int .i64 n.sign)) := by
  refine ax_i Tryz.func150 Tryz.ntmps150 ?_; intro F hG hO
  repeat' ((try (conv => whnf)); first
 | (refine cg ?_; refine ce (r_zfromN n (Nat.le_trans h.1 (by decide))) ?_)
 | (refine cg ?_; refine ce (r_sign n) ?_)
 | with_reducible first | refine ax_s ?_ | (refine ax_f ?_ ?_ <;> try intro hc) | fail)
  exact ⟨ret_e rfl⟩
def cmpS (n e m f : Int) : Int := if n.sign ≠ m.sign ∨ n.sign = 0 then (n.sign - m.sign).sign else if topN n e ≠ topN m f then n.sign * (topN n e - topN m f).sign else (n * 2 ^ (e - min e f).toNat - m * 2 ^ (f - min e f).toNat).sign
theorem sign_bd (n : Int) : -1 ≤ n.sign ∧ n.sign ≤ 1 := by
  rcases Int.lt_trichotomy n 0 with h | h | h
  · rw [Int.sign_eq_neg_one_of_neg h]; decide
  · subst h; decide
  · rw [Int.sign_eq_one_of_pos h]; decide
theorem LZ_shl (a : Int) (k : Nat) : LZ (a * 2 ^ k) ≤ LZ a + k / 32 + 1 := by
  have h := L32_shl a.natAbs k
  unfold LZ
  have e : (a * 2 ^ k).natAbs = a.natAbs * 2 ^ k := by rw [Int.natAbs_mul, Int.natAbs_pow]; rfl
  rw [e]; exact h
theorem LZ_small (a : Int) (h : a.natAbs < 4294967296) : LZ a ≤ 1 := L32_le (show a.natAbs < 2 ^ (32 * 1) by omega)
theorem r_doccmp {n e m f : Int} (h : Good n e) (g : Good m f) : FC Tryz.prog G 106 [DY n e, DY m f] (· = .tup [.val (.int .i64 (cmpS n e m f)), .val (.int .i64 0)]) := by
  have s1 := sign_bd n
  have s2 := sign_bd m
  have b1 := h.bl
  have b2 := g.bl
  have l1 := h.lz
  have l2 := g.lz
  have t1 : -2000000 ≤ topN n e ∧ topN n e ≤ 2000000 := by unfold topN; have := h.2.1; have := h.2.2.1; omega
  have t2 : -2000000 ≤ topN m f ∧ topN m f ≤ 2000000 := by unfold topN; have := g.2.1; have := g.2.2.1; omega
  have k1 := LZ_shl n (e - min e f).toNat
  have k2 := LZ_shl m (f - min e f).toNat
  have e1 := h.2.1
  have e2 := h.2.2.1
  have e3 := g.2.1
  have e4 := g.2.2.1
  have c3 := sign_bd (n * (topN n e - topN m f))
  rw [Int.sign_mul] at c3
  unfold cmpS
  refine ax_i Tryz.func106 Tryz.ntmps106 ?_; intro F hG hO
  repeat' ((try (conv => whnf)); first
 | (refine cg ?_; refine ce (r_formg h) ?_)
 | (refine cg ?_; refine ce (r_formg g) ?_)
 | (refine cg ?_; refine ce (r_dsign h) ?_)
 | (refine cg ?_; refine ce (r_dsign g) ?_)
 | (refine cg ?_; refine ce (r_dtop h) ?_)
 | (refine cg ?_; refine ce (r_dtop g) ?_)
 | (refine cg ?_; refine call_eq (r_of n.sign (by dsimp only [inR]; omega)) (LpL.refl _) rfl ?_)
 | (refine cg ?_; refine call_eq (r_of m.sign (by dsimp only [inR]; omega)) (LpL.refl _) rfl ?_)
 | (refine cg ?_; refine ce (r_zcmp n.sign m.sign (Nat.le_trans (LZ_small _ (by omega)) (by decide)) (Nat.le_trans (LZ_small _ (by omega)) (by decide))) ?_)
 | (refine cg ?_; refine call_eq (r_of (topN n e) (by dsimp only [inR]; omega)) (LpL.refl _) rfl ?_)
 | (refine cg ?_; refine call_eq (r_of (topN m f) (by dsimp only [inR]; omega)) (LpL.refl _) rfl ?_)
 | (refine cg ?_; refine ce (r_zcmp (topN n e) (topN m f) (Nat.le_trans (LZ_small _ (by omega)) (by decide)) (Nat.le_trans (LZ_small _ (by omega)) (by decide))) ?_)
 | (refine cg ?_; refine ce (r_zfromN n (Nat.le_trans h.1 (by decide))) ?_)
 | (refine cg ?_; refine ce (r_zfromN m (Nat.le_trans g.1 (by decide))) ?_)
 | (refine cg ?_; refine call_eq (r_zshl n (e - min e f) (by omega) (by dsimp only [inR]; omega) (by omega)) (LpL.refl _) rfl ?_)
 | (refine cg ?_; refine call_eq (r_zshl m (f - min e f) (by omega) (by dsimp only [inR]; omega) (by omega)) (LpL.refl _) rfl ?_)
 | (refine cg ?_; refine ce (r_zcmp (n * 2 ^ (e - min e f).toNat) (m * 2 ^ (f - min e f).toNat) (by omega) (by omega)) ?_)
 | (refine dG (id := 3) [[0, 2, 1, 3, 4, 5]] ?_)
 | (refine dG (id := 6) [[0, 2, 1, 3, 4]] ?_)
 | (refine dG (id := 7) [[0, 1, 4, 2, 3, 5, 6, 7, 8, 9, 10]] ?_)
 | (refine dG (id := 9) [[0, 1, 3, 4, 5, 6, 8, 9, 11, 12, 13, 14, 2, 7, 10, 15, 16, 17, 18]] ?_)
 | with_reducible first | refine ax_s ?_ | (refine ax_f ?_ ?_ <;> try intro hc) | fail)
  · exact ⟨ret_e (by rw [if_pos (.inl hc)])⟩
  · exact ⟨ret_e (by rw [if_pos (.inr hc)])⟩
  · exact ⟨ret_e (by rw [if_neg (by rintro (h | h) <;> contradiction), if_pos hc])⟩
  · exact ⟨ret_e (by rw [if_neg (by rintro (h | h) <;> contradiction), if_neg hc])⟩
theorem tz_odd {n : Nat} (h : n % 2 = 1) : tz n = 0 := tz_eq (m := n) (by simp) h
theorem told_good {n e : Int} (h : Good n e) : toldS n e = dyR n e := by
  obtain ⟨g1, g2, g3, g4, g5⟩ := h
  unfold toldS
  by_cases h0 : n = 0
  · rw [if_pos h0, h0, g4 h0]; rfl
  · have h1 : tz n.natAbs = 0 := tz_odd (by have := g5 h0; omega)
    have h2 := L32_L64 n.natAbs
    rw [if_neg h0, h1, Nat.pow_zero, Nat.div_one, if_neg (by omega), if_neg (by omega), if_neg (by omega), if_neg (by omega), if_neg (by omega)]
    simp
theorem Good.neg {n e : Int} (h : Good n e) : Good (-n) e := by
  obtain ⟨g1, g2, g3, g4, g5⟩ := h
  exact ⟨by rw [Int.natAbs_neg]; exact g1, g2, g3, fun h => g4 (by omega), fun h => by have := g5 (by omega); omega⟩
theorem r_docneg {n e : Int} (h : Good n e) : FC Tryz.prog G 115 [DY n e] (· = dyR (-n) e) := by
  have l1 := h.lz
  have l2 := LZ_neg n
  have e1 := h.2.1
  have e2 := h.2.2.1
  have f1 := r_told (G := G) (-n) e (by omega) (by dsimp only [inR]; omega)
  rw [told_good h.neg] at f1
  refine ax_i Tryz.func115 Tryz.ntmps115 ?_; intro F hG hO
  rw [← hG] at f1
  repeat' ((try (conv => whnf)); first
 | (refine cg ?_; refine ce (r_formg h) ?_)
 | (refine cg ?_; refine ce (r_zfromN n (Nat.le_trans h.1 (by decide))) ?_)
 | (refine cg ?_; refine ce (r_flip n (by omega)) ?_)
 | refine ce f1 ?_
 | (refine dG (id := 3) [[0, 1, 4, 5, 2, 3, 6, 7, 8], [9, 10]] ?_)
 | with_reducible first | refine ax_s ?_ | (refine ax_f ?_ ?_ <;> try intro hc) | fail)
  exact ⟨ret_e rfl⟩
def addS (n e m f : Int) : PV :=
  if n = 0 then dyR m f else if m = 0 then dyR n e else if 524288 ≤ topN n e - min e f ∨ 524288 ≤ topN m f - min e f then dyE 5
  else if 524288 < bl (n * 2 ^ (e - min e f).toNat + m * 2 ^ (f - min e f).toNat).natAbs then dyE 5 else toldS (n * 2 ^ (e - min e f).toNat + m * 2 ^ (f - min e f).toNat) (min e f)
end Go.Proofs.YtpjbgmafnheomaaGreatDoor.Sim
