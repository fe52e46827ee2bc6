/-
  Lemmas of SintableRowsCardSaid, part 11.
-/
import Derived.Test.YtfnmlikgdfmcbaaDoorPkSintableRowsCardSaidJ
import Derived.Test.YtfnmlikgdfmcbaaDoorRows
import Derived.DeepKeys
namespace Go.Proofs.YtfnmlikgdfmcbaaDoor.Sim
open Go.RowKit
set_option linter.unusedVariables false
set_option linter.unusedSimpArgs false
set_option maxRecDepth 10000
set_option maxHeartbeats 8000000
def xToBits : List Value → Option PV
  | [.float .f64 b] => some (.val (.int .u64 (Int.ofNat b)))
  | _ => none
def xFromBits : List Value → Option PV
  | [.int .u64 n] => some (.val (.float .f64 n.toNat))
  | _ => none
def xFloor : List Value → Option PV
  | [.float .f64 x] => match FloatKind.f64.decode x with
    | .nan _ _ => none
    | d => some (.val (.float .f64 (FloatKind.f64.encode (d.integral .down))))
  | _ => none
section
variable {P : Program} {f : FuncId} {fn : Func}
theorem ext_toBits (hf : P.funcs[f]? = some fn) (h1 : (fn.name == "runtime.NumGoroutine") = false) (h2 : fn.body.isNone = true) (h3 : Extern.findNext fn = none) {e : Array Value → Go.Sem Value} (h4 : Extern.find fn = some e) (he : e = Extern.MathFloatBits.float64bits)
    (vs : List Value) (r : PV) (h : xToBits vs = some r) : ExtOk P f vs r := by
  subst he
  unfold xToBits at h
  split at h
  · cases h
    exact ⟨_, fun cx => .val _, fun w => run_ext hf h1 h2 h3 h4 (fun w => rfl) w⟩
  · cases h
theorem ext_fromBits (hf : P.funcs[f]? = some fn) (h1 : (fn.name == "runtime.NumGoroutine") = false) (h2 : fn.body.isNone = true) (h3 : Extern.findNext fn = none) {e : Array Value → Go.Sem Value} (h4 : Extern.find fn = some e) (he : e = Extern.MathFloatBits.float64frombits)
    (vs : List Value) (r : PV) (h : xFromBits vs = some r) : ExtOk P f vs r := by
  subst he
  unfold xFromBits at h
  split at h
  · cases h
    exact ⟨_, fun cx => .val _, fun w => run_ext hf h1 h2 h3 h4 (fun w => rfl) w⟩
  · cases h
def floorM (x : Nat) (d : Ieee.Datum) : Go.Sem Value := match d with
  | .nan s t =>
    if FloatKind.f64.format.quiet t = t then pure (.float .f64 x) else do
    let kept ← Go.choose (.extern "math.Floor,Ceil,Trunc,RoundToEven.signallingNaN kept" 2)
    pure (.float .f64 (if kept == 1 then x else FloatKind.f64.encode (.nan s (FloatKind.f64.format.quiet t))))
  | d => pure (.float .f64 (FloatKind.f64.encode (d.integral .down)))
theorem ext_floor (hf : P.funcs[f]? = some fn) (h1 : (fn.name == "runtime.NumGoroutine") = false) (h2 : fn.body.isNone = true) (h3 : Extern.findNext fn = none) {e : Array Value → Go.Sem Value} (h4 : Extern.find fn = some e) (he : e = Extern.MathFloor.toIntegral "math.archFloor" .down)
    (vs : List Value) (r : PV) (h : xFloor vs = some r) : ExtOk P f vs r := by
  subst he
  unfold xFloor at h
  split at h
  · rename_i x
    cases hd : FloatKind.f64.decode x with
    | nan s t => rw [hd] at h; cases h
    | _ =>
      rw [hd] at h
      cases h
      exact ⟨_, fun cx => .val _, fun w => run_ext hf h1 h2 h3 h4 (fun w => by
        have e : Extern.MathFloor.toIntegral "math.archFloor" .down [Value.float .f64 x].toArray = floorM x (FloatKind.f64.decode x) := rfl
        rw [e, hd]
        rfl) w⟩
  · cases h
end
def XT : List (FuncId × (List Value → Option PV)) := [(14, xToBits), (10, xFromBits), (30, xFloor)]
theorem xok : XOk Tryd.prog XT := by
  intro f e h vs r hr
  simp only [XT, extOf] at h
  split at h
  · rename_i hb
    cases h
    obtain rfl := (Nat.eq_of_beq_eq_true hb).symm
    exact ext_toBits Tryd.func14 (by rfl) (by rfl) (by rfl) (by rfl) rfl vs r hr
  · split at h
    · rename_i hb
      cases h
      obtain rfl := (Nat.eq_of_beq_eq_true hb).symm
      exact ext_fromBits Tryd.func10 (by rfl) (by rfl) (by rfl) (by rfl) rfl vs r hr
    · split at h
      · rename_i hb
        cases h
        obtain rfl := (Nat.eq_of_beq_eq_true hb).symm
        exact ext_floor Tryd.func30 (by rfl) (by rfl) (by rfl) (by rfl) rfl vs r hr
      · cases h
theorem f2b_g {b : Nat} {K : PV → Prop} (k : K (.val (.int .u64 (b : Int)))) : ExtF Tryd.prog 14 [.float .f64 b] K :=
  ⟨_, ext_toBits Tryd.func14 (by rfl) (by rfl) (by rfl) (by rfl) rfl _ _ rfl, k⟩
theorem b2f_g {n : Int} {K : PV → Prop} (k : K (.val (.float .f64 n.toNat))) : ExtF Tryd.prog 10 [.int .u64 n] K :=
  ⟨_, ext_fromBits Tryd.func10 (by rfl) (by rfl) (by rfl) (by rfl) rfl _ _ rfl, k⟩
def tSH : List Int := [0, 4580160454536392405, 4584662954719242351, 4586913746847464361, 4589162157373738715, 4590288195321689435, 4591409928847315172, 4592530015553861917, 4593648181988224566, 4594217887542005423, 4594774641278281419, 4595330026238453491, 4595883906833248949, 4596436147840664338, 4596986614438977945, 4597535172239664592, 4598081687320204663, 4598400622901027894, 4598671637851060342, 4598941432118424735, 4599209939836720088, 4599477095453637920, 4599742833746965911, 4600007089840510967, 4600269799219937812, 4600530897748519241, 4600790321682794181, 4601048007688129738, 4601303892854183447, 4601557914710261923, 4601810011240572191, 4602060120899361946, 4602308182625945072, 4602554135859608727, 4602738369863522645, 4602859148183212033, 4602978782988901435, 4603097245073468848, 4603214505516095308, 4603330535689325499, 4603445307266056734, 4603558792226454607, 4603670962864793643, 4603781791796221242, 4603891251963443307, 4603999316643329889, 4604105959453439260, 4604211154358458803, 4604314875676561165, 4604417098085674105, 4604517796629662511, 4604616946724421089, 4604714524163876216]
def tSL : List Int := [0, 13547579073368098678, 13563949304181312226, 13566418493652244858, 13565635294520691561, 13571915860097451659, 4340058461531295770, 4350074286710082760, 13567934672008572987, 13575801550145022373, 4351741018788776849, 13575806695459752374, 4343065779550066627, 4348722683634062205, 4353223431030508715, 13574744420402360258, 13574233591919817400, 13581162171891704500, 4356212803758837748, 4350852416605968391, 4323523077633180570, 4357271923058577069, 4352666692703215819, 13582162211903916717, 13575796336720852686, 4357413022124190944, 13580214217610903384, 13572214364228865741, 13581416402800735513, 4350934527179136935, 13574689896800117400, 4355214790318226842, 13571467409308189309, 4348745855762497699, 13583657803099765505, 13584816096337794294, 4363303634146990465, 4351425392996656264, 4355590242459458906, 4359101603699473614, 13587258310203108016, 4363824495314211675, 13578651590041733032, 13572694174990798784, 13583961949702083845, 4332702558478714268, 13584475955338184753, 4349496730363867543, 4362137232034453386, 13587040772166132762, 13584747444859885030, 13578607042041458003, 13578955971649868450]
def tCH : List Int := [4607182418800017408, 4607181319310759071, 4607178021111408595, 4607172525007174047, 4607164832339850451, 4607154944987492207, 4607142865363954587, 4607128596418304433, 4607112141634100179, 4607093505028541395, 4607072691151488040, 4607049705084349686, 4607024552438844956, 4606997239355631511, 4606967772502806894, 4606936159074280607, 4606902406788017825, 4606866523884155164, 4606828519122988968, 4606788401782836611, 4606746181657771328, 4606701869055231132, 4606655474793502401, 4606607010199078750, 4606556487103895826, 4606503917842442716, 4606449315248750656, 4606392692653259782, 4606334063879564703, 4606273443241039662, 4606210845537344132, 4606146286050809694, 4606079780542709072, 4606011345249408245, 4605940996878402574, 4605868752604237902, 4605794630064317638, 4605718647354596837, 4605640823025164333, 4605561176075713999, 4605479725950906245, 4605396492535620884, 4605311496150102525, 4605224757544999671, 4605136297896298752, 4605046138800154310, 4604954302267616605, 4604860810719257935, 4604765686979698975, 4604668954272036472, 4604570636212173661, 4604470756803054778, 4604369340428805087]
def tCL : List Int := [0, 4360199296339566323, 13583900207205620571, 13580802267923385695, 4360373087281693295, 13577437272034865047, 4360356363645614299, 4354598035789022892, 4362696058276736952, 13570800116725065577, 4362962654239356002, 13586345316221922070, 13584713310975483060, 4354481718263263700, 13574441066790794388, 4358239809693653067, 4363209716120537853, 13568216631309222833, 13582908836409922622, 13583461530133150952, 13584618491671399955, 13584699945613158451, 13571140830922498923, 13586847198672795332, 4347296784401157429, 4363977163357160349, 13584934786183195703, 4359027992459594717, 4361936029453593101, 4351864918935878296, 4357993302370877731, 13574337134639884416, 13585268877995206696, 4355855762229825693, 4347198757411991008, 4348506336573684245, 4355505676600721602, 4362012674173089484, 4353219448755111826, 13584701159983126121, 13583368851881006598, 4361493040018204585, 13583066472705394221, 13578632912864623495, 4361846053882066113, 4355887936269445597, 13577764333051586782, 13577354343185313384, 13576144875971963077, 4360651779814366337, 4355362127650550962, 13572015408658218103, 4360729798899938000]
def GS : List (Nat × List Value) := [(0, tSH.map (Value.int .u64)), (1, tSL.map (Value.int .u64)), (2, tCH.map (Value.int .u64)), (3, tCL.map (Value.int .u64))]
theorem gs0 : (0, tSH.map (Value.int .u64)) ∈ GS := .head _
theorem gs1 : (1, tSL.map (Value.int .u64)) ∈ GS := .tail _ (.head _)
theorem gs2 : (2, tCH.map (Value.int .u64)) ∈ GS := .tail _ (.tail _ (.head _))
theorem gs3 : (3, tCL.map (Value.int .u64)) ∈ GS := .tail _ (.tail _ (.tail _ (.head _)))
theorem l_place5 (G : List (Nat × List Value)) : FC Tryd.prog G 9 [.val (.float .f64 13826050856027422720)] (· = .tup [.val (.int .i64 32), .val (.int .i64 0)]) := ⟨by kernel_rfl, reckon xok mixed 500 (by kernel_rfl)⟩
def DDV (a b : Nat) : PV := .agg [.val (.float .f64 a), .val (.float .f64 b)]
theorem l_pair (G : List (Nat × List Value)) (a b : Int) : FC Tryd.prog G 12 [.val (.int .u64 a), .val (.int .u64 b)] (· = DDV a.toNat b.toNat) := by
  refine ax_i Tryd.func12 Tryd.ntmps12 (by rw [Tryd.results12]) ?_; intro F hG hO
  repeat' ((try (conv => whnf)); first
  | (with_reducible refine b2f_g ?_)
  
  | with_reducible first | refine ax_s ?_ | refine BothG.mk ?_ ?_ | (refine ax_f ?_ ?_ <;> intro hc) | refine smk ?_ | fail)
  all_goals exact ⟨ret_e rfl⟩
theorem l_bits (G : List (Nat × List Value)) (a b c d : Nat) : FC Tryd.prog G 8 [DDV a b, DDV c d] (· = .agg [.val (.int .u64 (a : Int)), .val (.int .u64 (b : Int)), .val (.int .u64 (c : Int)), .val (.int .u64 (d : Int))]) := by
  unfold DDV
  refine ax_i Tryd.func8 Tryd.ntmps8 (by rw [Tryd.results8]) ?_; intro F hG hO
  repeat' ((try (conv => whnf)); first
  | (with_reducible refine f2b_g ?_)
  
  | (with_reducible refine draw_g (id := 1) [[0, 1, 3, 4, 6, 7, 9, 10, 2, 5, 8, 11, 12], [13]] tok mixed (by kernel_rfl) ?_)
  | with_reducible first | refine ax_s ?_ | refine BothG.mk ?_ ?_ | (refine ax_f ?_ ?_ <;> intro hc) | refine smk ?_ | fail)
  all_goals exact ⟨ret_e rfl⟩
theorem l_rowX (G : List (Nat × List Value)) (j : Int) (h : j < 0 ∨ 52 < j) : FC Tryd.prog G 6 [.val (.int .i64 j)] (· = .tup [DDV 0 0, DDV 0 0, .val (.int .i64 1)]) := by
  refine ax_i Tryd.func6 Tryd.ntmps6 (by rw [Tryd.results6]) ?_; intro F hG hO
  repeat' ((try (conv => whnf)); first
  
  | (with_reducible refine draw_g (id := 3) [[0, 1, 2, 3, 4, 5, 7, 8, 9, 10, 11, 12, 6, 13], [14], [15, 16]] tok mixed (by kernel_rfl) ?_)
  | with_reducible first | refine ax_s ?_ | refine BothG.mk ?_ ?_ | (refine ax_f ?_ ?_ <;> intro hc) | refine smk ?_ | fail)
  all_goals exact ⟨ret_e rfl⟩
theorem l_row (j : Int) (h : 0 ≤ j ∧ j ≤ 52) : FC Tryd.prog GS 6 [.val (.int .i64 j)] (· = .tup [DDV (rd tSH j).toNat (rd tSL j).toNat, DDV (rd tCH j).toNat (rd tCL j).toNat, .val (.int .i64 0)]) := by
  have g0 := gs0
  have g1 := gs1
  have g2 := gs2
  have g3 := gs3
  have n0 : tSH.length = 53 := rfl
  have n1 : tSL.length = 53 := rfl
  have n2 : tCH.length = 53 := rfl
  have n3 : tCL.length = 53 := rfl
  have p := fun (a b : Int) => l_pair GS a b
  generalize tSH = a at g0 n0 ⊢
  generalize tSL = b at g1 n1 ⊢
  generalize tCH = c at g2 n2 ⊢
  generalize tCL = d at g3 n3 ⊢
  refine ax_i Tryd.func6 Tryd.ntmps6 (by rw [Tryd.results6]) ?_; intro F hG hO
  rw [← hG] at g0 g1 g2 g3 p
  repeat' ((try (conv => whnf)); first
  | (with_reducible refine TabG.mk ⟨.u64, a, g0, n0, by omega, ?_⟩)
  | (with_reducible refine TabG.mk ⟨.u64, b, g1, n1, by omega, ?_⟩)
  | (with_reducible refine TabG.mk ⟨.u64, c, g2, n2, by omega, ?_⟩)
  | (with_reducible refine TabG.mk ⟨.u64, d, g3, n3, by omega, ?_⟩)
  | ((with_reducible refine cg ?_); refine call_eq (p _ _) (LpL.refl _) rfl ?_)
  
  | (with_reducible refine draw_g (id := 3) [[0, 1, 2, 3, 4, 5, 7, 8, 9, 10, 11, 12, 6, 13], [14], [15, 16]] tok mixed (by kernel_rfl) ?_)
  | with_reducible first | refine ax_s ?_ | refine BothG.mk ?_ ?_ | (refine ax_f ?_ ?_ <;> intro hc) | refine smk ?_ | fail)
  all_goals exact ⟨ret_e rfl⟩
theorem l_awake23 : FC Tryd.prog GS 5 [] (· = .val (.bool true)) := by
  have f1 := l_row 32 (by decide)
  have f2 := l_place5 GS
  have f3 := l_bits GS (rd tSH 32).toNat (rd tSL 32).toNat (rd tCH 32).toNat (rd tCL 32).toNat
  have e1 : (rd tSH 32).toNat = 4602308182625945072 := rfl
  have e2 : (rd tCH 32).toNat = 4606079780542709072 := rfl
  rw [e1, e2] at f1 f3
  generalize (rd tSL 32).toNat = a at f1 f3
  generalize (rd tCL 32).toNat = b at f1 f3
  refine ax_i Tryd.func5 Tryd.ntmps5 (by rw [Tryd.results5]) ?_; intro F hG hO
  rw [← hG] at f1 f2 f3
  repeat' ((try (conv => whnf)); first
  | ((with_reducible refine cg ?_); first | refine ceq f1 rfl ?_ | refine ceq f2 rfl ?_ | refine ceq f3 rfl ?_)
  
  | with_reducible first | refine ax_s ?_ | refine BothG.mk ?_ ?_ | (refine ax_f ?_ ?_ <;> intro hc) | refine smk ?_ | fail)
  all_goals exact ⟨ret_e rfl⟩
end Go.Proofs.YtfnmlikgdfmcbaaDoor.Sim
namespace Go.Proofs.YtfnmlikgdfmcbaaDoor.Sim
open Go.RowKit
set_option linter.unusedVariables false
set_option linter.unusedSimpArgs false
set_option maxRecDepth 10000
set_option maxHeartbeats 8000000
section
variable {P : Program}
theorem keyLits_u64 {e : TypeId} {D : Nat} {a : Int} (he : P.underlying e = some (.int .u64)) (ha : (Lit.int .u64 a).wf = true) : P.keyLits (D + 1) e [.int .u64 a] = some [.int .u64 a] := by
  unfold Program.keyLits
  rw [he]
  exact if_pos ⟨rfl, ha⟩
theorem keyOf_row {t : TypeId} {fs : Array Field} {e N : Nat} (hN : P.types.size = N + 1) (hu : P.underlying t = some (.struct fs)) (hfs : fs.toList.map (fun f => (f.type, f.offset)) = [(e, 0), (e, 1), (e, 2), (e, 3)]) (hn : fs.all (·.name != "_") = true) (he : P.underlying e = some (.int .u64)) (hc : P.cellsOf e = 1) (ht : P.cellsOf t = 4) (hk : P.keyType t = true)
    {a b c d : Int} (wa : (Lit.int .u64 a).wf = true) (wb : (Lit.int .u64 b).wf = true) (wc : (Lit.int .u64 c).wf = true) (wd : (Lit.int .u64 d).wf = true) : ∃ lx, keyOf P t (.agg [.int .u64 a, .int .u64 b, .int .u64 c, .int .u64 d].toArray) = some lx := by
  have hform : Value.formed P t (.agg [.int .u64 a, .int .u64 b, .int .u64 c, .int .u64 d].toArray) = true := by
    unfold Value.formed
    rw [hu, ht]
    rfl
  have hl : P.keyLits (P.types.size + 1) t [.int .u64 a, .int .u64 b, .int .u64 c, .int .u64 d] = some [.int .u64 a, .int .u64 b, .int .u64 c, .int .u64 d] := by
    rw [hN]
    unfold Program.keyLits
    rw [hu]
    dsimp only
    rw [if_pos ⟨ht.symm ▸ rfl, hn⟩]
    generalize fs.toList = L at hfs
    have hlen : L.length = 4 := by have := congrArg List.length hfs; simpa using this
    match L, hlen with
    | [f0, f1, f2, f3], _ =>
      simp only [List.map_cons, List.map_nil, List.cons.injEq, Prod.mk.injEq, and_true] at hfs
      obtain ⟨⟨t0, o0⟩, ⟨t1, o1⟩, ⟨t2, o2⟩, ⟨t3, o3⟩⟩ := hfs
      simp only [List.mapM_cons, List.mapM_nil, t0, t1, t2, t3, o0, o1, o2, o3, hc, List.drop_zero, List.drop_succ_cons, List.take_succ_cons, List.take_zero, keyLits_u64 he wa, keyLits_u64 he wb, keyLits_u64 he wc, keyLits_u64 he wd]
      rfl
  unfold keyOf
  rw [hu]
  dsimp only
  rw [if_pos (by rw [hk, hform]; rfl)]
  show ∃ lx, (P.keyLits (P.types.size + 1) t [.int .u64 a, .int .u64 b, .int .u64 c, .int .u64 d]).map _ = some lx
  rw [hl]
  exact ⟨_, rfl⟩
theorem still_neqrow {F : Fr} {o : Oper} {s : St} {t t' : TypeId} {x y : Operand} {fs : Array Field} {e N : Nat} {a b c d : Int} (ho : o.op = .binOp .neq t x y t') (hx : pev s x = .agg [.val (.int .u64 a), .val (.int .u64 b), .val (.int .u64 c), .val (.int .u64 d)]) (hy : pev s y = .agg [.val (.int .u64 a), .val (.int .u64 b), .val (.int .u64 c), .val (.int .u64 d)])
    (hm : P.keyTypeAt 10 t = true) (hg : P.eqGuardType P.depth t = false)
    (hN : P.types.size = N + 1) (hu : P.underlying t = some (.struct fs)) (hfs : fs.toList.map (fun f => (f.type, f.offset)) = [(e, 0), (e, 1), (e, 2), (e, 3)]) (hn : fs.all (·.name != "_") = true) (he : P.underlying e = some (.int .u64)) (hc : P.cellsOf e = 1) (ht : P.cellsOf t = 4) (hk : P.keyType t = true)
    (wa : (Lit.int .u64 a).wf = true) (wb : (Lit.int .u64 b).wf = true) (wc : (Lit.int .u64 c).wf = true) (wd : (Lit.int .u64 d).wf = true)
    : Still P F o s (.val (.bool false)) := by
  intro c' A w hi
  have rx := pev_rep hi x
  have ry := pev_rep hi y
  rw [hx] at rx
  rw [hy] at ry
  generalize hvx : A.eval x = vx at rx
  generalize hvy : A.eval y = vy at ry
  cases rx with
  | agg rx =>
    cases ry with
    | agg ry =>
      cases rx with
      | cons r1 rx => cases rx with
        | cons r2 rx => cases rx with
          | cons r3 rx => cases rx with
            | cons r4 rx => cases rx; cases ry with
              | cons q1 ry => cases ry with
                | cons q2 ry => cases ry with
                  | cons q3 ry => cases ry with
                    | cons q4 ry =>
                      cases ry
                      cases r1; cases r2; cases r3; cases r4; cases q1; cases q2; cases q3; cases q4
                      obtain ⟨lx, hl⟩ := keyOf_row hN hu hfs hn he hc ht hk wa wb wc wd
                      refine ⟨.bool false, .val _, fun w' _ => ?_⟩
                      obtain ⟨r, hr, hiff⟩ := run_equal_deep w' (m := 10) (by decide) hm (by rw [hu]) hl hl
                      obtain rfl : r = true := hiff.2 rfl
                      have hgd : ∀ (X Y : Array Value), (Go.eqGuard .neq t x y (.agg X) (.agg Y)).run P w' = .ok () w' := fun X Y => by
                        unfold Go.eqGuard
                        simp only [Bool.not_true, Bool.false_eq_true, if_false, Go.Sem.run_bind, run_program, Result.andThen_ok, hg, Bool.not_false, if_true]
                        rfl
                      simp only [execOp, ho, hvx, hvy, Go.Sem.run_bind, hgd, Result.andThen_ok, Go.binOp, hr]
                      rfl
end
end Go.Proofs.YtfnmlikgdfmcbaaDoor.Sim
namespace Go.Proofs.YtfnmlikgdfmcbaaDoor.Sim
open Go.RowKit
set_option linter.unusedVariables false
set_option linter.unusedSimpArgs false
set_option maxRecDepth 10000
set_option maxHeartbeats 8000000
def rowOk (j : Nat) : Bool := decide (haS true j = some ((rd tSH j).toNat, (rd tSL j).toNat)) && decide (haS false j = some ((rd tCH j).toNat, (rd tCL j).toNat))
theorem rows_all : (List.range 52).all (fun i => rowOk (i + 1)) = true := by decide +kernel
theorem row_ok (j : Int) (h : 1 ≤ j ∧ j ≤ 52) : haS true j = some ((rd tSH j).toNat, (rd tSL j).toNat) ∧ haS false j = some ((rd tCH j).toNat, (rd tCL j).toNat) := by
  have := List.all_eq_true.1 rows_all (j.toNat - 1) (List.mem_range.2 (by omega))
  rw [show j.toNat - 1 + 1 = j.toNat by omega] at this
  simp only [rowOk, Bool.and_eq_true, decide_eq_true_eq] at this
  rw [Int.toNat_of_nonneg (by omega)] at this
  exact this
theorem rw_ex : ∃ fs : Array Field, Tryd.prog.underlying 32 = some (.struct fs) ∧ fs.toList.map (fun f => (f.type, f.offset)) = [(30, 0), (30, 1), (30, 2), (30, 3)] ∧ fs.all (·.name != "_") = true :=
  ⟨(match Tryd.prog.underlying 32 with
  | some (.struct fs) => fs
  | _ => #[]), by kernel_rfl, by kernel_rfl, by kernel_rfl⟩
theorem rw_m : Tryd.prog.keyTypeAt 10 32 = true := by kernel_rfl
theorem rw_g : Tryd.prog.eqGuardType Tryd.prog.depth 32 = false := by kernel_rfl
theorem rw_N : Tryd.prog.types.size = (Tryd.prog.types.size - 1) + 1 := by kernel_rfl
theorem rw_e : Tryd.prog.underlying 30 = some (.int .u64) := by kernel_rfl
theorem rw_c : Tryd.prog.cellsOf 30 = 1 := by kernel_rfl
theorem rw_t : Tryd.prog.cellsOf 32 = 4 := by kernel_rfl
theorem rw_k : Tryd.prog.keyType 32 = true := by kernel_rfl
theorem u64_wf {n : Nat} (h : n < 18446744073709551616) : (Lit.int .u64 (n : Int)).wf = true := by
  simp only [Lit.wf, Bool.and_eq_true, decide_eq_true_eq]
  exact ⟨Int.natCast_nonneg n, by simp only [IntKind.max, IntKind.bits, IntKind.signed]; simp; omega⟩
theorem tab_ok : okD 18446744073709551616 tSH ∧ okD 18446744073709551616 tSL ∧ okD 18446744073709551616 tCH ∧ okD 18446744073709551616 tCL := by unfold okD; decide +kernel
theorem tab_lt {t : List Int} (h : okD 18446744073709551616 t) (hl : t.length = 53) (j : Int) (hj : 0 ≤ j ∧ j ≤ 52) : (rd t j).toNat < 18446744073709551616 := by
  have := okD_rd h j.toNat (by omega)
  rw [Int.toNat_of_nonneg hj.1] at this
  omega
def WF4 (a b c d : Nat) : Prop := (Lit.int .u64 (a : Int)).wf = true ∧ (Lit.int .u64 (b : Int)).wf = true ∧ (Lit.int .u64 (c : Int)).wf = true ∧ (Lit.int .u64 (d : Int)).wf = true
theorem l_each (j : Int) (hj : inR .i64 j) : ∃ (a b c d : Nat) (e : Int), WF4 a b c d ∧ FC Tryd.prog GS 6 [.val (.int .i64 j)] (· = .tup [DDV a b, DDV c d, .val (.int .i64 e)]) ∧ FC Tryd.prog GS 7 [.val (.int .i64 j)] (· = .tup [RowV a b c d, .val (.int .i64 e)]) := by
  by_cases h : j < 0 ∨ 52 < j
  · exact ⟨0, 0, 0, 0, 1, ⟨rfl, rfl, rfl, rfl⟩, l_rowX GS j h, t_docrow j hj (r := (RowV 0 0 0 0, 1)) (by unfold docR; rw [if_pos h])⟩
  · have wf : WF4 (rd tSH j).toNat (rd tSL j).toNat (rd tCH j).toNat (rd tCL j).toNat := ⟨u64_wf (tab_lt tab_ok.1 rfl j (by omega)), u64_wf (tab_lt tab_ok.2.1 rfl j (by omega)), u64_wf (tab_lt tab_ok.2.2.1 rfl j (by omega)), u64_wf (tab_lt tab_ok.2.2.2 rfl j (by omega))⟩
    by_cases h0 : j = 0
    · subst h0
      exact ⟨0, 0, 4607182418800017408, 0, 0, wf, l_row 0 (by decide), t_docrow 0 hj (r := (RowV 0 0 4607182418800017408 0, 0)) rfl⟩
    · obtain ⟨h1, h2⟩ := row_ok j (by omega)
      refine ⟨_, _, _, _, 0, wf, l_row j (by omega), t_docrow j hj (r := (RowV (rd tSH j).toNat (rd tSL j).toNat (rd tCH j).toNat (rd tCL j).toNat, 0)) ?_⟩
      unfold docR
      rw [if_neg h, if_neg h0, h1, h2]
      rfl
theorem l_sintableRows (l : List Int) (ho : ∀ i, i < l.length → inR .i64 (rd l (i : Int))) (hl : l.length ≤ 9223372036854775807) : FC Tryd.prog GS 3 [.ws .i64 l] (· = .val (.bool true)) := by
  obtain ⟨fs, rw_u, rw_f, rw_n⟩ := rw_ex
  have aw := l_awake23
  have he := fun i hi => l_each _ (ho i hi)
  have hb := fun a b c d => l_bits GS a b c d
  refine ax_i Tryd.func3 Tryd.ntmps3 (by rw [Tryd.results3]) ?_; intro F hG hO
  rw [← hG] at aw he hb
  repeat' ((try (conv => whnf)); first
  | ((with_reducible refine cg ?_); first | refine ceq aw rfl ?_)
  | ((with_reducible refine lg ?_); refine loop_g (A := Nat) (fun m => m ≤ l.length) (fun m => l.length - m) (fun m => [(12, .ws .i64 l), (13, .val (.int .i64 (l.length : Int))), (14, .val (.int .i64 (m : Int)))]) (fun _ => []) (fun _ => []) 0 tok (fun _ => ⟨⟨trivial, trivial, trivial, trivial⟩, trivial, by simp only [List.length_nil]; omega⟩) (Nat.zero_le _) ⟨rfl, rfl, rfl, trivial⟩ ⟨[], rfl⟩ ⟨[], rfl⟩ ?_; intro m hm; rcases Nat.lt_or_ge m l.length with hlt | hge; obtain ⟨a, b, c, d, e, ⟨wa, wb, wc, wd⟩, k1, k2⟩ := he m hlt)
  | ((with_reducible refine cg ?_); first | refine ceq k1 rfl ?_ | refine ceq k2 rfl ?_)
  | ((with_reducible refine cg ?_); refine call_eq (hb _ _ _ _) (LpL.refl _) rfl ?_)
  | (refine RawG.mk ?_; refine Sem.still (still_neqrow rfl rfl rfl rw_m rw_g rw_N rw_u rw_f rw_n rw_e rw_c rw_t rw_k wa wb wc wd) rfl ?_)
  
  | (with_reducible refine draw_g (id := 8) [[0, 1, 3, 2, 4, 5, 6, 7, 8, 9]] tok mixed (by kernel_rfl) ?_)
  | with_reducible first | refine ax_s ?_ | refine BothG.mk ?_ ?_ | (refine ax_f ?_ ?_ <;> intro hc) | refine smk ?_ | fail)
  · exact ⟨again (m + 1) (by omega) (by omega) ⟨rfl, rfl, rfl, trivial⟩ ⟨_, rfl⟩ ⟨_, rfl⟩⟩
  · exact ⟨ret_e rfl⟩
end Go.Proofs.YtfnmlikgdfmcbaaDoor.Sim
