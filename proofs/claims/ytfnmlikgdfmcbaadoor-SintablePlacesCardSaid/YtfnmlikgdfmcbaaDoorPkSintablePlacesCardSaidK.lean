/-
  Lemmas of SintablePlacesCardSaid, part 11.
-/
import Derived.Test.YtfnmlikgdfmcbaaDoorPkSintablePlacesCardSaidJ
import Derived.Test.YtfnmlikgdfmcbaaDoorRows
namespace Go.Proofs.YtfnmlikgdfmcbaaDoor.Sim
open Go.RowKit
set_option linter.unusedVariables false
set_option linter.unusedSimpArgs false
set_option maxRecDepth 10000
set_option maxHeartbeats 8000000
def xToBits : List Value → Option PV
  | [.float .f64 b] => some (.val (.int .u64 (Int.ofNat b)))
  | _ => none
def xFromBits : List Value → Option PV
  | [.int .u64 n] => some (.val (.float .f64 n.toNat))
  | _ => none
def xFloor : List Value → Option PV
  | [.float .f64 x] => match FloatKind.f64.decode x with
    | .nan _ _ => none
    | d => some (.val (.float .f64 (FloatKind.f64.encode (d.integral .down))))
  | _ => none
section
variable {P : Program} {f : FuncId} {fn : Func}
theorem ext_toBits (hf : P.funcs[f]? = some fn) (h1 : (fn.name == "runtime.NumGoroutine") = false) (h2 : fn.body.isNone = true) (h3 : Extern.findNext fn = none) {e : Array Value → Go.Sem Value} (h4 : Extern.find fn = some e) (he : e = Extern.MathFloatBits.float64bits)
    (vs : List Value) (r : PV) (h : xToBits vs = some r) : ExtOk P f vs r := by
  subst he
  unfold xToBits at h
  split at h
  · cases h
    exact ⟨_, fun cx => .val _, fun w => run_ext hf h1 h2 h3 h4 (fun w => rfl) w⟩
  · cases h
theorem ext_fromBits (hf : P.funcs[f]? = some fn) (h1 : (fn.name == "runtime.NumGoroutine") = false) (h2 : fn.body.isNone = true) (h3 : Extern.findNext fn = none) {e : Array Value → Go.Sem Value} (h4 : Extern.find fn = some e) (he : e = Extern.MathFloatBits.float64frombits)
    (vs : List Value) (r : PV) (h : xFromBits vs = some r) : ExtOk P f vs r := by
  subst he
  unfold xFromBits at h
  split at h
  · cases h
    exact ⟨_, fun cx => .val _, fun w => run_ext hf h1 h2 h3 h4 (fun w => rfl) w⟩
  · cases h
def floorM (x : Nat) (d : Ieee.Datum) : Go.Sem Value := match d with
  | .nan s t =>
    if FloatKind.f64.format.quiet t = t then pure (.float .f64 x) else do
    let kept ← Go.choose (.extern "math.Floor,Ceil,Trunc,RoundToEven.signallingNaN kept" 2)
    pure (.float .f64 (if kept == 1 then x else FloatKind.f64.encode (.nan s (FloatKind.f64.format.quiet t))))
  | d => pure (.float .f64 (FloatKind.f64.encode (d.integral .down)))
theorem ext_floor (hf : P.funcs[f]? = some fn) (h1 : (fn.name == "runtime.NumGoroutine") = false) (h2 : fn.body.isNone = true) (h3 : Extern.findNext fn = none) {e : Array Value → Go.Sem Value} (h4 : Extern.find fn = some e) (he : e = Extern.MathFloor.toIntegral "math.archFloor" .down)
    (vs : List Value) (r : PV) (h : xFloor vs = some r) : ExtOk P f vs r := by
  subst he
  unfold xFloor at h
  split at h
  · rename_i x
    cases hd : FloatKind.f64.decode x with
    | nan s t => rw [hd] at h; cases h
    | _ =>
      rw [hd] at h
      cases h
      exact ⟨_, fun cx => .val _, fun w => run_ext hf h1 h2 h3 h4 (fun w => by
        have e : Extern.MathFloor.toIntegral "math.archFloor" .down [Value.float .f64 x].toArray = floorM x (FloatKind.f64.decode x) := rfl
        rw [e, hd]
        rfl) w⟩
  · cases h
end
def XT : List (FuncId × (List Value → Option PV)) := [(14, xToBits), (10, xFromBits), (30, xFloor)]
theorem xok : XOk Tryd.prog XT := by
  intro f e h vs r hr
  simp only [XT, extOf] at h
  split at h
  · rename_i hb
    cases h
    obtain rfl := (Nat.eq_of_beq_eq_true hb).symm
    exact ext_toBits Tryd.func14 (by rfl) (by rfl) (by rfl) (by rfl) rfl vs r hr
  · split at h
    · rename_i hb
      cases h
      obtain rfl := (Nat.eq_of_beq_eq_true hb).symm
      exact ext_fromBits Tryd.func10 (by rfl) (by rfl) (by rfl) (by rfl) rfl vs r hr
    · split at h
      · rename_i hb
        cases h
        obtain rfl := (Nat.eq_of_beq_eq_true hb).symm
        exact ext_floor Tryd.func30 (by rfl) (by rfl) (by rfl) (by rfl) rfl vs r hr
      · cases h
theorem f2b_g {b : Nat} {K : PV → Prop} (k : K (.val (.int .u64 (b : Int)))) : ExtF Tryd.prog 14 [.float .f64 b] K :=
  ⟨_, ext_toBits Tryd.func14 (by rfl) (by rfl) (by rfl) (by rfl) rfl _ _ rfl, k⟩
theorem b2f_g {n : Int} {K : PV → Prop} (k : K (.val (.float .f64 n.toNat))) : ExtF Tryd.prog 10 [.int .u64 n] K :=
  ⟨_, ext_fromBits Tryd.func10 (by rfl) (by rfl) (by rfl) (by rfl) rfl _ _ rfl, k⟩
def tSH : List Int := [0, 4580160454536392405, 4584662954719242351, 4586913746847464361, 4589162157373738715, 4590288195321689435, 4591409928847315172, 4592530015553861917, 4593648181988224566, 4594217887542005423, 4594774641278281419, 4595330026238453491, 4595883906833248949, 4596436147840664338, 4596986614438977945, 4597535172239664592, 4598081687320204663, 4598400622901027894, 4598671637851060342, 4598941432118424735, 4599209939836720088, 4599477095453637920, 4599742833746965911, 4600007089840510967, 4600269799219937812, 4600530897748519241, 4600790321682794181, 4601048007688129738, 4601303892854183447, 4601557914710261923, 4601810011240572191, 4602060120899361946, 4602308182625945072, 4602554135859608727, 4602738369863522645, 4602859148183212033, 4602978782988901435, 4603097245073468848, 4603214505516095308, 4603330535689325499, 4603445307266056734, 4603558792226454607, 4603670962864793643, 4603781791796221242, 4603891251963443307, 4603999316643329889, 4604105959453439260, 4604211154358458803, 4604314875676561165, 4604417098085674105, 4604517796629662511, 4604616946724421089, 4604714524163876216]
def tSL : List Int := [0, 13547579073368098678, 13563949304181312226, 13566418493652244858, 13565635294520691561, 13571915860097451659, 4340058461531295770, 4350074286710082760, 13567934672008572987, 13575801550145022373, 4351741018788776849, 13575806695459752374, 4343065779550066627, 4348722683634062205, 4353223431030508715, 13574744420402360258, 13574233591919817400, 13581162171891704500, 4356212803758837748, 4350852416605968391, 4323523077633180570, 4357271923058577069, 4352666692703215819, 13582162211903916717, 13575796336720852686, 4357413022124190944, 13580214217610903384, 13572214364228865741, 13581416402800735513, 4350934527179136935, 13574689896800117400, 4355214790318226842, 13571467409308189309, 4348745855762497699, 13583657803099765505, 13584816096337794294, 4363303634146990465, 4351425392996656264, 4355590242459458906, 4359101603699473614, 13587258310203108016, 4363824495314211675, 13578651590041733032, 13572694174990798784, 13583961949702083845, 4332702558478714268, 13584475955338184753, 4349496730363867543, 4362137232034453386, 13587040772166132762, 13584747444859885030, 13578607042041458003, 13578955971649868450]
def tCH : List Int := [4607182418800017408, 4607181319310759071, 4607178021111408595, 4607172525007174047, 4607164832339850451, 4607154944987492207, 4607142865363954587, 4607128596418304433, 4607112141634100179, 4607093505028541395, 4607072691151488040, 4607049705084349686, 4607024552438844956, 4606997239355631511, 4606967772502806894, 4606936159074280607, 4606902406788017825, 4606866523884155164, 4606828519122988968, 4606788401782836611, 4606746181657771328, 4606701869055231132, 4606655474793502401, 4606607010199078750, 4606556487103895826, 4606503917842442716, 4606449315248750656, 4606392692653259782, 4606334063879564703, 4606273443241039662, 4606210845537344132, 4606146286050809694, 4606079780542709072, 4606011345249408245, 4605940996878402574, 4605868752604237902, 4605794630064317638, 4605718647354596837, 4605640823025164333, 4605561176075713999, 4605479725950906245, 4605396492535620884, 4605311496150102525, 4605224757544999671, 4605136297896298752, 4605046138800154310, 4604954302267616605, 4604860810719257935, 4604765686979698975, 4604668954272036472, 4604570636212173661, 4604470756803054778, 4604369340428805087]
def tCL : List Int := [0, 4360199296339566323, 13583900207205620571, 13580802267923385695, 4360373087281693295, 13577437272034865047, 4360356363645614299, 4354598035789022892, 4362696058276736952, 13570800116725065577, 4362962654239356002, 13586345316221922070, 13584713310975483060, 4354481718263263700, 13574441066790794388, 4358239809693653067, 4363209716120537853, 13568216631309222833, 13582908836409922622, 13583461530133150952, 13584618491671399955, 13584699945613158451, 13571140830922498923, 13586847198672795332, 4347296784401157429, 4363977163357160349, 13584934786183195703, 4359027992459594717, 4361936029453593101, 4351864918935878296, 4357993302370877731, 13574337134639884416, 13585268877995206696, 4355855762229825693, 4347198757411991008, 4348506336573684245, 4355505676600721602, 4362012674173089484, 4353219448755111826, 13584701159983126121, 13583368851881006598, 4361493040018204585, 13583066472705394221, 13578632912864623495, 4361846053882066113, 4355887936269445597, 13577764333051586782, 13577354343185313384, 13576144875971963077, 4360651779814366337, 4355362127650550962, 13572015408658218103, 4360729798899938000]
def GS : List (Nat × List Value) := [(0, tSH.map (Value.int .u64)), (1, tSL.map (Value.int .u64)), (2, tCH.map (Value.int .u64)), (3, tCL.map (Value.int .u64))]
theorem gs0 : (0, tSH.map (Value.int .u64)) ∈ GS := .head _
theorem gs1 : (1, tSL.map (Value.int .u64)) ∈ GS := .tail _ (.head _)
theorem gs2 : (2, tCH.map (Value.int .u64)) ∈ GS := .tail _ (.tail _ (.head _))
theorem gs3 : (3, tCL.map (Value.int .u64)) ∈ GS := .tail _ (.tail _ (.tail _ (.head _)))
theorem l_place5 (G : List (Nat × List Value)) : FC Tryd.prog G 9 [.val (.float .f64 13826050856027422720)] (· = .tup [.val (.int .i64 32), .val (.int .i64 0)]) := ⟨by kernel_rfl, reckon xok mixed 500 (by kernel_rfl)⟩
def DDV (a b : Nat) : PV := .agg [.val (.float .f64 a), .val (.float .f64 b)]
theorem l_pair (G : List (Nat × List Value)) (a b : Int) : FC Tryd.prog G 12 [.val (.int .u64 a), .val (.int .u64 b)] (· = DDV a.toNat b.toNat) := by
  refine ax_i Tryd.func12 Tryd.ntmps12 (by rw [Tryd.results12]) ?_; intro F hG hO
  repeat' ((try (conv => whnf)); first
  | (with_reducible refine b2f_g ?_)
  
  | with_reducible first | refine ax_s ?_ | refine BothG.mk ?_ ?_ | (refine ax_f ?_ ?_ <;> intro hc) | refine smk ?_ | fail)
  all_goals exact ⟨ret_e rfl⟩
theorem l_bits (G : List (Nat × List Value)) (a b c d : Nat) : FC Tryd.prog G 8 [DDV a b, DDV c d] (· = .agg [.val (.int .u64 (a : Int)), .val (.int .u64 (b : Int)), .val (.int .u64 (c : Int)), .val (.int .u64 (d : Int))]) := by
  unfold DDV
  refine ax_i Tryd.func8 Tryd.ntmps8 (by rw [Tryd.results8]) ?_; intro F hG hO
  repeat' ((try (conv => whnf)); first
  | (with_reducible refine f2b_g ?_)
  
  | (with_reducible refine draw_g (id := 1) [[0, 1, 3, 4, 6, 7, 9, 10, 2, 5, 8, 11, 12], [13]] tok mixed (by kernel_rfl) ?_)
  | with_reducible first | refine ax_s ?_ | refine BothG.mk ?_ ?_ | (refine ax_f ?_ ?_ <;> intro hc) | refine smk ?_ | fail)
  all_goals exact ⟨ret_e rfl⟩
theorem l_row (j : Int) (h : 0 ≤ j ∧ j ≤ 52) : FC Tryd.prog GS 6 [.val (.int .i64 j)] (· = .tup [DDV (rd tSH j).toNat (rd tSL j).toNat, DDV (rd tCH j).toNat (rd tCL j).toNat, .val (.int .i64 0)]) := by
  have g0 := gs0
  have g1 := gs1
  have g2 := gs2
  have g3 := gs3
  have n0 : tSH.length = 53 := rfl
  have n1 : tSL.length = 53 := rfl
  have n2 : tCH.length = 53 := rfl
  have n3 : tCL.length = 53 := rfl
  have p := fun (a b : Int) => l_pair GS a b
  generalize tSH = a at g0 n0 ⊢
  generalize tSL = b at g1 n1 ⊢
  generalize tCH = c at g2 n2 ⊢
  generalize tCL = d at g3 n3 ⊢
  refine ax_i Tryd.func6 Tryd.ntmps6 (by rw [Tryd.results6]) ?_; intro F hG hO
  rw [← hG] at g0 g1 g2 g3 p
  repeat' ((try (conv => whnf)); first
  | (with_reducible refine TabG.mk ⟨.u64, a, g0, n0, by omega, ?_⟩)
  | (with_reducible refine TabG.mk ⟨.u64, b, g1, n1, by omega, ?_⟩)
  | (with_reducible refine TabG.mk ⟨.u64, c, g2, n2, by omega, ?_⟩)
  | (with_reducible refine TabG.mk ⟨.u64, d, g3, n3, by omega, ?_⟩)
  | ((with_reducible refine cg ?_); refine call_eq (p _ _) (LpL.refl _) rfl ?_)
  
  | (with_reducible refine draw_g (id := 3) [[0, 1, 2, 3, 4, 5, 7, 8, 9, 10, 11, 12, 6, 13], [14], [15, 16]] tok mixed (by kernel_rfl) ?_)
  | with_reducible first | refine ax_s ?_ | refine BothG.mk ?_ ?_ | (refine ax_f ?_ ?_ <;> intro hc) | refine smk ?_ | fail)
  all_goals exact ⟨ret_e rfl⟩
theorem l_awake23 : FC Tryd.prog GS 5 [] (· = .val (.bool true)) := by
  have f1 := l_row 32 (by decide)
  have f2 := l_place5 GS
  have f3 := l_bits GS (rd tSH 32).toNat (rd tSL 32).toNat (rd tCH 32).toNat (rd tCL 32).toNat
  have e1 : (rd tSH 32).toNat = 4602308182625945072 := rfl
  have e2 : (rd tCH 32).toNat = 4606079780542709072 := rfl
  rw [e1, e2] at f1 f3
  generalize (rd tSL 32).toNat = a at f1 f3
  generalize (rd tCL 32).toNat = b at f1 f3
  refine ax_i Tryd.func5 Tryd.ntmps5 (by rw [Tryd.results5]) ?_; intro F hG hO
  rw [← hG] at f1 f2 f3
  repeat' ((try (conv => whnf)); first
  | ((with_reducible refine cg ?_); first | refine ceq f1 rfl ?_ | refine ceq f2 rfl ?_ | refine ceq f3 rfl ?_)
  
  | with_reducible first | refine ax_s ?_ | refine BothG.mk ?_ ?_ | (refine ax_f ?_ ?_ <;> intro hc) | refine smk ?_ | fail)
  all_goals exact ⟨ret_e rfl⟩
end Go.Proofs.YtfnmlikgdfmcbaaDoor.Sim
namespace Go.Proofs.YtfnmlikgdfmcbaaDoor.Sim
open Ieee
set_option linter.unusedVariables false
set_option linter.unusedSimpArgs false
def T74 : Nat := 2 ^ 1074
theorem T74_eq {w : Nat} (h : (1074 : Nat) = w) : T74 = 2 ^ w := by subst h; rfl
theorem T74_pos : 0 < T74 := by
  obtain ⟨w, hw⟩ : ∃ w : Nat, 1074 = w := ⟨_, rfl⟩
  rw [T74_eq hw]
  exact Nat.pow_pos (by decide)
theorem T74_lt : T74 < 2 ^ 2000 := by
  obtain ⟨w, hw⟩ : ∃ w : Nat, 1074 = w := ⟨_, rfl⟩
  rw [T74_eq hw]
  generalize hv : (2000 : Nat) = v
  exact Nat.pow_lt_pow_right (by decide) (by omega)
theorem f_mul64 {s : Nat} (hs : s < 9218868437227405312) (hx : 64 * uV s < 2 ^ 2000) : ∃ S, fbin .mul .f64 s 4634204016564240384 = some (.float .f64 S) ∧ S < 9218868437227405312 ∧ uV S = 64 * uV s := by
  have hb := prS_b s
  have e : fbin .mul .f64 s 4634204016564240384 = some (.float .f64 (double.nearest false ((prS s).1 * 4503599627370496) ((prS s).2 + -46))) := by
    show (double.mul s 4634204016564240384).map (Value.float .f64) = _
    unfold Format.mul
    rw [read_num hs, read_num (s := 4634204016564240384) (by decide), show prS 4634204016564240384 = (4503599627370496, -46) by decide]
    rfl
  have p53 : (2 : Nat) ^ 53 = 9007199254740992 := by decide
  have hV : 64 * uV s = (prS s).1 * 2 ^ (((prS s).2 + 1074).toNat + 6) := by
    unfold uV
    rw [Nat.pow_add, show (2 : Nat) ^ 6 = 64 by decide, Nat.mul_comm 64, Nat.mul_assoc]
  have h := nearest_of (mag := (prS s).1 * 4503599627370496) (place := (prS s).2 + -46) (V := 64 * uV s) (((prS s).2 + 1074).toNat + 6) (prS s).1 hV (by omega) hx (by omega) (by
    generalize hw : (926 : Nat) = w
    rw [hV, Nat.mul_assoc, Nat.mul_assoc, show 4503599627370496 = 2 ^ 52 by decide, ← Nat.pow_add, ← Nat.pow_add]
    congr 2
    omega)
  exact ⟨_, e, h.1, h.2⟩
def wN (W : Nat) : Nat := double.nearest false W 0
theorem f_floor {S : Nat} (hs : S < 9218868437227405312) : xFloor [.float .f64 S] = some (.val (.float .f64 (wN (uV S / T74)))) := by
  have hb := prS_b S
  have hd : FloatKind.f64.decode S = .number false (prS S).1 (prS S).2 := read_num hs
  unfold xFloor
  dsimp only
  rw [hd]
  show some (PV.val (.float .f64 (double.nearest false (Toward.down.cut false ((prS S).1 <<< (prS S).2.toNat) (-(prS S).2).toNat) 0))) = _
  rw [cut_down, Nat.shiftLeft_eq]
  have key : (prS S).1 * 2 ^ (prS S).2.toNat / 2 ^ (-(prS S).2).toNat = uV S / T74 := by
    obtain ⟨w, hw⟩ : ∃ w : Nat, 1074 = w := ⟨_, rfl⟩
    rw [T74_eq hw]
    unfold uV
    rcases Int.lt_or_le (prS S).2 0 with h | h
    · rw [show (prS S).2.toNat = 0 by omega, Nat.pow_zero, Nat.mul_one]
      have e1 : (2 : Nat) ^ w = 2 ^ (-(prS S).2).toNat * 2 ^ ((prS S).2 + 1074).toNat := by
        rw [← Nat.pow_add]
        congr 1
        omega
      rw [e1, Nat.mul_div_mul_right _ _ (Nat.pow_pos (by decide))]
    · rw [show (-(prS S).2).toNat = 0 by omega, Nat.pow_zero, Nat.div_one, show ((prS S).2 + 1074).toNat = (prS S).2.toNat + w by omega, Nat.pow_add, ← Nat.mul_assoc, Nat.mul_div_cancel _ (Nat.pow_pos (by decide))]
  rw [key]
  rfl
def wOk (W : Nat) : Bool := decide (wN W < 9218868437227405312) && decide (uV (wN W) = W * T74) && decide (double.add (wN W) 4607182418800017408 = some (wN (W + 1))) && decide ((double.read (wN W)).toInt .zero = some (W : Int))
theorem w_all : (List.range 55).all wOk = true := by decide +kernel
theorem w_ok {W : Nat} (h : W < 55) : wN W < 9218868437227405312 ∧ uV (wN W) = W * T74 ∧ double.add (wN W) 4607182418800017408 = some (wN (W + 1)) ∧ (double.read (wN W)).toInt .zero = some (W : Int) := by
  have := List.all_eq_true.1 w_all W (List.mem_range.2 h)
  simp only [wOk, Bool.and_eq_true, decide_eq_true_eq] at this
  exact ⟨this.1.1.1, this.1.1.2, this.1.2, this.2⟩
theorem f_sub {S : Nat} (hs : S < 9218868437227405312) (hW : uV S / T74 < 55) : ∃ D, fbin .sub .f64 S (wN (uV S / T74)) = some (.float .f64 D) ∧ D < 9218868437227405312 ∧ uV D = uV S % T74 := by
  obtain ⟨W, eW⟩ : ∃ W, W = uV S / T74 := ⟨_, rfl⟩
  rw [← eW] at hW ⊢
  obtain ⟨w1, w2, _, _⟩ := w_ok hW
  have hb := prS_b S
  have hc := prS_b (wN W)
  have pos : ∀ n : Nat, 0 < 2 ^ n := fun n => Nat.pow_pos (by decide)
  have hdm : uV S % T74 = uV S - uV (wN W) := by
    rw [w2, eW]
    have := Nat.div_add_mod (uV S) (T74)
    rw [Nat.mul_comm] at this
    exact Nat.eq_sub_of_add_eq (by rw [Nat.add_comm]; exact this)
  have hle : uV (wN W) ≤ uV S := by rw [w2, eW]; exact Nat.div_mul_le_self _ _
  obtain ⟨base, hbs⟩ : ∃ b, b = min (prS S).2 (prS (wN W)).2 := ⟨_, rfl⟩
  obtain ⟨a, ha⟩ : ∃ a, a = (prS S).1 * 2 ^ ((prS S).2 - base).toNat := ⟨_, rfl⟩
  obtain ⟨b, hb2⟩ : ∃ b, b = (prS (wN W)).1 * 2 ^ ((prS (wN W)).2 - base).toNat := ⟨_, rfl⟩
  have ea : uV S = a * 2 ^ (base + 1074).toNat := by rw [ha]; exact uV_base (by omega) (by omega)
  have eb : uV (wN W) = b * 2 ^ (base + 1074).toNat := by rw [hb2]; exact uV_base (by omega) (by omega)
  have hab : b ≤ a := by
    rw [ea, eb] at hle
    exact Nat.le_of_mul_le_mul_right hle (pos _)
  have hm : ∃ k m, uV S % T74 = m * 2 ^ k ∧ m < 2 ^ 53 := by
    have p53 : (2 : Nat) ^ 53 = 9007199254740992 := by decide
    obtain ⟨w, hw⟩ : ∃ w : Nat, 1074 = w := ⟨_, rfl⟩
    rw [T74_eq hw]
    by_cases hk : w ≤ ((prS S).2 + 1074).toNat
    · refine ⟨0, 0, ?_, by omega⟩
      unfold uV
      rw [show ((prS S).2 + 1074).toNat = (((prS S).2 + 1074).toNat - w) + w by omega, Nat.pow_add, ← Nat.mul_assoc, Nat.mul_mod_left, Nat.zero_mul]
    · refine ⟨((prS S).2 + 1074).toNat, (prS S).1 % 2 ^ (w - ((prS S).2 + 1074).toNat), ?_, Nat.lt_of_le_of_lt (Nat.mod_le _ _) (by omega)⟩
      unfold uV
      rw [← Nat.mul_mod_mul_right, ← Nat.pow_add]
      congr 2
      omega
  obtain ⟨k, m, hkm, hm53⟩ := hm
  have hlt : uV S % T74 < 2 ^ 2000 := Nat.lt_trans (Nat.mod_lt _ T74_pos) T74_lt
  have h := nearest_of (mag := a - b) (place := base) (V := uV S % T74) k m hkm hm53 hlt (by omega) (by
    generalize hw : (926 : Nat) = w
    rw [hdm, ea, eb, ← Nat.sub_mul, Nat.mul_assoc, ← Nat.pow_add]
    congr 2
    omega)
  refine ⟨_, ?_, h.1, h.2⟩
  show (double.sub S (wN W)).map (Value.float .f64) = _
  unfold Format.sub
  rw [read_num hs, read_num w1]
  show some (Value.float .f64 (double.nearest _ _ _)) = _
  have e1 : signed false (prS S).1 ((prS S).2 - min (prS S).2 (prS (wN W)).2).toNat = (a : Int) := by rw [sgn, ← hbs, ← ha]
  have e2 : signed (!false) (prS (wN W)).1 ((prS (wN W)).2 - min (prS S).2 (prS (wN W)).2).toNat = -(b : Int) := by
    unfold signed
    rw [if_pos (by decide), Nat.shiftLeft_eq, ← hbs, ← hb2]
  rw [e1, e2, ← hbs]
  have e3 : ((a : Int) + -(b : Int)).natAbs = a - b := by omega
  have e4 : (if (a : Int) + -(b : Int) = 0 then false && !false else decide ((a : Int) + -(b : Int) < 0)) = false := by
    split
    · rfl
    · exact decide_eq_false (by omega)
  rw [e3, e4]
theorem f_half {D : Nat} (hd : D < 9218868437227405312) : fbin .geq .f64 D 4602678819172646912 = some (.bool (decide (T74 / 2 ≤ uV D))) := by
  have hc : uV 4602678819172646912 = T74 / 2 := by decide +kernel
  show some (Value.bool (double.order D 4602678819172646912 == some .gt || double.order D 4602678819172646912 == some .eq)) = _
  rcases Nat.lt_trichotomy (uV D) (T74 / 2) with h | h | h
  · rw [ord_lt hd (by decide) (by rw [hc]; exact h), decide_eq_false (Nat.not_le.2 h)]; rfl
  · rw [ord_eq hd (by decide) (by rw [hc]; exact h), decide_eq_true (Nat.le_of_eq h.symm)]; rfl
  · rw [ord_gt hd (by decide) (by rw [hc]; exact h), decide_eq_true (Nat.le_of_lt h)]; rfl
theorem f_gtr {s c : Nat} (hs : s < 9218868437227405312) (hc : c < 9218868437227405312) : fbin .gtr .f64 s c = some (.bool (decide (c < s))) := by
  show some (Value.bool (double.order s c == some .gt)) = _
  rcases Nat.lt_trichotomy s c with h | h | h
  · rw [ord_lt hs hc (uV_mono h), decide_eq_false (by omega)]; rfl
  · rw [ord_eq hs hc (by rw [h]), decide_eq_false (by omega)]; rfl
  · rw [ord_gt hs hc (uV_mono h), decide_eq_true h]; rfl
theorem f_inf : fbin .gtr .f64 9218868437227405312 9218868437227405311 = some (.bool true) := by kernel_rfl
theorem f_nan {b : Nat} : fbin .neq .f64 b b = some (.bool (decide (9218868437227405312 < b % 9223372036854775808))) := by
  have e1 : double.signWeight = 9223372036854775808 := by decide
  have e2 : double.binade = 4503599627370496 := by decide
  have e3 : double.infRung = 9218868437227405312 := by decide
  show some (Value.bool (double.order b b != some .eq)) = _
  unfold Format.order Format.read
  rw [e1, e2, e3]
  dsimp only
  have hcmp : ∀ x : Int, compare x x = .eq := fun x => cmp_eq rfl
  by_cases h1 : b % 9223372036854775808 < 4503599627370496
  · rw [if_pos h1, decide_eq_false (by omega)]
    show some (Value.bool (some (compare _ _) != some .eq)) = _
    rw [hcmp]
    rfl
  · rw [if_neg h1]
    by_cases h2 : b % 9223372036854775808 < 9218868437227405312
    · rw [if_pos h2, decide_eq_false (by omega)]
      show some (Value.bool (some (compare _ _) != some .eq)) = _
      rw [hcmp]
      rfl
    · rw [if_neg h2]
      by_cases h3 : b % 9223372036854775808 = 9218868437227405312
      · rw [if_pos h3, decide_eq_false (by omega)]
        show some (Value.bool (some (compare _ _) != some .eq)) = _
        cases (b / 9223372036854775808 % 2 == 1) <;> rfl
      · rw [if_neg h3, decide_eq_true (by omega)]
        rfl
end Go.Proofs.YtfnmlikgdfmcbaaDoor.Sim
namespace Go.Proofs.YtfnmlikgdfmcbaaDoor.Sim
open Go.RowKit
set_option linter.unusedVariables false
set_option linter.unusedSimpArgs false
set_option maxRecDepth 10000
set_option maxHeartbeats 8000000
variable {G : List (Nat × List Value)}
theorem andn_g {a : Int} {K : Int → Prop} (h : 0 ≤ a ∧ a < 18446744073709551616) (x : K (a % 9223372036854775808)) : BitG .andNot .u64 a 9223372036854775808 K := by
  refine ⟨?_⟩
  have e2 : bitI .andNot .u64 a 9223372036854775808 = a % 9223372036854775808 := by
    obtain ⟨n, rfl⟩ : ∃ n : Nat, a = n := ⟨a.toNat, by omega⟩
    have e0 : bitI .andNot .u64 (n : Int) 9223372036854775808 = IntKind.u64.wrap (BitVec.ofInt 64 n &&& ~~~ BitVec.ofInt 64 9223372036854775808).toNat := rfl
    have e1 : (~~~ BitVec.ofInt 64 9223372036854775808) = BitVec.ofNat 64 (2 ^ 63 - 1) := by decide
    rw [e0, e1, BitVec.toNat_and, BitVec.ofInt_natCast, BitVec.toNat_ofNat, BitVec.toNat_ofNat, Nat.mod_eq_of_lt (a := n) (by omega), Nat.mod_eq_of_lt (a := 2 ^ 63 - 1) (by omega), Nat.and_two_pow_sub_one_eq_mod]
    have hlt : n % 2 ^ 63 < 2 ^ 63 := Nat.mod_lt _ (by decide)
    rw [wrap_in (by simp only [inR]; omega)]
    simp
  rw [e2]
  exact x
theorem fv_eq {a b : Nat} (h : a = b) : PV.val (.float .f64 a) = .val (.float .f64 b) := by rw [h]
theorem t_abs (b : Nat) (h : b < 18446744073709551616) : FC Tryd.prog G 15 [.val (.float .f64 b)] (· = .val (.float .f64 (b % 9223372036854775808))) := by
  refine ax_i Tryd.func15 Tryd.ntmps15 (by rw [Tryd.results15]) ?_; intro F hG hO
  repeat' ((try (conv => whnf)); first
  | (with_reducible refine f2b_g ?_)
  | (with_reducible refine b2f_g ?_)
  | (with_reducible refine andn_g (by omega) ?_)
  
  | with_reducible first | refine ax_s ?_ | refine BothG.mk ?_ ?_ | (refine ax_f ?_ ?_ <;> intro hc) | refine smk ?_ | fail)
  all_goals exact ⟨ret_e (fv_eq (by omega))⟩
theorem t_isnan (b : Nat) : FC Tryd.prog G 16 [.val (.float .f64 b)] (· = .val (.bool (decide (9218868437227405312 < b % 9223372036854775808)))) := by
  refine ax_i Tryd.func16 Tryd.ntmps16 (by rw [Tryd.results16]) ?_; intro F hG hO
  repeat' ((try (conv => whnf)); first
  | (refine FltG.mk ⟨_, f_nan, ?_⟩)
  
  | with_reducible first | refine ax_s ?_ | refine BothG.mk ?_ ?_ | (refine ax_f ?_ ?_ <;> intro hc) | refine smk ?_ | fail)
  all_goals exact ⟨ret_e rfl⟩
theorem t_isinf (b : Nat) (h : b < 18446744073709551616) (hn : b % 9223372036854775808 ≤ 9218868437227405312) : FC Tryd.prog G 17 [.val (.float .f64 b), .val (.int .i64 0)] (· = .val (.bool (decide (9218868437227405312 ≤ b % 9223372036854775808)))) := by
  have f1 := t_abs (G := G) b h
  have f2 : fbin .gtr .f64 (b % 9223372036854775808) 9218868437227405311 = some (.bool (decide (9218868437227405312 ≤ b % 9223372036854775808))) := by
    rcases Nat.lt_or_eq_of_le hn with hl | he
    · rw [f_gtr hl (by decide), decide_eq_false (by omega), decide_eq_false (by omega)]
    · rw [he, f_inf]; rfl
  refine ax_i Tryd.func17 Tryd.ntmps17 (by rw [Tryd.results17]) ?_; intro F hG hO
  rw [← hG] at f1
  repeat' ((try (conv => whnf)); first
  | ((with_reducible refine cg ?_); first | refine ceq f1 rfl ?_)
  | (refine FltG.mk ⟨_, f2, ?_⟩)
  
  | with_reducible first | refine ax_s ?_ | refine BothG.mk ?_ ?_ | (refine ax_f ?_ ?_ <;> intro hc) | refine smk ?_ | fail)
  all_goals exact ⟨ret_e rfl⟩
theorem floor_g {b : Nat} {r : PV} {K : PV → Prop} (h : xFloor [.float .f64 b] = some r) (k : K r) : ExtF Tryd.prog 30 [.float .f64 b] K :=
  ⟨_, ext_floor Tryd.func30 (by rfl) (by rfl) (by rfl) (by rfl) rfl _ _ h, k⟩
theorem t_floor (S : Nat) (hs : S < 9218868437227405312) : FC Tryd.prog G 18 [.val (.float .f64 S)] (· = .val (.float .f64 (wN (uV S / T74)))) := by
  have f1 := f_floor hs
  generalize wN (uV S / T74) = w at f1 ⊢
  refine ax_i Tryd.func18 Tryd.ntmps18 (by rw [Tryd.results18]) ?_; intro F hG hO
  repeat' ((try (conv => whnf)); first
  | (refine floor_g f1 ?_)
  
  | with_reducible first | refine ax_s ?_ | refine BothG.mk ?_ ?_ | (refine ax_f ?_ ?_ <;> intro hc) | refine smk ?_ | fail)
  all_goals exact ⟨ret_e rfl⟩
def plS (b : Nat) : Int × Int :=
  if 9218868437227405312 ≤ b % 9223372036854775808 then (0, 6)
  else if 4605493568939753472 < b % 9223372036854775808 then (0, 5)
  else (((128 * uV (b % 9223372036854775808) + T74) / (2 * T74) : Nat), 0)
theorem pl_num {x W V : Nat} (h : 64 * x = T74 * W + V) (hv : V < T74) : (128 * x + T74) / (2 * T74) = if T74 / 2 ≤ V then W + 1 else W := by
  have hp := T74_pos
  have h2 : T74 / 2 * 2 = T74 := by
    obtain ⟨w, hw⟩ : ∃ w : Nat, 1073 = w := ⟨_, rfl⟩
    have : T74 = 2 ^ w * 2 := by rw [T74_eq (w := w + 1) (by omega), Nat.pow_succ]
    rw [this]
    omega
  generalize T74 = T at *
  have e : 128 * x + T = 2 * T * W + (2 * V + T) := by rw [Nat.mul_assoc]; omega
  rw [e, Nat.mul_add_div (by omega)]
  split
  · rw [Nat.div_eq_of_lt_le (k := 1) (by omega) (by omega)]
  · rw [Nat.div_eq_of_lt (by omega), Nat.add_zero]
theorem i64_min : IntKind.i64.min = -9223372036854775808 := by decide
theorem i64_max : IntKind.i64.max = 9223372036854775807 := by decide
theorem uV_c : 64 * uV 4605493568939753472 = 52 * T74 := by unfold T74; decide +kernel
theorem t_place (b : Nat) (h : b < 18446744073709551616) : FC Tryd.prog G 9 [.val (.float .f64 b)] (· = .tup [.val (.int .i64 (plS b).1), .val (.int .i64 (plS b).2)]) := by
  have f1 := t_abs (G := G) b h
  have f2 := t_isnan (G := G) b
  unfold plS
  by_cases h1 : 9218868437227405312 ≤ b % 9223372036854775808
  · rw [if_pos h1]
    by_cases h2 : 9218868437227405312 < b % 9223372036854775808
    · rw [decide_eq_true h2] at f2
      refine ax_i Tryd.func9 Tryd.ntmps9 (by rw [Tryd.results9]) ?_; intro F hG hO
      rw [← hG] at f1 f2
      repeat' ((try (conv => whnf)); first
  | ((with_reducible refine cg ?_); first | refine ceq f1 rfl ?_ | refine ceq f2 rfl ?_)
  
  | with_reducible first | refine ax_s ?_ | refine BothG.mk ?_ ?_ | (refine ax_f ?_ ?_ <;> intro hc) | refine smk ?_ | fail)
      all_goals exact ⟨ret_e rfl⟩
    · rw [decide_eq_false h2] at f2
      have f3 := t_isinf (G := G) b h (by omega)
      rw [decide_eq_true h1] at f3
      refine ax_i Tryd.func9 Tryd.ntmps9 (by rw [Tryd.results9]) ?_; intro F hG hO
      rw [← hG] at f1 f2 f3
      repeat' ((try (conv => whnf)); first
  | ((with_reducible refine cg ?_); first | refine ceq f1 rfl ?_ | refine ceq f2 rfl ?_ | refine ceq f3 rfl ?_)
  
  | with_reducible first | refine ax_s ?_ | refine BothG.mk ?_ ?_ | (refine ax_f ?_ ?_ <;> intro hc) | refine smk ?_ | fail)
      all_goals exact ⟨ret_e rfl⟩
  · rw [if_neg h1]
    rw [decide_eq_false (by omega)] at f2
    have f3 := t_isinf (G := G) b h (by omega)
    rw [decide_eq_false h1] at f3
    obtain ⟨s, hs⟩ : ∃ s, s = b % 9223372036854775808 := ⟨_, rfl⟩
    rw [← hs] at f1 h1 ⊢
    have f4 := f_gtr (s := s) (c := 4605493568939753472) (by omega) (by decide)
    by_cases h3 : 4605493568939753472 < s
    · rw [if_pos h3]
      rw [decide_eq_true h3] at f4
      refine ax_i Tryd.func9 Tryd.ntmps9 (by rw [Tryd.results9]) ?_; intro F hG hO
      rw [← hG] at f1 f2 f3
      repeat' ((try (conv => whnf)); first
  | ((with_reducible refine cg ?_); first | refine ceq f1 rfl ?_ | refine ceq f2 rfl ?_ | refine ceq f3 rfl ?_)
  | (refine FltG.mk ⟨_, f4, ?_⟩)
  
  | with_reducible first | refine ax_s ?_ | refine BothG.mk ?_ ?_ | (refine ax_f ?_ ?_ <;> intro hc) | refine smk ?_ | fail)
      all_goals exact ⟨ret_e rfl⟩
    · rw [if_neg h3]
      rw [decide_eq_false h3] at f4
      have hx : 64 * uV s ≤ 52 * T74 := by
        have := uV_le (s := s) (c := 4605493568939753472) (by omega)
        have := uV_c
        omega
      have hT := T74_pos
      obtain ⟨S, g1, g2, g3⟩ := f_mul64 (s := s) (by omega) (Nat.lt_of_le_of_lt hx (by unfold T74; decide +kernel))
      have hW : uV S / T74 < 55 := by
        rw [g3]
        exact Nat.lt_of_le_of_lt (show 64 * uV s / T74 ≤ 52 from Nat.div_le_of_le_mul (by rw [Nat.mul_comm T74]; exact hx)) (by decide)
      obtain ⟨D, g4, g5, g6⟩ := f_sub g2 hW
      have g7 := f_half g5
      have f5 := t_floor (G := G) S g2
      have hpl := pl_num (x := uV s) (W := uV S / T74) (V := uV S % T74) (by rw [← g3]; exact (Nat.div_add_mod _ _).symm) (Nat.mod_lt _ hT)
      rw [hpl]
      rw [g6] at g7
      obtain ⟨W, eW⟩ : ∃ W, W = uV S / T74 := ⟨_, rfl⟩
      rw [← eW] at f5 g4 hW hpl ⊢
      obtain ⟨w1, _, w3, w4⟩ := w_ok hW
      have hW2 : W + 1 < 56 := by omega
      have w5 : (FloatKind.f64.decode (wN W)).toInt .zero = some (W : Int) := w4
      have g8 : fbin .add .f64 (wN W) 4607182418800017408 = some (.float .f64 (wN (W + 1))) := by
        show (Ieee.double.add (wN W) 4607182418800017408).map (Value.float .f64) = _
        rw [w3]
        rfl
      have hWle : W ≤ 52 := by
        rw [eW, g3]
        exact Nat.div_le_of_le_mul (by rw [Nat.mul_comm T74]; exact hx)
      obtain ⟨_, _, _, v4⟩ := w_ok (W := W + 1) (by omega)
      have v5 : (FloatKind.f64.decode (wN (W + 1))).toInt .zero = some ((W + 1 : Nat) : Int) := v4
      generalize wN (W + 1) = y at g8 v5
      generalize wN W = z at f5 g4 g8 w5
      by_cases h5 : T74 / 2 ≤ uV S % T74
      · rw [if_pos h5]
        rw [decide_eq_true h5] at g7
        refine ax_i Tryd.func9 Tryd.ntmps9 (by rw [Tryd.results9]) ?_; intro F hG hO
        rw [← hG] at f1 f2 f3 f5
        repeat' ((try (conv => whnf)); first
  | ((with_reducible refine cg ?_); first | refine ceq f1 rfl ?_ | refine ceq f2 rfl ?_ | refine ceq f3 rfl ?_ | refine ceq f5 rfl ?_)
  | (refine FltG.mk ⟨_, f4, ?_⟩)
  | (refine FltG.mk ⟨_, g1, ?_⟩)
  | (refine FltG.mk ⟨_, g4, ?_⟩)
  | (refine FltG.mk ⟨_, g7, ?_⟩)
  | (refine FltG.mk ⟨_, g8, ?_⟩)
  | (refine F2iG.mk ⟨_, v5, ⟨by rw [i64_min]; omega, by rw [i64_max]; omega⟩, ?_⟩)
  
  | with_reducible first | refine ax_s ?_ | refine BothG.mk ?_ ?_ | (refine ax_f ?_ ?_ <;> intro hc) | refine smk ?_ | fail)
        all_goals exact ⟨ret_e rfl⟩
      · rw [if_neg h5]
        rw [decide_eq_false h5] at g7
        refine ax_i Tryd.func9 Tryd.ntmps9 (by rw [Tryd.results9]) ?_; intro F hG hO
        rw [← hG] at f1 f2 f3 f5
        repeat' ((try (conv => whnf)); first
  | ((with_reducible refine cg ?_); first | refine ceq f1 rfl ?_ | refine ceq f2 rfl ?_ | refine ceq f3 rfl ?_ | refine ceq f5 rfl ?_)
  | (refine FltG.mk ⟨_, f4, ?_⟩)
  | (refine FltG.mk ⟨_, g1, ?_⟩)
  | (refine FltG.mk ⟨_, g4, ?_⟩)
  | (refine FltG.mk ⟨_, g7, ?_⟩)
  | (refine FltG.mk ⟨_, g8, ?_⟩)
  | (refine F2iG.mk ⟨_, w5, ⟨by rw [i64_min]; omega, by rw [i64_max]; omega⟩, ?_⟩)
  
  | with_reducible first | refine ax_s ?_ | refine BothG.mk ?_ ?_ | (refine ax_f ?_ ?_ <;> intro hc) | refine smk ?_ | fail)
        all_goals exact ⟨ret_e rfl⟩
theorem s23_uV {s : Nat} (h : s < 9223372036854775808) : s23 s 1074 = (uV s : Int) := by
  have hb := prS_b s
  unfold s23 uV
  rw [Nat.mod_eq_of_lt h]
  dsimp only
  rw [if_neg (by omega), if_neg (by omega), Int.natCast_mul, Int.natCast_pow]
  rfl
theorem t_docplace (b : Nat) (h : b < 18446744073709551616) : FC Tryd.prog G 11 [.val (.int .u64 (b : Int))] (· = .tup [.val (.int .i64 (plS b).1), .val (.int .i64 (plS b).2)]) := by
  unfold plS
  obtain ⟨s, hs⟩ : ∃ s, s = b % 9223372036854775808 := ⟨_, rfl⟩
  rw [← hs]
  by_cases h1 : 9218868437227405312 ≤ s
  · rw [if_pos h1]
    refine ax_i Tryd.func11 Tryd.ntmps11 (by rw [Tryd.results11]) ?_; intro F hG hO
    repeat' ((try (conv => whnf)); first
  
  | with_reducible first | refine ax_s ?_ | refine BothG.mk ?_ ?_ | (refine ax_f ?_ ?_ <;> intro hc) | refine smk ?_ | fail)
    all_goals exact ⟨ret_e rfl⟩
  · rw [if_neg h1]
    by_cases h3 : 4605493568939753472 < s
    · rw [if_pos h3]
      refine ax_i Tryd.func11 Tryd.ntmps11 (by rw [Tryd.results11]) ?_; intro F hG hO
      repeat' ((try (conv => whnf)); first
  
  | with_reducible first | refine ax_s ?_ | refine BothG.mk ?_ ?_ | (refine ax_f ?_ ?_ <;> intro hc) | refine smk ?_ | fail)
      all_goals exact ⟨ret_e rfl⟩
    · rw [if_neg h3]
      have hx : 64 * uV s ≤ 52 * T74 := by
        have := uV_le (s := s) (c := 4605493568939753472) (by omega)
        have := uV_c
        omega
      have hT := T74_pos
      have f1 := t_scaled23 (G := G) s 1074 (by omega) (by omega)
      have l1 := LZ_s23 s 1074 (by omega)
      rw [s23_uV (by omega)] at f1 l1
      rw [show ((s : Nat) : Int) = (b : Int) % 9223372036854775808 by omega] at f1
      obtain ⟨w, hw⟩ : ∃ w : Nat, 1074 = w := ⟨_, rfl⟩
      have lw := L32_p2 w
      have f3 := r_pow2N (G := G) w (by omega)
      rw [← T74_eq hw] at f3 lw
      rw [show ((w : Nat) : Int) = 1074 by omega] at f3
      have f4 := r_mk (G := G) false T74 (by omega)
      have l2 := LZ_shl (uV s : Int) 7
      have f2 := r_zshlN (G := G) (uV s : Int) 7 (by omega) (by decide)
      have e7 : (uV s : Int) * 2 ^ 7 = ((128 * uV s : Nat) : Int) := by rw [show (2 : Int) ^ 7 = 128 by decide]; omega
      rw [e7] at f2 l2
      have lT : LZ (T74 : Int) = L32 T74 := by unfold LZ; rw [Int.natAbs_natCast]
      have f5 := r_zadd (G := G) ((128 * uV s : Nat) : Int) (T74 : Int) (by omega) (by omega)
      have l3 := LZ_add ((128 * uV s : Nat) : Int) (T74 : Int)
      have f6 := r_zfshrN (G := G) (((128 * uV s : Nat) : Int) + (T74 : Int)) (w + 1) (by omega) (by omega)
      have e8 : (((128 * uV s : Nat) : Int) + (T74 : Int)) / 2 ^ (w + 1) = (((128 * uV s + T74) / (2 * T74) : Nat) : Int) := by
        have e9 : ((2 : Int) ^ (w + 1)) = ((2 * T74 : Nat) : Int) := by
          rw [T74_eq hw, Int.natCast_mul, Int.natCast_pow, Int.pow_succ, Int.mul_comm]
          rfl
        rw [e9, ← Int.natCast_add, ← Int.natCast_ediv]
      rw [e8] at f6
      rw [show ((w + 1 : Nat) : Int) = 1075 by omega] at f6
      have hj : (128 * uV s + T74) / (2 * T74) ≤ 53 := by
        refine Nat.div_le_of_le_mul ?_
        generalize T74 = T at *
        generalize uV s = x at *
        omega
      generalize (128 * uV s + T74) / (2 * T74) = j at f6 hj ⊢
      have f7 := r_zint (G := G) (j : Int) (by omega)
      generalize T74 = T at f3 f4 f5 f6
      refine ax_i Tryd.func11 Tryd.ntmps11 (by rw [Tryd.results11]) ?_; intro F hG hO
      rw [← hG] at f1 f2 f3 f4 f5 f6 f7
      repeat' ((try (conv => whnf)); first
  | ((with_reducible refine cg ?_); first | refine ceq f1 rfl ?_ | refine ceq f2 rfl ?_ | refine ceq f3 rfl ?_ | refine ceq f4 rfl ?_ | refine ceq f5 rfl ?_ | refine ceq f6 rfl ?_ | refine ceq f7 rfl ?_)
  
  | with_reducible first | refine ax_s ?_ | refine BothG.mk ?_ ?_ | (refine ax_f ?_ ?_ <;> intro hc) | refine smk ?_ | fail)
      all_goals exact ⟨ret_e rfl⟩
theorem l_sintablePlaces (l : List Int) (ho : ∀ i, i < l.length → 0 ≤ rd l (i : Int) ∧ rd l (i : Int) < 18446744073709551616) (hl : l.length ≤ 9223372036854775807) : FC Tryd.prog GS 4 [.ws .u64 l] (· = .val (.bool true)) := by
  have aw := l_awake23
  have he : ∀ i, i < l.length → ∃ b : Nat, ∃ p q : Int, rd l (i : Int) = (b : Int) ∧ FC Tryd.prog GS 9 [.val (.float .f64 b)] (· = .tup [.val (.int .i64 p), .val (.int .i64 q)]) ∧ FC Tryd.prog GS 11 [.val (.int .u64 (b : Int))] (· = .tup [.val (.int .i64 p), .val (.int .i64 q)]) := fun i hi => by
    obtain ⟨h1, h2⟩ := ho i hi
    exact ⟨(rd l (i : Int)).toNat, _, _, by omega, t_place _ (by omega), t_docplace _ (by omega)⟩
  refine ax_i Tryd.func4 Tryd.ntmps4 (by rw [Tryd.results4]) ?_; intro F hG hO
  rw [← hG] at aw he
  repeat' ((try (conv => whnf)); first
  | ((with_reducible refine cg ?_); first | refine ceq aw rfl ?_)
  | ((with_reducible refine lg ?_); refine loop_g (A := Nat) (fun m => m ≤ l.length) (fun m => l.length - m) (fun m => [(11, .ws .u64 l), (12, .val (.int .i64 (l.length : Int))), (13, .val (.int .i64 (m : Int)))]) (fun _ => []) (fun _ => []) 0 tok (fun _ => ⟨⟨trivial, trivial, trivial, trivial⟩, trivial, by simp only [List.length_nil]; omega⟩) (Nat.zero_le _) ⟨rfl, rfl, rfl, trivial⟩ ⟨[], rfl⟩ ⟨[], rfl⟩ ?_; intro m hm; rcases Nat.lt_or_ge m l.length with hlt | hge; obtain ⟨b, p, q, eb, k1, k2⟩ := he m hlt; rw [← eb] at k2; have k3 : FC Tryd.prog F.G 9 [.val (.float .f64 (rd l (m : Int)).toNat)] (· = .tup [.val (.int .i64 p), .val (.int .i64 q)]) := (by rw [eb]; exact k1))
  | (with_reducible refine b2f_g ?_)
  | ((with_reducible refine cg ?_); first | refine ceq k3 rfl ?_ | refine ceq k2 rfl ?_)
  
  | with_reducible first | refine ax_s ?_ | refine BothG.mk ?_ ?_ | (refine ax_f ?_ ?_ <;> intro hc) | refine smk ?_ | fail)
  · exact ⟨again (m + 1) (by omega) (by omega) ⟨rfl, rfl, rfl, trivial⟩ ⟨_, rfl⟩ ⟨_, rfl⟩⟩
  · exact ⟨ret_e rfl⟩
end Go.Proofs.YtfnmlikgdfmcbaaDoor.Sim
