/-
  NARROWER THAN 'FOR EVERY INPUT', by the rows' own cells (each row's printed sentence says how): SintableRows: laid · SintablePlaces: laid.
  DERIVED. THE GIVEN ROWS OF THIS SEAT. 2 by the template 'for every input the law returns true; each argument reads behind the call as it read before'; 0 by the template 'total and deterministic' (their statements: YtfnmlikgdfmcbaaDoorTotals.lean).
  GIVEN WITH THE SEED: the statements are not yours to turn. If you find one false, say at which input.
  Laid BY PROGRAM, IN A SANDBOX (cutbox-rows.mjs): the forced cells as the released guide's own fill.sh prints them over the translation 43bdcfb7f2122d99… (all of the seat's roots in one cut). By AI agents, Wed Nov 11 2026. No macro, syntax, notation, axiom, sorry.
-/
import Derived.Test.YtfnmlikgdfmcbaaDoorChecked
import GoSem.Claim
import GoSem.ClaimJoined
import GoSem.ClaimMapViews
import Derived.JoinedTies
import Derived.KernelRfl
namespace Go.Proofs.YtfnmlikgdfmcbaaDoor
/- THE CELL 'sum', in the pinned program and in every row, IS THE sha256 OF THE DUMP (.gsa) THAT YtfnmlikgdfmcbaaDoorProg.lean LOADS. Nothing in Lean hashes anything: it is a label: what it is worth is what the hold of that sum in a sandbox is worth. -/
noncomputable def Tryd.pinned : Pinned := { name := "ytfnmlikgdfmcbaadoor", sum := "43bdcfb7f2122d992ff16d6a082c3a46580b2120a5a37327f117299b53b4ec70", checked := Tryd.checked }
namespace Rows
def none {H : Type} : Left H := { results := [], args := [] }

/- WHAT THE LISTED PACKAGE-LEVEL VARIABLES READ AS WHEN THE CALL BEGINS. Each datum BY PROGRAM (the guide's laid-datum.mjs) off the statement by which the dump's own 'gosem.cut.vars' lays the variable. In a bare row this is a premise. The card (YtfnmlikgdfmcbaaDoorCards.lean) ties it to the program's text. -/
def laid_gnomon_sintable_sineHi {H : Type} : DataW H := .agg [.lit (.int .u64 0), .lit (.int .u64 4580160454536392405), .lit (.int .u64 4584662954719242351), .lit (.int .u64 4586913746847464361), .lit (.int .u64 4589162157373738715), .lit (.int .u64 4590288195321689435), .lit (.int .u64 4591409928847315172), .lit (.int .u64 4592530015553861917), .lit (.int .u64 4593648181988224566), .lit (.int .u64 4594217887542005423), .lit (.int .u64 4594774641278281419), .lit (.int .u64 4595330026238453491), .lit (.int .u64 4595883906833248949), .lit (.int .u64 4596436147840664338), .lit (.int .u64 4596986614438977945), .lit (.int .u64 4597535172239664592), .lit (.int .u64 4598081687320204663), .lit (.int .u64 4598400622901027894), .lit (.int .u64 4598671637851060342), .lit (.int .u64 4598941432118424735), .lit (.int .u64 4599209939836720088), .lit (.int .u64 4599477095453637920), .lit (.int .u64 4599742833746965911), .lit (.int .u64 4600007089840510967), .lit (.int .u64 4600269799219937812), .lit (.int .u64 4600530897748519241), .lit (.int .u64 4600790321682794181), .lit (.int .u64 4601048007688129738), .lit (.int .u64 4601303892854183447), .lit (.int .u64 4601557914710261923), .lit (.int .u64 4601810011240572191), .lit (.int .u64 4602060120899361946), .lit (.int .u64 4602308182625945072), .lit (.int .u64 4602554135859608727), .lit (.int .u64 4602738369863522645), .lit (.int .u64 4602859148183212033), .lit (.int .u64 4602978782988901435), .lit (.int .u64 4603097245073468848), .lit (.int .u64 4603214505516095308), .lit (.int .u64 4603330535689325499), .lit (.int .u64 4603445307266056734), .lit (.int .u64 4603558792226454607), .lit (.int .u64 4603670962864793643), .lit (.int .u64 4603781791796221242), .lit (.int .u64 4603891251963443307), .lit (.int .u64 4603999316643329889), .lit (.int .u64 4604105959453439260), .lit (.int .u64 4604211154358458803), .lit (.int .u64 4604314875676561165), .lit (.int .u64 4604417098085674105), .lit (.int .u64 4604517796629662511), .lit (.int .u64 4604616946724421089), .lit (.int .u64 4604714524163876216)]
def laid_gnomon_sintable_sineLo {H : Type} : DataW H := .agg [.lit (.int .u64 0), .lit (.int .u64 13547579073368098678), .lit (.int .u64 13563949304181312226), .lit (.int .u64 13566418493652244858), .lit (.int .u64 13565635294520691561), .lit (.int .u64 13571915860097451659), .lit (.int .u64 4340058461531295770), .lit (.int .u64 4350074286710082760), .lit (.int .u64 13567934672008572987), .lit (.int .u64 13575801550145022373), .lit (.int .u64 4351741018788776849), .lit (.int .u64 13575806695459752374), .lit (.int .u64 4343065779550066627), .lit (.int .u64 4348722683634062205), .lit (.int .u64 4353223431030508715), .lit (.int .u64 13574744420402360258), .lit (.int .u64 13574233591919817400), .lit (.int .u64 13581162171891704500), .lit (.int .u64 4356212803758837748), .lit (.int .u64 4350852416605968391), .lit (.int .u64 4323523077633180570), .lit (.int .u64 4357271923058577069), .lit (.int .u64 4352666692703215819), .lit (.int .u64 13582162211903916717), .lit (.int .u64 13575796336720852686), .lit (.int .u64 4357413022124190944), .lit (.int .u64 13580214217610903384), .lit (.int .u64 13572214364228865741), .lit (.int .u64 13581416402800735513), .lit (.int .u64 4350934527179136935), .lit (.int .u64 13574689896800117400), .lit (.int .u64 4355214790318226842), .lit (.int .u64 13571467409308189309), .lit (.int .u64 4348745855762497699), .lit (.int .u64 13583657803099765505), .lit (.int .u64 13584816096337794294), .lit (.int .u64 4363303634146990465), .lit (.int .u64 4351425392996656264), .lit (.int .u64 4355590242459458906), .lit (.int .u64 4359101603699473614), .lit (.int .u64 13587258310203108016), .lit (.int .u64 4363824495314211675), .lit (.int .u64 13578651590041733032), .lit (.int .u64 13572694174990798784), .lit (.int .u64 13583961949702083845), .lit (.int .u64 4332702558478714268), .lit (.int .u64 13584475955338184753), .lit (.int .u64 4349496730363867543), .lit (.int .u64 4362137232034453386), .lit (.int .u64 13587040772166132762), .lit (.int .u64 13584747444859885030), .lit (.int .u64 13578607042041458003), .lit (.int .u64 13578955971649868450)]
def laid_gnomon_sintable_cosineHi {H : Type} : DataW H := .agg [.lit (.int .u64 4607182418800017408), .lit (.int .u64 4607181319310759071), .lit (.int .u64 4607178021111408595), .lit (.int .u64 4607172525007174047), .lit (.int .u64 4607164832339850451), .lit (.int .u64 4607154944987492207), .lit (.int .u64 4607142865363954587), .lit (.int .u64 4607128596418304433), .lit (.int .u64 4607112141634100179), .lit (.int .u64 4607093505028541395), .lit (.int .u64 4607072691151488040), .lit (.int .u64 4607049705084349686), .lit (.int .u64 4607024552438844956), .lit (.int .u64 4606997239355631511), .lit (.int .u64 4606967772502806894), .lit (.int .u64 4606936159074280607), .lit (.int .u64 4606902406788017825), .lit (.int .u64 4606866523884155164), .lit (.int .u64 4606828519122988968), .lit (.int .u64 4606788401782836611), .lit (.int .u64 4606746181657771328), .lit (.int .u64 4606701869055231132), .lit (.int .u64 4606655474793502401), .lit (.int .u64 4606607010199078750), .lit (.int .u64 4606556487103895826), .lit (.int .u64 4606503917842442716), .lit (.int .u64 4606449315248750656), .lit (.int .u64 4606392692653259782), .lit (.int .u64 4606334063879564703), .lit (.int .u64 4606273443241039662), .lit (.int .u64 4606210845537344132), .lit (.int .u64 4606146286050809694), .lit (.int .u64 4606079780542709072), .lit (.int .u64 4606011345249408245), .lit (.int .u64 4605940996878402574), .lit (.int .u64 4605868752604237902), .lit (.int .u64 4605794630064317638), .lit (.int .u64 4605718647354596837), .lit (.int .u64 4605640823025164333), .lit (.int .u64 4605561176075713999), .lit (.int .u64 4605479725950906245), .lit (.int .u64 4605396492535620884), .lit (.int .u64 4605311496150102525), .lit (.int .u64 4605224757544999671), .lit (.int .u64 4605136297896298752), .lit (.int .u64 4605046138800154310), .lit (.int .u64 4604954302267616605), .lit (.int .u64 4604860810719257935), .lit (.int .u64 4604765686979698975), .lit (.int .u64 4604668954272036472), .lit (.int .u64 4604570636212173661), .lit (.int .u64 4604470756803054778), .lit (.int .u64 4604369340428805087)]
def laid_gnomon_sintable_cosineLo {H : Type} : DataW H := .agg [.lit (.int .u64 0), .lit (.int .u64 4360199296339566323), .lit (.int .u64 13583900207205620571), .lit (.int .u64 13580802267923385695), .lit (.int .u64 4360373087281693295), .lit (.int .u64 13577437272034865047), .lit (.int .u64 4360356363645614299), .lit (.int .u64 4354598035789022892), .lit (.int .u64 4362696058276736952), .lit (.int .u64 13570800116725065577), .lit (.int .u64 4362962654239356002), .lit (.int .u64 13586345316221922070), .lit (.int .u64 13584713310975483060), .lit (.int .u64 4354481718263263700), .lit (.int .u64 13574441066790794388), .lit (.int .u64 4358239809693653067), .lit (.int .u64 4363209716120537853), .lit (.int .u64 13568216631309222833), .lit (.int .u64 13582908836409922622), .lit (.int .u64 13583461530133150952), .lit (.int .u64 13584618491671399955), .lit (.int .u64 13584699945613158451), .lit (.int .u64 13571140830922498923), .lit (.int .u64 13586847198672795332), .lit (.int .u64 4347296784401157429), .lit (.int .u64 4363977163357160349), .lit (.int .u64 13584934786183195703), .lit (.int .u64 4359027992459594717), .lit (.int .u64 4361936029453593101), .lit (.int .u64 4351864918935878296), .lit (.int .u64 4357993302370877731), .lit (.int .u64 13574337134639884416), .lit (.int .u64 13585268877995206696), .lit (.int .u64 4355855762229825693), .lit (.int .u64 4347198757411991008), .lit (.int .u64 4348506336573684245), .lit (.int .u64 4355505676600721602), .lit (.int .u64 4362012674173089484), .lit (.int .u64 4353219448755111826), .lit (.int .u64 13584701159983126121), .lit (.int .u64 13583368851881006598), .lit (.int .u64 4361493040018204585), .lit (.int .u64 13583066472705394221), .lit (.int .u64 13578632912864623495), .lit (.int .u64 4361846053882066113), .lit (.int .u64 4355887936269445597), .lit (.int .u64 13577764333051586782), .lit (.int .u64 13577354343185313384), .lit (.int .u64 13576144875971963077), .lit (.int .u64 4360651779814366337), .lit (.int .u64 4355362127650550962), .lit (.int .u64 13572015408658218103), .lit (.int .u64 4360729798899938000)]

/-- 'gnomonlaw23.SintableRows': WHATEVER THE INPUT: true; the input reads as it did. -/
def sintableRowsSpec : ChangeSpec := { name := "sintableRows", fn := fun _ => fun
  | [d] => { results := [.lit (.bool true)], args := [d] }
  | _ => none }
def sintableRowsRow : OpenClaim := { program := "ytfnmlikgdfmcbaadoor", sum := "43bdcfb7f2122d992ff16d6a082c3a46580b2120a5a37327f117299b53b4ec70", func := "gnomon/gnomonlaw23.SintableRows", spec := "sintableRows", inPlace := ["math.Float64frombits", "math.Float64bits", "math.archFloor", "math.archTrunc"], recurses := true, named := ["gnomon/sintable.sineHi", "gnomon/sintable.sineLo", "gnomon/sintable.cosineHi", "gnomon/sintable.cosineLo"], apart := false, laid := [("gnomon/sintable.sineHi", laid_gnomon_sintable_sineHi), ("gnomon/sintable.sineLo", laid_gnomon_sintable_sineLo), ("gnomon/sintable.cosineHi", laid_gnomon_sintable_cosineHi), ("gnomon/sintable.cosineLo", laid_gnomon_sintable_cosineLo)] }
def SintableRowsSaid : Prop := sintableRowsRow.holds Tryd.pinned (OpenSpec.ofChange sintableRowsSpec)

/-- ITS FALSE NEIGHBOUR: 'it returns false'. Refute it at one input. -/
def sintableRowsWrong : ChangeSpec := { name := "sintableRows", fn := fun _ => fun
  | [d] => { results := [.lit (.bool false)], args := [d] }
  | _ => none }
def SintableRowsWrongFalsely : Prop := sintableRowsRow.holds Tryd.pinned (OpenSpec.ofChange sintableRowsWrong)

/-- 'gnomonlaw23.SintablePlaces': WHATEVER THE INPUT: true; the input reads as it did. -/
def sintablePlacesSpec : ChangeSpec := { name := "sintablePlaces", fn := fun _ => fun
  | [d] => { results := [.lit (.bool true)], args := [d] }
  | _ => none }
def sintablePlacesRow : OpenClaim := { program := "ytfnmlikgdfmcbaadoor", sum := "43bdcfb7f2122d992ff16d6a082c3a46580b2120a5a37327f117299b53b4ec70", func := "gnomon/gnomonlaw23.SintablePlaces", spec := "sintablePlaces", inPlace := ["math.Float64frombits", "math.Float64bits", "math.archFloor", "math.archTrunc"], named := ["gnomon/sintable.sineHi", "gnomon/sintable.sineLo", "gnomon/sintable.cosineHi", "gnomon/sintable.cosineLo"], apart := false, laid := [("gnomon/sintable.sineHi", laid_gnomon_sintable_sineHi), ("gnomon/sintable.sineLo", laid_gnomon_sintable_sineLo), ("gnomon/sintable.cosineHi", laid_gnomon_sintable_cosineHi), ("gnomon/sintable.cosineLo", laid_gnomon_sintable_cosineLo)] }
def SintablePlacesSaid : Prop := sintablePlacesRow.holds Tryd.pinned (OpenSpec.ofChange sintablePlacesSpec)

/-- ITS FALSE NEIGHBOUR: 'it returns false'. Refute it at one input. -/
def sintablePlacesWrong : ChangeSpec := { name := "sintablePlaces", fn := fun _ => fun
  | [d] => { results := [.lit (.bool false)], args := [d] }
  | _ => none }
def SintablePlacesWrongFalsely : Prop := sintablePlacesRow.holds Tryd.pinned (OpenSpec.ofChange sintablePlacesWrong)

/- THE SECOND FORM. 'bulk': how many values and letters a reading holds, each counted each time it is reached (what is shared counts as often as it is met; a slice's spare places count too). A statement '..UptoSaid' is the law's where the arguments, and the package variables that the reading takes, are together of bulk at most 1048576: NARROWER than '..Said'. Prove '..Said' where nothing that the law and all that it calls make is longer than what came in: it says more and counts as full. Else prove '..UptoSaid'. A law counts once. -/
mutual
def uptoBulk {H : Type} : DataW H → Nat
  | .lit (.string bytes) => bytes.length + 1
  | .lit _ => 1
  | .nil => 1
  | .ptr d => uptoBulk d + 1
  | .slice elems spare => uptoBulkAll elems + uptoBulkAll spare + 1
  | .agg parts => uptoBulkAll parts + 1
  | .iface _ d => uptoBulk d + 1
  | .map entries => uptoBulkEntries entries + 1
  | .held _ => 1
def uptoBulkAll {H : Type} : List (DataW H) → Nat
  | [] => 0
  | d :: r => uptoBulk d + uptoBulkAll r
def uptoBulkEntries {H : Type} : List (Lit × DataW H) → Nat
  | [] => 0
  | x :: r => uptoBulkEntry x + uptoBulkEntries r
def uptoBulkEntry {H : Type} : Lit × DataW H → Nat
  | (.string bytes, d) => bytes.length + uptoBulk d + 1
  | (_, d) => uptoBulk d + 1
 end
def uptoSmall : (H : Type) → List (DataW H) → Bool := fun _ ds => decide (uptoBulkAll ds ≤ 1048576)
def OpenSpec.upto (s : _root_.Go.ChangeSpec) : _root_.Go.OpenSpec := { _root_.Go.OpenSpec.ofChange s with cond := some uptoSmall }

/-- 'gnomonlaw23.SintableRows', WHERE WHAT IT READS IS OF BULK AT MOST 1048576: true; the input reads as it did. -/
def sintableRowsUptoRow : OpenClaim := { program := "ytfnmlikgdfmcbaadoor", sum := "43bdcfb7f2122d992ff16d6a082c3a46580b2120a5a37327f117299b53b4ec70", func := "gnomon/gnomonlaw23.SintableRows", spec := "sintableRows", inPlace := ["math.Float64frombits", "math.Float64bits", "math.archFloor", "math.archTrunc"], recurses := true, named := ["gnomon/sintable.sineHi", "gnomon/sintable.sineLo", "gnomon/sintable.cosineHi", "gnomon/sintable.cosineLo"], apart := false, laid := [("gnomon/sintable.sineHi", laid_gnomon_sintable_sineHi), ("gnomon/sintable.sineLo", laid_gnomon_sintable_sineLo), ("gnomon/sintable.cosineHi", laid_gnomon_sintable_cosineHi), ("gnomon/sintable.cosineLo", laid_gnomon_sintable_cosineLo)], narrowed := true }
def SintableRowsUptoSaid : Prop := sintableRowsUptoRow.holds Tryd.pinned (OpenSpec.upto sintableRowsSpec)

/-- 'gnomonlaw23.SintablePlaces', WHERE WHAT IT READS IS OF BULK AT MOST 1048576: true; the input reads as it did. -/
def sintablePlacesUptoRow : OpenClaim := { program := "ytfnmlikgdfmcbaadoor", sum := "43bdcfb7f2122d992ff16d6a082c3a46580b2120a5a37327f117299b53b4ec70", func := "gnomon/gnomonlaw23.SintablePlaces", spec := "sintablePlaces", inPlace := ["math.Float64frombits", "math.Float64bits", "math.archFloor", "math.archTrunc"], named := ["gnomon/sintable.sineHi", "gnomon/sintable.sineLo", "gnomon/sintable.cosineHi", "gnomon/sintable.cosineLo"], apart := false, laid := [("gnomon/sintable.sineHi", laid_gnomon_sintable_sineHi), ("gnomon/sintable.sineLo", laid_gnomon_sintable_sineLo), ("gnomon/sintable.cosineHi", laid_gnomon_sintable_cosineHi), ("gnomon/sintable.cosineLo", laid_gnomon_sintable_cosineLo)], narrowed := true }
def SintablePlacesUptoSaid : Prop := sintablePlacesUptoRow.holds Tryd.pinned (OpenSpec.upto sintablePlacesSpec)

end Rows
end Go.Proofs.YtfnmlikgdfmcbaaDoor
