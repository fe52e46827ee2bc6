/-
  What the statement DyadicRingCardSaid leans on, part 12: the logic of walks, digits, contracts of the functions, the plain law. Conditions stand in each theorem.
-/
import Derived.Test.YtbeocnjlepcglaaDoorPkDyadicRingCardSaidK
import Derived.LaidMore
import Derived.Lib.LaidTab
import Derived.ChangeSame
namespace Go.Proofs.YtbeocnjlepcglaaDoor.Sim
open Go.RowKit Go.ChangeShapes Go.WideShapes
set_option linter.unusedVariables false
set_option linter.unusedSimpArgs false
theorem fDy : fieldT Tryd.prog 26 = some (3, [(24, 0, 2), (3, 2, 1)]) := by kernel_rfl
theorem fIn : fieldT Tryd.prog 24 = some (2, [(4, 0, 1), (22, 1, 1)]) := by kernel_rfl
theorem uBo : Tryd.prog.underlying 4 = some .bool := by kernel_rfl
theorem uIt : Tryd.prog.underlying 3 = some (.int .i64) := by kernel_rfl
theorem uWs : Tryd.prog.underlying 22 = some (.slice 51) := by kernel_rfl
theorem uU6 : Tryd.prog.underlying 51 = some (.int .u64) := by kernel_rfl
theorem cU6 : Tryd.prog.cellsOf 51 = 1 := by kernel_rfl
theorem okWide_agg {P : Program} {t : TypeId} {c : Nat} {fs : List (TypeId × Nat × Nat)} {w : World} {r : Reach} {b : Nat} {v : Value} (hu : fieldT P t = some (c, fs)) (h : Value.okWide P w r b t v) : ∃ cs, v = .agg cs := by
  unfold fieldT at hu
  unfold Value.okWide at h
  split at hu
  · rename_i gs hg
    rw [hg] at h
    obtain ⟨cs, h1, _⟩ := h
    exact ⟨cs, h1⟩
  · cases hu
section
variable {H : Type} {enc : TypeId × Value → H} {w : World} {base : Nat} {sp : Nat → Bool} {held : Bool}
theorem okD_wf {l : List Int} (h : ∀ z ∈ l, (Lit.int .u64 z).wf = true) : okD 18446744073709551616 l := fun z hz => wf_u64 (h z hz)
theorem open_int24 {fuel : Nat} {cs : List Value} {x : DataW H × List MemPlace} (h : DataW.trod enc Tryd.prog w base sp held fuel 24 cs = some x) :
    ∃ b l v, cs = [.bool b, v] ∧ Rep ⟨w.cell?, [], []⟩ (.ws .u64 l) v ∧ okD 18446744073709551616 l ∧ (v = .slice none 0 0 ∧ l = [] ∨ ∃ a cap, v = .slice (some a) l.length cap) := by
  obtain ⟨hl, n, hf⟩ := trod_fields fIn h
  match cs, hl with
  | [a, v], _ =>
    obtain ⟨y0, h0⟩ := hf 0 _ _ _ rfl
    obtain ⟨y1, h1⟩ := hf 1 _ _ _ rfl
    obtain ⟨b, rfl⟩ := trod_bool uBo h0
    obtain ⟨l, hr, ho, hs⟩ := trod_words uWs uU6 cU6 h1
    exact ⟨b, l, v, rfl, hr, okD_wf ho, hs⟩
theorem open_dy {fuel : Nat} {cs : List Value} {x : DataW H × List MemPlace} (h : DataW.trod enc Tryd.prog w base sp held fuel 26 cs = some x) :
    ∃ b l e v, cs = [.bool b, v, .int .i64 e] ∧ Rep ⟨w.cell?, [], []⟩ (.ws .u64 l) v ∧ okD 18446744073709551616 l ∧ inR .i64 e ∧ (v = .slice none 0 0 ∧ l = [] ∨ ∃ a cap, v = .slice (some a) l.length cap) := by
  obtain ⟨hl, n, hf⟩ := trod_fields fDy h
  match cs, hl with
  | [a, v, e], _ =>
    obtain ⟨y0, h0⟩ := hf 0 _ _ _ rfl
    obtain ⟨y1, h1⟩ := hf 1 _ _ _ rfl
    obtain ⟨b, l, v', hc, hr, ho, hs⟩ := open_int24 h0
    simp only [List.drop_zero, List.take_succ_cons, List.take_zero, List.cons.injEq, and_true] at hc
    obtain ⟨rfl, rfl⟩ := hc
    obtain ⟨z, rfl, hz⟩ := trod_int uIt h1
    exact ⟨b, l, z, v, rfl, hr, ho, wf_i64r hz, hs⟩
set_option maxRecDepth 100000 in
theorem open_dyad {r : Reach} {b0 : Nat} {v : Value} {d : DataW H} {ps : List MemPlace} (hval : Value.okWide Tryd.prog w r b0 26 v) (h : DataW.Trod enc Tryd.prog w base sp held 26 v d ps) :
    ∃ b l e, Rep ⟨w.cell?, [], []⟩ (Dy b l e) v ∧ okD 18446744073709551616 l ∧ inR .i64 e := by
  obtain ⟨cs, rfl⟩ := okWide_agg fDy hval
  obtain ⟨n, h⟩ := h
  obtain ⟨b, l, e, v, hc, hr, ho, hi, _⟩ := open_dy h
  have hcs : cs = [Value.bool b, v, .int .i64 e].toArray := by
    have : cs.toList = [Value.bool b, v, .int .i64 e] := hc
    rw [← this]
  subst hcs
  exact ⟨b, l, e, .agg (.cons (.val _) (.cons hr (.cons (.val _) .nil))), ho, hi⟩
end
theorem gB : Tryd.prog.globalNamed "math/bits.deBruijn64tab" = some 0 := by kernel_rfl
theorem tB : (Tryd.prog.globals[0]?).map (·.type) = some 100 := by kernel_rfl
theorem uB : Tryd.prog.underlying 100 = some (.array 64 5) := by kernel_rfl
theorem uB8 : Tryd.prog.underlying 5 = some (.int .u8) := by kernel_rfl
theorem cB8 : Tryd.prog.cellsOf 5 = 1 := by kernel_rfl
theorem cB : Tryd.prog.cellsOf 100 = 64 := by kernel_rfl
def GD : List (Nat × List Value) := [(0, debT.map (Value.int .u8))]
theorem hGD : (0, debT.map (Value.int .u8)) ∈ GD := List.mem_singleton.2 rfl
end Go.Proofs.YtbeocnjlepcglaaDoor.Sim
namespace Go.Proofs.YtbeocnjlepcglaaDoor.Sim
open Go.RowKit Go.ChangeShapes Go.WideShapes
section
variable {H : Type} {enc : TypeId × Value → H} {P : Program}
/-- 'post' where nothing has turned below. -/
theorem post_below2 {f : Func} {s : ChangeSpec} {apart fresh handsOn again : Bool} {W W' : World} {args : Array Value} {v : Value} {ds gs : List (DataW H)} {before pa pv : List MemPlace}
    (hW : DataW.Whole enc P f.params.toList s.vars apart W args.toList ds gs before)
    (hres : ∀ (b : Nat) (sp : Nat → Bool) (hd : Bool), DataW.TrodAll enc P W' b sp hd f.resultTypes.toList (v.resultList f.resultTypes.size) (s.fn H (ds ++ gs)).results [])
    (hargs : ∀ sp : Nat → Bool, (∀ p ∈ before, sp p.block = true) → DataW.TrodAll enc P W' 0 sp true f.params.toList args.toList (s.fn H (ds ++ gs)).args pa)
    (hvars : ∀ sp : Nat → Bool, (∀ p ∈ before, sp p.block = true) → DataW.TrodVars enc P W' sp s.vars (s.fn H (ds ++ gs)).vars pv)
    (hps : before = pa ++ pv) (hb : Below W.heap.size W W')
    (hok : ∀ (j : Nat) (t : TypeId) (r : Value), f.resultTypes[j]? = some t → (v.resultList f.resultTypes.size)[j]? = some r → Value.okWide P W' .any 0 t r) :
    s.post enc P f apart fresh handsOn again W args v W' := by
  have hold : ∀ p ∈ before, (fun b => decide (b < W.heap.size)) p.block = true := fun p hp => by simpa using hW.lt p hp
  have hlt := hW.lt
  refine ⟨ds, gs, before, [], pa, pv, hW, hres _ _ _, hargs _ hold, hvars _ hold, hb.frame _, fun _ => ?_⟩
  obtain ⟨_, _, _, _, _, hz, hn⟩ := hW
  refine ⟨hok, _, _, ([] ++ pa) ++ pv, ⟨[] ++ pa, pv, trodAll_append (hargs _ (fun _ _ => rfl)) (hres _ _ _), hvars _ (fun _ _ => rfl), rfl, ?_, ?_⟩, ?_⟩
  · intro b off hp
    have hm : MemPlace.cell b off ∈ before := by rw [hps]; simpa using hp
    rw [hb.frozen (p := ⟨b, off, none⟩) (hlt _ hm)]
    exact hz b off hm
  · intro ha
    have := hn ha
    rw [hps] at this
    simpa using this
  · intro p hp _
    rw [hps]
    simpa using hp
end
end Go.Proofs.YtbeocnjlepcglaaDoor.Sim
