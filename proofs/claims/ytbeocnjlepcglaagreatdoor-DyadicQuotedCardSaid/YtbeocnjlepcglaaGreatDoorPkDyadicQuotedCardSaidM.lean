/-
  What the statement DyadicQuotedCardSaid leans on, part 13: the logic of walks, digits, contracts of the functions, the plain law. Conditions stand in each theorem.
-/
import Derived.Test.YtbeocnjlepcglaaGreatDoorPkDyadicQuotedCardSaidL
import Derived.LaidMore
import Derived.Lib.LaidTab
namespace Go.Proofs.YtbeocnjlepcglaaGreatDoor.Sim
open Go.RowKit Go.ChangeShapes Go.WideShapes
set_option linter.unusedVariables false
set_option linter.unusedSimpArgs false
theorem fDy : fieldT Tryz.prog 26 = some (3, [(24, 0, 2), (3, 2, 1)]) := by kernel_rfl
theorem fIn : fieldT Tryz.prog 24 = some (2, [(4, 0, 1), (22, 1, 1)]) := by kernel_rfl
theorem uBo : Tryz.prog.underlying 4 = some .bool := by kernel_rfl
theorem uIt : Tryz.prog.underlying 3 = some (.int .i64) := by kernel_rfl
theorem uWs : Tryz.prog.underlying 22 = some (.slice 44) := by kernel_rfl
theorem uU6 : Tryz.prog.underlying 44 = some (.int .u64) := by kernel_rfl
theorem cU6 : Tryz.prog.cellsOf 44 = 1 := by kernel_rfl
theorem okWide_agg {P : Program} {t : TypeId} {c : Nat} {fs : List (TypeId × Nat × Nat)} {w : World} {r : Reach} {b : Nat} {v : Value} (hu : fieldT P t = some (c, fs)) (h : Value.okWide P w r b t v) : ∃ cs, v = .agg cs := by
  unfold fieldT at hu
  unfold Value.okWide at h
  split at hu
  · rename_i gs hg
    rw [hg] at h
    obtain ⟨cs, h1, _⟩ := h
    exact ⟨cs, h1⟩
  · cases hu
section
variable {H : Type} {enc : TypeId × Value → H} {w : World} {base : Nat} {sp : Nat → Bool} {held : Bool}
theorem okD_wf {l : List Int} (h : ∀ z ∈ l, (Lit.int .u64 z).wf = true) : okD 18446744073709551616 l := fun z hz => wf_u64 (h z hz)
theorem open_int24 {fuel : Nat} {cs : List Value} {x : DataW H × List MemPlace} (h : DataW.trod enc Tryz.prog w base sp held fuel 24 cs = some x) :
    ∃ b l v, cs = [.bool b, v] ∧ Rep ⟨w.cell?, [], []⟩ (.ws .u64 l) v ∧ okD 18446744073709551616 l ∧ (v = .slice none 0 0 ∧ l = [] ∨ ∃ a cap, v = .slice (some a) l.length cap) := by
  obtain ⟨hl, n, hf⟩ := trod_fields fIn h
  match cs, hl with
  | [a, v], _ =>
    obtain ⟨y0, h0⟩ := hf 0 _ _ _ rfl
    obtain ⟨y1, h1⟩ := hf 1 _ _ _ rfl
    obtain ⟨b, rfl⟩ := trod_bool uBo h0
    obtain ⟨l, hr, ho, hs⟩ := trod_words uWs uU6 cU6 h1
    exact ⟨b, l, v, rfl, hr, okD_wf ho, hs⟩
theorem open_dy {fuel : Nat} {cs : List Value} {x : DataW H × List MemPlace} (h : DataW.trod enc Tryz.prog w base sp held fuel 26 cs = some x) :
    ∃ b l e v, cs = [.bool b, v, .int .i64 e] ∧ Rep ⟨w.cell?, [], []⟩ (.ws .u64 l) v ∧ okD 18446744073709551616 l ∧ inR .i64 e ∧ (v = .slice none 0 0 ∧ l = [] ∨ ∃ a cap, v = .slice (some a) l.length cap) := by
  obtain ⟨hl, n, hf⟩ := trod_fields fDy h
  match cs, hl with
  | [a, v, e], _ =>
    obtain ⟨y0, h0⟩ := hf 0 _ _ _ rfl
    obtain ⟨y1, h1⟩ := hf 1 _ _ _ rfl
    obtain ⟨b, l, v', hc, hr, ho, hs⟩ := open_int24 h0
    simp only [List.drop_zero, List.take_succ_cons, List.take_zero, List.cons.injEq, and_true] at hc
    obtain ⟨rfl, rfl⟩ := hc
    obtain ⟨z, rfl, hz⟩ := trod_int uIt h1
    exact ⟨b, l, z, v, rfl, hr, ho, wf_i64r hz, hs⟩
set_option maxRecDepth 100000 in
theorem open_dyad {r : Reach} {b0 : Nat} {v : Value} {d : DataW H} {ps : List MemPlace} (hval : Value.okWide Tryz.prog w r b0 26 v) (h : DataW.Trod enc Tryz.prog w base sp held 26 v d ps) :
    ∃ b l e, Rep ⟨w.cell?, [], []⟩ (Dy b l e) v ∧ okD 18446744073709551616 l ∧ inR .i64 e := by
  obtain ⟨cs, rfl⟩ := okWide_agg fDy hval
  obtain ⟨n, h⟩ := h
  obtain ⟨b, l, e, v, hc, hr, ho, hi, _⟩ := open_dy h
  have hcs : cs = [Value.bool b, v, .int .i64 e].toArray := by
    have : cs.toList = [Value.bool b, v, .int .i64 e] := hc
    rw [← this]
  subst hcs
  exact ⟨b, l, e, .agg (.cons (.val _) (.cons hr (.cons (.val _) .nil))), ho, hi⟩
end
theorem gB : Tryz.prog.globalNamed "math/bits.deBruijn64tab" = some 0 := by kernel_rfl
theorem tB : (Tryz.prog.globals[0]?).map (·.type) = some 129 := by kernel_rfl
theorem uB : Tryz.prog.underlying 129 = some (.array 64 5) := by kernel_rfl
theorem uB8 : Tryz.prog.underlying 5 = some (.int .u8) := by kernel_rfl
theorem cB8 : Tryz.prog.cellsOf 5 = 1 := by kernel_rfl
theorem cB : Tryz.prog.cellsOf 129 = 64 := by kernel_rfl
def GD : List (Nat × List Value) := [(0, debT.map (Value.int .u8))]
theorem hGD : (0, debT.map (Value.int .u8)) ∈ GD := List.mem_singleton.2 rfl
end Go.Proofs.YtbeocnjlepcglaaGreatDoor.Sim
