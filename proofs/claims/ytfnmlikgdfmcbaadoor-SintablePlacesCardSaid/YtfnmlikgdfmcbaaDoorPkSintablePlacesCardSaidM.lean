/-
  Lemmas of SintablePlacesCardSaid, part 13.
-/
import Derived.Test.YtfnmlikgdfmcbaaDoorPkSintablePlacesCardSaidL
import Derived.SizedLaws
import Derived.DataElems
import Derived.LaidMore
import Derived.LaidSub
import Derived.Lib.LaidTab
import Derived.ChangeSame
namespace Go.Proofs.YtfnmlikgdfmcbaaDoor.Sim
open Go.RowKit Go.ChangeShapes Go.WideShapes
set_option linter.unusedVariables false
set_option linter.unusedSimpArgs false
theorem uBoT : Tryd.prog.underlying 4 = some .bool := by kernel_rfl
section
variable {H : Type} {enc : TypeId × Value → H} {P : Program} {w : World} {base : Nat} {sp : Nat → Bool} {held : Bool}
theorem lits_lenT (k : IntKind) (zs : List Int) : (ChangeShapes.lits (H := H) k zs).length = zs.length := by simp [ChangeShapes.lits]
theorem trod_wordsT {t e : TypeId} {k : IntKind} {fuel : Nat} {v : Value} {x : DataW H × List MemPlace} (ht : P.underlying t = some (.slice e)) (he : P.underlying e = some (.int k)) (hc : P.cellsOf e = 1)
    (h : DataW.trod enc P w base sp held fuel t [v] = some x) (hw : ∀ q ∈ x.1.weights P t, q ≤ reachBytes) : ∃ l : List Int, Rep ⟨w.cell?, [], []⟩ (.ws k l) v ∧ (∀ z ∈ l, (Lit.int k z).wf = true) ∧ l.length * P.bytesOf e ≤ reachBytes := by
  rcases open_ints ht he hc h with ⟨h1, h2⟩ | ⟨a, len, cap, zs, h1, h2, h3, h4, h5, h6, h7, h8⟩
  · simp only [List.cons.injEq, and_true] at h1
    subst h1
    exact ⟨[], .ws rfl (Nat.le_refl _) (fun j x hj => by cases hj), (fun z hz => by cases hz), by rw [List.length_nil, Nat.zero_mul]; exact Nat.zero_le _⟩
  · simp only [List.cons.injEq, and_true] at h1
    subst h1
    have hlen : (zs.take len).length = len := by
      rw [List.length_take]
      split at h5 <;> omega
    refine ⟨zs.take len, .ws hlen.symm h3 (fun j x hj => ⟨a, rfl, ?_⟩), (fun z hz => h8 z (List.mem_of_mem_take hz)), ?_⟩
    · have hj1 := (List.getElem?_eq_some_iff.1 hj).1
      rw [hlen] at hj1
      rw [List.getElem?_take, if_pos hj1] at hj
      have hj2 := (List.getElem?_eq_some_iff.1 hj).1
      have := h7 j hj2
      rw [List.getD_eq_getElem?_getD, hj] at this
      exact this
    · have := hw (((ChangeShapes.lits (H := H) k (zs.take len)).length + (ChangeShapes.lits (H := H) k (zs.drop len)).length) * P.bytesOf e) (by rw [h6]; simp [DataW.weights, ht])
      refine Nat.le_trans (Nat.mul_le_mul_right _ ?_) this
      rw [lits_lenT]
      exact Nat.le_add_right _ _
theorem wf_rd {k : IntKind} {l : List Int} (h : ∀ z ∈ l, (Lit.int k z).wf = true) (i : Nat) (hi : i < l.length) : (Lit.int k (rd l (i : Int))).wf = true := by
  unfold rd
  rw [Int.toNat_natCast, List.getD_eq_getElem?_getD, List.getElem?_eq_getElem hi]
  exact h _ (List.getElem_mem hi)
theorem tab_cells {W : World} {name : String} {zs : List Int} {g t e n : Nat} {l : List (String × DataW Unit)} {d : DataW Unit} (h : laidMet P l W) (hl : l.filter (fun x => x.1 == name) = [(name, d)]) (hd : d = .agg (zs.map fun z => .lit (.int .u64 z)))
    (hg : P.globalNamed name = some g) (ht : (P.globals[g]?).map (·.type) = some t) (hu : P.underlying t = some (.array n e)) (he : P.underlying e = some (.int .u64)) (hc : P.cellsOf e = 1) (hn : P.cellsOf t = n) : ∀ (j : Nat) (u : Value), (zs.map (Value.int .u64))[j]? = some u → W.cell? ⟨g, j, none⟩ = some u := by
  have h2 := h.filter (fun x => x.1 == name)
  rw [hl] at h2
  subst hd
  have hT := Lib.tabIs_of_head (k := .u64) (zs := zs) (rest := []) hg ht hu he hc hn h2
  intro j u hu2
  have hj : j < zs.length := by have := (List.getElem?_eq_some_iff.1 hu2).1; simpa using this
  have h1 := hT.cell hg j hj
  rw [List.getElem?_map, List.getElem?_eq_getElem hj] at hu2
  simp only [Option.map_some, Option.some.injEq] at hu2
  rw [← hu2, h1]
  simp [List.getD, hj]
end
theorem gs_ok {l : List (String × DataW Unit)} {W : World} (h : laidMet Tryd.prog l W) (h0 : l.filter (fun x => x.1 == "gnomon/sintable.sineHi") = [("gnomon/sintable.sineHi", Rows.laid_gnomon_sintable_sineHi)]) (h1 : l.filter (fun x => x.1 == "gnomon/sintable.sineLo") = [("gnomon/sintable.sineLo", Rows.laid_gnomon_sintable_sineLo)])
    (h2 : l.filter (fun x => x.1 == "gnomon/sintable.cosineHi") = [("gnomon/sintable.cosineHi", Rows.laid_gnomon_sintable_cosineHi)]) (h3 : l.filter (fun x => x.1 == "gnomon/sintable.cosineLo") = [("gnomon/sintable.cosineLo", Rows.laid_gnomon_sintable_cosineLo)]) : GOk GS W.cell? := by
  intro g cs hm j u hu
  simp only [GS, List.mem_cons, List.not_mem_nil, or_false, Prod.mk.injEq] at hm
  rcases hm with ⟨rfl, rfl⟩ | ⟨rfl, rfl⟩ | ⟨rfl, rfl⟩ | ⟨rfl, rfl⟩
  · exact tab_cells h h0 rfl (by kernel_rfl) (t := 45) (by kernel_rfl) (n := 53) (e := 30) (by kernel_rfl) (by kernel_rfl) (by kernel_rfl) (by kernel_rfl) j u hu
  · exact tab_cells h h1 rfl (by kernel_rfl) (t := 45) (by kernel_rfl) (n := 53) (e := 30) (by kernel_rfl) (by kernel_rfl) (by kernel_rfl) (by kernel_rfl) j u hu
  · exact tab_cells h h2 rfl (by kernel_rfl) (t := 45) (by kernel_rfl) (n := 53) (e := 30) (by kernel_rfl) (by kernel_rfl) (by kernel_rfl) (by kernel_rfl) j u hu
  · exact tab_cells h h3 rfl (by kernel_rfl) (t := 45) (by kernel_rfl) (n := 53) (e := 30) (by kernel_rfl) (by kernel_rfl) (by kernel_rfl) (by kernel_rfl) j u hu
end Go.Proofs.YtfnmlikgdfmcbaaDoor.Sim
namespace Go.Proofs.YtfnmlikgdfmcbaaDoor.Sim
open Go.RowKit Go.ChangeShapes Go.WideShapes
section
variable {H : Type} {enc : TypeId × Value → H} {P : Program}
theorem post_below2 {f : Func} {s : ChangeSpec} {apart fresh handsOn again : Bool} {W W' : World} {args : Array Value} {v : Value} {ds gs : List (DataW H)} {before pa pv : List MemPlace}
    (hW : DataW.Whole enc P f.params.toList s.vars apart W args.toList ds gs before)
    (hres : ∀ (b : Nat) (sp : Nat → Bool) (hd : Bool), DataW.TrodAll enc P W' b sp hd f.resultTypes.toList (v.resultList f.resultTypes.size) (s.fn H (ds ++ gs)).results [])
    (hargs : ∀ sp : Nat → Bool, (∀ p ∈ before, sp p.block = true) → DataW.TrodAll enc P W' 0 sp true f.params.toList args.toList (s.fn H (ds ++ gs)).args pa)
    (hvars : ∀ sp : Nat → Bool, (∀ p ∈ before, sp p.block = true) → DataW.TrodVars enc P W' sp s.vars (s.fn H (ds ++ gs)).vars pv)
    (hps : before = pa ++ pv) (hb : Below W.heap.size W W')
    (hok : ∀ (j : Nat) (t : TypeId) (r : Value), f.resultTypes[j]? = some t → (v.resultList f.resultTypes.size)[j]? = some r → Value.okWide P W' .any 0 t r) :
    s.post enc P f apart fresh handsOn again W args v W' := by
  have hold : ∀ p ∈ before, (fun b => decide (b < W.heap.size)) p.block = true := fun p hp => by simpa using hW.lt p hp
  have hlt := hW.lt
  refine ⟨ds, gs, before, [], pa, pv, hW, hres _ _ _, hargs _ hold, hvars _ hold, hb.frame _, fun _ => ?_⟩
  obtain ⟨_, _, _, _, _, hz, hn⟩ := hW
  refine ⟨hok, _, _, ([] ++ pa) ++ pv, ⟨[] ++ pa, pv, trodAll_append (hargs _ (fun _ _ => rfl)) (hres _ _ _), hvars _ (fun _ _ => rfl), rfl, ?_, ?_⟩, ?_⟩
  · intro b off hp
    have hm : MemPlace.cell b off ∈ before := by rw [hps]; simpa using hp
    rw [hb.frozen (p := ⟨b, off, none⟩) (hlt _ hm)]
    exact hz b off hm
  · intro ha
    have := hn ha
    rw [hps] at this
    simpa using this
  · intro p hp _
    rw [hps]
    simpa using hp
end
end Go.Proofs.YtfnmlikgdfmcbaaDoor.Sim
