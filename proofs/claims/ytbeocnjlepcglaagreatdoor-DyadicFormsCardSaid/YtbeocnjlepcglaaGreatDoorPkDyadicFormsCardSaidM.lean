/-
  What the statement DyadicFormsCardSaid leans on, part 13: the logic of walks, digits, contracts of the functions, the plain law. Conditions stand in each theorem.
-/
import Derived.Test.YtbeocnjlepcglaaGreatDoorPkDyadicFormsCardSaidL
import Derived.SizedLaws
import Derived.DataElems
import Derived.ChangeSame
namespace Go.Proofs.YtbeocnjlepcglaaGreatDoor.Sim
open Go.RowKit Go.ChangeShapes Go.WideShapes
set_option linter.unusedVariables false
set_option linter.unusedSimpArgs false
/-- One call, as a record. -/
structure OpR where
  k : Int
  b1 : Bool
  l1 : List Int
  e1 : Int
  b2 : Bool
  l2 : List Int
  e2 : Int
  b3 : Bool
  l3 : List Int
  m : Int
def OpR.pv (o : OpR) : PV := OpV o.k o.b1 o.l1 o.e1 o.b2 o.l2 o.e2 o.b3 o.l3 o.m
def OpR.ok (o : OpR) : Prop := inR .i64 o.k ∧ OKL o.l1 ∧ OKL o.l2 ∧ OKL o.l3 ∧ inR .i64 o.m
def OpR.cells (o : OpR) : List PV := [.val (.int .i64 o.k), .val (.bool o.b1), .ws .u64 o.l1, .val (.int .i64 o.e1), .val (.bool o.b2), .ws .u64 o.l2, .val (.int .i64 o.e2), .val (.bool o.b3), .ws .u64 o.l3, .val (.int .i64 o.m)]
def opsF (ops : Nat → OpR) : Nat → PV := fun j => (ops (j / 10)).cells.getD (j % 10) .any
theorem opsF_at (ops : Nat → OpR) (i j : Nat) (h : j < 10) : opsF ops (i * 10 + j) = (ops i).cells.getD j .any := by
  unfold opsF
  rw [show (i * 10 + j) / 10 = i by omega, show (i * 10 + j) % 10 = j by omega]
section
variable {H : Type} {enc : TypeId × Value → H} {P : Program} {w : World} {base : Nat} {sp : Nat → Bool} {held : Bool}
theorem trod_fieldsW {t : TypeId} {c : Nat} {fs : List (TypeId × Nat × Nat)} {fuel : Nat} {cs : List Value} {x : DataW H × List MemPlace} (hu : fieldT P t = some (c, fs)) (h : DataW.trod enc P w base sp held fuel t cs = some x) (hw : ∀ q ∈ x.1.weights P t, q ≤ reachBytes) :
    cs.length = c ∧ ∃ n, ∀ (i : Nat) (ty off z : Nat), fs[i]? = some (ty, off, z) → ∃ y, DataW.trod enc P w base sp held n ty ((cs.drop off).take z) = some y ∧ ∀ q ∈ y.1.weights P ty, q ≤ reachBytes := by
  unfold fieldT at hu
  split at hu
  · rename_i gs hg
    simp only [Option.some.injEq, Prod.mk.injEq] at hu
    obtain ⟨rfl, rfl⟩ := hu
    obtain ⟨xs, n, _, rfl, hl, hlen, hf⟩ := DataW.trod_struct hg h
    refine ⟨hl, n, fun i ty off z hi => ?_⟩
    rw [List.getElem?_map] at hi
    cases hq : gs.toList[i]? with
    | none => rw [hq] at hi; cases hi
    | some f =>
      rw [hq] at hi
      simp only [Option.map_some, Option.some.injEq, Prod.mk.injEq] at hi
      obtain ⟨rfl, rfl, rfl⟩ := hi
      have h2 := hf i f (by simpa using hq)
      have h3 : i < xs.length := by
        rw [hlen]
        have := (List.getElem?_eq_some_iff.1 hq).1
        simpa using this
      rw [List.getElem?_eq_getElem h3] at h2
      refine ⟨_, h2, fun q hqm => hw q ?_⟩
      have hm := DataW.weights_mem_each (P := P) (ts := gs.toList.map (·.type)) (ds := xs.map (·.1)) (j := i) (t := f.type) (d := xs[i].1) (by rw [List.getElem?_map, hq]; rfl) (by rw [List.getElem?_map, List.getElem?_eq_getElem h3]; rfl) q hqm
      simpa [DataW.weights, hg] using hm
  · cases hu
theorem lits_len (k : IntKind) (zs : List Int) : (ChangeShapes.lits (H := H) k zs).length = zs.length := by simp [ChangeShapes.lits]
theorem trod_wordsW {t e : TypeId} {k : IntKind} {fuel : Nat} {v : Value} {x : DataW H × List MemPlace} (ht : P.underlying t = some (.slice e)) (he : P.underlying e = some (.int k)) (hc : P.cellsOf e = 1)
    (h : DataW.trod enc P w base sp held fuel t [v] = some x) (hw : ∀ q ∈ x.1.weights P t, q ≤ reachBytes) : ∃ l : List Int, Rep ⟨w.cell?, [], []⟩ (.ws k l) v ∧ (∀ z ∈ l, (Lit.int k z).wf = true) ∧ l.length * P.bytesOf e ≤ reachBytes := by
  rcases open_ints ht he hc h with ⟨h1, h2⟩ | ⟨a, len, cap, zs, h1, h2, h3, h4, h5, h6, h7, h8⟩
  · simp only [List.cons.injEq, and_true] at h1
    subst h1
    exact ⟨[], .ws rfl (Nat.le_refl _) (fun j x hj => by cases hj), (fun z hz => by cases hz), by rw [List.length_nil, Nat.zero_mul]; exact Nat.zero_le _⟩
  · simp only [List.cons.injEq, and_true] at h1
    subst h1
    have hlen : (zs.take len).length = len := by
      rw [List.length_take]
      split at h5 <;> omega
    refine ⟨zs.take len, .ws hlen.symm h3 (fun j x hj => ⟨a, rfl, ?_⟩), (fun z hz => h8 z (List.mem_of_mem_take hz)), ?_⟩
    · have hj1 := (List.getElem?_eq_some_iff.1 hj).1
      rw [hlen] at hj1
      rw [List.getElem?_take, if_pos hj1] at hj
      have hj2 := (List.getElem?_eq_some_iff.1 hj).1
      have := h7 j hj2
      rw [List.getD_eq_getElem?_getD, hj] at this
      exact this
    · have := hw (((ChangeShapes.lits (H := H) k (zs.take len)).length + (ChangeShapes.lits (H := H) k (zs.drop len)).length) * P.bytesOf e) (by rw [h6]; simp [DataW.weights, ht])
      refine Nat.le_trans (Nat.mul_le_mul_right _ ?_) this
      rw [lits_len]
      exact Nat.le_add_right _ _
theorem mem_weightsAll {e : TypeId} : ∀ {ds : List (DataW H)} {i : Nat} {d : DataW H}, ds[i]? = some d → ∀ q ∈ d.weights P e, q ∈ DataW.weightsAll P e ds
  | d0 :: ds, 0, d, h, q, hq => by
    simp only [List.getElem?_cons_zero, Option.some.injEq] at h
    subst h
    simp only [DataW.weightsAll, List.mem_append]
    exact .inl hq
  | d0 :: ds, i + 1, d, h, q, hq => by
    simp only [List.getElem?_cons_succ] at h
    simp only [DataW.weightsAll, List.mem_append]
    exact .inr (mem_weightsAll h q hq)
  | [], _, _, h, _, _ => by simp at h
end
theorem fOp : fieldT Tryz.prog 51 = some (10, [(3, 0, 1), (26, 1, 3), (26, 4, 3), (24, 7, 2), (3, 9, 1)]) := by kernel_rfl
theorem uOps : Tryz.prog.underlying 42 = some (.slice 51) := by kernel_rfl
theorem cOp : Tryz.prog.cellsOf 51 = 10 := by kernel_rfl
theorem byU6 : Tryz.prog.bytesOf 44 = 8 := by kernel_rfl
section
variable {H : Type} {enc : TypeId × Value → H} {w : World} {base : Nat} {sp : Nat → Bool} {held : Bool}
theorem open_int24W {fuel : Nat} {cs : List Value} {x : DataW H × List MemPlace} (h : DataW.trod enc Tryz.prog w base sp held fuel 24 cs = some x) (hw : ∀ q ∈ x.1.weights Tryz.prog 24, q ≤ reachBytes) :
    ∃ b l v, cs = [.bool b, v] ∧ Rep ⟨w.cell?, [], []⟩ (.ws .u64 l) v ∧ OKL l := by
  obtain ⟨hl, n, hf⟩ := trod_fieldsW fIn h hw
  match cs, hl with
  | [a, v], _ =>
    obtain ⟨y0, h0, _⟩ := hf 0 _ _ _ rfl
    obtain ⟨y1, h1, w1⟩ := hf 1 _ _ _ rfl
    obtain ⟨b, rfl⟩ := trod_bool uBo h0
    obtain ⟨l, hr, ho, hs⟩ := trod_wordsW uWs uU6 cU6 h1 w1
    rw [byU6] at hs
    exact ⟨b, l, v, rfl, hr, okD_wf ho, by unfold reachBytes at hs; omega⟩
theorem open_dyW {fuel : Nat} {cs : List Value} {x : DataW H × List MemPlace} (h : DataW.trod enc Tryz.prog w base sp held fuel 26 cs = some x) (hw : ∀ q ∈ x.1.weights Tryz.prog 26, q ≤ reachBytes) :
    ∃ b l e v, cs = [.bool b, v, .int .i64 e] ∧ Rep ⟨w.cell?, [], []⟩ (.ws .u64 l) v ∧ OKL l ∧ inR .i64 e := by
  obtain ⟨hl, n, hf⟩ := trod_fieldsW fDy h hw
  match cs, hl with
  | [a, v, e], _ =>
    obtain ⟨y0, h0, w0⟩ := hf 0 _ _ _ rfl
    obtain ⟨y1, h1, w1⟩ := hf 1 _ _ _ rfl
    obtain ⟨b, l, v', hc, hr, ho⟩ := open_int24W h0 w0
    simp only [List.drop_zero, List.take_succ_cons, List.take_zero, List.cons.injEq, and_true] at hc
    obtain ⟨rfl, rfl⟩ := hc
    obtain ⟨z, rfl, hz⟩ := trod_int uIt h1
    exact ⟨b, l, z, v, rfl, hr, ho, wf_i64r hz⟩
theorem open_op {fuel : Nat} {cs : List Value} {x : DataW H × List MemPlace} (h : DataW.trod enc Tryz.prog w base sp held fuel 51 cs = some x) (hw : ∀ q ∈ x.1.weights Tryz.prog 51, q ≤ reachBytes) :
    ∃ o : OpR, o.ok ∧ RepL ⟨w.cell?, [], []⟩ o.cells cs := by
  obtain ⟨hl, n, hf⟩ := trod_fieldsW fOp h hw
  match cs, hl with
  | [c0, c1, c2, c3, c4, c5, c6, c7, c8, c9], _ =>
    obtain ⟨y0, h0, _⟩ := hf 0 _ _ _ rfl
    obtain ⟨y1, h1, w1⟩ := hf 1 _ _ _ rfl
    obtain ⟨y2, h2, w2⟩ := hf 2 _ _ _ rfl
    obtain ⟨y3, h3, w3⟩ := hf 3 _ _ _ rfl
    obtain ⟨y4, h4, _⟩ := hf 4 _ _ _ rfl
    obtain ⟨k, rfl, hk⟩ := trod_int uIt h0
    obtain ⟨b1, l1, e1, v1, q1, r1, o1, _⟩ := open_dyW h1 w1
    obtain ⟨b2, l2, e2, v2, q2, r2, o2, _⟩ := open_dyW h2 w2
    obtain ⟨b3, l3, v3, q3, r3, o3⟩ := open_int24W h3 w3
    obtain ⟨m, rfl, hm⟩ := trod_int uIt h4
    simp only [List.drop_succ_cons, List.drop_zero, List.take_succ_cons, List.take_zero, List.cons.injEq, and_true] at q1 q2 q3
    obtain ⟨rfl, rfl, rfl⟩ := q1
    obtain ⟨rfl, rfl, rfl⟩ := q2
    obtain ⟨rfl, rfl⟩ := q3
    exact ⟨⟨k, b1, l1, e1, b2, l2, e2, b3, l3, m⟩, ⟨wf_i64r hk, o1, o2, o3, wf_i64r hm⟩,
      .cons (.val _) (.cons (.val _) (.cons r1 (.cons (.val _) (.cons (.val _) (.cons r2 (.cons (.val _) (.cons (.val _) (.cons r3 (.cons (.val _) .nil)))))))))⟩
theorem open_ops {fuel : Nat} {v : Value} {x : DataW H × List MemPlace} (h : DataW.trod enc Tryz.prog w base sp held fuel 42 [v] = some x) (hw : ∀ q ∈ x.1.weights Tryz.prog 42, q ≤ reachBytes) :
    ∃ (n : Nat) (ops : Nat → OpR), Rep ⟨w.cell?, [], []⟩ (.fs 10 n (opsF ops)) v ∧ n ≤ 9223372036854775807 ∧ ∀ i, i < n → (ops i).ok := by
  have dflt : OpR := ⟨0, false, [], 0, false, [], 0, false, [], 0⟩
  rcases DataW.trod_slice uOps h with ⟨h1, h2⟩ | ⟨a, len, cap, elems, rest, n, _, h1, h2, hb, hl, hm, hlen, hel, hsp, hns⟩
  · simp only [List.cons.injEq, and_true] at h1
    subst h1
    exact ⟨0, fun _ => dflt, .fs (us := []) (by decide) rfl (Nat.le_refl _) (fun j u hj => by cases hj) (fun j u hj => by cases hj), by decide, fun i hi => absurd hi (Nat.not_lt_zero _)⟩
  · simp only [List.cons.injEq, and_true] at h1
    subst h1
    rw [cOp] at hel
    have each : ∀ i, ∃ oc : OpR × List Value, i < len → oc.1.ok ∧ RepL ⟨w.cell?, [], []⟩ oc.1.cells oc.2 ∧ oc.2.length = 10 ∧ ∀ j, j < 10 → w.cell? (a.add (i * 10 + j)) = oc.2[j]? := by
      intro i
      by_cases hi : i < len
      · have h3 := hel i hi
        rw [List.getElem?_eq_getElem (by omega)] at h3
        rw [Option.bind_eq_some_iff] at h3
        obtain ⟨cs, h4, h5⟩ := h3
        obtain ⟨o, ho, hr⟩ := open_op h5 (fun q hq => hw q (by
          rw [h2]
          have hmm := mem_weightsAll (P := Tryz.prog) (e := 51) (ds := elems.map (·.1)) (i := i) (d := (elems[i]'(by omega)).1) (by rw [List.getElem?_map, List.getElem?_eq_getElem (by omega)]; rfl) q hq
          simp only [DataW.weights, uOps, List.mem_cons, List.mem_append]
          exact .inr (.inl hmm)))
        obtain ⟨_, h6, h7⟩ := World.cells?_some h4
        refine ⟨(o, cs), fun _ => ⟨ho, hr, h6, fun j hj => ?_⟩⟩
        have := h7 j hj
        rw [Addr.add_add] at this
        exact this
      · exact ⟨(dflt, []), fun h => absurd h hi⟩
    obtain ⟨oc, hoc⟩ := Classical.axiomOfChoice each
    refine ⟨len, fun i => (oc i).1, ?_, Nat.le_trans hl (by unfold maxLen at hm; omega), fun i hi => (hoc i hi).1⟩
    refine .fs (us := (List.range (len * 10)).map fun j => (oc (j / 10)).2.getD (j % 10) (.bool false)) (by decide) (by simp) hl (fun j u hj => ?_) (fun j u hj => ⟨a, rfl, ?_⟩)
    all_goals
      have hj1 := (List.getElem?_eq_some_iff.1 hj).1
      rw [List.length_map, List.length_range] at hj1
      rw [List.getElem?_map, List.getElem?_range hj1] at hj
      simp only [Option.map_some, Option.some.injEq] at hj
      obtain ⟨k1, k2, k3, k4⟩ := hoc (j / 10) (by omega)
      have hg : (oc (j / 10)).2[j % 10]? = some u := by
        rw [List.getD_eq_getElem?_getD, List.getElem?_eq_getElem (by omega)] at hj
        rw [List.getElem?_eq_getElem (by omega)]
        exact congrArg some hj
    · have hc : (oc (j / 10)).1.cells[j % 10]? = some ((oc (j / 10)).1.cells.getD (j % 10) .any) := by
        rw [List.getD_eq_getElem?_getD, List.getElem?_eq_getElem (show j % 10 < (oc (j / 10)).1.cells.length from Nat.mod_lt _ (by decide))]
        rfl
      exact k2.both hc hg
    · have := k4 (j % 10) (Nat.mod_lt _ (by decide))
      rw [show j / 10 * 10 + j % 10 = j by omega] at this
      exact this.trans hg
end
end Go.Proofs.YtbeocnjlepcglaaGreatDoor.Sim
namespace Go.Proofs.YtbeocnjlepcglaaGreatDoor.Sim
open Go.RowKit
set_option linter.unusedVariables false
set_option linter.unusedSimpArgs false
set_option maxRecDepth 10000
set_option maxHeartbeats 8000000
variable {G : List (Nat × List Value)}
theorem l_all (n : Nat) (ops : Nat → OpR) (lo hi : Int) (hn : n ≤ 9223372036854775807) (hp : ∀ i, i < n → lo ≤ (ops i).k → (ops i).k ≤ hi → FC Tryz.prog G 49 [(ops i).pv] (· = .val (.bool true))) : FC Tryz.prog G 27 [.fs 10 n (opsF ops), .val (.int .i64 lo), .val (.int .i64 hi)] (· = .val (.bool true)) := by
  obtain ⟨f, hf⟩ : ∃ f, f = opsF ops := ⟨_, rfl⟩
  rw [← hf]
  refine FC.intro (X := XX) tok Tryz.func27 rfl Tryz.ntmps27 (by rw [Tryz.results27]) (by kernel_rfl) rfl ?_; intro F hG hO
  rw [← hG] at hp
  repeat' ((try (conv => whnf)); first
  | ((with_reducible refine lg ?_); refine loop_g (A := Nat) (fun m => m ≤ n) (fun m => n - m) (fun m => [(1, .val (.int .i64 lo)), (2, .val (.int .i64 hi)), (9, .fs 10 n f), (10, .val (.int .i64 (n : Int))), (11, .val (.int .i64 (m : Int)))]) (fun _ => []) (fun _ => []) 0 tok (fun _ => ⟨⟨trivial, trivial, trivial, trivial, trivial, trivial⟩, trivial, by simp only [List.length_nil]; omega⟩) (Nat.zero_le _) ⟨rfl, rfl, rfl, rfl, rfl, trivial⟩ ⟨[], rfl⟩ ⟨[], rfl⟩ ?_; intro m hm; have e0 : f ((m : Int).toNat * 10) = (ops m).cells.getD 0 .any := (by rw [hf, show (m : Int).toNat * 10 = m * 10 + 0 by omega]; exact opsF_at ops m 0 (by decide)); have e1 : f ((m : Int).toNat * 10 + 1) = (ops m).cells.getD 1 .any := (by rw [hf, show (m : Int).toNat * 10 + 1 = m * 10 + 1 by omega]; exact opsF_at ops m 1 (by decide)); have e2 : f ((m : Int).toNat * 10 + 1 + 1) = (ops m).cells.getD 2 .any := (by rw [hf, show (m : Int).toNat * 10 + 1 + 1 = m * 10 + 2 by omega]; exact opsF_at ops m 2 (by decide)); have e3 : f ((m : Int).toNat * 10 + 1 + 1 + 1) = (ops m).cells.getD 3 .any := (by rw [hf, show (m : Int).toNat * 10 + 1 + 1 + 1 = m * 10 + 3 by omega]; exact opsF_at ops m 3 (by decide)); have e4 : f ((m : Int).toNat * 10 + 1 + 1 + 1 + 1) = (ops m).cells.getD 4 .any := (by rw [hf, show (m : Int).toNat * 10 + 1 + 1 + 1 + 1 = m * 10 + 4 by omega]; exact opsF_at ops m 4 (by decide)); have e5 : f ((m : Int).toNat * 10 + 1 + 1 + 1 + 1 + 1) = (ops m).cells.getD 5 .any := (by rw [hf, show (m : Int).toNat * 10 + 1 + 1 + 1 + 1 + 1 = m * 10 + 5 by omega]; exact opsF_at ops m 5 (by decide)); have e6 : f ((m : Int).toNat * 10 + 1 + 1 + 1 + 1 + 1 + 1) = (ops m).cells.getD 6 .any := (by rw [hf, show (m : Int).toNat * 10 + 1 + 1 + 1 + 1 + 1 + 1 = m * 10 + 6 by omega]; exact opsF_at ops m 6 (by decide)); have e7 : f ((m : Int).toNat * 10 + 1 + 1 + 1 + 1 + 1 + 1 + 1) = (ops m).cells.getD 7 .any := (by rw [hf, show (m : Int).toNat * 10 + 1 + 1 + 1 + 1 + 1 + 1 + 1 = m * 10 + 7 by omega]; exact opsF_at ops m 7 (by decide)); have e8 : f ((m : Int).toNat * 10 + 1 + 1 + 1 + 1 + 1 + 1 + 1 + 1) = (ops m).cells.getD 8 .any := (by rw [hf, show (m : Int).toNat * 10 + 1 + 1 + 1 + 1 + 1 + 1 + 1 + 1 = m * 10 + 8 by omega]; exact opsF_at ops m 8 (by decide)); have e9 : f ((m : Int).toNat * 10 + 1 + 1 + 1 + 1 + 1 + 1 + 1 + 1 + 1) = (ops m).cells.getD 9 .any := (by rw [hf, show (m : Int).toNat * 10 + 1 + 1 + 1 + 1 + 1 + 1 + 1 + 1 + 1 = m * 10 + 9 by omega]; exact opsF_at ops m 9 (by decide)))
  | (rw [e0]) | (rw [e1]) | (rw [e2]) | (rw [e3]) | (rw [e4]) | (rw [e5]) | (rw [e6]) | (rw [e7]) | (rw [e8]) | (rw [e9])
  | ((with_reducible refine cg ?_); refine call_eq (hp m (by omega) (by omega) (by omega)) (LpL.refl _) rfl ?_)
  
  | (with_reducible refine Chk.mk' (by first | omega | exact trivial | (simp only [List.length_append, List.length_set, List.length_replicate, List.length_take, List.length_drop, List.length_cons, List.length_nil, List.length_map]; omega)) ?_)
  | (with_reducible refine wrap_g (by dsimp only [inR]; omega) ?_)
  | (with_reducible refine idx_g (by omega) ?_)
  | (with_reducible refine idx_l _ rfl (by decide) ?_)
  | (with_reducible refine BothG.mk ?_ ?_)
  | (with_reducible refine fork_tt ?_) | (with_reducible refine fork_ff ?_)
  | (with_reducible refine fork_e (c := true) (by decide) ?_; with_reducible refine fork_tt ?_) | (with_reducible refine fork_e (c := false) (by decide) ?_; with_reducible refine fork_ff ?_)
  | (with_reducible refine fork_t (by omega) ?_) | (with_reducible refine fork_f (by omega) ?_)
  | (with_reducible refine fork_d ?_ ?_ <;> intro hc)
  | (with_reducible refine fork_n ?_)
  | (with_reducible refine fork_b ?_ ?_ <;> intro hc)
  | (with_reducible refine SlcG.mk (by omega) ?_)
  | (with_reducible refine MakG.mk (by dsimp only; omega) ?_)
  | (with_reducible refine AppG.mk (by first | omega | (simp only [List.length_append, List.length_set, List.length_replicate, List.length_take, List.length_drop, List.length_cons, List.length_nil, List.length_map]; omega)) (by dsimp only [List.length_cons, List.length_nil]; omega) (by omega) ?_)
  | (with_reducible refine div_g (by omega) (by omega) (by dsimp only [inR]; omega) ?_)
  | (with_reducible refine mod_g (by omega) (by omega) ?_)
  | (with_reducible refine mask_g (m := 4294967296) 32 rfl rfl (by decide) (by omega) ?_)
  | (with_reducible refine shr_g (m := 4294967296) 32 rfl (by decide) (by omega) rfl ?_)
  | (with_reducible refine fz_all (by omega) ?_)
  | (with_reducible refine Stuck.h (A := RetE _ _) ?_) | (with_reducible refine Stuck.h (A := RetM _ _ _ _) ?_) | (with_reducible refine Stuck.h (A := Again _ _ _ _ _ _ _ _) ?_) | (with_reducible refine Stuck.h (A := CallF _ _ _ _ _ _ _) ?_) | (with_reducible refine Stuck.h (A := LoopG _ _ _ _ _ _ _ _) ?_) | (with_reducible refine Stuck.h (A := DrawG _ _ _ _ _ _ _ _) ?_)
  | (with_reducible refine Stuck.h (A := WrapG _ _ _) ?_) | (with_reducible refine Stuck.h (A := DivG _ _ _ _) ?_) | (with_reducible refine Stuck.h (A := ModG _ _ _) ?_) | (with_reducible refine Stuck.h (A := ShlG _ _ _ _) ?_) | (with_reducible refine Stuck.h (A := ShrG _ _ _ _) ?_) | (with_reducible refine Stuck.h (A := BitG _ _ _ _ _) ?_)
  | (with_reducible refine Stuck.h (A := IdxG _ _ _) ?_) | (with_reducible refine Stuck.h (A := IdxL _ _ _) ?_) | (with_reducible refine Stuck.h (A := SlcG _ _ _ _ _) ?_) | (with_reducible refine Stuck.h (A := MakG _ _ _ _) ?_) | (with_reducible refine Stuck.h (A := AppG _ _ _ _ _ _ _) ?_) | (with_reducible refine Stuck.h (A := FzG _ _ _ _) ?_)
  | (with_reducible refine Stuck.h (A := RawG _) ?_) | (with_reducible refine Stuck.h (A := TabG _ _ _ _ _) ?_) | (with_reducible refine Stuck.h (A := ExtF _ _ _ _) ?_) | (with_reducible refine Stuck.h (A := Chk _ _) ?_) | (with_reducible refine Stuck.h (A := False) ?_))
  all_goals first
    | exact ⟨ret_e rfl⟩
    | exact ⟨again (m + 1) (by omega) (by omega) ⟨rfl, rfl, rfl, rfl, rfl, trivial⟩ ⟨_, rfl⟩ ⟨_, rfl⟩⟩
theorem pv_kind {o : OpR} {k : Int} (h : o.k = k) : o.pv = OpV k o.b1 o.l1 o.e1 o.b2 o.l2 o.e2 o.b3 o.l3 o.m := by unfold OpR.pv; rw [h]
theorem ni_8 : NI 8 = .agg [.val (.bool false), .ws .u64 [8]] := by
  rw [ni_pos (by decide)]
  unfold N64
  rw [show d64 (Int.natAbs 8) = [8] from d64_word 8 (by decide)]
theorem forms_law1 : toldS 8 (-1048579) = dyR 1 (-1048576) := by
  unfold toldS
  rw [show tz (Int.natAbs 8) = 3 from tz_eq (m := 1) rfl rfl, if_neg (by decide), if_neg (by decide), if_neg (by decide), if_neg (by have := L32_le (x := Int.natAbs 8 / 2 ^ 3) (n := 1) (by decide); omega), if_neg (by decide), if_neg (by decide)]
  rfl
theorem l_dyadicForms {g : List (Nat × List Value)} (hD : (0, debT.map (Value.int .u8)) ∈ g) (n : Nat) (ops : Nat → OpR) (hn : n ≤ 9223372036854775807) (ho : ∀ i, i < n → (ops i).ok) : FC Tryz.prog g 4 [.fs 10 n (opsF ops)] (· = .val (.bool true)) := by
  have hp : ∀ i, i < n → 1 ≤ (ops i).k → (ops i).k ≤ 5 → FC Tryz.prog g 49 [(ops i).pv] (· = .val (.bool true)) := by
    intro i hi h1 h2
    obtain ⟨_, o1, o2, o3, hm⟩ := ho i hi
    rcases (show (ops i).k = 1 ∨ (ops i).k = 2 ∨ (ops i).k = 3 ∨ (ops i).k = 4 ∨ (ops i).k = 5 by omega) with h | h | h | h | h
    · rw [pv_kind h]; exact l_playsOf hD _ _ _ _ _ _ _ _ _ o1 o2 o3 hm
    · rw [pv_kind h]; exact l_playsForm hD _ _ _ _ _ _ _ _ _ o1 o2 o3 hm
    · rw [pv_kind h]; exact l_playsMake hD _ _ _ _ _ _ _ _ _ o1 o2 o3 hm
    · rw [pv_kind h]; exact l_playsCmp hD _ _ _ _ _ _ _ _ _ o1 o2 o3 hm
    · rw [pv_kind h]; exact l_playsTop hD _ _ _ _ _ _ _ _ _ o1 o2 o3 hm
  have f1 := l_awake hD
  have f2 := l_all (G := g) n ops 1 5 hn hp
  have n1 := l_num (G := g) 1 (-1048576) (by decide) (by decide) (by decide)
  have n2 := l_num (G := g) 3 9 (by decide) (by decide) (by decide)
  have n3 := l_num (G := g) (-5) (-1) (by decide) (by decide) (by decide)
  have c1 := y_make hD 8 (-1048579) (Nat.le_trans (L64_le (n := 1) (by decide)) (by decide)) (by dsimp only [inR]; omega)
  rw [forms_law1, ni_8] at c1
  have c2 := l_told (G := g) 0 (Good.small (m := 1) (e := -1048576) (by decide) (by decide) (by decide))
  have c3 := y_form (G := g) (Good.small (m := 3) (e := 9) (by decide) (by decide) (by decide))
  have c4 := y_formN (G := g) false [] 1 (okD_nil _) (by decide)
  have c5 := y_Top (G := g) (Good.small (m := -5) (e := -1) (by decide) (by decide) (by decide))
  rw [if_neg (by decide), show topN (-5) (-1) = 1 by decide +kernel] at c5
  obtain ⟨f, hf⟩ : ∃ f, f = opsF ops := ⟨_, rfl⟩
  rw [← hf] at f2 ⊢
  clear hf
  refine FC.intro (X := XX) tok Tryz.func4 rfl Tryz.ntmps4 (by rw [Tryz.results4]) (by kernel_rfl) rfl ?_; intro F hG hO
  rw [← hG] at f1 f2 n1 n2 n3 c1 c2 c3 c4 c5
  repeat' ((try (conv => whnf)); first
  | ((with_reducible refine cg ?_); refine call_eq (f1) (LpL.refl _) rfl ?_)
  | ((with_reducible refine cg ?_); refine call_eq (f2) (LpL.refl _) rfl ?_)
  | ((with_reducible refine cg ?_); refine call_eq (n1) (LpL.refl _) rfl ?_)
  | ((with_reducible refine cg ?_); refine call_eq (n2) (LpL.refl _) rfl ?_)
  | ((with_reducible refine cg ?_); refine call_eq (n3) (LpL.refl _) rfl ?_)
  | ((with_reducible refine cg ?_); refine call_eq (c1) (LpL.refl _) rfl ?_)
  | ((with_reducible refine cg ?_); refine call_eq (c2) (LpL.refl _) rfl ?_)
  | ((with_reducible refine cg ?_); refine call_eq (c3) (LpL.refl _) rfl ?_)
  | ((with_reducible refine cg ?_); refine call_eq c4 (.cons (.agg (.cons (.refl _) (.cons (.nil _) (.cons (.refl _) .nil)))) .nil) rfl ?_)
  | ((with_reducible refine cg ?_); refine call_eq (c5) (LpL.refl _) rfl ?_)
  
  | (with_reducible refine draw_g (id := 2) [[0, 1, 2, 3, 4, 5, 6, 7, 8, 9, 10, 11, 12, 13]] tok mixed (by kernel_rfl) ?_)
  | (with_reducible refine Chk.mk' (by first | omega | exact trivial | (simp only [List.length_append, List.length_set, List.length_replicate, List.length_take, List.length_drop, List.length_cons, List.length_nil, List.length_map]; omega)) ?_)
  | (with_reducible refine wrap_g (by dsimp only [inR]; omega) ?_)
  | (with_reducible refine idx_g (by omega) ?_)
  | (with_reducible refine idx_l _ rfl (by decide) ?_)
  | (with_reducible refine BothG.mk ?_ ?_)
  | (with_reducible refine fork_tt ?_) | (with_reducible refine fork_ff ?_)
  | (with_reducible refine fork_e (c := true) (by decide) ?_; with_reducible refine fork_tt ?_) | (with_reducible refine fork_e (c := false) (by decide) ?_; with_reducible refine fork_ff ?_)
  | (with_reducible refine fork_t (by omega) ?_) | (with_reducible refine fork_f (by omega) ?_)
  | (with_reducible refine fork_d ?_ ?_ <;> intro hc)
  | (with_reducible refine fork_n ?_)
  | (with_reducible refine fork_b ?_ ?_ <;> intro hc)
  | (with_reducible refine SlcG.mk (by omega) ?_)
  | (with_reducible refine MakG.mk (by dsimp only; omega) ?_)
  | (with_reducible refine AppG.mk (by first | omega | (simp only [List.length_append, List.length_set, List.length_replicate, List.length_take, List.length_drop, List.length_cons, List.length_nil, List.length_map]; omega)) (by dsimp only [List.length_cons, List.length_nil]; omega) (by omega) ?_)
  | (with_reducible refine div_g (by omega) (by omega) (by dsimp only [inR]; omega) ?_)
  | (with_reducible refine mod_g (by omega) (by omega) ?_)
  | (with_reducible refine mask_g (m := 4294967296) 32 rfl rfl (by decide) (by omega) ?_)
  | (with_reducible refine shr_g (m := 4294967296) 32 rfl (by decide) (by omega) rfl ?_)
  | (with_reducible refine fz_all (by omega) ?_)
  | (with_reducible refine Stuck.h (A := RetE _ _) ?_) | (with_reducible refine Stuck.h (A := RetM _ _ _ _) ?_) | (with_reducible refine Stuck.h (A := Again _ _ _ _ _ _ _ _) ?_) | (with_reducible refine Stuck.h (A := CallF _ _ _ _ _ _ _) ?_) | (with_reducible refine Stuck.h (A := LoopG _ _ _ _ _ _ _ _) ?_) | (with_reducible refine Stuck.h (A := DrawG _ _ _ _ _ _ _ _) ?_)
  | (with_reducible refine Stuck.h (A := WrapG _ _ _) ?_) | (with_reducible refine Stuck.h (A := DivG _ _ _ _) ?_) | (with_reducible refine Stuck.h (A := ModG _ _ _) ?_) | (with_reducible refine Stuck.h (A := ShlG _ _ _ _) ?_) | (with_reducible refine Stuck.h (A := ShrG _ _ _ _) ?_) | (with_reducible refine Stuck.h (A := BitG _ _ _ _ _) ?_)
  | (with_reducible refine Stuck.h (A := IdxG _ _ _) ?_) | (with_reducible refine Stuck.h (A := IdxL _ _ _) ?_) | (with_reducible refine Stuck.h (A := SlcG _ _ _ _ _) ?_) | (with_reducible refine Stuck.h (A := MakG _ _ _ _) ?_) | (with_reducible refine Stuck.h (A := AppG _ _ _ _ _ _ _) ?_) | (with_reducible refine Stuck.h (A := FzG _ _ _ _) ?_)
  | (with_reducible refine Stuck.h (A := RawG _) ?_) | (with_reducible refine Stuck.h (A := TabG _ _ _ _ _) ?_) | (with_reducible refine Stuck.h (A := ExtF _ _ _ _) ?_) | (with_reducible refine Stuck.h (A := Chk _ _) ?_) | (with_reducible refine Stuck.h (A := False) ?_))
  all_goals exact ⟨ret_e rfl⟩
end Go.Proofs.YtbeocnjlepcglaaGreatDoor.Sim
namespace Go.Proofs.YtbeocnjlepcglaaGreatDoor.Sim
open Go.RowKit Go.ChangeShapes Go.WideShapes
section
variable {H : Type} {enc : TypeId × Value → H} {P : Program}
/-- 'post' where nothing has turned below. -/
theorem post_below2 {f : Func} {s : ChangeSpec} {apart fresh handsOn again : Bool} {W W' : World} {args : Array Value} {v : Value} {ds gs : List (DataW H)} {before pa pv : List MemPlace}
    (hW : DataW.Whole enc P f.params.toList s.vars apart W args.toList ds gs before)
    (hres : ∀ (b : Nat) (sp : Nat → Bool) (hd : Bool), DataW.TrodAll enc P W' b sp hd f.resultTypes.toList (v.resultList f.resultTypes.size) (s.fn H (ds ++ gs)).results [])
    (hargs : ∀ sp : Nat → Bool, (∀ p ∈ before, sp p.block = true) → DataW.TrodAll enc P W' 0 sp true f.params.toList args.toList (s.fn H (ds ++ gs)).args pa)
    (hvars : ∀ sp : Nat → Bool, (∀ p ∈ before, sp p.block = true) → DataW.TrodVars enc P W' sp s.vars (s.fn H (ds ++ gs)).vars pv)
    (hps : before = pa ++ pv) (hb : Below W.heap.size W W')
    (hok : ∀ (j : Nat) (t : TypeId) (r : Value), f.resultTypes[j]? = some t → (v.resultList f.resultTypes.size)[j]? = some r → Value.okWide P W' .any 0 t r) :
    s.post enc P f apart fresh handsOn again W args v W' := by
  have hold : ∀ p ∈ before, (fun b => decide (b < W.heap.size)) p.block = true := fun p hp => by simpa using hW.lt p hp
  have hlt := hW.lt
  refine ⟨ds, gs, before, [], pa, pv, hW, hres _ _ _, hargs _ hold, hvars _ hold, hb.frame _, fun _ => ?_⟩
  obtain ⟨_, _, _, _, _, hz, hn⟩ := hW
  refine ⟨hok, _, _, ([] ++ pa) ++ pv, ⟨[] ++ pa, pv, trodAll_append (hargs _ (fun _ _ => rfl)) (hres _ _ _), hvars _ (fun _ _ => rfl), rfl, ?_, ?_⟩, ?_⟩
  · intro b off hp
    have hm : MemPlace.cell b off ∈ before := by rw [hps]; simpa using hp
    rw [hb.frozen (p := ⟨b, off, none⟩) (hlt _ hm)]
    exact hz b off hm
  · intro ha
    have := hn ha
    rw [hps] at this
    simpa using this
  · intro p hp _
    rw [hps]
    simpa using hp
end
end Go.Proofs.YtbeocnjlepcglaaGreatDoor.Sim
