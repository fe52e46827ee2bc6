/-
  What the statement DyadicQuosCardSaid leans on, part 13: the logic of walks, digits, contracts of the functions, the plain law. Conditions stand in each theorem.
-/
import Derived.Test.YtbeocnjlepcglaaGreatDoorPkDyadicQuosCardSaidL
import Derived.SizedLaws
import Derived.DataElems
namespace Go.Proofs.YtbeocnjlepcglaaGreatDoor.Sim
open Go.RowKit Go.ChangeShapes Go.WideShapes
set_option linter.unusedVariables false
set_option linter.unusedSimpArgs false
/-- One call, as a record. -/
structure OpR where
  k : Int
  b1 : Bool
  l1 : List Int
  e1 : Int
  b2 : Bool
  l2 : List Int
  e2 : Int
  b3 : Bool
  l3 : List Int
  m : Int
def OpR.pv (o : OpR) : PV := OpV o.k o.b1 o.l1 o.e1 o.b2 o.l2 o.e2 o.b3 o.l3 o.m
def OpR.ok (o : OpR) : Prop := inR .i64 o.k ∧ OKL o.l1 ∧ OKL o.l2 ∧ OKL o.l3 ∧ inR .i64 o.m
def OpR.cells (o : OpR) : List PV := [.val (.int .i64 o.k), .val (.bool o.b1), .ws .u64 o.l1, .val (.int .i64 o.e1), .val (.bool o.b2), .ws .u64 o.l2, .val (.int .i64 o.e2), .val (.bool o.b3), .ws .u64 o.l3, .val (.int .i64 o.m)]
def opsF (ops : Nat → OpR) : Nat → PV := fun j => (ops (j / 10)).cells.getD (j % 10) .any
theorem opsF_at (ops : Nat → OpR) (i j : Nat) (h : j < 10) : opsF ops (i * 10 + j) = (ops i).cells.getD j .any := by
  unfold opsF
  rw [show (i * 10 + j) / 10 = i by omega, show (i * 10 + j) % 10 = j by omega]
section
variable {H : Type} {enc : TypeId × Value → H} {P : Program} {w : World} {base : Nat} {sp : Nat → Bool} {held : Bool}
theorem trod_fieldsW {t : TypeId} {c : Nat} {fs : List (TypeId × Nat × Nat)} {fuel : Nat} {cs : List Value} {x : DataW H × List MemPlace} (hu : fieldT P t = some (c, fs)) (h : DataW.trod enc P w base sp held fuel t cs = some x) (hw : ∀ q ∈ x.1.weights P t, q ≤ reachBytes) :
    cs.length = c ∧ ∃ n, ∀ (i : Nat) (ty off z : Nat), fs[i]? = some (ty, off, z) → ∃ y, DataW.trod enc P w base sp held n ty ((cs.drop off).take z) = some y ∧ ∀ q ∈ y.1.weights P ty, q ≤ reachBytes := by
  unfold fieldT at hu
  split at hu
  · rename_i gs hg
    simp only [Option.some.injEq, Prod.mk.injEq] at hu
    obtain ⟨rfl, rfl⟩ := hu
    obtain ⟨xs, n, _, rfl, hl, hlen, hf⟩ := DataW.trod_struct hg h
    refine ⟨hl, n, fun i ty off z hi => ?_⟩
    rw [List.getElem?_map] at hi
    cases hq : gs.toList[i]? with
    | none => rw [hq] at hi; cases hi
    | some f =>
      rw [hq] at hi
      simp only [Option.map_some, Option.some.injEq, Prod.mk.injEq] at hi
      obtain ⟨rfl, rfl, rfl⟩ := hi
      have h2 := hf i f (by simpa using hq)
      have h3 : i < xs.length := by
        rw [hlen]
        have := (List.getElem?_eq_some_iff.1 hq).1
        simpa using this
      rw [List.getElem?_eq_getElem h3] at h2
      refine ⟨_, h2, fun q hqm => hw q ?_⟩
      have hm := DataW.weights_mem_each (P := P) (ts := gs.toList.map (·.type)) (ds := xs.map (·.1)) (j := i) (t := f.type) (d := xs[i].1) (by rw [List.getElem?_map, hq]; rfl) (by rw [List.getElem?_map, List.getElem?_eq_getElem h3]; rfl) q hqm
      simpa [DataW.weights, hg] using hm
  · cases hu
theorem lits_len (k : IntKind) (zs : List Int) : (ChangeShapes.lits (H := H) k zs).length = zs.length := by simp [ChangeShapes.lits]
theorem trod_wordsW {t e : TypeId} {k : IntKind} {fuel : Nat} {v : Value} {x : DataW H × List MemPlace} (ht : P.underlying t = some (.slice e)) (he : P.underlying e = some (.int k)) (hc : P.cellsOf e = 1)
    (h : DataW.trod enc P w base sp held fuel t [v] = some x) (hw : ∀ q ∈ x.1.weights P t, q ≤ reachBytes) : ∃ l : List Int, Rep ⟨w.cell?, [], []⟩ (.ws k l) v ∧ (∀ z ∈ l, (Lit.int k z).wf = true) ∧ l.length * P.bytesOf e ≤ reachBytes := by
  rcases open_ints ht he hc h with ⟨h1, h2⟩ | ⟨a, len, cap, zs, h1, h2, h3, h4, h5, h6, h7, h8⟩
  · simp only [List.cons.injEq, and_true] at h1
    subst h1
    exact ⟨[], .ws rfl (Nat.le_refl _) (fun j x hj => by cases hj), (fun z hz => by cases hz), by rw [List.length_nil, Nat.zero_mul]; exact Nat.zero_le _⟩
  · simp only [List.cons.injEq, and_true] at h1
    subst h1
    have hlen : (zs.take len).length = len := by
      rw [List.length_take]
      split at h5 <;> omega
    refine ⟨zs.take len, .ws hlen.symm h3 (fun j x hj => ⟨a, rfl, ?_⟩), (fun z hz => h8 z (List.mem_of_mem_take hz)), ?_⟩
    · have hj1 := (List.getElem?_eq_some_iff.1 hj).1
      rw [hlen] at hj1
      rw [List.getElem?_take, if_pos hj1] at hj
      have hj2 := (List.getElem?_eq_some_iff.1 hj).1
      have := h7 j hj2
      rw [List.getD_eq_getElem?_getD, hj] at this
      exact this
    · have := hw (((ChangeShapes.lits (H := H) k (zs.take len)).length + (ChangeShapes.lits (H := H) k (zs.drop len)).length) * P.bytesOf e) (by rw [h6]; simp [DataW.weights, ht])
      refine Nat.le_trans (Nat.mul_le_mul_right _ ?_) this
      rw [lits_len]
      exact Nat.le_add_right _ _
theorem mem_weightsAll {e : TypeId} : ∀ {ds : List (DataW H)} {i : Nat} {d : DataW H}, ds[i]? = some d → ∀ q ∈ d.weights P e, q ∈ DataW.weightsAll P e ds
  | d0 :: ds, 0, d, h, q, hq => by
    simp only [List.getElem?_cons_zero, Option.some.injEq] at h
    subst h
    simp only [DataW.weightsAll, List.mem_append]
    exact .inl hq
  | d0 :: ds, i + 1, d, h, q, hq => by
    simp only [List.getElem?_cons_succ] at h
    simp only [DataW.weightsAll, List.mem_append]
    exact .inr (mem_weightsAll h q hq)
  | [], _, _, h, _, _ => by simp at h
end
theorem fOp : fieldT Tryz.prog 51 = some (10, [(3, 0, 1), (26, 1, 3), (26, 4, 3), (24, 7, 2), (3, 9, 1)]) := by kernel_rfl
theorem uOps : Tryz.prog.underlying 42 = some (.slice 51) := by kernel_rfl
theorem cOp : Tryz.prog.cellsOf 51 = 10 := by kernel_rfl
theorem byU6 : Tryz.prog.bytesOf 44 = 8 := by kernel_rfl
section
variable {H : Type} {enc : TypeId × Value → H} {w : World} {base : Nat} {sp : Nat → Bool} {held : Bool}
theorem open_int24W {fuel : Nat} {cs : List Value} {x : DataW H × List MemPlace} (h : DataW.trod enc Tryz.prog w base sp held fuel 24 cs = some x) (hw : ∀ q ∈ x.1.weights Tryz.prog 24, q ≤ reachBytes) :
    ∃ b l v, cs = [.bool b, v] ∧ Rep ⟨w.cell?, [], []⟩ (.ws .u64 l) v ∧ OKL l := by
  obtain ⟨hl, n, hf⟩ := trod_fieldsW fIn h hw
  match cs, hl with
  | [a, v], _ =>
    obtain ⟨y0, h0, _⟩ := hf 0 _ _ _ rfl
    obtain ⟨y1, h1, w1⟩ := hf 1 _ _ _ rfl
    obtain ⟨b, rfl⟩ := trod_bool uBo h0
    obtain ⟨l, hr, ho, hs⟩ := trod_wordsW uWs uU6 cU6 h1 w1
    rw [byU6] at hs
    exact ⟨b, l, v, rfl, hr, okD_wf ho, by unfold reachBytes at hs; omega⟩
theorem open_dyW {fuel : Nat} {cs : List Value} {x : DataW H × List MemPlace} (h : DataW.trod enc Tryz.prog w base sp held fuel 26 cs = some x) (hw : ∀ q ∈ x.1.weights Tryz.prog 26, q ≤ reachBytes) :
    ∃ b l e v, cs = [.bool b, v, .int .i64 e] ∧ Rep ⟨w.cell?, [], []⟩ (.ws .u64 l) v ∧ OKL l ∧ inR .i64 e := by
  obtain ⟨hl, n, hf⟩ := trod_fieldsW fDy h hw
  match cs, hl with
  | [a, v, e], _ =>
    obtain ⟨y0, h0, w0⟩ := hf 0 _ _ _ rfl
    obtain ⟨y1, h1, w1⟩ := hf 1 _ _ _ rfl
    obtain ⟨b, l, v', hc, hr, ho⟩ := open_int24W h0 w0
    simp only [List.drop_zero, List.take_succ_cons, List.take_zero, List.cons.injEq, and_true] at hc
    obtain ⟨rfl, rfl⟩ := hc
    obtain ⟨z, rfl, hz⟩ := trod_int uIt h1
    exact ⟨b, l, z, v, rfl, hr, ho, wf_i64r hz⟩
theorem open_op {fuel : Nat} {cs : List Value} {x : DataW H × List MemPlace} (h : DataW.trod enc Tryz.prog w base sp held fuel 51 cs = some x) (hw : ∀ q ∈ x.1.weights Tryz.prog 51, q ≤ reachBytes) :
    ∃ o : OpR, o.ok ∧ RepL ⟨w.cell?, [], []⟩ o.cells cs := by
  obtain ⟨hl, n, hf⟩ := trod_fieldsW fOp h hw
  match cs, hl with
  | [c0, c1, c2, c3, c4, c5, c6, c7, c8, c9], _ =>
    obtain ⟨y0, h0, _⟩ := hf 0 _ _ _ rfl
    obtain ⟨y1, h1, w1⟩ := hf 1 _ _ _ rfl
    obtain ⟨y2, h2, w2⟩ := hf 2 _ _ _ rfl
    obtain ⟨y3, h3, w3⟩ := hf 3 _ _ _ rfl
    obtain ⟨y4, h4, _⟩ := hf 4 _ _ _ rfl
    obtain ⟨k, rfl, hk⟩ := trod_int uIt h0
    obtain ⟨b1, l1, e1, v1, q1, r1, o1, _⟩ := open_dyW h1 w1
    obtain ⟨b2, l2, e2, v2, q2, r2, o2, _⟩ := open_dyW h2 w2
    obtain ⟨b3, l3, v3, q3, r3, o3⟩ := open_int24W h3 w3
    obtain ⟨m, rfl, hm⟩ := trod_int uIt h4
    simp only [List.drop_succ_cons, List.drop_zero, List.take_succ_cons, List.take_zero, List.cons.injEq, and_true] at q1 q2 q3
    obtain ⟨rfl, rfl, rfl⟩ := q1
    obtain ⟨rfl, rfl, rfl⟩ := q2
    obtain ⟨rfl, rfl⟩ := q3
    exact ⟨⟨k, b1, l1, e1, b2, l2, e2, b3, l3, m⟩, ⟨wf_i64r hk, o1, o2, o3, wf_i64r hm⟩,
      .cons (.val _) (.cons (.val _) (.cons r1 (.cons (.val _) (.cons (.val _) (.cons r2 (.cons (.val _) (.cons (.val _) (.cons r3 (.cons (.val _) .nil)))))))))⟩
theorem open_ops {fuel : Nat} {v : Value} {x : DataW H × List MemPlace} (h : DataW.trod enc Tryz.prog w base sp held fuel 42 [v] = some x) (hw : ∀ q ∈ x.1.weights Tryz.prog 42, q ≤ reachBytes) :
    ∃ (n : Nat) (ops : Nat → OpR), Rep ⟨w.cell?, [], []⟩ (.fs 10 n (opsF ops)) v ∧ n ≤ 9223372036854775807 ∧ ∀ i, i < n → (ops i).ok := by
  have dflt : OpR := ⟨0, false, [], 0, false, [], 0, false, [], 0⟩
  rcases DataW.trod_slice uOps h with ⟨h1, h2⟩ | ⟨a, len, cap, elems, rest, n, _, h1, h2, hb, hl, hm, hlen, hel, hsp, hns⟩
  · simp only [List.cons.injEq, and_true] at h1
    subst h1
    exact ⟨0, fun _ => dflt, .fs (us := []) (by decide) rfl (Nat.le_refl _) (fun j u hj => by cases hj) (fun j u hj => by cases hj), by decide, fun i hi => absurd hi (Nat.not_lt_zero _)⟩
  · simp only [List.cons.injEq, and_true] at h1
    subst h1
    rw [cOp] at hel
    have each : ∀ i, ∃ oc : OpR × List Value, i < len → oc.1.ok ∧ RepL ⟨w.cell?, [], []⟩ oc.1.cells oc.2 ∧ oc.2.length = 10 ∧ ∀ j, j < 10 → w.cell? (a.add (i * 10 + j)) = oc.2[j]? := by
      intro i
      by_cases hi : i < len
      · have h3 := hel i hi
        rw [List.getElem?_eq_getElem (by omega)] at h3
        rw [Option.bind_eq_some_iff] at h3
        obtain ⟨cs, h4, h5⟩ := h3
        obtain ⟨o, ho, hr⟩ := open_op h5 (fun q hq => hw q (by
          rw [h2]
          have hmm := mem_weightsAll (P := Tryz.prog) (e := 51) (ds := elems.map (·.1)) (i := i) (d := (elems[i]'(by omega)).1) (by rw [List.getElem?_map, List.getElem?_eq_getElem (by omega)]; rfl) q hq
          simp only [DataW.weights, uOps, List.mem_cons, List.mem_append]
          exact .inr (.inl hmm)))
        obtain ⟨_, h6, h7⟩ := World.cells?_some h4
        refine ⟨(o, cs), fun _ => ⟨ho, hr, h6, fun j hj => ?_⟩⟩
        have := h7 j hj
        rw [Addr.add_add] at this
        exact this
      · exact ⟨(dflt, []), fun h => absurd h hi⟩
    obtain ⟨oc, hoc⟩ := Classical.axiomOfChoice each
    refine ⟨len, fun i => (oc i).1, ?_, Nat.le_trans hl (by unfold maxLen at hm; omega), fun i hi => (hoc i hi).1⟩
    refine .fs (us := (List.range (len * 10)).map fun j => (oc (j / 10)).2.getD (j % 10) (.bool false)) (by decide) (by simp) hl (fun j u hj => ?_) (fun j u hj => ⟨a, rfl, ?_⟩)
    all_goals
      have hj1 := (List.getElem?_eq_some_iff.1 hj).1
      rw [List.length_map, List.length_range] at hj1
      rw [List.getElem?_map, List.getElem?_range hj1] at hj
      simp only [Option.map_some, Option.some.injEq] at hj
      obtain ⟨k1, k2, k3, k4⟩ := hoc (j / 10) (by omega)
      have hg : (oc (j / 10)).2[j % 10]? = some u := by
        rw [List.getD_eq_getElem?_getD, List.getElem?_eq_getElem (by omega)] at hj
        rw [List.getElem?_eq_getElem (by omega)]
        exact congrArg some hj
    · have hc : (oc (j / 10)).1.cells[j % 10]? = some ((oc (j / 10)).1.cells.getD (j % 10) .any) := by
        rw [List.getD_eq_getElem?_getD, List.getElem?_eq_getElem (show j % 10 < (oc (j / 10)).1.cells.length from Nat.mod_lt _ (by decide))]
        rfl
      exact k2.both hc hg
    · have := k4 (j % 10) (Nat.mod_lt _ (by decide))
      rw [show j / 10 * 10 + j % 10 = j by omega] at this
      exact this.trans hg
end
end Go.Proofs.YtbeocnjlepcglaaGreatDoor.Sim
namespace Go.Proofs.YtbeocnjlepcglaaGreatDoor.Sim
open Go.RowKit
set_option linter.unusedVariables false
set_option linter.unusedSimpArgs false
set_option maxRecDepth 10000
set_option maxHeartbeats 8000000
variable {G : List (Nat × List Value)}
theorem l_all (n : Nat) (ops : Nat → OpR) (lo hi : Int) (hn : n ≤ 9223372036854775807) (hp : ∀ i, i < n → lo ≤ (ops i).k → (ops i).k ≤ hi → FC Tryz.prog G 49 [(ops i).pv] (· = .val (.bool true))) : FC Tryz.prog G 27 [.fs 10 n (opsF ops), .val (.int .i64 lo), .val (.int .i64 hi)] (· = .val (.bool true)) := by
  obtain ⟨f, hf⟩ : ∃ f, f = opsF ops := ⟨_, rfl⟩
  rw [← hf]
  refine FC.intro (X := XX) tok Tryz.func27 rfl Tryz.ntmps27 (by rw [Tryz.results27]) (by kernel_rfl) rfl ?_; intro F hG hO
  rw [← hG] at hp
  repeat' ((try (conv => whnf)); first
  | ((with_reducible refine lg ?_); refine loop_g (A := Nat) (fun m => m ≤ n) (fun m => n - m) (fun m => [(1, .val (.int .i64 lo)), (2, .val (.int .i64 hi)), (9, .fs 10 n f), (10, .val (.int .i64 (n : Int))), (11, .val (.int .i64 (m : Int)))]) (fun _ => []) (fun _ => []) 0 tok (fun _ => ⟨⟨trivial, trivial, trivial, trivial, trivial, trivial⟩, trivial, by simp only [List.length_nil]; omega⟩) (Nat.zero_le _) ⟨rfl, rfl, rfl, rfl, rfl, trivial⟩ ⟨[], rfl⟩ ⟨[], rfl⟩ ?_; intro m hm; have e0 : f ((m : Int).toNat * 10) = (ops m).cells.getD 0 .any := (by rw [hf, show (m : Int).toNat * 10 = m * 10 + 0 by omega]; exact opsF_at ops m 0 (by decide)); have e1 : f ((m : Int).toNat * 10 + 1) = (ops m).cells.getD 1 .any := (by rw [hf, show (m : Int).toNat * 10 + 1 = m * 10 + 1 by omega]; exact opsF_at ops m 1 (by decide)); have e2 : f ((m : Int).toNat * 10 + 1 + 1) = (ops m).cells.getD 2 .any := (by rw [hf, show (m : Int).toNat * 10 + 1 + 1 = m * 10 + 2 by omega]; exact opsF_at ops m 2 (by decide)); have e3 : f ((m : Int).toNat * 10 + 1 + 1 + 1) = (ops m).cells.getD 3 .any := (by rw [hf, show (m : Int).toNat * 10 + 1 + 1 + 1 = m * 10 + 3 by omega]; exact opsF_at ops m 3 (by decide)); have e4 : f ((m : Int).toNat * 10 + 1 + 1 + 1 + 1) = (ops m).cells.getD 4 .any := (by rw [hf, show (m : Int).toNat * 10 + 1 + 1 + 1 + 1 = m * 10 + 4 by omega]; exact opsF_at ops m 4 (by decide)); have e5 : f ((m : Int).toNat * 10 + 1 + 1 + 1 + 1 + 1) = (ops m).cells.getD 5 .any := (by rw [hf, show (m : Int).toNat * 10 + 1 + 1 + 1 + 1 + 1 = m * 10 + 5 by omega]; exact opsF_at ops m 5 (by decide)); have e6 : f ((m : Int).toNat * 10 + 1 + 1 + 1 + 1 + 1 + 1) = (ops m).cells.getD 6 .any := (by rw [hf, show (m : Int).toNat * 10 + 1 + 1 + 1 + 1 + 1 + 1 = m * 10 + 6 by omega]; exact opsF_at ops m 6 (by decide)); have e7 : f ((m : Int).toNat * 10 + 1 + 1 + 1 + 1 + 1 + 1 + 1) = (ops m).cells.getD 7 .any := (by rw [hf, show (m : Int).toNat * 10 + 1 + 1 + 1 + 1 + 1 + 1 + 1 = m * 10 + 7 by omega]; exact opsF_at ops m 7 (by decide)); have e8 : f ((m : Int).toNat * 10 + 1 + 1 + 1 + 1 + 1 + 1 + 1 + 1) = (ops m).cells.getD 8 .any := (by rw [hf, show (m : Int).toNat * 10 + 1 + 1 + 1 + 1 + 1 + 1 + 1 + 1 = m * 10 + 8 by omega]; exact opsF_at ops m 8 (by decide)); have e9 : f ((m : Int).toNat * 10 + 1 + 1 + 1 + 1 + 1 + 1 + 1 + 1 + 1) = (ops m).cells.getD 9 .any := (by rw [hf, show (m : Int).toNat * 10 + 1 + 1 + 1 + 1 + 1 + 1 + 1 + 1 + 1 = m * 10 + 9 by omega]; exact opsF_at ops m 9 (by decide)))
  | (rw [e0]) | (rw [e1]) | (rw [e2]) | (rw [e3]) | (rw [e4]) | (rw [e5]) | (rw [e6]) | (rw [e7]) | (rw [e8]) | (rw [e9])
  | ((with_reducible refine cg ?_); refine call_eq (hp m (by omega) (by omega) (by omega)) (LpL.refl _) rfl ?_)
  
  | (with_reducible refine Chk.mk' (by first | omega | exact trivial | (simp only [List.length_append, List.length_set, List.length_replicate, List.length_take, List.length_drop, List.length_cons, List.length_nil, List.length_map]; omega)) ?_)
  | (with_reducible refine wrap_g (by dsimp only [inR]; omega) ?_)
  | (with_reducible refine idx_g (by omega) ?_)
  | (with_reducible refine idx_l _ rfl (by decide) ?_)
  | (with_reducible refine BothG.mk ?_ ?_)
  | (with_reducible refine fork_tt ?_) | (with_reducible refine fork_ff ?_)
  | (with_reducible refine fork_e (c := true) (by decide) ?_; with_reducible refine fork_tt ?_) | (with_reducible refine fork_e (c := false) (by decide) ?_; with_reducible refine fork_ff ?_)
  | (with_reducible refine fork_t (by omega) ?_) | (with_reducible refine fork_f (by omega) ?_)
  | (with_reducible refine fork_d ?_ ?_ <;> intro hc)
  | (with_reducible refine fork_n ?_)
  | (with_reducible refine fork_b ?_ ?_ <;> intro hc)
  | (with_reducible refine SlcG.mk (by omega) ?_)
  | (with_reducible refine MakG.mk (by dsimp only; omega) ?_)
  | (with_reducible refine AppG.mk (by first | omega | (simp only [List.length_append, List.length_set, List.length_replicate, List.length_take, List.length_drop, List.length_cons, List.length_nil, List.length_map]; omega)) (by dsimp only [List.length_cons, List.length_nil]; omega) (by omega) ?_)
  | (with_reducible refine div_g (by omega) (by omega) (by dsimp only [inR]; omega) ?_)
  | (with_reducible refine mod_g (by omega) (by omega) ?_)
  | (with_reducible refine mask_g (m := 4294967296) 32 rfl rfl (by decide) (by omega) ?_)
  | (with_reducible refine shr_g (m := 4294967296) 32 rfl (by decide) (by omega) rfl ?_)
  | (with_reducible refine fz_all (by omega) ?_)
  | (with_reducible refine Stuck.h (A := RetE _ _) ?_) | (with_reducible refine Stuck.h (A := RetM _ _ _ _) ?_) | (with_reducible refine Stuck.h (A := Again _ _ _ _ _ _ _ _) ?_) | (with_reducible refine Stuck.h (A := CallF _ _ _ _ _ _ _) ?_) | (with_reducible refine Stuck.h (A := LoopG _ _ _ _ _ _ _ _) ?_) | (with_reducible refine Stuck.h (A := DrawG _ _ _ _ _ _ _ _) ?_)
  | (with_reducible refine Stuck.h (A := WrapG _ _ _) ?_) | (with_reducible refine Stuck.h (A := DivG _ _ _ _) ?_) | (with_reducible refine Stuck.h (A := ModG _ _ _) ?_) | (with_reducible refine Stuck.h (A := ShlG _ _ _ _) ?_) | (with_reducible refine Stuck.h (A := ShrG _ _ _ _) ?_) | (with_reducible refine Stuck.h (A := BitG _ _ _ _ _) ?_)
  | (with_reducible refine Stuck.h (A := IdxG _ _ _) ?_) | (with_reducible refine Stuck.h (A := IdxL _ _ _) ?_) | (with_reducible refine Stuck.h (A := SlcG _ _ _ _ _) ?_) | (with_reducible refine Stuck.h (A := MakG _ _ _ _) ?_) | (with_reducible refine Stuck.h (A := AppG _ _ _ _ _ _ _) ?_) | (with_reducible refine Stuck.h (A := FzG _ _ _ _) ?_)
  | (with_reducible refine Stuck.h (A := RawG _) ?_) | (with_reducible refine Stuck.h (A := TabG _ _ _ _ _) ?_) | (with_reducible refine Stuck.h (A := ExtF _ _ _ _) ?_) | (with_reducible refine Stuck.h (A := Chk _ _) ?_) | (with_reducible refine Stuck.h (A := False) ?_))
  all_goals first
    | exact ⟨ret_e rfl⟩
    | exact ⟨again (m + 1) (by omega) (by omega) ⟨rfl, rfl, rfl, rfl, rfl, trivial⟩ ⟨_, rfl⟩ ⟨_, rfl⟩⟩
theorem pv_kind {o : OpR} {k : Int} (h : o.k = k) : o.pv = OpV k o.b1 o.l1 o.e1 o.b2 o.l2 o.e2 o.b3 o.l3 o.m := by unfold OpR.pv; rw [h]
end Go.Proofs.YtbeocnjlepcglaaGreatDoor.Sim
namespace Go.Proofs.YtbeocnjlepcglaaGreatDoor.Sim
open Go.RowKit
set_option linter.unusedVariables false
set_option linter.unusedSimpArgs false
set_option maxRecDepth 10000
set_option maxHeartbeats 8000000
variable {G : List (Nat × List Value)}
theorem mul_parts (x0 x1 y0 y1 : Int) : (4294967296 * x1 + x0) * (4294967296 * y1 + y0) = 18446744073709551616 * (x1 * y1) + 4294967296 * (x1 * y0) + 4294967296 * (x0 * y1) + x0 * y0 := by
  rw [Int.add_mul, Int.mul_add, Int.mul_add, Int.mul_assoc 4294967296 x1 (4294967296 * y1), Int.mul_left_comm x1 4294967296 y1, Int.mul_assoc 4294967296 x1 y0, Int.mul_left_comm x0 4294967296 y1]
  omega
theorem tup2_eq {k j : IntKind} {a b c d : Int} (h1 : a = c) (h2 : b = d) : PV.tup [.val (.int k a), .val (.int j b)] = .tup [.val (.int k c), .val (.int j d)] := by rw [h1, h2]
theorem one_row {i : Nat} (h : i < 1) : [0][i]? = some i := by
  have : i = 0 := by omega
  subst this; rfl
theorem mul_split (x y : Int) : x * y = 18446744073709551616 * (x / 4294967296 * (y / 4294967296)) + 4294967296 * (x / 4294967296 * (y % 4294967296)) + 4294967296 * (x % 4294967296 * (y / 4294967296)) + x % 4294967296 * (y % 4294967296) := by
  rw [← mul_parts, Int.mul_ediv_add_emod, Int.mul_ediv_add_emod]
theorem mul_bd32 {x y : Int} (hx : 0 ≤ x ∧ x < 4294967296) (hy : 0 ≤ y ∧ y < 4294967296) : 0 ≤ x * y ∧ x * y ≤ 18446744065119617025 := by
  refine ⟨Int.mul_nonneg hx.1 hy.1, ?_⟩
  have h1 : x * y ≤ 4294967295 * y := Int.mul_le_mul_of_nonneg_right (by omega) hy.1
  omega
theorem b_mul (x y : Int) (hx : 0 ≤ x ∧ x < 18446744073709551616) (hy : 0 ≤ y ∧ y < 18446744073709551616) : FC Tryz.prog G 160 [.val (.int .u64 x), .val (.int .u64 y)] (· = .tup [.val (.int .u64 (x * y / 18446744073709551616)), .val (.int .u64 (x * y % 18446744073709551616))]) := by
  have hs := mul_split x y
  have b1 := mul_bd32 (x := x / 4294967296) (y := y / 4294967296) (by omega) (by omega)
  have b2 := mul_bd32 (x := x / 4294967296) (y := y % 4294967296) (by omega) (by omega)
  have b3 := mul_bd32 (x := x % 4294967296) (y := y / 4294967296) (by omega) (by omega)
  have b4 := mul_bd32 (x := x % 4294967296) (y := y % 4294967296) (by omega) (by omega)
  refine FC.intro (X := XX) tok Tryz.func160 rfl Tryz.ntmps160 (by rw [Tryz.results160]) (by kernel_rfl) rfl ?_; intro F hG hO
  repeat' ((try (conv => whnf)); first
  | (with_reducible refine wrap_g (by dsimp only [inR]; omega) ?_)
  | ((with_reducible refine wrap_r ?_); rw [wrap64])
  
  | (with_reducible refine Chk.mk' (by first | omega | exact trivial | (simp only [List.length_append, List.length_set, List.length_replicate, List.length_take, List.length_drop, List.length_cons, List.length_nil, List.length_map]; omega)) ?_)
  | (with_reducible refine wrap_g (by dsimp only [inR]; omega) ?_)
  | (with_reducible refine idx_g (by omega) ?_)
  | (with_reducible refine idx_l _ rfl (by decide) ?_)
  | (with_reducible refine BothG.mk ?_ ?_)
  | (with_reducible refine fork_tt ?_) | (with_reducible refine fork_ff ?_)
  | (with_reducible refine fork_e (c := true) (by decide) ?_; with_reducible refine fork_tt ?_) | (with_reducible refine fork_e (c := false) (by decide) ?_; with_reducible refine fork_ff ?_)
  | (with_reducible refine fork_t (by omega) ?_) | (with_reducible refine fork_f (by omega) ?_)
  | (with_reducible refine fork_d ?_ ?_ <;> intro hc)
  | (with_reducible refine fork_n ?_)
  | (with_reducible refine fork_b ?_ ?_ <;> intro hc)
  | (with_reducible refine SlcG.mk (by omega) ?_)
  | (with_reducible refine MakG.mk (by dsimp only; omega) ?_)
  | (with_reducible refine AppG.mk (by first | omega | (simp only [List.length_append, List.length_set, List.length_replicate, List.length_take, List.length_drop, List.length_cons, List.length_nil, List.length_map]; omega)) (by dsimp only [List.length_cons, List.length_nil]; omega) (by omega) ?_)
  | (with_reducible refine div_g (by omega) (by omega) (by dsimp only [inR]; omega) ?_)
  | (with_reducible refine mod_g (by omega) (by omega) ?_)
  | (with_reducible refine mask_g (m := 4294967296) 32 rfl rfl (by decide) (by omega) ?_)
  | (with_reducible refine shr_g (m := 4294967296) 32 rfl (by decide) (by omega) rfl ?_)
  | (with_reducible refine fz_all (by omega) ?_)
  | (with_reducible refine Stuck.h (A := RetE _ _) ?_) | (with_reducible refine Stuck.h (A := RetM _ _ _ _) ?_) | (with_reducible refine Stuck.h (A := Again _ _ _ _ _ _ _ _) ?_) | (with_reducible refine Stuck.h (A := CallF _ _ _ _ _ _ _) ?_) | (with_reducible refine Stuck.h (A := LoopG _ _ _ _ _ _ _ _) ?_) | (with_reducible refine Stuck.h (A := DrawG _ _ _ _ _ _ _ _) ?_)
  | (with_reducible refine Stuck.h (A := WrapG _ _ _) ?_) | (with_reducible refine Stuck.h (A := DivG _ _ _ _) ?_) | (with_reducible refine Stuck.h (A := ModG _ _ _) ?_) | (with_reducible refine Stuck.h (A := ShlG _ _ _ _) ?_) | (with_reducible refine Stuck.h (A := ShrG _ _ _ _) ?_) | (with_reducible refine Stuck.h (A := BitG _ _ _ _ _) ?_)
  | (with_reducible refine Stuck.h (A := IdxG _ _ _) ?_) | (with_reducible refine Stuck.h (A := IdxL _ _ _) ?_) | (with_reducible refine Stuck.h (A := SlcG _ _ _ _ _) ?_) | (with_reducible refine Stuck.h (A := MakG _ _ _ _) ?_) | (with_reducible refine Stuck.h (A := AppG _ _ _ _ _ _ _) ?_) | (with_reducible refine Stuck.h (A := FzG _ _ _ _) ?_)
  | (with_reducible refine Stuck.h (A := RawG _) ?_) | (with_reducible refine Stuck.h (A := TabG _ _ _ _ _) ?_) | (with_reducible refine Stuck.h (A := ExtF _ _ _ _) ?_) | (with_reducible refine Stuck.h (A := Chk _ _) ?_) | (with_reducible refine Stuck.h (A := False) ?_))
  all_goals exact ⟨ret_e (tup2_eq (by omega) (by omega))⟩
end Go.Proofs.YtbeocnjlepcglaaGreatDoor.Sim
namespace Go.Proofs.YtbeocnjlepcglaaGreatDoor.Sim
open Go.RowKit
set_option linter.unusedVariables false
set_option linter.unusedSimpArgs false
set_option maxRecDepth 10000
set_option maxHeartbeats 8000000
variable {G : List (Nat × List Value)}
end Go.Proofs.YtbeocnjlepcglaaGreatDoor.Sim
namespace Go.Proofs.YtbeocnjlepcglaaGreatDoor.Sim
open Go.RowKit
set_option linter.unusedVariables false
set_option linter.unusedSimpArgs false
set_option maxRecDepth 10000
set_option maxHeartbeats 8000000
variable {G : List (Nat × List Value)}
theorem FC.of_row {f : FuncId} {args : List PV} {T : TypeId} {l : List Int} (h : PM Tryz.prog G f args [] (fun r rs => r = .arr 0 0 l.length ∧ ∃ c : List Int, l.length ≤ c.length ∧ c.take l.length = l ∧ rs = [some ⟨1, T, .w .u64 c⟩])) : FC Tryz.prog G f args (· = .ws .u64 l) :=
  FC.of_pm h (by rintro r rs ⟨rfl, c, h1, h2, rfl⟩; exact (fz_g (by omega) (by rw [List.drop_zero]; exact h2) (ret_e rfl) : FzG c 0 l.length fun B => RetE (· = .ws .u64 l) (.ws .u64 B)))
theorem d64_len (X : Nat) : (d64 X).length = L64 X := rfl
theorem trim_pos {c : List Int} {X : Nat} (ok : okD 18446744073709551616 c) (h : vl 18446744073709551616 c = X) : trim c = d64 X := by
  rw [trim64 ok, h, Int.toNat_natCast]
theorem trim_pre : ∀ (c : List Int), c.take (trim c).length = trim c
  | [] => rfl
  | x :: c => by
    have ih := trim_pre c
    simp only [trim]
    cases h : trim c with
    | nil =>
      simp only
      by_cases h0 : x = 0
      · rw [if_pos h0]; rfl
      · rw [if_neg h0]; rfl
    | cons y l =>
      rw [h] at ih
      simp only
      rw [List.length_cons, List.take_succ_cons, ih]
theorem mul_bd64 {x y : Int} (hx : 0 ≤ x ∧ x < 18446744073709551616) (hy : 0 ≤ y ∧ y < 18446744073709551616) : 0 ≤ x * y ∧ x * y ≤ 340282366920938463426481119284349108225 := by
  refine ⟨Int.mul_nonneg hx.1 hy.1, ?_⟩
  have h1 : x * y ≤ 18446744073709551615 * y := Int.mul_le_mul_of_nonneg_right (by omega) hy.1
  omega
end Go.Proofs.YtbeocnjlepcglaaGreatDoor.Sim
namespace Go.Proofs.YtbeocnjlepcglaaGreatDoor.Sim
open Go.RowKit
set_option linter.unusedVariables false
set_option linter.unusedSimpArgs false
set_option maxRecDepth 10000
set_option maxHeartbeats 8000000
variable {G : List (Nat × List Value)}
end Go.Proofs.YtbeocnjlepcglaaGreatDoor.Sim
namespace Go.Proofs.YtbeocnjlepcglaaGreatDoor.Sim
open Go.RowKit
set_option linter.unusedVariables false
set_option linter.unusedSimpArgs false
set_option maxRecDepth 10000
set_option maxHeartbeats 8000000
variable {G : List (Nat × List Value)}
/-- The row that holds V in n limbs. -/
def RowOf (n V : Nat) (rs : List (Option Row)) : Prop := ∃ c : List Int, c.length = n ∧ okD 18446744073709551616 c ∧ vl 18446744073709551616 c = (V : Int) ∧ rs = [some ⟨1, 44, .w .u64 c⟩]
def ProdOk (g : List (Nat × List Value)) (X Y : Nat) : Prop := PM Tryz.prog g 123 [.ws .u64 (d64 X), .ws .u64 (d64 Y)] [] (fun r rs => r = .arr 0 0 (L64 (X * Y)) ∧ RowOf (L64 X + L64 Y) (X * Y) rs)
theorem L64_mono {x y : Nat} (h : x ≤ y) : L64 x ≤ L64 y := lenB_mono (by decide) h
theorem row_take {c : List Int} {V : Nat} (ok : okD 18446744073709551616 c) (h : vl 18446744073709551616 c = (V : Int)) : c.take (L64 V) = d64 V ∧ L64 V ≤ c.length := by
  have h1 := trim_pos ok h
  have h2 := trim_pre c
  rw [h1] at h2
  refine ⟨h2, ?_⟩
  have h3 := congrArg List.length h2
  rw [List.length_take, d64_len] at h3
  omega
theorem ProdOk.fc {X Y : Nat} (h : ProdOk G X Y) : FC Tryz.prog G 123 [.ws .u64 (d64 X), .ws .u64 (d64 Y)] (· = .ws .u64 (d64 (X * Y))) := by
  refine FC.of_row (l := d64 (X * Y)) (T := 44) (h.mono ?_)
  rintro r rs ⟨rfl, c, h1, h2, h3, rfl⟩
  obtain ⟨h4, h5⟩ := row_take h2 h3
  exact ⟨rfl, c, h5, h4, rfl⟩
theorem vl_d64i (X : Nat) : vl 18446744073709551616 (d64 X) = (X : Int) := (d64_ok X).2
end Go.Proofs.YtbeocnjlepcglaaGreatDoor.Sim
namespace Go.Proofs.YtbeocnjlepcglaaGreatDoor.Sim
open Go.RowKit
set_option linter.unusedVariables false
set_option linter.unusedSimpArgs false
set_option maxRecDepth 10000
set_option maxHeartbeats 8000000
variable {G : List (Nat × List Value)}
theorem pow64i (n : Nat) : (18446744073709551616 : Int) ^ n = ((2 ^ (64 * n) : Nat) : Int) := by
  rw [← pow64]; simp
end Go.Proofs.YtbeocnjlepcglaaGreatDoor.Sim
namespace Go.Proofs.YtbeocnjlepcglaaGreatDoor.Sim
open Go.RowKit
set_option linter.unusedVariables false
set_option linter.unusedSimpArgs false
set_option maxRecDepth 10000
set_option maxHeartbeats 8000000
variable {G : List (Nat × List Value)}
theorem call_row {F : Fr} {N : Nat} {t : Nat → PV} {bx : List (List PV)} {ob : List (Option Row)} {f : FuncId} {args : List PV} {n n2 V m : Nat} {K : St → PV → Prop} (h : PM Tryz.prog F.G f args [] (fun r rs => r = .arr 0 0 n ∧ RowOf n2 V rs)) (hok : okAL 0 args = true) (hre : renL [] ob.length args = args) (hm : ob.length = m)
    (hK : ∀ c : List Int, c.length = n2 → okD 18446744073709551616 c → vl 18446744073709551616 c = (V : Int) → K ⟨N, t, bx, ob ++ [some ⟨1, 44, .w .u64 c⟩]⟩ (.arr m 0 n)) : CallF Tryz.prog F false f args ⟨N, t, bx, ob⟩ K :=
  call_pm [] h hre hok rfl List.nodup_nil (by rintro r rs ⟨rfl, c, c1, c2, c3, rfl⟩; subst hm; simpa [putR, ren, renI] using hK c c1 c2 c3)
theorem copy_row (l : List Int) (n : Nat) (h : l.length ≤ n) : (List.replicate n (0 : Int)).take 0 ++ l.take n ++ (List.replicate n (0 : Int)).drop (0 + min n l.length) = l ++ List.replicate (n - l.length) 0 := by
  rw [List.take_zero, List.nil_append, List.take_of_length_le (by omega), show 0 + min n l.length = l.length by omega, List.drop_replicate]
theorem pad_ok {V n : Nat} (h : L64 V ≤ n) : (d64 V ++ List.replicate (n - L64 V) (0 : Int)).length = n ∧ okD 18446744073709551616 (d64 V ++ List.replicate (n - L64 V) 0) ∧ vl 18446744073709551616 (d64 V ++ List.replicate (n - L64 V) 0) = (V : Int) := by
  refine ⟨by rw [List.length_append, List.length_replicate, d64_len]; omega, okD_append.2 ⟨(d64_ok V).1, fun x hx => by rw [List.eq_of_mem_replicate hx]; decide⟩, by rw [vl_append, vl_zero, Int.mul_zero, Int.add_zero, vl_d64i]⟩
end Go.Proofs.YtbeocnjlepcglaaGreatDoor.Sim
namespace Go.Proofs.YtbeocnjlepcglaaGreatDoor.Sim
open Go.RowKit
set_option linter.unusedVariables false
set_option linter.unusedSimpArgs false
set_option maxRecDepth 10000
set_option maxHeartbeats 8000000
variable {G : List (Nat × List Value)}
end Go.Proofs.YtbeocnjlepcglaaGreatDoor.Sim
namespace Go.Proofs.YtbeocnjlepcglaaGreatDoor.Sim
open Go.RowKit
set_option linter.unusedVariables false
set_option linter.unusedSimpArgs false
set_option maxRecDepth 10000
set_option maxHeartbeats 8000000
variable {G : List (Nat × List Value)}
end Go.Proofs.YtbeocnjlepcglaaGreatDoor.Sim
namespace Go.Proofs.YtbeocnjlepcglaaGreatDoor.Sim
open Go.RowKit
set_option linter.unusedVariables false
set_option linter.unusedSimpArgs false
set_option maxRecDepth 10000
set_option maxHeartbeats 8000000
variable {G : List (Nat × List Value)}
theorem bl_low {n : Nat} (h : n ≠ 0) : 2 ^ (bl n - 1) ≤ n := by
  rcases Nat.lt_or_ge n (2 ^ (bl n - 1)) with h1 | h1
  · have := bl_le h1
    have := bl_pos h
    omega
  · exact h1
/-- The facts of one step: y = v1 * 2^32 + v0 with v1 great, un below y, u1 a digit; q the digit, r what is left. -/
structure Kn (y v1 v0 un u1 q r : Int) : Prop where
  ey : y = v1 * 4294967296 + v0
  bv1 : 2147483648 ≤ v1 ∧ v1 < 4294967296
  bv0 : 0 ≤ v0 ∧ v0 < 4294967296
  bun : 0 ≤ un ∧ un < v1 * 4294967296 + v0
  bu1 : 0 ≤ u1 ∧ u1 < 4294967296
  qr : un * 4294967296 + u1 = q * v1 * 4294967296 + q * v0 + r
  bq : 0 ≤ q ∧ q < 4294967296
  br : 0 ≤ r ∧ r < v1 * 4294967296 + v0
theorem kn_of {y v1 v0 un u1 : Int} (hy : y = v1 * 4294967296 + v0) (h1 : 2147483648 ≤ v1 ∧ v1 < 4294967296) (h0 : 0 ≤ v0 ∧ v0 < 4294967296) (hu : 0 ≤ un ∧ un < y) (hu1 : 0 ≤ u1 ∧ u1 < 4294967296) :
    Kn y v1 v0 un u1 ((un * 4294967296 + u1) / y) ((un * 4294967296 + u1) % y) := by
  have e1 := Int.mul_ediv_add_emod (un * 4294967296 + u1) y
  have e2 := Int.emod_nonneg (un * 4294967296 + u1) (show y ≠ 0 by omega)
  have e3 := Int.emod_lt_of_pos (un * 4294967296 + u1) (show 0 < y by omega)
  have q0 : 0 ≤ (un * 4294967296 + u1) / y := Int.ediv_nonneg (by omega) (by omega)
  have q1 : (un * 4294967296 + u1) / y < 4294967296 := Int.ediv_lt_of_lt_mul (by omega) (by omega)
  obtain ⟨q, hq⟩ : ∃ q, q = (un * 4294967296 + u1) / y := ⟨_, rfl⟩
  obtain ⟨r, hr⟩ : ∃ r, r = (un * 4294967296 + u1) % y := ⟨_, rfl⟩
  rw [← hq, ← hr] at e1
  rw [← hr] at e2 e3
  rw [← hq] at q0 q1
  rw [← hq, ← hr]
  refine ⟨hy, h1, h0, by omega, hu1, ?_, ⟨q0, q1⟩, by omega⟩
  rw [← e1, Int.mul_comm y q, hy, Int.mul_add, Int.mul_assoc]
/-- A guess p of the digit, with what it leaves of un. -/
structure KnI (v1 un q p s : Int) : Prop where
  eun : un = p * v1 + s
  bs : 0 ≤ s
  bp : q ≤ p ∧ p ≤ 4294967297
theorem Kn.start {y v1 v0 un u1 q r : Int} (h : Kn y v1 v0 un u1 q r) : KnI v1 un q (un / v1) (un - un / v1 * v1) ∧ un - un / v1 * v1 < v1 ∧ 0 ≤ un / v1 * v1 ∧ un / v1 * v1 ≤ un := by
  obtain ⟨hy, h1, h0, hu, hu1, hqr, hq, hr⟩ := h
  have e1 := Int.mul_ediv_add_emod un v1
  have e2 := Int.emod_nonneg un (show v1 ≠ 0 by omega)
  have e3 := Int.emod_lt_of_pos un (show 0 < v1 by omega)
  rw [Int.mul_comm] at e1
  have hp : un / v1 < 4294967298 := Int.ediv_lt_of_lt_mul (by omega) (by omega)
  have hge : q ≤ un / v1 := by
    refine Int.le_ediv_of_mul_le (by omega) ?_
    have : 0 ≤ q * v0 := Int.mul_nonneg hq.1 h0.1
    omega
  have h3 : 0 ≤ un / v1 * v1 := Int.mul_nonneg (Int.ediv_nonneg hu.1 (by omega)) (by omega)
  exact ⟨⟨by omega, by omega, hge, by omega⟩, by omega, h3, by omega⟩
/-- The guess is right. -/
theorem Kn.stop {y v1 v0 un u1 q r p s : Int} (h : Kn y v1 v0 un u1 q r) (hi : KnI v1 un q p s) (hc : p * v0 ≤ 4294967296 * s + u1) : p = q := by
  obtain ⟨hy, h1, h0, hu, hu1, hqr, hq, hr⟩ := h
  obtain ⟨i1, i2, i3⟩ := hi
  rcases Int.lt_or_le q p with hlt | hle
  · exfalso
    have e : (p - (q + 1)) * (v1 * 4294967296 + v0) ≥ 0 := Int.mul_nonneg (by omega) (by omega)
    have e2 : (p - (q + 1)) * (v1 * 4294967296 + v0) = p * v1 * 4294967296 + p * v0 - (q * v1 * 4294967296 + q * v0) - (v1 * 4294967296 + v0) := by
      rw [Int.sub_mul, Int.add_mul, Int.one_mul, Int.mul_add, Int.mul_add, ← Int.mul_assoc, ← Int.mul_assoc]
      omega
    omega
  · omega
/-- The guess is too great: the next is not too small. -/
theorem Kn.next {y v1 v0 un u1 q r p s : Int} (h : Kn y v1 v0 un u1 q r) (hi : KnI v1 un q p s) (hc : 4294967296 ≤ p ∨ 4294967296 * s + u1 < p * v0) : KnI v1 un q (p - 1) (s + v1) := by
  obtain ⟨hy, h1, h0, hu, hu1, hqr, hq, hr⟩ := h
  obtain ⟨i1, i2, i3⟩ := hi
  have hlt : q < p := by
    rcases hc with hc | hc
    · omega
    · rcases Int.lt_or_le q p with hlt | hle
      · exact hlt
      · exfalso
        have : p = q := by omega
        subst this
        omega
  have e : (p - 1) * v1 = p * v1 - v1 := by rw [Int.sub_mul, Int.one_mul]
  exact ⟨by omega, by omega, by omega, by omega⟩
/-- What is left is great: the guess is right. -/
theorem Kn.out {y v1 v0 un u1 q r p s : Int} (h : Kn y v1 v0 un u1 q r) (hi : KnI v1 un q p s) (hs : 4294967296 ≤ s) (hp : p ≤ 4294967296) : p = q := by
  refine h.stop hi ?_
  obtain ⟨hy, h1, h0, hu, hu1, hqr, hq, hr⟩ := h
  obtain ⟨i1, i2, i3⟩ := hi
  have e1 : p * v0 ≤ 4294967296 * v0 := Int.mul_le_mul_of_nonneg_right (by omega) h0.1
  have e2 : 4294967296 * 4294967296 ≤ 4294967296 * s := by omega
  omega
theorem Kn.left {y v1 v0 un u1 q r : Int} (h : Kn y v1 v0 un u1 q r) : q * y = q * v1 * 4294967296 + q * v0 := by
  rw [h.ey, Int.mul_add, Int.mul_assoc]
theorem b_lead (x : Nat) (h : x < 18446744073709551616) : FC Tryz.prog G 115 [.val (.int .u64 (x : Int))] (· = .val (.int .i64 (64 - (bl x : Int)))) := by
  have f1 := b_len (G := G) x h
  have hb : bl x ≤ 64 := bl_le (k := 64) (by omega)
  refine FC.intro (X := XX) tok Tryz.func115 rfl Tryz.ntmps115 (by rw [Tryz.results115]) (by kernel_rfl) rfl ?_; intro F hG hO
  rw [← hG] at f1
  repeat' ((try (conv => whnf)); first
  | ((with_reducible refine cg ?_); refine call_eq (f1) (LpL.refl _) rfl ?_)
  
  | (with_reducible refine Chk.mk' (by first | omega | exact trivial | (simp only [List.length_append, List.length_set, List.length_replicate, List.length_take, List.length_drop, List.length_cons, List.length_nil, List.length_map]; omega)) ?_)
  | (with_reducible refine wrap_g (by dsimp only [inR]; omega) ?_)
  | (with_reducible refine idx_g (by omega) ?_)
  | (with_reducible refine idx_l _ rfl (by decide) ?_)
  | (with_reducible refine BothG.mk ?_ ?_)
  | (with_reducible refine fork_tt ?_) | (with_reducible refine fork_ff ?_)
  | (with_reducible refine fork_e (c := true) (by decide) ?_; with_reducible refine fork_tt ?_) | (with_reducible refine fork_e (c := false) (by decide) ?_; with_reducible refine fork_ff ?_)
  | (with_reducible refine fork_t (by omega) ?_) | (with_reducible refine fork_f (by omega) ?_)
  | (with_reducible refine fork_d ?_ ?_ <;> intro hc)
  | (with_reducible refine fork_n ?_)
  | (with_reducible refine fork_b ?_ ?_ <;> intro hc)
  | (with_reducible refine SlcG.mk (by omega) ?_)
  | (with_reducible refine MakG.mk (by dsimp only; omega) ?_)
  | (with_reducible refine AppG.mk (by first | omega | (simp only [List.length_append, List.length_set, List.length_replicate, List.length_take, List.length_drop, List.length_cons, List.length_nil, List.length_map]; omega)) (by dsimp only [List.length_cons, List.length_nil]; omega) (by omega) ?_)
  | (with_reducible refine div_g (by omega) (by omega) (by dsimp only [inR]; omega) ?_)
  | (with_reducible refine mod_g (by omega) (by omega) ?_)
  | (with_reducible refine mask_g (m := 4294967296) 32 rfl rfl (by decide) (by omega) ?_)
  | (with_reducible refine shr_g (m := 4294967296) 32 rfl (by decide) (by omega) rfl ?_)
  | (with_reducible refine fz_all (by omega) ?_)
  | (with_reducible refine Stuck.h (A := RetE _ _) ?_) | (with_reducible refine Stuck.h (A := RetM _ _ _ _) ?_) | (with_reducible refine Stuck.h (A := Again _ _ _ _ _ _ _ _) ?_) | (with_reducible refine Stuck.h (A := CallF _ _ _ _ _ _ _) ?_) | (with_reducible refine Stuck.h (A := LoopG _ _ _ _ _ _ _ _) ?_) | (with_reducible refine Stuck.h (A := DrawG _ _ _ _ _ _ _ _) ?_)
  | (with_reducible refine Stuck.h (A := WrapG _ _ _) ?_) | (with_reducible refine Stuck.h (A := DivG _ _ _ _) ?_) | (with_reducible refine Stuck.h (A := ModG _ _ _) ?_) | (with_reducible refine Stuck.h (A := ShlG _ _ _ _) ?_) | (with_reducible refine Stuck.h (A := ShrG _ _ _ _) ?_) | (with_reducible refine Stuck.h (A := BitG _ _ _ _ _) ?_)
  | (with_reducible refine Stuck.h (A := IdxG _ _ _) ?_) | (with_reducible refine Stuck.h (A := IdxL _ _ _) ?_) | (with_reducible refine Stuck.h (A := SlcG _ _ _ _ _) ?_) | (with_reducible refine Stuck.h (A := MakG _ _ _ _) ?_) | (with_reducible refine Stuck.h (A := AppG _ _ _ _ _ _ _) ?_) | (with_reducible refine Stuck.h (A := FzG _ _ _ _) ?_)
  | (with_reducible refine Stuck.h (A := RawG _) ?_) | (with_reducible refine Stuck.h (A := TabG _ _ _ _ _) ?_) | (with_reducible refine Stuck.h (A := ExtF _ _ _ _) ?_) | (with_reducible refine Stuck.h (A := Chk _ _) ?_) | (with_reducible refine Stuck.h (A := False) ?_))
  exact ⟨ret_e rfl⟩
theorem or_g2 {a b : Int} {K : Int → Prop} (k : Nat) (ha : 0 ≤ a ∧ a < 18446744073709551616) (hb : 0 ≤ b ∧ b < 18446744073709551616) (h : b < 2 ^ k) (hm : a % 2 ^ k = 0) (hs : a + b < 18446744073709551616) (x : K (a + b)) : BitG .or .u64 a b K := by
  have e : bitI .or .u64 a b = bitI .or .u64 b a := by
    show IntKind.u64.wrap _ = IntKind.u64.wrap _
    simp only [BitVec.or_comm]
  have := or_g (K := fun y => K y) k hb ha h hm (by omega) (by rw [Int.add_comm]; exact x)
  obtain ⟨h1⟩ := this
  exact ⟨by rw [e]; exact h1⟩
end Go.Proofs.YtbeocnjlepcglaaGreatDoor.Sim
namespace Go.Proofs.YtbeocnjlepcglaaGreatDoor.Sim
open Go.RowKit
set_option linter.unusedVariables false
set_option linter.unusedSimpArgs false
set_option maxRecDepth 10000
set_option maxHeartbeats 8000000
variable {G : List (Nat × List Value)}
theorem p2_posn (k : Nat) : (0 : Int) < 2 ^ k := Int.pow_pos (by decide)
/-- The numbers of a division, shifted so that the divisor's top bit is set. -/
theorem div_norm {hi lo d : Int} (hd : 0 < d ∧ d < 18446744073709551616) (hh : 0 ≤ hi ∧ hi < d) (hl : 0 ≤ lo ∧ lo < 18446744073709551616) : ∃ s : Nat, ∃ y un ul : Int, (s : Int) = 64 - (bl d.toNat : Int) ∧ s ≤ 63 ∧ d * 2 ^ s % 18446744073709551616 = y ∧ d * 2 ^ s = y ∧ 9223372036854775808 ≤ y ∧ y < 18446744073709551616
    ∧ hi * 2 ^ s % 18446744073709551616 + lo / 2 ^ (64 - s) = un ∧ lo * 2 ^ s % 18446744073709551616 = ul ∧ 0 ≤ un ∧ un < y ∧ 0 ≤ ul ∧ ul < 18446744073709551616 ∧ (hi * 18446744073709551616 + lo) * 2 ^ s = un * 18446744073709551616 + ul
    ∧ (0 ≤ hi * 2 ^ s % 18446744073709551616 ∧ hi * 2 ^ s % 18446744073709551616 < 18446744073709551616) ∧ (0 ≤ lo / 2 ^ (64 - s) ∧ lo / 2 ^ (64 - s) < 18446744073709551616) ∧ lo / 2 ^ (64 - s) < 2 ^ s ∧ hi * 2 ^ s % 18446744073709551616 % 2 ^ s = 0 := by
  have hb : bl d.toNat ≤ 64 := bl_le (k := 64) (by omega)
  have hp := bl_pos (n := d.toNat) (by omega)
  obtain ⟨s, hs⟩ : ∃ s, s = 64 - bl d.toNat := ⟨_, rfl⟩
  have h1 := lt_bl d.toNat
  have h2 := bl_low (n := d.toNat) (by omega)
  have e1 : (2 : Nat) ^ bl d.toNat * 2 ^ s = 18446744073709551616 := by rw [← Nat.pow_add, show bl d.toNat + s = 64 by omega]
  have e2 : (2 : Nat) ^ (bl d.toNat - 1) * 2 ^ s = 9223372036854775808 := by rw [← Nat.pow_add, show bl d.toNat - 1 + s = 63 by omega]
  have e3 : (2 : Nat) ^ (64 - s) * 2 ^ s = 18446744073709551616 := by rw [← Nat.pow_add, show 64 - s + s = 64 by omega]
  have a1 : d.toNat * 2 ^ s < 18446744073709551616 := by rw [← e1]; exact Nat.mul_lt_mul_of_pos_right h1 (Nat.pow_pos (by decide))
  have a2 : 9223372036854775808 ≤ d.toNat * 2 ^ s := by rw [← e2]; exact Nat.mul_le_mul_right _ h2
  have hPi : (2 : Int) ^ s = ((2 ^ s : Nat) : Int) := by simp
  have hQi : (2 : Int) ^ (64 - s) = ((2 ^ (64 - s) : Nat) : Int) := by simp
  have hPp : 0 < 2 ^ s := Nat.pow_pos (by decide)
  have hQp : 0 < 2 ^ (64 - s) := Nat.pow_pos (by decide)
  refine ⟨s, ?_⟩
  rw [hPi, hQi]
  obtain ⟨P, hP⟩ : ∃ P, P = 2 ^ s := ⟨_, rfl⟩
  obtain ⟨Q, hQ⟩ : ∃ Q, Q = 2 ^ (64 - s) := ⟨_, rfl⟩
  rw [← hP] at e3 a1 a2 hPp ⊢
  rw [← hQ] at e3 hQp ⊢
  have hdP : d * (P : Int) = ((d.toNat * P : Nat) : Int) := by rw [Int.natCast_mul]; congr 1; omega
  have hQP : (Q : Int) * P = 18446744073709551616 := by rw [← Int.natCast_mul, e3]; rfl
  have hiP : hi * (P : Int) < d * P := Int.mul_lt_mul_of_pos_right hh.2 (by omega)
  have hiP0 : 0 ≤ hi * (P : Int) := Int.mul_nonneg hh.1 (by omega)
  have hiP1 : hi * (P : Int) + P ≤ d * P := by
    have h := Int.mul_le_mul_of_nonneg_right (show hi + 1 ≤ d by omega) (show (0 : Int) ≤ P by omega)
    rw [Int.add_mul, Int.one_mul] at h
    exact h
  have hloP : lo * (P : Int) / 18446744073709551616 = lo / Q := by rw [← hQP, Int.mul_ediv_mul_of_pos_left _ _ (by omega)]
  have hb0 : 0 ≤ lo / (Q : Int) := Int.ediv_nonneg hl.1 (by omega)
  have hb1 : lo / (Q : Int) < P := Int.ediv_lt_of_lt_mul (by omega) (by rw [Int.mul_comm, hQP]; exact hl.2)
  have hPW : (P : Int) ≤ 18446744073709551616 := by
    have h := Int.mul_le_mul_of_nonneg_right (show (1 : Int) ≤ Q by omega) (show (0 : Int) ≤ P by omega)
    rw [Int.one_mul, hQP] at h
    exact h
  have hm := Int.mul_ediv_add_emod (lo * (P : Int)) 18446744073709551616
  rw [hloP] at hm
  have hm1 : hi * (P : Int) % 18446744073709551616 = hi * P := Int.emod_eq_of_lt hiP0 (by omega)
  rw [hm1]
  refine ⟨d * P, hi * P + lo / Q, lo * P % 18446744073709551616, by omega, by omega, Int.emod_eq_of_lt (by omega) (by omega), rfl, by omega, by omega, rfl, rfl, by omega, by omega, by omega, by omega, ?_, ⟨by omega, by omega⟩, ⟨hb0, by omega⟩, hb1, Int.mul_emod_left _ _⟩
  rw [Int.add_mul, Int.mul_right_comm]
  omega
theorem div_final {hi lo d P y un ul v1 v0 u1 u0 q1 r1 q0 r0 : Int} (hP : 0 < P) (hd : 0 < d) (hy : d * P = y) (hN : (hi * 18446744073709551616 + lo) * P = un * 18446744073709551616 + ul) (hul : ul = u1 * 4294967296 + u0) (k1 : Kn y v1 v0 un u1 q1 r1) (k0 : Kn y v1 v0 r1 u0 q0 r0) :
    q1 * 4294967296 + q0 = (hi * 18446744073709551616 + lo) / d ∧ r0 / P = (hi * 18446744073709551616 + lo) % d := by
  have e1 := k1.qr
  have e0 := k0.qr
  have l1 := k1.left
  have l0 := k0.left
  have hr := k0.br
  rw [← k1.ey] at hr
  obtain ⟨N, hNN⟩ : ∃ N, N = hi * 18446744073709551616 + lo := ⟨_, rfl⟩
  rw [← hNN] at hN ⊢
  have hmain : N * P = y * (q1 * 4294967296 + q0) + r0 := by
    rw [Int.mul_add, Int.mul_comm y q0, ← Int.mul_assoc, Int.mul_comm y q1]
    omega
  have hq : q1 * 4294967296 + q0 = N / d := by
    have h1 : N * P / (d * P) = N / d := Int.mul_ediv_mul_of_pos_left _ _ hP
    rw [hy] at h1
    rw [← h1]
    exact (div_of (a := N * P) (b := y) (q := q1 * 4294967296 + q0) (r := r0) (by omega) (by omega) hr.1 hr.2).1.symm
  refine ⟨hq, ?_⟩
  have h2 : N * P % (d * P) = N % d * P := by
    rw [Int.mul_comm N P, Int.mul_comm d P, Int.mul_comm (N % d) P]
    exact Int.mul_emod_mul_of_pos _ _ hP
  rw [hy] at h2
  have h3 : N * P % y = r0 := (div_of (a := N * P) (b := y) (q := q1 * 4294967296 + q0) (r := r0) (by omega) (by omega) hr.1 hr.2).2
  rw [h3] at h2
  rw [h2]
  exact Int.mul_ediv_cancel _ (by omega)
end Go.Proofs.YtbeocnjlepcglaaGreatDoor.Sim
namespace Go.Proofs.YtbeocnjlepcglaaGreatDoor.Sim
open Go.RowKit
set_option linter.unusedVariables false
set_option linter.unusedSimpArgs false
set_option maxRecDepth 10000
set_option maxHeartbeats 8000000
variable {G : List (Nat × List Value)}
theorem b_div (hi lo d : Int) (hd : 0 < d ∧ d < 18446744073709551616) (hh : 0 ≤ hi ∧ hi < d) (hl : 0 ≤ lo ∧ lo < 18446744073709551616) : FC Tryz.prog G 142 [.val (.int .u64 hi), .val (.int .u64 lo), .val (.int .u64 d)] (· = .tup [.val (.int .u64 ((hi * 18446744073709551616 + lo) / d)), .val (.int .u64 ((hi * 18446744073709551616 + lo) % d))]) := by
  obtain ⟨s, y, un, ul, n0, n1, n2, n3, n4, n5, n6, n7, n8, n9, n10, n11, n12, n13, n14, n15, n16⟩ := div_norm hd hh hl
  have f1 := b_lead (G := G) d.toNat (by omega)
  rw [← n0, show ((d.toNat : Nat) : Int) = d by omega] at f1
  obtain ⟨v1, hv1⟩ : ∃ v, v = y / 4294967296 := ⟨_, rfl⟩
  obtain ⟨v0, hv0⟩ : ∃ v, v = y % 4294967296 := ⟨_, rfl⟩
  obtain ⟨u1, hu1⟩ : ∃ v, v = ul / 4294967296 := ⟨_, rfl⟩
  obtain ⟨u0, hu0⟩ : ∃ v, v = ul % 4294967296 := ⟨_, rfl⟩
  have K1 := kn_of (y := y) (v1 := v1) (v0 := v0) (un := un) (u1 := u1) (by omega) (by omega) (by omega) ⟨n8, n9⟩ (by omega)
  obtain ⟨q1, hq1⟩ : ∃ q, q = (un * 4294967296 + u1) / y := ⟨_, rfl⟩
  obtain ⟨r1, hr1⟩ : ∃ q, q = (un * 4294967296 + u1) % y := ⟨_, rfl⟩
  rw [← hq1, ← hr1] at K1
  have kr1 := K1.br
  rw [← K1.ey] at kr1
  have K0 := kn_of (y := y) (v1 := v1) (v0 := v0) (un := r1) (u1 := u0) (by omega) (by omega) (by omega) kr1 (by omega)
  obtain ⟨q0, hq0⟩ : ∃ q, q = (r1 * 4294967296 + u0) / y := ⟨_, rfl⟩
  obtain ⟨r0, hr0⟩ : ∃ q, q = (r1 * 4294967296 + u0) % y := ⟨_, rfl⟩
  rw [← hq0, ← hr0] at K0
  have kr0 := K0.br
  rw [← K0.ey] at kr0
  have kq1 := K1.bq
  have kq0 := K0.bq
  obtain ⟨fin1, fin2⟩ := div_final (p2_posn s) hd.1 n3 n12 (show ul = u1 * 4294967296 + u0 by omega) K1 K0
  rw [← fin1, ← fin2]
  obtain ⟨i1, i2, i3, i4⟩ := K1.start
  obtain ⟨j1, j2, j3, j4⟩ := K0.start
  have bv1 : 2147483648 ≤ v1 ∧ v1 < 4294967296 := K1.bv1
  have bv0 : 0 ≤ v0 ∧ v0 < 4294967296 := K1.bv0
  have bu1 : 0 ≤ u1 ∧ u1 < 4294967296 := K1.bu1
  have bu0 : 0 ≤ u0 ∧ u0 < 4294967296 := K0.bu1
  have st : ((s : Int)).toNat = s := Int.toNat_natCast s
  have st2 : ((64 : Int) - (s : Int)).toNat = 64 - s := by omega
  have hsum : Unit → hi * 2 ^ s % 18446744073709551616 + lo / 2 ^ (64 - s) < 18446744073709551616 := fun _ => by omega
  have N13 : Unit → _ := fun _ => n13
  have N14 : Unit → _ := fun _ => n14
  have N15 : Unit → _ := fun _ => n15
  have N2 : Unit → _ := fun _ => n2
  have N7 : Unit → _ := fun _ => n7
  have N6 : Unit → _ := fun _ => n6
  have FIN1 : Unit → _ := fun _ => fin1
  have FIN2 : Unit → _ := fun _ => fin2
  have N16 : Unit → _ := fun _ => n16
  have hs64 : (s : Int) ≤ 63 := by omega
  have I1 : Unit → _ := fun _ => i1
  have J1 : Unit → _ := fun _ => j1
  clear hq1 hr1 hq0 hr0 n0 n1 n2 n3 n6 n7 n12 n13 n14 n15 n16 fin1 fin2 i1 j1
  refine FC.intro (X := XX) tok Tryz.func142 rfl Tryz.ntmps142 (by rw [Tryz.results142]) (by kernel_rfl) rfl ?_; intro F hG hO
  rw [← hG] at f1
  repeat' ((try (conv => whnf)); first
  | ((with_reducible refine cg ?_); refine call_eq (f1) (LpL.refl _) rfl ?_)
  | (with_reducible refine or_g2 s (N13 ()) (N14 ()) (N15 ()) (N16 ()) (hsum ()) ?_; rw [N6 ()])
  | ((with_reducible refine shl_m (by omega) ?_); rw [st]; first | rw [N2 ()] | rw [N7 ()] | skip)
  | ((with_reducible refine shr_g (m := 4294967296) 32 rfl (by decide) (by omega) rfl ?_); first | rw [← hv1] | rw [← hu1])
  | ((with_reducible refine shr_p (by omega) (by dsimp only [IntKind.bits]; omega) ?_); first | rw [st2] | rw [st])
  | ((with_reducible refine mask_g (m := 4294967296) 32 rfl rfl (by decide) (by omega) ?_); first | rw [← hv0] | rw [← hu0])
  | ((with_reducible refine lg ?_); refine loop_g (A := Int × Int) (fun (p2, t2) => KnI v1 r1 q0 p2 t2 ∧ t2 < 4294967296) (fun (p2, t2) => p2.toNat) (fun (p2, t2) => [(2, .val (.int .u64 y)), (8, .val (.int .u64 (s : Int))), (9, .val (.int .u64 v1)), (10, .val (.int .u64 v0)), (14, .val (.int .u64 u0)), (15, .val (.int .u64 q1)), (16, .val (.int .u64 t2)), (17, .val (.int .u64 r1)), (18, .val (.int .u64 p2))]) (fun _ => []) (fun _ => []) (r1 / v1, r1 - r1 / v1 * v1) tok (fun _ => ⟨⟨trivial, trivial, trivial, trivial, trivial, trivial, trivial, trivial, trivial, trivial⟩, trivial, by simp only [List.length_nil]; omega⟩) ⟨J1 (), by omega⟩ ⟨rfl, rfl, rfl, rfl, rfl, iv_eq (by first | exact K1.stop hI (by omega) | exact K1.out (hnx () (by omega)) (by omega) (by have := hI.bp; omega)), rfl, rfl, rfl, trivial⟩ ⟨[], rfl⟩ ⟨[], rfl⟩ ?_; rintro ⟨p2, t2⟩ ⟨hJ, ht2⟩; have hJs := hJ.bs; have hJp := hJ.bp; have hpv2 : Unit → p2 < 4294967296 → 0 ≤ p2 * v0 ∧ p2 * v0 ≤ 18446744065119617025 := (fun _ h => mul_bd32 ⟨by omega, h⟩ bv0); have hnx2 : Unit → (4294967296 ≤ p2 ∨ 4294967296 * t2 + u0 < p2 * v0) → KnI v1 r1 q0 (p2 - 1) (t2 + v1) := (fun _ h => K0.next hJ h))
  | ((with_reducible refine lg ?_); refine loop_g (A := Int × Int) (fun (p, t) => KnI v1 un q1 p t ∧ t < 4294967296) (fun (p, t) => p.toNat) (fun (p, t) => [(2, .val (.int .u64 y)), (8, .val (.int .u64 (s : Int))), (9, .val (.int .u64 v1)), (10, .val (.int .u64 v0)), (11, .val (.int .u64 un)), (13, .val (.int .u64 u1)), (14, .val (.int .u64 u0)), (15, .val (.int .u64 p)), (16, .val (.int .u64 t))]) (fun _ => []) (fun _ => []) (un / v1, un - un / v1 * v1) tok (fun _ => ⟨⟨trivial, trivial, trivial, trivial, trivial, trivial, trivial, trivial, trivial, trivial⟩, trivial, by simp only [List.length_nil]; omega⟩) ⟨I1 (), by omega⟩ ⟨rfl, rfl, rfl, rfl, rfl, rfl, rfl, rfl, rfl, trivial⟩ ⟨[], rfl⟩ ⟨[], rfl⟩ ?_; rintro ⟨p, t⟩ ⟨hI, ht⟩; have hIs := hI.bs; have hIp := hI.bp; have hpv : Unit → p < 4294967296 → 0 ≤ p * v0 ∧ p * v0 ≤ 18446744065119617025 := (fun _ h => mul_bd32 ⟨by omega, h⟩ bv0); have hnx : Unit → (4294967296 ≤ p ∨ 4294967296 * t + u1 < p * v0) → KnI v1 un q1 (p - 1) (t + v1) := (fun _ h => K1.next hI h))
  | (with_reducible refine wrap_g (by have h := hpv2 () (by omega); dsimp only [inR]; omega) ?_)
  | (with_reducible refine wrap_g (by have h := hpv () (by omega); dsimp only [inR]; omega) ?_)
  | (with_reducible refine wrap_g (by have h := (hnx2 () (by omega)).bp; dsimp only [inR]; omega) ?_)
  | (with_reducible refine wrap_g (by have h := (hnx () (by omega)).bp; dsimp only [inR]; omega) ?_)
  | (with_reducible refine wrap_g (by dsimp only [inR]; omega) ?_)
  | (with_reducible refine wrap_e (m := q1 * 4294967296 + q0) (by rw [wrap64]; first | (have e := K0.stop hJ (by omega); rw [e]; omega) | (have e := K0.out (hnx2 () (by omega)) (by omega) (by have := hJ.bp; omega); rw [e]; omega)) ?_)
  | (with_reducible refine wrap_e (m := r0) (by rw [wrap64]; first | (have e := K0.stop hJ (by omega); rw [e]; (rw [K0.left]; have := K0.qr; omega)) | (have e := K0.out (hnx2 () (by omega)) (by omega) (by have := hJ.bp; omega); rw [e]; (rw [K0.left]; have := K0.qr; omega))) ?_)
  | (with_reducible refine wrap_e (m := r1) (by rw [wrap64]; first | (have e := K1.stop hI (by omega); rw [e]; (rw [K1.left]; have := K1.qr; omega)) | (have e := K1.out (hnx () (by omega)) (by omega) (by have := hI.bp; omega); rw [e]; (rw [K1.left]; have := K1.qr; omega))) ?_)
  | ((with_reducible refine wrap_r ?_); rw [wrap64])
  
  | (with_reducible refine draw_g (id := 6) [[0, 1, 2, 3, 4, 5, 6, 7]] tok mixed (by kernel_rfl) ?_)
  | (with_reducible refine Chk.mk' (by first | omega | exact trivial | (simp only [List.length_append, List.length_set, List.length_replicate, List.length_take, List.length_drop, List.length_cons, List.length_nil, List.length_map]; omega)) ?_)
  | (with_reducible refine wrap_g (by dsimp only [inR]; omega) ?_)
  | (with_reducible refine idx_g (by omega) ?_)
  | (with_reducible refine idx_l _ rfl (by decide) ?_)
  | (with_reducible refine BothG.mk ?_ ?_)
  | (with_reducible refine fork_tt ?_) | (with_reducible refine fork_ff ?_)
  | (with_reducible refine fork_e (c := true) (by decide) ?_; with_reducible refine fork_tt ?_) | (with_reducible refine fork_e (c := false) (by decide) ?_; with_reducible refine fork_ff ?_)
  | (with_reducible refine fork_t (by omega) ?_) | (with_reducible refine fork_f (by omega) ?_)
  | (with_reducible refine fork_d ?_ ?_ <;> intro hc)
  | (with_reducible refine fork_n ?_)
  | (with_reducible refine fork_b ?_ ?_ <;> intro hc)
  | (with_reducible refine SlcG.mk (by omega) ?_)
  | (with_reducible refine MakG.mk (by dsimp only; omega) ?_)
  | (with_reducible refine AppG.mk (by first | omega | (simp only [List.length_append, List.length_set, List.length_replicate, List.length_take, List.length_drop, List.length_cons, List.length_nil, List.length_map]; omega)) (by dsimp only [List.length_cons, List.length_nil]; omega) (by omega) ?_)
  | (with_reducible refine div_g (by omega) (by omega) (by dsimp only [inR]; omega) ?_)
  | (with_reducible refine mod_g (by omega) (by omega) ?_)
  | (with_reducible refine mask_g (m := 4294967296) 32 rfl rfl (by decide) (by omega) ?_)
  | (with_reducible refine shr_g (m := 4294967296) 32 rfl (by decide) (by omega) rfl ?_)
  | (with_reducible refine fz_all (by omega) ?_)
  | (with_reducible refine Stuck.h (A := RetE _ _) ?_) | (with_reducible refine Stuck.h (A := RetM _ _ _ _) ?_) | (with_reducible refine Stuck.h (A := Again _ _ _ _ _ _ _ _) ?_) | (with_reducible refine Stuck.h (A := CallF _ _ _ _ _ _ _) ?_) | (with_reducible refine Stuck.h (A := LoopG _ _ _ _ _ _ _ _) ?_) | (with_reducible refine Stuck.h (A := DrawG _ _ _ _ _ _ _ _) ?_)
  | (with_reducible refine Stuck.h (A := WrapG _ _ _) ?_) | (with_reducible refine Stuck.h (A := DivG _ _ _ _) ?_) | (with_reducible refine Stuck.h (A := ModG _ _ _) ?_) | (with_reducible refine Stuck.h (A := ShlG _ _ _ _) ?_) | (with_reducible refine Stuck.h (A := ShrG _ _ _ _) ?_) | (with_reducible refine Stuck.h (A := BitG _ _ _ _ _) ?_)
  | (with_reducible refine Stuck.h (A := IdxG _ _ _) ?_) | (with_reducible refine Stuck.h (A := IdxL _ _ _) ?_) | (with_reducible refine Stuck.h (A := SlcG _ _ _ _ _) ?_) | (with_reducible refine Stuck.h (A := MakG _ _ _ _) ?_) | (with_reducible refine Stuck.h (A := AppG _ _ _ _ _ _ _) ?_) | (with_reducible refine Stuck.h (A := FzG _ _ _ _) ?_)
  | (with_reducible refine Stuck.h (A := RawG _) ?_) | (with_reducible refine Stuck.h (A := TabG _ _ _ _ _) ?_) | (with_reducible refine Stuck.h (A := ExtF _ _ _ _) ?_) | (with_reducible refine Stuck.h (A := Chk _ _) ?_) | (with_reducible refine Stuck.h (A := False) ?_))
  · exact ⟨ret_e (tup2_eq (by rw [FIN1 (), hc]; simp) (by rw [FIN2 (), hc]; simp))⟩
  all_goals first
    | exact ⟨ret_e (tup2_eq (by first | rfl | (rw [K0.stop hJ (by omega)]) | (rw [K0.out (hnx2 () (by omega)) (by omega) (by have := hJ.bp; omega)])) rfl)⟩
    | exact ⟨again (p2 - 1, t2 + v1) ⟨hnx2 () (by omega), by omega⟩ (by have h := (hnx2 () (by omega)).bp; dsimp only; omega) ⟨rfl, rfl, rfl, rfl, rfl, rfl, rfl, rfl, rfl, trivial⟩ ⟨[], rfl⟩ ⟨[], rfl⟩⟩
    | exact ⟨again (p - 1, t + v1) ⟨hnx () (by omega), by omega⟩ (by have h := (hnx () (by omega)).bp; dsimp only; omega) ⟨rfl, rfl, rfl, rfl, rfl, rfl, rfl, rfl, rfl, trivial⟩ ⟨[], rfl⟩ ⟨[], rfl⟩⟩
end Go.Proofs.YtbeocnjlepcglaaGreatDoor.Sim
namespace Go.Proofs.YtbeocnjlepcglaaGreatDoor.Sim
open Go.RowKit
set_option linter.unusedVariables false
set_option linter.unusedSimpArgs false
set_option maxRecDepth 10000
set_option maxHeartbeats 8000000
variable {G : List (Nat × List Value)}
/-- Digits that a place takes off: by the rest that is carried and owed. -/
theorem take_round6 {x s v : List Int} {w c e d c2 e2 : Int} (h6 : okD 18446744073709551616 s) (hv : vl 18446744073709551616 s = vl 18446744073709551616 (x.take s.length) - w * vl 18446744073709551616 (v.take s.length) + 18446744073709551616 ^ s.length * (c + e)) (hd : 0 ≤ d ∧ d < 18446744073709551616) (hT : d = rd x s.length - (c + w * rd v s.length) + 18446744073709551616 * c2 - e + 18446744073709551616 * e2) :
    okD 18446744073709551616 (s ++ [d]) ∧ vl 18446744073709551616 (s ++ [d]) = vl 18446744073709551616 (x.take (s.length + 1)) - w * vl 18446744073709551616 (v.take (s.length + 1)) + 18446744073709551616 ^ (s.length + 1) * (c2 + e2) := by
  refine ⟨okD_append.2 ⟨h6, okD_cons.2 ⟨hd, okD_nil _⟩⟩, ?_⟩
  have h := sum_step (B := 18446744073709551616) (vs := 18446744073709551616 ^ s.length * (c + e)) (d := d) (c2 := -(c2 + e2)) (T := rd x s.length - (c + w * rd v s.length) - e) s.length (by omega)
  rw [vl_snoc, vl_take_step, vl_take_step, hv]
  have e1 : w * (vl 18446744073709551616 (v.take s.length) + 18446744073709551616 ^ s.length * rd v s.length) = w * vl 18446744073709551616 (v.take s.length) + 18446744073709551616 ^ s.length * (w * rd v s.length) := by rw [Int.mul_add, Int.mul_left_comm]
  have e2 : (18446744073709551616 : Int) ^ s.length * (rd x s.length - (c + w * rd v s.length) - e) = 18446744073709551616 ^ s.length * rd x s.length - 18446744073709551616 ^ s.length * (c + e) - 18446744073709551616 ^ s.length * (w * rd v s.length) := by
    rw [← Int.mul_sub, ← Int.mul_sub]; congr 1; omega
  rw [e2, Int.mul_neg] at h
  rw [e1]
  omega
theorem give_round6 {x s v : List Int} {c d c2 : Int} (h6 : okD 18446744073709551616 s) (hv : vl 18446744073709551616 s + 18446744073709551616 ^ s.length * c = vl 18446744073709551616 (x.take s.length) + vl 18446744073709551616 (v.take s.length)) (hd : 0 ≤ d ∧ d < 18446744073709551616) (hT : d + 18446744073709551616 * c2 = c + rd x s.length + rd v s.length) :
    okD 18446744073709551616 (s ++ [d]) ∧ vl 18446744073709551616 (s ++ [d]) + 18446744073709551616 ^ (s.length + 1) * c2 = vl 18446744073709551616 (x.take (s.length + 1)) + vl 18446744073709551616 (v.take (s.length + 1)) := by
  refine ⟨okD_append.2 ⟨h6, okD_cons.2 ⟨hd, okD_nil _⟩⟩, ?_⟩
  rw [vl_snoc, sum_step (T := c + rd x s.length + rd v s.length) s.length hT, vl_take_step, vl_take_step, Int.mul_add, Int.mul_add]
  omega
def DigI6 (x v : List Int) (w : Int) (s : List Int) (c e : Int) : Prop := s.length ≤ v.length + 1 ∧ okD 18446744073709551616 s ∧ (0 ≤ c ∧ c < 18446744073709551616) ∧ (0 ≤ e ∧ e ≤ 1) ∧ (s.length = v.length + 1 → c = 0) ∧ vl 18446744073709551616 s = vl 18446744073709551616 (x.take s.length) - w * vl 18446744073709551616 (v.take s.length) + 18446744073709551616 ^ s.length * (c + e)
theorem DigI6.step {x v s : List Int} {w c e d e2 T : Int} (h : DigI6 x v w s c e) (hlt : s.length ≤ v.length) (hw : 0 ≤ w ∧ w < 18446744073709551616) (okv : okD 18446744073709551616 v) (hT0 : T = c + w * rd v s.length) (hd : 0 ≤ d ∧ d < 18446744073709551616) (he2 : 0 ≤ e2 ∧ e2 ≤ 1) (hT : d = rd x s.length - T % 18446744073709551616 - e + 18446744073709551616 * e2) : DigI6 x v w (s ++ [d]) (T / 18446744073709551616) e2 := by
  obtain ⟨h1, h2, h3, h4, h5, h6⟩ := h
  have hv := rd_bd (by decide) okv (s.length : Int)
  have hm := mul_bd64 hw hv
  have el : (s ++ [d]).length = s.length + 1 := by simp
  obtain ⟨g1, g2⟩ := take_round6 (x := x) (v := v) (w := w) (c := c) (e := e) (d := d) (c2 := T / 18446744073709551616) (e2 := e2) h2 h6 hd (by omega)
  refine ⟨by omega, g1, by omega, he2, fun hl => ?_, by rw [el]; exact g2⟩
  have hs : s.length = v.length := by omega
  have hz := rd_out v s.length (by omega)
  rw [hz, Int.mul_zero, Int.add_zero] at hT0
  omega
def GivI6 (y v r : List Int) (c : Int) : Prop := r.length ≤ v.length + 1 ∧ okD 18446744073709551616 r ∧ (0 ≤ c ∧ c ≤ 1) ∧ vl 18446744073709551616 r + 18446744073709551616 ^ r.length * c = vl 18446744073709551616 (y.take r.length) + vl 18446744073709551616 (v.take r.length)
theorem GivI6.step {y v r : List Int} {c T : Int} (h : GivI6 y v r c) (hlt : r.length ≤ v.length) (oky : okD 18446744073709551616 y) (okv : okD 18446744073709551616 v) (hT : T = c + rd y r.length + rd v r.length) : GivI6 y v (r ++ [T % 18446744073709551616]) (T / 18446744073709551616) := by
  obtain ⟨h1, h2, h3, h4⟩ := h
  have hv := rd_bd (by decide) okv (r.length : Int)
  have hy := rd_bd (by decide) oky (r.length : Int)
  have el : (r ++ [T % 18446744073709551616]).length = r.length + 1 := by simp
  obtain ⟨g1, g2⟩ := give_round6 (x := y) (v := v) (c := c) (d := T % 18446744073709551616) (c2 := T / 18446744073709551616) h2 h4 (by omega) (by omega)
  exact ⟨by omega, g1, by omega, by rw [el]; exact g2⟩
/-- The first guess is not too small. -/
theorem guess_ge6 {x v : List Int} {V : Int} {m : Nat} (okx : okD 18446744073709551616 x) (okv : okD 18446744073709551616 v) (vv : vl 18446744073709551616 v = V) (hl : v.length = m + 1) (hx : m + 2 ≤ x.length) (hv : 0 < rd v m) (hU : vl 18446744073709551616 (x.take (m + 2)) < 18446744073709551616 * V) :
    vl 18446744073709551616 (x.take (m + 2)) / V ≤ min ((rd x ((m + 1 : Nat) : Int) * 18446744073709551616 + rd x m) / rd v m) 18446744073709551615 := by
  have hV : 0 < V := by
    have h1 := vl_split 18446744073709551616 v m (by omega)
    have h2 := vl_nonneg (B := 18446744073709551616) (by decide) (okv.take m)
    rw [drop_rd v m (by omega), vl, List.drop_eq_nil_of_le (by omega)] at h1
    simp only [vl] at h1
    have h3 : 0 < (18446744073709551616 : Int) ^ m := Int.pow_pos (by decide)
    have h4 := Int.mul_pos h3 hv
    rw [Int.mul_zero, Int.add_zero] at h1
    rw [← vv]
    omega
  have hU0 := vl_nonneg (B := 18446744073709551616) (by decide) (okx.take (m + 2))
  obtain ⟨q, hq⟩ : ∃ q, q = vl 18446744073709551616 (x.take (m + 2)) / V := ⟨_, rfl⟩
  have hd := Int.mul_ediv_add_emod (vl 18446744073709551616 (x.take (m + 2))) V
  have hm := Int.emod_nonneg (vl 18446744073709551616 (x.take (m + 2))) (show V ≠ 0 by omega)
  have hq0 : 0 ≤ q := by rw [hq]; exact Int.ediv_nonneg hU0 (by omega)
  rw [← hq] at hd ⊢
  have h1 : q ≤ 18446744073709551615 := by
    rcases Int.lt_or_le 18446744073709551615 q with h | h
    · exfalso
      have : V * 18446744073709551616 ≤ V * q := Int.mul_le_mul_of_nonneg_left (by omega) (by omega)
      omega
    · exact h
  have h2 : q ≤ (rd x ((m + 1 : Nat) : Int) * 18446744073709551616 + rd x m) / rd v m := by
    refine Int.le_ediv_of_mul_le hv ?_
    have hp : 0 < (18446744073709551616 : Int) ^ m := Int.pow_pos (by decide)
    have a1 : 18446744073709551616 ^ m * rd v m ≤ V := by
      have h1 := vl_split 18446744073709551616 v m (by omega)
      have h2 := vl_nonneg (B := 18446744073709551616) (by decide) (okv.take m)
      rw [drop_rd v m (by omega), vl, List.drop_eq_nil_of_le (by omega)] at h1
      simp only [vl] at h1
      rw [← vv]
      have : (18446744073709551616 : Int) ^ m * (rd v m + 18446744073709551616 * 0) = 18446744073709551616 ^ m * rd v m := by rw [Int.mul_zero, Int.add_zero]
      omega
    have a2 : vl 18446744073709551616 (x.take (m + 2)) < 18446744073709551616 ^ m * (rd x ((m + 1 : Nat) : Int) * 18446744073709551616 + rd x m + 1) := by
      have h1 := vl_take_step 18446744073709551616 x (m + 1)
      have h2 := vl_take_step 18446744073709551616 x m
      have h3 := vl_lt (B := 18446744073709551616) (by decide) (okx.take m)
      rw [List.length_take, Nat.min_eq_left (by omega)] at h3
      rw [h1, h2, Int.pow_succ]
      rw [Int.mul_add, Int.mul_add, Int.mul_one]
      have e1 : (18446744073709551616 : Int) ^ m * 18446744073709551616 * rd x ((m + 1 : Nat) : Int) = 18446744073709551616 ^ m * (rd x ((m + 1 : Nat) : Int) * 18446744073709551616) := by rw [Int.mul_assoc, Int.mul_comm 18446744073709551616]
      rw [e1]
      omega
    have a3 : q * (18446744073709551616 ^ m * rd v m) ≤ q * V := Int.mul_le_mul_of_nonneg_left a1 hq0
    have a4 : 18446744073709551616 ^ m * (q * rd v m) < 18446744073709551616 ^ m * (rd x ((m + 1 : Nat) : Int) * 18446744073709551616 + rd x m + 1) := by
      rw [Int.mul_left_comm]
      rw [Int.mul_comm V q] at hd
      omega
    have := Int.lt_of_mul_lt_mul_left a4 (Int.le_of_lt hp)
    omega
  omega
theorem ins_row1 {T : TypeId} {p s : List Int} {lo k : Nat} {w d : Int} (hk : k = lo + s.length) (hw : w = d) (h : lo + s.length < p.length) : (some (⟨1, T, .w .u64 ((ins p lo s).set k w)⟩ : Row)) = some ⟨1, T, .w .u64 (ins p lo (s ++ [d]))⟩ := by
  subst hk; subst hw; rw [ins_set _ h]
theorem ins_row {T : TypeId} {p s : List Int} {lo k : Nat} {w d : Int} (hk : k = lo + s.length) (hw : w = d) (h : lo + s.length < p.length) : ([some (⟨1, T, .w .u64 ((ins p lo s).set k w)⟩ : Row)] : List (Option Row)) = [some ⟨1, T, .w .u64 (ins p lo (s ++ [d]))⟩] ++ [] := by
  rw [ins_row1 hk hw h]; rfl
theorem d_trial (hi lo d : Int) (hd : 0 < d ∧ d < 18446744073709551616) (hh : 0 ≤ hi ∧ hi < 18446744073709551616) (hl : 0 ≤ lo ∧ lo < 18446744073709551616) : FC Tryz.prog G 143 [.val (.int .u64 hi), .val (.int .u64 lo), .val (.int .u64 d)] (· = .val (.int .u64 (min ((hi * 18446744073709551616 + lo) / d) 18446744073709551615))) := by
  by_cases hc : hi < d
  · have f1 := b_div (G := G) hi lo d hd ⟨hh.1, hc⟩ hl
    have hq : (hi * 18446744073709551616 + lo) / d < 18446744073709551616 := Int.ediv_lt_of_lt_mul (by omega) (by omega)
    obtain ⟨q, hq2⟩ : ∃ q, q = (hi * 18446744073709551616 + lo) / d := ⟨_, rfl⟩
    rw [← hq2] at f1 hq ⊢
    rw [show min q 18446744073709551615 = q by omega]
    refine FC.intro (X := XX) tok Tryz.func143 rfl Tryz.ntmps143 (by rw [Tryz.results143]) (by kernel_rfl) rfl ?_; intro F hG hO
    rw [← hG] at f1
    repeat' ((try (conv => whnf)); first
  | ((with_reducible refine cg ?_); refine call_eq (f1) (LpL.refl _) rfl ?_)
  
  | (with_reducible refine Chk.mk' (by first | omega | exact trivial | (simp only [List.length_append, List.length_set, List.length_replicate, List.length_take, List.length_drop, List.length_cons, List.length_nil, List.length_map]; omega)) ?_)
  | (with_reducible refine wrap_g (by dsimp only [inR]; omega) ?_)
  | (with_reducible refine idx_g (by omega) ?_)
  | (with_reducible refine idx_l _ rfl (by decide) ?_)
  | (with_reducible refine BothG.mk ?_ ?_)
  | (with_reducible refine fork_tt ?_) | (with_reducible refine fork_ff ?_)
  | (with_reducible refine fork_e (c := true) (by decide) ?_; with_reducible refine fork_tt ?_) | (with_reducible refine fork_e (c := false) (by decide) ?_; with_reducible refine fork_ff ?_)
  | (with_reducible refine fork_t (by omega) ?_) | (with_reducible refine fork_f (by omega) ?_)
  | (with_reducible refine fork_d ?_ ?_ <;> intro hc)
  | (with_reducible refine fork_n ?_)
  | (with_reducible refine fork_b ?_ ?_ <;> intro hc)
  | (with_reducible refine SlcG.mk (by omega) ?_)
  | (with_reducible refine MakG.mk (by dsimp only; omega) ?_)
  | (with_reducible refine AppG.mk (by first | omega | (simp only [List.length_append, List.length_set, List.length_replicate, List.length_take, List.length_drop, List.length_cons, List.length_nil, List.length_map]; omega)) (by dsimp only [List.length_cons, List.length_nil]; omega) (by omega) ?_)
  | (with_reducible refine div_g (by omega) (by omega) (by dsimp only [inR]; omega) ?_)
  | (with_reducible refine mod_g (by omega) (by omega) ?_)
  | (with_reducible refine mask_g (m := 4294967296) 32 rfl rfl (by decide) (by omega) ?_)
  | (with_reducible refine shr_g (m := 4294967296) 32 rfl (by decide) (by omega) rfl ?_)
  | (with_reducible refine fz_all (by omega) ?_)
  | (with_reducible refine Stuck.h (A := RetE _ _) ?_) | (with_reducible refine Stuck.h (A := RetM _ _ _ _) ?_) | (with_reducible refine Stuck.h (A := Again _ _ _ _ _ _ _ _) ?_) | (with_reducible refine Stuck.h (A := CallF _ _ _ _ _ _ _) ?_) | (with_reducible refine Stuck.h (A := LoopG _ _ _ _ _ _ _ _) ?_) | (with_reducible refine Stuck.h (A := DrawG _ _ _ _ _ _ _ _) ?_)
  | (with_reducible refine Stuck.h (A := WrapG _ _ _) ?_) | (with_reducible refine Stuck.h (A := DivG _ _ _ _) ?_) | (with_reducible refine Stuck.h (A := ModG _ _ _) ?_) | (with_reducible refine Stuck.h (A := ShlG _ _ _ _) ?_) | (with_reducible refine Stuck.h (A := ShrG _ _ _ _) ?_) | (with_reducible refine Stuck.h (A := BitG _ _ _ _ _) ?_)
  | (with_reducible refine Stuck.h (A := IdxG _ _ _) ?_) | (with_reducible refine Stuck.h (A := IdxL _ _ _) ?_) | (with_reducible refine Stuck.h (A := SlcG _ _ _ _ _) ?_) | (with_reducible refine Stuck.h (A := MakG _ _ _ _) ?_) | (with_reducible refine Stuck.h (A := AppG _ _ _ _ _ _ _) ?_) | (with_reducible refine Stuck.h (A := FzG _ _ _ _) ?_)
  | (with_reducible refine Stuck.h (A := RawG _) ?_) | (with_reducible refine Stuck.h (A := TabG _ _ _ _ _) ?_) | (with_reducible refine Stuck.h (A := ExtF _ _ _ _) ?_) | (with_reducible refine Stuck.h (A := Chk _ _) ?_) | (with_reducible refine Stuck.h (A := False) ?_))
    exact ⟨ret_e rfl⟩
  · have hq : 18446744073709551616 ≤ (hi * 18446744073709551616 + lo) / d := Int.le_ediv_of_mul_le hd.1 (by omega)
    obtain ⟨q, hq2⟩ : ∃ q, q = (hi * 18446744073709551616 + lo) / d := ⟨_, rfl⟩
    rw [← hq2] at hq ⊢
    rw [show min q 18446744073709551615 = 18446744073709551615 by omega]
    refine FC.intro (X := XX) tok Tryz.func143 rfl Tryz.ntmps143 (by rw [Tryz.results143]) (by kernel_rfl) rfl ?_; intro F hG hO
    repeat' ((try (conv => whnf)); first
  
  | (with_reducible refine Chk.mk' (by first | omega | exact trivial | (simp only [List.length_append, List.length_set, List.length_replicate, List.length_take, List.length_drop, List.length_cons, List.length_nil, List.length_map]; omega)) ?_)
  | (with_reducible refine wrap_g (by dsimp only [inR]; omega) ?_)
  | (with_reducible refine idx_g (by omega) ?_)
  | (with_reducible refine idx_l _ rfl (by decide) ?_)
  | (with_reducible refine BothG.mk ?_ ?_)
  | (with_reducible refine fork_tt ?_) | (with_reducible refine fork_ff ?_)
  | (with_reducible refine fork_e (c := true) (by decide) ?_; with_reducible refine fork_tt ?_) | (with_reducible refine fork_e (c := false) (by decide) ?_; with_reducible refine fork_ff ?_)
  | (with_reducible refine fork_t (by omega) ?_) | (with_reducible refine fork_f (by omega) ?_)
  | (with_reducible refine fork_d ?_ ?_ <;> intro hc)
  | (with_reducible refine fork_n ?_)
  | (with_reducible refine fork_b ?_ ?_ <;> intro hc)
  | (with_reducible refine SlcG.mk (by omega) ?_)
  | (with_reducible refine MakG.mk (by dsimp only; omega) ?_)
  | (with_reducible refine AppG.mk (by first | omega | (simp only [List.length_append, List.length_set, List.length_replicate, List.length_take, List.length_drop, List.length_cons, List.length_nil, List.length_map]; omega)) (by dsimp only [List.length_cons, List.length_nil]; omega) (by omega) ?_)
  | (with_reducible refine div_g (by omega) (by omega) (by dsimp only [inR]; omega) ?_)
  | (with_reducible refine mod_g (by omega) (by omega) ?_)
  | (with_reducible refine mask_g (m := 4294967296) 32 rfl rfl (by decide) (by omega) ?_)
  | (with_reducible refine shr_g (m := 4294967296) 32 rfl (by decide) (by omega) rfl ?_)
  | (with_reducible refine fz_all (by omega) ?_)
  | (with_reducible refine Stuck.h (A := RetE _ _) ?_) | (with_reducible refine Stuck.h (A := RetM _ _ _ _) ?_) | (with_reducible refine Stuck.h (A := Again _ _ _ _ _ _ _ _) ?_) | (with_reducible refine Stuck.h (A := CallF _ _ _ _ _ _ _) ?_) | (with_reducible refine Stuck.h (A := LoopG _ _ _ _ _ _ _ _) ?_) | (with_reducible refine Stuck.h (A := DrawG _ _ _ _ _ _ _ _) ?_)
  | (with_reducible refine Stuck.h (A := WrapG _ _ _) ?_) | (with_reducible refine Stuck.h (A := DivG _ _ _ _) ?_) | (with_reducible refine Stuck.h (A := ModG _ _ _) ?_) | (with_reducible refine Stuck.h (A := ShlG _ _ _ _) ?_) | (with_reducible refine Stuck.h (A := ShrG _ _ _ _) ?_) | (with_reducible refine Stuck.h (A := BitG _ _ _ _ _) ?_)
  | (with_reducible refine Stuck.h (A := IdxG _ _ _) ?_) | (with_reducible refine Stuck.h (A := IdxL _ _ _) ?_) | (with_reducible refine Stuck.h (A := SlcG _ _ _ _ _) ?_) | (with_reducible refine Stuck.h (A := MakG _ _ _ _) ?_) | (with_reducible refine Stuck.h (A := AppG _ _ _ _ _ _ _) ?_) | (with_reducible refine Stuck.h (A := FzG _ _ _ _) ?_)
  | (with_reducible refine Stuck.h (A := RawG _) ?_) | (with_reducible refine Stuck.h (A := TabG _ _ _ _ _) ?_) | (with_reducible refine Stuck.h (A := ExtF _ _ _ _) ?_) | (with_reducible refine Stuck.h (A := Chk _ _) ?_) | (with_reducible refine Stuck.h (A := False) ?_))
    exact ⟨ret_e rfl⟩
theorem d_takemul (p v : List Int) (lo n : Nat) (w : Int) (hvl : v.length = n) (hl : lo + n + 1 ≤ p.length) (hp : p.length ≤ 1073741824) (ok : okD 18446744073709551616 p) (okv : okD 18446744073709551616 v) (hw : 0 ≤ w ∧ w < 18446744073709551616) :
    PM Tryz.prog G 144 [.arr 0 lo (n + 1), .ws .u64 v, .val (.int .u64 w)] [⟨1, 44, .w .u64 p⟩] fun r rs => ∃ (e : Int) (s : List Int), r = .val (.int .u64 e) ∧ (0 ≤ e ∧ e ≤ 1) ∧ s.length = n + 1 ∧ okD 18446744073709551616 s ∧ vl 18446744073709551616 s = vl 18446744073709551616 ((p.drop lo).take (n + 1)) - w * vl 18446744073709551616 v + 18446744073709551616 ^ (n + 1) * e ∧ rs = [some ⟨1, 44, .w .u64 (ins p lo s)⟩] := by
  subst hvl
  obtain ⟨x, hx⟩ : ∃ x, x = p.drop lo := ⟨_, rfl⟩
  have okx : okD 18446744073709551616 x := by rw [hx]; exact ok.drop lo
  have hxl : v.length + 1 ≤ x.length := by rw [hx, List.length_drop]; omega
  rw [← hx]
  refine PM.intro (X := XX) tok Tryz.func144 rfl Tryz.ntmps144 (by rw [Tryz.results144]) (by kernel_rfl) rfl ?_; intro F hG hO; simp only [List.length_cons, List.length_nil, Nat.zero_add, Nat.reduceAdd] at hO
  repeat' ((try (conv => whnf)); first
  | (with_reducible refine sub64_g (by omega) (by omega) (by omega) ?_)
  | (with_reducible refine add64_g (by omega) (by omega) (by omega) ?_)
  | ((with_reducible refine cg ?_); refine call_eq (b_mul (rd v (s.length : Int)) w iv hw) (LpL.refl _) rfl ?_)
  | ((with_reducible refine lg ?_); refine loop_g (A := List Int × Int × Int) (fun (s, c, e) => DigI6 x v w s c e ∧ s.length ≤ v.length) (fun (s, c, e) => v.length - s.length) (fun (s, c, e) => [(0, .arr 0 lo (v.length + 1)), (1, .ws .u64 v), (2, .val (.int .u64 w)), (7, .val (.int .u64 c)), (8, .val (.int .u64 e)), (14, .val (.int .i64 (v.length : Int))), (15, .val (.int .i64 (s.length : Int)))]) (fun _ => []) (fun (s, c, e) => [some ⟨1, 44, .w .u64 (ins p lo s)⟩]) ([], 0, 0) tok (fun (s, c, e) => ⟨⟨Nat.one_pos, trivial, trivial, trivial, trivial, trivial, trivial, trivial⟩, trivial, by simp only [List.length_cons, List.length_nil]; omega⟩) ?_ ⟨rfl, rfl, rfl, rfl, rfl, rfl, rfl, trivial⟩ ⟨[], rfl⟩ ⟨[], (by dsimp only; rw [ins_nil]; rfl)⟩ ?_; rotate_left; rintro ⟨s, c, e⟩ ⟨hI, hs⟩; have iI2 := hI; obtain ⟨i1, i2, i3, i4, i5, i6⟩ := iI2; have ix := rd_bd (by decide) okx (s.length : Int); have iv := rd_bd (by decide) okv (s.length : Int); have im := mul_bd64 iv hw; have ig : (ins p lo s).getD (lo + (s.length : Int).toNat) 0 = rd x (s.length : Int) := (by rw [Int.toNat_natCast, ins_get (by omega), ← rd_drop, hx]); have il : (ins p lo s).length = p.length := ins_len (by omega); have ig2 : s.length = v.length → (ins p lo s).getD (lo + (v.length : Int).toNat) 0 = rd x (s.length : Int) := (fun h => by rw [← h]; exact ig))
  
  | (with_reducible refine Chk.mk' (by first | omega | exact trivial | (simp only [List.length_append, List.length_set, List.length_replicate, List.length_take, List.length_drop, List.length_cons, List.length_nil, List.length_map]; omega)) ?_)
  | (with_reducible refine wrap_g (by dsimp only [inR]; omega) ?_)
  | (with_reducible refine idx_g (by omega) ?_)
  | (with_reducible refine idx_l _ rfl (by decide) ?_)
  | (with_reducible refine BothG.mk ?_ ?_)
  | (with_reducible refine fork_tt ?_) | (with_reducible refine fork_ff ?_)
  | (with_reducible refine fork_e (c := true) (by decide) ?_; with_reducible refine fork_tt ?_) | (with_reducible refine fork_e (c := false) (by decide) ?_; with_reducible refine fork_ff ?_)
  | (with_reducible refine fork_t (by omega) ?_) | (with_reducible refine fork_f (by omega) ?_)
  | (with_reducible refine fork_d ?_ ?_ <;> intro hc)
  | (with_reducible refine fork_n ?_)
  | (with_reducible refine fork_b ?_ ?_ <;> intro hc)
  | (with_reducible refine SlcG.mk (by omega) ?_)
  | (with_reducible refine MakG.mk (by dsimp only; omega) ?_)
  | (with_reducible refine AppG.mk (by first | omega | (simp only [List.length_append, List.length_set, List.length_replicate, List.length_take, List.length_drop, List.length_cons, List.length_nil, List.length_map]; omega)) (by dsimp only [List.length_cons, List.length_nil]; omega) (by omega) ?_)
  | (with_reducible refine div_g (by omega) (by omega) (by dsimp only [inR]; omega) ?_)
  | (with_reducible refine mod_g (by omega) (by omega) ?_)
  | (with_reducible refine mask_g (m := 4294967296) 32 rfl rfl (by decide) (by omega) ?_)
  | (with_reducible refine shr_g (m := 4294967296) 32 rfl (by decide) (by omega) rfl ?_)
  | (with_reducible refine fz_all (by omega) ?_)
  | (with_reducible refine Stuck.h (A := RetE _ _) ?_) | (with_reducible refine Stuck.h (A := RetM _ _ _ _) ?_) | (with_reducible refine Stuck.h (A := Again _ _ _ _ _ _ _ _) ?_) | (with_reducible refine Stuck.h (A := CallF _ _ _ _ _ _ _) ?_) | (with_reducible refine Stuck.h (A := LoopG _ _ _ _ _ _ _ _) ?_) | (with_reducible refine Stuck.h (A := DrawG _ _ _ _ _ _ _ _) ?_)
  | (with_reducible refine Stuck.h (A := WrapG _ _ _) ?_) | (with_reducible refine Stuck.h (A := DivG _ _ _ _) ?_) | (with_reducible refine Stuck.h (A := ModG _ _ _) ?_) | (with_reducible refine Stuck.h (A := ShlG _ _ _ _) ?_) | (with_reducible refine Stuck.h (A := ShrG _ _ _ _) ?_) | (with_reducible refine Stuck.h (A := BitG _ _ _ _ _) ?_)
  | (with_reducible refine Stuck.h (A := IdxG _ _ _) ?_) | (with_reducible refine Stuck.h (A := IdxL _ _ _) ?_) | (with_reducible refine Stuck.h (A := SlcG _ _ _ _ _) ?_) | (with_reducible refine Stuck.h (A := MakG _ _ _ _) ?_) | (with_reducible refine Stuck.h (A := AppG _ _ _ _ _ _ _) ?_) | (with_reducible refine Stuck.h (A := FzG _ _ _ _) ?_)
  | (with_reducible refine Stuck.h (A := RawG _) ?_) | (with_reducible refine Stuck.h (A := TabG _ _ _ _ _) ?_) | (with_reducible refine Stuck.h (A := ExtF _ _ _ _) ?_) | (with_reducible refine Stuck.h (A := Chk _ _) ?_) | (with_reducible refine Stuck.h (A := False) ?_))
  · obtain ⟨T, hT⟩ : ∃ T : Int, T = c + w * rd v (s.length : Int) := ⟨_, rfl⟩
    have hP : rd v (s.length : Int) * w = w * rd v (s.length : Int) := Int.mul_comm _ _
    rw [hP] at im
    have hst := DigI6.step (d := (rd x (s.length : Int) - T % 18446744073709551616 - e) % 18446744073709551616) (e2 := -((rd x (s.length : Int) - T % 18446744073709551616 - e) / 18446744073709551616)) hI (by omega) hw okv hT (by omega) (by omega) (by omega)
    refine ⟨again (s ++ [(rd x (s.length : Int) - T % 18446744073709551616 - e) % 18446744073709551616], T / 18446744073709551616, -((rd x (s.length : Int) - T % 18446744073709551616 - e) / 18446744073709551616)) ⟨hst, by rw [len_snoc]; omega⟩ (by dsimp only; rw [len_snoc]; omega) ⟨rfl, rfl, rfl, iv_eq (by rw [hP]; omega), iv_eq (by rw [hP, ig]; omega), rfl, iv_eq (by rw [len_snoc]; omega), trivial⟩ ⟨[], rfl⟩ ⟨[], by dsimp only; exact ins_row (by omega) (by rw [hP, ig]; omega) (by omega)⟩⟩
  · have hsl : s.length = v.length := by omega
    have hz : rd v (s.length : Int) = 0 := rd_out v s.length (by omega)
    have hst := DigI6.step (T := c) (d := (rd x (s.length : Int) - c - e) % 18446744073709551616) (e2 := -((rd x (s.length : Int) - c - e) / 18446744073709551616)) hI (by omega) hw okv (by rw [hz]; omega) (by omega) (by omega) (by omega)
    obtain ⟨k1, k2, k3, k4, k5, k6⟩ := hst
    have kl := len_snoc s ((rd x (s.length : Int) - c - e) % 18446744073709551616)
    have kc : c / 18446744073709551616 = 0 := by omega
    rw [kl, List.take_of_length_le (l := v) (by omega), hsl, kc, Int.zero_add] at k6
    rw [hsl] at k2 k4 kl
    have ig3 := ig2 hsl
    rw [hsl] at ig3
    refine ⟨ret_m [0] _ [some ⟨1, 44, .w .u64 (ins p lo (s ++ [(rd x (v.length : Int) - c - e) % 18446744073709551616]))⟩] rfl rfl (by simp) (fun i h => one_row h) (congrArg (fun l => [some l]) (ins_row1 (by omega) (by rw [ig3]) (by omega))) ⟨_, _, iv_eq ?_, k4, by omega, k2, k6, rfl⟩⟩
    rw [ig3]
  · exact ⟨⟨Nat.zero_le _, okD_nil _, by decide, by decide, fun _ => rfl, by simp [vl]⟩, Nat.zero_le _⟩
end Go.Proofs.YtbeocnjlepcglaaGreatDoor.Sim
namespace Go.Proofs.YtbeocnjlepcglaaGreatDoor.Sim
open Go.RowKit
set_option linter.unusedVariables false
set_option linter.unusedSimpArgs false
set_option maxRecDepth 10000
set_option maxHeartbeats 8000000
variable {G : List (Nat × List Value)}
/-- What is left of a list is nought, if the list is below a power. -/
theorem tail_zero6 {l : List Int} {k : Nat} (ok : okD 18446744073709551616 l) (h : vl 18446744073709551616 l < 18446744073709551616 ^ k) : vl 18446744073709551616 (l.drop k) = 0 := by
  rcases Nat.lt_or_ge l.length k with h1 | h1
  · rw [List.drop_eq_nil_of_le (by omega)]; rfl
  · have h2 := vl_split 18446744073709551616 l k h1
    have h3 := vl_nonneg (B := 18446744073709551616) (by decide) (ok.take k)
    have h4 := vl_nonneg (B := 18446744073709551616) (by decide) (ok.drop k)
    have hp : 0 < (18446744073709551616 : Int) ^ k := Int.pow_pos (by decide)
    rcases Int.lt_or_le 0 (vl 18446744073709551616 (l.drop k)) with h5 | h5
    · have : 18446744073709551616 ^ k * 1 ≤ 18446744073709551616 ^ k * vl 18446744073709551616 (l.drop k) := Int.mul_le_mul_of_nonneg_left (by omega) (by omega)
      omega
    · omega
theorem div_step6 {u q s : List Int} {V X d : Int} {j n : Nat} (oku : okD 18446744073709551616 u) (hV : 0 < V) (hVn : V < 18446744073709551616 ^ n) (hj : j + n + 1 ≤ u.length) (hq : j < q.length) (hr : vl 18446744073709551616 (u.drop (j + 1)) < V)
    (hX : X = V * (18446744073709551616 ^ (j + 1) * vl 18446744073709551616 (q.drop (j + 1))) + vl 18446744073709551616 u) :
    vl 18446744073709551616 ((u.drop j).take (n + 1)) < 18446744073709551616 * V ∧ (s.length = n + 1 → vl 18446744073709551616 s = vl 18446744073709551616 ((u.drop j).take (n + 1)) % V → d = vl 18446744073709551616 ((u.drop j).take (n + 1)) / V →
      vl 18446744073709551616 ((ins u j s).drop j) < V ∧ X = V * (18446744073709551616 ^ j * vl 18446744073709551616 ((q.set j d).drop j)) + vl 18446744073709551616 (ins u j s)) := by
  have z1 := tail_zero6 (oku.drop (j + 1)) (Int.lt_trans hr hVn)
  rw [List.drop_drop] at z1
  have w1 := vl_split 18446744073709551616 (u.drop j) (n + 1) (by rw [List.length_drop]; omega)
  rw [List.drop_drop, show j + (n + 1) = j + 1 + n by omega, z1, Int.mul_zero, Int.add_zero] at w1
  have w2 := drop_rd u j (by omega)
  have bu := rd_bd (by decide) oku (j : Int)
  have w3 : vl 18446744073709551616 (u.drop j) = rd u j + 18446744073709551616 * vl 18446744073709551616 (u.drop (j + 1)) := by rw [w2]; rfl
  rw [← w1]
  refine ⟨by omega, fun hs hv hd => ?_⟩
  have hle : j + s.length ≤ u.length := by omega
  have i1 := ins_drop hle
  have i2 := ins_vl 18446744073709551616 hle
  rw [hs, show j + (n + 1) = j + 1 + n by omega, z1, Int.mul_zero, Int.add_zero] at i2
  have i3 := ins_mid hle
  have i4 := vl_split 18446744073709551616 ((ins u j s).drop j) s.length (by rw [List.length_drop, ins_len hle]; omega)
  rw [i3, List.drop_drop, i1, hs, show j + (n + 1) = j + 1 + n by omega, z1, Int.mul_zero, Int.add_zero] at i4
  have hm := Int.emod_lt_of_pos (vl 18446744073709551616 (u.drop j)) hV
  refine ⟨by rw [i4, hv]; exact hm, ?_⟩
  have e2 : (q.set j d).drop j = d :: q.drop (j + 1) := by
    rw [List.drop_eq_getElem_cons (by simp; omega)]
    simp
    exact List.drop_set_of_lt (by omega)
  have u1 := vl_split 18446744073709551616 u j (by omega)
  have hdm := Int.mul_ediv_add_emod (vl 18446744073709551616 (u.drop j)) V
  rw [e2, i2]
  simp only [vl]
  rw [hX, hv]
  rw [← hd] at hdm
  rw [u1]
  have e3 : V * ((18446744073709551616 : Int) ^ j * (d + 18446744073709551616 * vl 18446744073709551616 (q.drop (j + 1)))) = 18446744073709551616 ^ j * (V * d) + V * (18446744073709551616 ^ (j + 1) * vl 18446744073709551616 (q.drop (j + 1))) := by
    rw [Int.mul_add, Int.mul_add, Int.mul_left_comm V, Int.pow_succ, Int.mul_assoc]
  rw [e3]
  have e4 : (18446744073709551616 : Int) ^ j * vl 18446744073709551616 (u.drop j) = 18446744073709551616 ^ j * (V * d) + 18446744073709551616 ^ j * (vl 18446744073709551616 (u.drop j) % V) := by rw [← Int.mul_add, hdm]
  rw [e4]
  omega
theorem d_give (p v : List Int) (lo n : Nat) (hvl : v.length = n) (hl : lo + n + 1 ≤ p.length) (hp : p.length ≤ 1073741824) (ok : okD 18446744073709551616 p) (okv : okD 18446744073709551616 v) :
    PM Tryz.prog G 145 [.arr 0 lo (n + 1), .ws .u64 v] [⟨1, 44, .w .u64 p⟩] fun r rs => ∃ (c : Int) (s : List Int), r = .val (.int .u64 c) ∧ (0 ≤ c ∧ c ≤ 1) ∧ s.length = n + 1 ∧ okD 18446744073709551616 s ∧ vl 18446744073709551616 s + 18446744073709551616 ^ (n + 1) * c = vl 18446744073709551616 ((p.drop lo).take (n + 1)) + vl 18446744073709551616 v ∧ rs = [some ⟨1, 44, .w .u64 (ins p lo s)⟩] := by
  subst hvl
  obtain ⟨x, hx⟩ : ∃ x, x = p.drop lo := ⟨_, rfl⟩
  have okx : okD 18446744073709551616 x := by rw [hx]; exact ok.drop lo
  have hxl : v.length + 1 ≤ x.length := by rw [hx, List.length_drop]; omega
  rw [← hx]
  refine PM.intro (X := XX) tok Tryz.func145 rfl Tryz.ntmps145 (by rw [Tryz.results145]) (by kernel_rfl) rfl ?_; intro F hG hO; simp only [List.length_cons, List.length_nil, Nat.zero_add, Nat.reduceAdd] at hO
  repeat' ((try (conv => whnf)); first
  | (with_reducible refine add64_g (by omega) (by omega) (by omega) ?_)
  | ((with_reducible refine lg ?_); refine loop_g (A := List Int × Int) (fun (s, c) => GivI6 x v s c ∧ s.length ≤ v.length) (fun (s, c) => v.length - s.length) (fun (s, c) => [(0, .arr 0 lo (v.length + 1)), (1, .ws .u64 v), (5, .val (.int .u64 c)), (8, .val (.int .i64 (v.length : Int))), (9, .val (.int .i64 (s.length : Int)))]) (fun _ => []) (fun (s, c) => [some ⟨1, 44, .w .u64 (ins p lo s)⟩]) ([], 0) tok (fun (s, c) => ⟨⟨Nat.one_pos, trivial, trivial, trivial, trivial, trivial⟩, trivial, by simp only [List.length_cons, List.length_nil]; omega⟩) ?_ ⟨rfl, rfl, rfl, rfl, rfl, trivial⟩ ⟨[], rfl⟩ ⟨[], (by dsimp only; rw [ins_nil]; rfl)⟩ ?_; rotate_left; rintro ⟨s, c⟩ ⟨hI, hs⟩; have iI2 := hI; obtain ⟨i1, i2, i3, i4⟩ := iI2; have ix := rd_bd (by decide) okx (s.length : Int); have iv := rd_bd (by decide) okv (s.length : Int); have ig : (ins p lo s).getD (lo + (s.length : Int).toNat) 0 = rd x (s.length : Int) := (by rw [Int.toNat_natCast, ins_get (by omega), ← rd_drop, hx]); have il : (ins p lo s).length = p.length := ins_len (by omega); have iz := gd_bd (by decide) (ins_okD (lo := lo) ok i2) (lo + (v.length : Int).toNat); have ig2 : Unit → s.length = v.length → (ins p lo s).getD (lo + (v.length : Int).toNat) 0 = rd x (s.length : Int) := (fun _ h => by rw [← h]; exact ig))
  
  | (with_reducible refine draw_g (id := 5) [[], [0], [1], [2], [3], [6], [7], [10, 4, 5, 8, 9, 11], [12], [13], [14, 15], [16, 17]] tok mixed (by kernel_rfl) ?_)
  | (with_reducible refine Chk.mk' (by first | omega | exact trivial | (simp only [List.length_append, List.length_set, List.length_replicate, List.length_take, List.length_drop, List.length_cons, List.length_nil, List.length_map]; omega)) ?_)
  | (with_reducible refine wrap_g (by dsimp only [inR]; omega) ?_)
  | (with_reducible refine idx_g (by omega) ?_)
  | (with_reducible refine idx_l _ rfl (by decide) ?_)
  | (with_reducible refine BothG.mk ?_ ?_)
  | (with_reducible refine fork_tt ?_) | (with_reducible refine fork_ff ?_)
  | (with_reducible refine fork_e (c := true) (by decide) ?_; with_reducible refine fork_tt ?_) | (with_reducible refine fork_e (c := false) (by decide) ?_; with_reducible refine fork_ff ?_)
  | (with_reducible refine fork_t (by omega) ?_) | (with_reducible refine fork_f (by omega) ?_)
  | (with_reducible refine fork_d ?_ ?_ <;> intro hc)
  | (with_reducible refine fork_n ?_)
  | (with_reducible refine fork_b ?_ ?_ <;> intro hc)
  | (with_reducible refine SlcG.mk (by omega) ?_)
  | (with_reducible refine MakG.mk (by dsimp only; omega) ?_)
  | (with_reducible refine AppG.mk (by first | omega | (simp only [List.length_append, List.length_set, List.length_replicate, List.length_take, List.length_drop, List.length_cons, List.length_nil, List.length_map]; omega)) (by dsimp only [List.length_cons, List.length_nil]; omega) (by omega) ?_)
  | (with_reducible refine div_g (by omega) (by omega) (by dsimp only [inR]; omega) ?_)
  | (with_reducible refine mod_g (by omega) (by omega) ?_)
  | (with_reducible refine mask_g (m := 4294967296) 32 rfl rfl (by decide) (by omega) ?_)
  | (with_reducible refine shr_g (m := 4294967296) 32 rfl (by decide) (by omega) rfl ?_)
  | (with_reducible refine fz_all (by omega) ?_)
  | (with_reducible refine Stuck.h (A := RetE _ _) ?_) | (with_reducible refine Stuck.h (A := RetM _ _ _ _) ?_) | (with_reducible refine Stuck.h (A := Again _ _ _ _ _ _ _ _) ?_) | (with_reducible refine Stuck.h (A := CallF _ _ _ _ _ _ _) ?_) | (with_reducible refine Stuck.h (A := LoopG _ _ _ _ _ _ _ _) ?_) | (with_reducible refine Stuck.h (A := DrawG _ _ _ _ _ _ _ _) ?_)
  | (with_reducible refine Stuck.h (A := WrapG _ _ _) ?_) | (with_reducible refine Stuck.h (A := DivG _ _ _ _) ?_) | (with_reducible refine Stuck.h (A := ModG _ _ _) ?_) | (with_reducible refine Stuck.h (A := ShlG _ _ _ _) ?_) | (with_reducible refine Stuck.h (A := ShrG _ _ _ _) ?_) | (with_reducible refine Stuck.h (A := BitG _ _ _ _ _) ?_)
  | (with_reducible refine Stuck.h (A := IdxG _ _ _) ?_) | (with_reducible refine Stuck.h (A := IdxL _ _ _) ?_) | (with_reducible refine Stuck.h (A := SlcG _ _ _ _ _) ?_) | (with_reducible refine Stuck.h (A := MakG _ _ _ _) ?_) | (with_reducible refine Stuck.h (A := AppG _ _ _ _ _ _ _) ?_) | (with_reducible refine Stuck.h (A := FzG _ _ _ _) ?_)
  | (with_reducible refine Stuck.h (A := RawG _) ?_) | (with_reducible refine Stuck.h (A := TabG _ _ _ _ _) ?_) | (with_reducible refine Stuck.h (A := ExtF _ _ _ _) ?_) | (with_reducible refine Stuck.h (A := Chk _ _) ?_) | (with_reducible refine Stuck.h (A := False) ?_))
  · have hst := GivI6.step (T := c + rd x (s.length : Int) + rd v (s.length : Int)) hI (by omega) okx okv rfl
    refine ⟨again (s ++ [(c + rd x (s.length : Int) + rd v (s.length : Int)) % 18446744073709551616], (c + rd x (s.length : Int) + rd v (s.length : Int)) / 18446744073709551616) ⟨hst, by rw [len_snoc]; omega⟩ (by dsimp only; rw [len_snoc]; omega) ⟨rfl, rfl, iv_eq (by rw [ig]; omega), rfl, iv_eq (by rw [len_snoc]; omega), trivial⟩ ⟨[], rfl⟩ ⟨[], by dsimp only; exact ins_row (by omega) (by rw [ig]; omega) (by omega)⟩⟩
  · have hsl : s.length = v.length := by omega
    have hz : rd v (s.length : Int) = 0 := rd_out v s.length (by omega)
    have hst := GivI6.step (T := c + rd x (s.length : Int)) hI (by omega) okx okv (by rw [hz]; omega)
    obtain ⟨k1, k2, k3, k4⟩ := hst
    have kl := len_snoc s ((c + rd x (s.length : Int)) % 18446744073709551616)
    rw [kl, List.take_of_length_le (l := v) (by omega), hsl] at k4
    rw [hsl] at k2 k3 kl
    have ig3 := ig2 () hsl
    rw [hsl] at ig3
    refine ⟨ret_m [0] _ [some ⟨1, 44, .w .u64 (ins p lo (s ++ [(c + rd x (v.length : Int)) % 18446744073709551616]))⟩] rfl rfl (by simp) (fun i h => one_row h) (congrArg (fun l => [some l]) (ins_row1 (by omega) (by rw [ig3]; omega) (by omega))) ⟨_, _, iv_eq ?_, k3, by omega, k2, k4, rfl⟩⟩
    rw [ig3]
    omega
  · exact ⟨⟨Nat.zero_le _, okD_nil _, by decide, by simp [vl]⟩, Nat.zero_le _⟩
end Go.Proofs.YtbeocnjlepcglaaGreatDoor.Sim
namespace Go.Proofs.YtbeocnjlepcglaaGreatDoor.Sim
open Go.RowKit
set_option linter.unusedVariables false
set_option linter.unusedSimpArgs false
set_option maxRecDepth 10000
set_option maxHeartbeats 8000000
variable {G : List (Nat × List Value)}
def DivJ (X V : Int) (L n : Nat) (u q : List Int) (m : Nat) : Prop := u.length = L + n ∧ okD 18446744073709551616 u ∧ q.length = L ∧ okD 18446744073709551616 q ∧ m ≤ L ∧ vl 18446744073709551616 (u.drop m) < V ∧ X = V * (18446744073709551616 ^ m * vl 18446744073709551616 (q.drop m)) + vl 18446744073709551616 u
theorem DivJ.step {X V : Int} {L n : Nat} {u q : List Int} {m : Nat} (h : DivJ X V L n u q m) (hV : 0 < V) (hVn : V < 18446744073709551616 ^ n) (hm : 0 < m) :
    vl 18446744073709551616 ((u.drop (m - 1)).take (n + 1)) < 18446744073709551616 * V ∧ ∀ w d, okD 18446744073709551616 w → w.length = n + 1 → vl 18446744073709551616 w = vl 18446744073709551616 ((u.drop (m - 1)).take (n + 1)) % V → d = vl 18446744073709551616 ((u.drop (m - 1)).take (n + 1)) / V → DivJ X V L n (ins u (m - 1) w) (q.set (m - 1) d) (m - 1) := by
  obtain ⟨i1, i2, i3, i4, i5, i6, i7⟩ := h
  have e : m - 1 + 1 = m := by omega
  have hst := fun w d => div_step6 (X := X) (V := V) (s := w) (d := d) (j := m - 1) (n := n) (u := u) (q := q) i2 hV hVn (by omega) (by omega) (by rw [e]; exact i6) (by rw [e]; exact i7)
  have h1 := (hst [] 0).1
  refine ⟨h1, fun w d k1 k2 k3 k4 => ?_⟩
  obtain ⟨g1, g2⟩ := (hst w d).2 k2 k3 k4
  have hu := i2.drop (m - 1) |>.take (n + 1)
  have hd : 0 ≤ d ∧ d < 18446744073709551616 := by
    rw [k4]
    have := vl_nonneg (B := 18446744073709551616) (by decide) hu
    exact ⟨Int.ediv_nonneg this (Int.le_of_lt hV), Int.ediv_lt_of_lt_mul hV h1⟩
  exact ⟨by rw [ins_len (by omega), i1], ins_okD i2 k1, by rw [List.length_set, i3], okD_set i4 hd, by omega, g1, g2⟩
theorem DivJ.done {X V : Int} {L n : Nat} {u q : List Int} (h : DivJ X V L n u q 0) (hV : 0 < V) (hVn : V < 18446744073709551616 ^ n) : vl 18446744073709551616 q = X / V ∧ vl 18446744073709551616 (u.take n) = X % V := by
  obtain ⟨i1, i2, i3, i4, i5, i6, i7⟩ := h
  rw [List.drop_zero] at i6 i7
  rw [Int.pow_zero, Int.one_mul] at i7
  have z := tail_zero6 (k := n) i2 (Int.lt_trans i6 hVn)
  have w := vl_split 18446744073709551616 u n (by omega)
  rw [z, Int.mul_zero, Int.add_zero] at w
  rw [← w]
  have h0 := vl_nonneg (B := 18446744073709551616) (by decide) i2
  rw [i7, Int.add_comm]
  constructor
  · rw [Int.add_mul_ediv_left _ _ (by omega), Int.ediv_eq_zero_of_lt h0 i6, Int.zero_add]
  · rw [Int.add_mul_emod_self_left, Int.emod_eq_of_lt h0 i6]
theorem DivJ.init {V : Int} {L n : Nat} {u : List Int} (h1 : u.length = L + n) (ok : okD 18446744073709551616 u) (h2 : vl 18446744073709551616 (u.drop L) < V) : DivJ (vl 18446744073709551616 u) V L n u (List.replicate L 0) L := by
  refine ⟨h1, ok, by simp, fun x hx => by rw [List.eq_of_mem_replicate hx]; decide, Nat.le_refl _, h2, ?_⟩
  rw [List.drop_eq_nil_of_le (by simp)]
  simp only [vl]
  rw [Int.mul_zero, Int.mul_zero, Int.zero_add]
theorem arr_eq {q a b a' b' : Nat} (h1 : a = a') (h2 : b = b') : PV.arr q a b = PV.arr q a' b' := by rw [h1, h2]
theorem d_guess {u v : List Int} {j m : Nat} {V : Int} (hi lo d : Int) (okx : okD 18446744073709551616 u) (okv : okD 18446744073709551616 v) (vv : vl 18446744073709551616 v = V) (hl : v.length = m + 1) (hx : j + m + 2 ≤ u.length) (ht : 0 < rd v m) (hU : vl 18446744073709551616 ((u.drop j).take (m + 2)) < 18446744073709551616 * V) (e1 : hi = u.getD (j + m + 1) 0) (e2 : lo = u.getD (j + m) 0) (e3 : d = rd v m) :
    FC Tryz.prog G 143 [.val (.int .u64 hi), .val (.int .u64 lo), .val (.int .u64 d)] fun r => ∃ w : Int, r = .val (.int .u64 w) ∧ (0 ≤ w ∧ w < 18446744073709551616) ∧ vl 18446744073709551616 ((u.drop j).take (m + 2)) / V ≤ w := by
  have b1 := gd_bd (by decide) okx (j + m + 1)
  have b2 := gd_bd (by decide) okx (j + m)
  have b3 := rd_bd (by decide) okv (m : Int)
  have hg := guess_ge6 (m := m) (okx.drop j) okv vv hl (by rw [List.length_drop]; omega) ht hU
  rw [rd_drop, rd_drop, show j + (m + 1) = j + m + 1 by omega, ← gd_rd, ← gd_rd, ← e1, ← e2, ← e3] at hg
  rw [← e1] at b1
  rw [← e2] at b2
  rw [← e3] at b3 ht
  have f1 := d_trial (G := G) hi lo d ⟨ht, b3.2⟩ b1 b2
  refine f1.mono fun r h => ⟨_, h, ?_, hg⟩
  have : 0 ≤ (hi * 18446744073709551616 + lo) / d := Int.ediv_nonneg (by omega) (by omega)
  omega
theorem d_long (u v : List Int) (L m : Nat) (V : Int) (hvl : v.length = m + 1) (hu : u.length = L + (m + 1)) (hL : 0 < L) (hp : u.length ≤ 1073741824) (ok : okD 18446744073709551616 u) (okv : okD 18446744073709551616 v) (vv : vl 18446744073709551616 v = V) (ht : 0 < rd v m) (hr : vl 18446744073709551616 (u.drop L) < V) :
    PM Tryz.prog G 117 [.arr 0 0 (L + (m + 1)), .ws .u64 v] [⟨1, 44, .w .u64 u⟩] fun r rs => r = .arr 1 0 L ∧ ∃ u2 q : List Int, u2.length = L + (m + 1) ∧ okD 18446744073709551616 u2 ∧ q.length = L ∧ okD 18446744073709551616 q ∧ vl 18446744073709551616 q = vl 18446744073709551616 u / V ∧ vl 18446744073709551616 (u2.take (m + 1)) = vl 18446744073709551616 u % V ∧ rs = [some ⟨1, 44, .w .u64 u2⟩, some ⟨1, 44, .w .u64 q⟩] := by
  have hVn : V < 18446744073709551616 ^ (m + 1) := by
    have := vl_lt (B := 18446744073709551616) (by decide) okv
    rw [hvl, vv] at this
    exact this
  have hV : 0 < V := by
    have h1 := vl_split 18446744073709551616 v m (by omega)
    have h2 := vl_nonneg (B := 18446744073709551616) (by decide) (okv.take m)
    rw [drop_rd v m (by omega), vl, List.drop_eq_nil_of_le (by omega)] at h1
    simp only [vl] at h1
    have h3 : 0 < (18446744073709551616 : Int) ^ m := Int.pow_pos (by decide)
    have h4 := Int.mul_pos h3 ht
    rw [Int.mul_zero, Int.add_zero] at h1
    rw [← vv]
    omega
  have hini := DivJ.init (V := V) (n := m + 1) hu ok hr
  obtain ⟨X, hX⟩ : ∃ X, X = vl 18446744073709551616 u := ⟨_, rfl⟩
  rw [← hX] at hini ⊢
  have hP : (18446744073709551616 : Int) ^ (m + 2) = 18446744073709551616 ^ (m + 1 + 1) := rfl
  refine PM.intro (X := XX) tok Tryz.func117 rfl Tryz.ntmps117 (by rw [Tryz.results117]) (by kernel_rfl) rfl ?_; intro F hG hO; simp only [List.length_cons, List.length_nil, Nat.zero_add, Nat.reduceAdd] at hO
  repeat' ((try (conv => whnf)); first
  | ((with_reducible refine lg ?_); refine loop_g (A := List Int × Int) (fun (s2, w2) => s2.length = m + 2 ∧ okD 18446744073709551616 s2 ∧ (qq + 1 ≤ w2 ∧ w2 < 18446744073709551616) ∧ vl 18446744073709551616 s2 = U - w2 * V + 18446744073709551616 ^ (m + 2)) (fun (s2, w2) => w2.toNat) (fun (s2, w2) => [(0, .arr 0 0 (L + (m + 1))), (1, .ws .u64 v), (5, .val (.int .i64 ((m + 1 : Nat) : Int))), (6, .arr 1 0 L), (7, .val (.int .i64 ((k : Int) - 1))), (8, .val (.int .u64 w2)), (9, .arr 0 (k - 1) (m + 2))]) (fun _ => []) (fun (s2, w2) => [some ⟨1, 44, .w .u64 (ins p (k - 1) s2)⟩, some ⟨1, 44, .w .u64 q⟩]) (s, w) tok (fun (s2, w2) => ⟨⟨Nat.zero_lt_succ _, trivial, trivial, Nat.lt_succ_self 1, trivial, trivial, Nat.zero_lt_succ _, trivial⟩, trivial, by simp only [List.length_cons, List.length_nil]; omega⟩) ?_ ⟨rfl, rfl, iv_eq (by omega), rfl, rfl, rfl, arr_eq (by omega) (by omega), trivial⟩ ⟨[], rfl⟩ ⟨[], rfl⟩ ?_; rotate_left; rintro ⟨s2, w2⟩ ⟨j1, j2, j3, j4⟩)
  | ((with_reducible refine lg ?_); refine loop_g (A := List Int × List Int × Nat) (fun (p, q, k) => DivJ X V L (m + 1) p q k) (fun (p, q, k) => k) (fun (p, q, k) => [(0, .arr 0 0 (L + (m + 1))), (1, .ws .u64 v), (5, .val (.int .i64 ((m + 1 : Nat) : Int))), (6, .arr 1 0 L), (7, .val (.int .i64 ((k : Int) - 1)))]) (fun _ => []) (fun (p, q, k) => [some ⟨1, 44, .w .u64 p⟩, some ⟨1, 44, .w .u64 q⟩]) (u, List.replicate L 0, L) tok (fun (p, q, k) => ⟨⟨Nat.zero_lt_succ _, trivial, trivial, Nat.lt_succ_self 1, trivial, trivial⟩, trivial, by simp only [List.length_cons, List.length_nil]; omega⟩) ?_ ⟨rfl, rfl, iv_eq (by omega), arr_eq rfl (by omega), iv_eq (by omega), trivial⟩ ⟨[], rfl⟩ ⟨[], (by rw [show (((L + (m + 1) : Nat) : Int) - (v.length : Int)).toNat = L by omega]; rfl)⟩ ?_; rotate_left; rintro ⟨p, q, k⟩ hI; have hI2 := hI; obtain ⟨i1, i2, i3, i4, i5, i6, i7⟩ := hI2)
  | ((with_reducible refine cg ?_); have hst := hI.step hV hVn (by omega); refine call_pc (d_guess (u := p) (v := v) (j := k - 1) (m := m) _ _ _ i2 okv vv hvl (by omega) ht hst.1 (by congr 1; omega) (by congr 1; omega) (by congr 1; omega)) rfl ?_; rintro _ ⟨w, rfl, hw, hge⟩; obtain ⟨U, hU⟩ : ∃ U, U = vl 18446744073709551616 ((p.drop (k - 1)).take (m + 2)) := ⟨_, rfl⟩; obtain ⟨qq, hqq⟩ : ∃ qq, qq = U / V := ⟨_, rfl⟩; rw [← hU, ← hqq] at hge; have hst1 := hst.1; have hst2 := hst.2; rw [← hU] at hst1; rw [← hU, ← hqq] at hst2; have hqq0 : 0 ≤ qq := (by rw [hqq, hU]; exact Int.ediv_nonneg (vl_nonneg (by decide) ((i2.drop _).take _)) (by omega)))
  | ((with_reducible refine cg ?_); rw [show 0 + ((k : Int) - 1).toNat = k - 1 by omega]; (first | rw [show ((k : Int) - 1 + ((m + 1 : Nat) : Int) + 1).toNat - ((k : Int) - 1).toNat = m + 2 by omega] | skip); refine call_pm [0] (d_takemul p v (k - 1) (m + 1) w hvl (by omega) (by omega) i2 okv hw) rfl rfl rfl (by simp) ?_; rintro r rs ⟨e, s, rfl, he, hs, oks, vs, rfl⟩; rw [vv, ← hU] at vs; have je := dig_end hV hqq hge ⟨vl_nonneg (B := 18446744073709551616) (by decide) oks, (by have := vl_lt (B := 18446744073709551616) (by decide) oks; rw [hs] at this; exact this)⟩ vs he)
  | ((with_reducible refine cg ?_); refine call_pm [0] (d_give (ins p (k - 1) s2) v (k - 1) (m + 1) hvl (by rw [ins_len (by omega)]; omega) (by rw [ins_len (by omega)]; omega) (ins_okD i2 j2) okv) rfl rfl rfl (by simp) ?_; rintro r rs ⟨c, s3, rfl, hc3, hs3, oks3, vs3, rfl⟩; have hmid := ins_mid (p := p) (s := s2) (lo := k - 1) (by omega); rw [j1] at hmid; rw [hmid, vv, j4, hP] at vs3; rw [ins_ins (by omega) (by omega)])
  
  | (with_reducible refine draw_g (id := 6) [[0, 1, 2, 3, 4, 5, 6, 7, 8, 9, 10, 11, 12, 13, 14, 15, 16, 17, 18, 19]] tok mixed (by kernel_rfl) ?_)
  | (with_reducible refine Chk.mk' (by first | omega | exact trivial | (simp only [List.length_append, List.length_set, List.length_replicate, List.length_take, List.length_drop, List.length_cons, List.length_nil, List.length_map]; omega)) ?_)
  | (with_reducible refine wrap_g (by dsimp only [inR]; omega) ?_)
  | (with_reducible refine idx_g (by omega) ?_)
  | (with_reducible refine idx_l _ rfl (by decide) ?_)
  | (with_reducible refine BothG.mk ?_ ?_)
  | (with_reducible refine fork_tt ?_) | (with_reducible refine fork_ff ?_)
  | (with_reducible refine fork_e (c := true) (by decide) ?_; with_reducible refine fork_tt ?_) | (with_reducible refine fork_e (c := false) (by decide) ?_; with_reducible refine fork_ff ?_)
  | (with_reducible refine fork_t (by omega) ?_) | (with_reducible refine fork_f (by omega) ?_)
  | (with_reducible refine fork_d ?_ ?_ <;> intro hc)
  | (with_reducible refine fork_n ?_)
  | (with_reducible refine fork_b ?_ ?_ <;> intro hc)
  | (with_reducible refine SlcG.mk (by omega) ?_)
  | (with_reducible refine MakG.mk (by dsimp only; omega) ?_)
  | (with_reducible refine AppG.mk (by first | omega | (simp only [List.length_append, List.length_set, List.length_replicate, List.length_take, List.length_drop, List.length_cons, List.length_nil, List.length_map]; omega)) (by dsimp only [List.length_cons, List.length_nil]; omega) (by omega) ?_)
  | (with_reducible refine div_g (by omega) (by omega) (by dsimp only [inR]; omega) ?_)
  | (with_reducible refine mod_g (by omega) (by omega) ?_)
  | (with_reducible refine mask_g (m := 4294967296) 32 rfl rfl (by decide) (by omega) ?_)
  | (with_reducible refine shr_g (m := 4294967296) 32 rfl (by decide) (by omega) rfl ?_)
  | (with_reducible refine fz_all (by omega) ?_)
  | (with_reducible refine Stuck.h (A := RetE _ _) ?_) | (with_reducible refine Stuck.h (A := RetM _ _ _ _) ?_) | (with_reducible refine Stuck.h (A := Again _ _ _ _ _ _ _ _) ?_) | (with_reducible refine Stuck.h (A := CallF _ _ _ _ _ _ _) ?_) | (with_reducible refine Stuck.h (A := LoopG _ _ _ _ _ _ _ _) ?_) | (with_reducible refine Stuck.h (A := DrawG _ _ _ _ _ _ _ _) ?_)
  | (with_reducible refine Stuck.h (A := WrapG _ _ _) ?_) | (with_reducible refine Stuck.h (A := DivG _ _ _ _) ?_) | (with_reducible refine Stuck.h (A := ModG _ _ _) ?_) | (with_reducible refine Stuck.h (A := ShlG _ _ _ _) ?_) | (with_reducible refine Stuck.h (A := ShrG _ _ _ _) ?_) | (with_reducible refine Stuck.h (A := BitG _ _ _ _ _) ?_)
  | (with_reducible refine Stuck.h (A := IdxG _ _ _) ?_) | (with_reducible refine Stuck.h (A := IdxL _ _ _) ?_) | (with_reducible refine Stuck.h (A := SlcG _ _ _ _ _) ?_) | (with_reducible refine Stuck.h (A := MakG _ _ _ _) ?_) | (with_reducible refine Stuck.h (A := AppG _ _ _ _ _ _ _) ?_) | (with_reducible refine Stuck.h (A := FzG _ _ _ _) ?_)
  | (with_reducible refine Stuck.h (A := RawG _) ?_) | (with_reducible refine Stuck.h (A := TabG _ _ _ _ _) ?_) | (with_reducible refine Stuck.h (A := ExtF _ _ _ _) ?_) | (with_reducible refine Stuck.h (A := Chk _ _) ?_) | (with_reducible refine Stuck.h (A := False) ?_))
  · obtain ⟨f1, f2⟩ := je.1 (by omega)
    refine ⟨again (ins p (k - 1) s, q.set (k - 1) w, k - 1) (hst2 s w oks hs f2 f1) (by dsimp only; omega) ⟨rfl, rfl, rfl, rfl, iv_eq (by omega), trivial⟩ ⟨[], rfl⟩ ⟨[], ?_⟩⟩
    dsimp only
    rw [show 0 + ((k : Int) - 1).toNat = k - 1 by omega]; rfl
  · have hb3 := vl_lt (B := 18446744073709551616) (by decide) oks3
    have hb4 := vl_nonneg (B := 18446744073709551616) (by decide) oks3
    rw [hs3] at hb3
    rw [hc, Int.mul_one] at vs3
    obtain ⟨f1, f2⟩ := (dig_end (w := w2 - 1) (e := 0) hV hqq (by omega) ⟨hb4, hb3⟩ (by rw [Int.sub_mul, Int.one_mul, Int.mul_zero]; omega) (by decide)).1 rfl
    refine ⟨again (ins p (k - 1) s3, q.set (k - 1) (w2 - 1), k - 1) (hst2 s3 (w2 - 1) oks3 hs3 f2 f1) (by dsimp only; omega) ⟨rfl, rfl, rfl, rfl, iv_eq (by omega), trivial⟩ ⟨[], rfl⟩ ⟨[], ?_⟩⟩
    dsimp only
    rw [show 0 + ((k : Int) - 1).toNat = k - 1 by omega]; rfl
  · have hb3 := vl_lt (B := 18446744073709551616) (by decide) oks3
    have hb4 := vl_nonneg (B := 18446744073709551616) (by decide) oks3
    rw [hs3] at hb3
    rw [show c = 0 by omega, Int.mul_zero, Int.add_zero] at vs3
    have vs4 : vl 18446744073709551616 s3 = U - (w2 - 1) * V + 18446744073709551616 ^ (m + 1 + 1) := by
      rw [Int.sub_mul, Int.one_mul]; omega
    have f1 := (dig_end (w := w2 - 1) (e := 1) hV hqq (by omega) ⟨hb4, hb3⟩ (by rw [Int.mul_one]; exact vs4) (by decide)).2 (by decide)
    refine ⟨again (s3, w2 - 1) ⟨hs3, oks3, ⟨f1, by omega⟩, hP ▸ vs4⟩ (by dsimp only; omega) ⟨rfl, rfl, rfl, rfl, rfl, rfl, rfl, trivial⟩ ⟨[], rfl⟩ ⟨[], rfl⟩⟩
  · refine ⟨hs, oks, ⟨je.2 (by omega), hw.2⟩, ?_⟩
    rw [vs, show e = 1 by omega, Int.mul_one]
  · obtain rfl : k = 0 := by omega
    have hdn := hI.done hV hVn
    refine ⟨ret_m [0, 1] (.arr 1 0 L) [some ⟨1, 44, .w .u64 p⟩, some ⟨1, 44, .w .u64 q⟩] rfl rfl (by simp) (fun i h => ?_) rfl ⟨rfl, p, q, i1, i2, i3, i4, hdn.1, hdn.2, rfl⟩⟩
    have : i = 0 := by simp at h; omega
    subst this; rfl
  · exact hini
end Go.Proofs.YtbeocnjlepcglaaGreatDoor.Sim
namespace Go.Proofs.YtbeocnjlepcglaaGreatDoor.Sim
open Go.RowKit
set_option linter.unusedVariables false
set_option linter.unusedSimpArgs false
inductive Tq where
  | fin
  | take (i : Nat) (t : Tq)
  | one (i : Nat) (t : Tq)
  | two (i : Nat) (a : Tq) (j : Nat) (b : Tq)
def Tq.size : Tq → Nat
  | .fin => 0
  | .take _ t => t.size + 1
  | .one _ t => t.size + 1
  | .two _ a _ b => max a.size b.size + 1
section
variable {P : Program} {F : Fr} {TT : List TI} {X : List FuncId} {m : Md} {o : Oper} {s : St} {K : St → Prop}
def vQ (P : Program) (F : Fr) (TT : List TI) (X : List FuncId) (all : List Oper) (t : Tq) (s : St) (K : St → Prop) : Prop := match t with
  | .fin => K s
  | .take i t => vOp P F TT X .S (nthO all i) s fun s => vQ P F TT X all t s K
  | .one i t => vOp P F TT X (kind X (nthO all i)) (nthO all i) s fun s => vQ P F TT X all t s K
  | .two i a j b => BothG (vOp P F TT X (kind X (nthO all i)) (nthO all i) s fun s => vQ P F TT X all a s K) (vOp P F TT X (kind X (nthO all j)) (nthO all j) s fun s => vQ P F TT X all b s K)
def okI (ops : List Oper) (i : Nat) : Bool := Nat.blt i ops.length && (nthO ops i).guard.isNone
def isTwo (l : List Nat) (i j : Nat) : Bool := match l with
  | [x, y] => Nat.beq x i && Nat.beq y j
  | _ => false
def chkQ (ops : List Oper) (t : Tq) (l : Array Bool) : Bool := match t with
  | .fin => (Region.ready .any ops.toArray l).isEmpty
  | .take i t => okI ops i && chkP ops.toArray l i && pureO (nthO ops i) && chkQ ops t (l.setIfInBounds i true)
  | .one i t => okI ops i && sole ops.toArray l i && chkQ ops t (l.setIfInBounds i true)
  | .two i a j b => okI ops i && okI ops j && isTwo (Region.ready .any ops.toArray l) i j && chkQ ops a (l.setIfInBounds i true) && chkQ ops b (l.setIfInBounds j true)
theorem Sem.run {C : St → Prop} (h : Sem P F m o s C) (Q : Exit → Act → World → Prop) {c : Cx} {a : Act} {w : World} (hi : Inv F c s a w) : o.wp P a w (fun a' w' => ∃ c' s', Inv F c' s' a' w' ∧ C s') Q := by
  cases m with
  | S =>
    obtain ⟨p, h1, h2, h3⟩ := h
    exact Oper.wp_mono (fun a' w' ⟨c', s', x, y, _⟩ => ⟨c', s', x, y⟩) (h1.does (K := C) h2 h3 Q c a w hi)
  | E => exact Oper.wp_mono (fun a' w' ⟨c', s', x, y, _⟩ => ⟨c', s', x, y⟩) (h Q c a w hi)
  | L => exact Oper.wp_mono (fun a' w' ⟨c', s', x, y, _⟩ => ⟨c', s', x, y⟩) (h Q c a w hi)
theorem okI_ok {ops : List Oper} {i : Nat} (h : okI ops i = true) : ops.toArray[i]? = some (nthO ops i) ∧ ∀ s, pwant ops.toArray s (nthO ops i) = some true := by
  simp only [okI, Bool.and_eq_true] at h
  have hlt : i < ops.length := by simpa using h.1
  have hg : (nthO ops i).guard = none := by simpa using h.2
  exact ⟨by simpa using nthO_get hlt, fun s => by simp [pwant, hg]⟩
theorem vQ_op (hTT : TOk P TT) {all : List Oper} {C : St → Prop} {i : Nat} {m : Md} (h1 : okI all i = true) (h : vOp P F TT X m (nthO all i) s C) {Q : Exit → Act → World → Prop} {f : Nat} {l : Array Bool} {c : Cx} {a : Act} {w : World} (hv : Inv F c s a w)
    (k : ∀ c' s' a' w', Inv F c' s' a' w' → C s' → wpAny P .any all.toArray Q f l a' w') : wpOp P all.toArray Q i (wpAny P .any all.toArray Q f l) a w := by
  obtain ⟨g1, g2⟩ := okI_ok h1
  unfold wpOp
  simp only [g1]
  rw [pwant_ok hv (g2 s), if_pos rfl]
  exact .inl (Oper.wp_mono (fun a' w' ⟨c', s', hi', hC⟩ => k c' s' a' w' hi' hC) ((vOp_sem hTT h fun s h => h).run Q hv))
theorem vQ_ok (hTT : TOk P TT) {all : List Oper} : ∀ (t : Tq) (l : Array Bool) (s : St), chkQ all t l = true → vQ P F TT X all t s K →
    ∀ Q c a w, Inv F c s a w → (∀ c' s' a' w', Inv F c' s' a' w' → K s' → Q .normal a' w') → (∀ cc a w, ¬ Q (.panic cc) a w) → ∀ f, t.size ≤ f → wpAny P .any all.toArray Q f l a w
  | .fin, l, s, hc, h => by
    intro Q c a w hi hq hp f hf
    exact wpAny_done (by simpa [chkQ, List.isEmpty_iff] using hc) (hq c s a w hi h) f
  | .take i t, l, s, hc, h => by
    intro Q c a w hi hq hp f hf
    simp only [chkQ, Bool.and_eq_true] at hc
    obtain ⟨⟨⟨c1, c2⟩, c3⟩, c4⟩ := hc
    obtain ⟨g1, g2⟩ := okI_ok c1
    simp only [chkP, Bool.and_eq_true] at c2
    obtain ⟨⟨d1, d2⟩, d3⟩ := c2
    obtain ⟨g, rfl⟩ : ∃ g, f = g + 1 := ⟨f - 1, by simp only [Tq.size] at hf; omega⟩
    obtain ⟨p, h1, h2, h3⟩ := vOp_sem hTT (m := .S) h fun s h => h
    obtain ⟨u, hr, hrun⟩ := h1 c a w hi
    exact wpAny_take g1 d1 d2 d3 (fun c a w h => absurd h (hp _ _ _)) (.inl ⟨pwant_ok hi (g2 s), fun w' => hrun w' (.inr c3)⟩) (vQ_ok hTT t _ _ c4 h3 Q c _ w (hi.put h2 hr) hq hp g (by simp only [Tq.size] at hf; omega))
  | .one i t, l, s, hc, h => by
    intro Q c a w hi hq hp f hf
    simp only [chkQ, Bool.and_eq_true] at hc
    obtain ⟨⟨c1, c2⟩, c3⟩ := hc
    obtain ⟨g, rfl⟩ : ∃ g, f = g + 1 := ⟨f - 1, by simp only [Tq.size] at hf; omega⟩
    refine wpAny_all (sole_ok c2) (by simp) fun j hj => ?_
    obtain rfl : j = i := by simpa using hj
    exact vQ_op hTT c1 h hi fun c' s' a' w' hi' hC => vQ_ok hTT t _ s' c3 hC Q c' a' w' hi' hq hp g (by simp only [Tq.size] at hf; omega)
  | .two i a j b, l, s, hc, h => by
    intro Q c x w hi hq hp f hf
    simp only [chkQ, Bool.and_eq_true] at hc
    obtain ⟨⟨⟨⟨c1, c2⟩, c3⟩, c4⟩, c5⟩ := hc
    obtain ⟨g, rfl⟩ : ∃ g, f = g + 1 := ⟨f - 1, by simp only [Tq.size] at hf; omega⟩
    have hr : Region.ready .any all.toArray l = [i, j] := by
      generalize Region.ready .any all.toArray l = r at c3
      unfold isTwo at c3
      split at c3
      · rw [Bool.and_eq_true] at c3
        rw [Nat.eq_of_beq_eq_true c3.1, Nat.eq_of_beq_eq_true c3.2]
      · cases c3
    refine wpAny_all hr (by simp) fun y hy => ?_
    rcases (by simpa using hy : y = i ∨ y = j) with rfl | rfl
    · exact vQ_op hTT c1 h.a hi fun c' s' a' w' hi' hC => vQ_ok hTT a _ s' c4 hC Q c' a' w' hi' hq hp g (by simp only [Tq.size] at hf; omega)
    · exact vQ_op hTT c2 h.b hi fun c' s' a' w' hi' hC => vQ_ok hTT b _ s' c5 hC Q c' a' w' hi' hq hp g (by simp only [Tq.size] at hf; omega)
theorem draw_q {id : Nat} {ops : List Oper} (t : Tq) (hTT : TOk P TT) (hm : P.follows .mixedOrders = true) (hl : Nat.ble t.size ops.length = true) (hc : chkQ ops t (Array.replicate ops.length false) = true) (h : vQ P F TT X ops t s K) : DrawG P F TT X id ops s K := by
  refine ⟨?_⟩
  intro cx a w hi
  have hi' : Inv F cx s a { w with drawn := w.drawn + 1 } := ⟨hi.W.grow fun _ _ => rfl, hi.nd, hi.sz, hi.tm, hi.kp.drew, hi.rho, hi.new, hi.obp, hi.obB, hi.bbB⟩
  have h1 := vQ_ok hTT t (Array.replicate ops.length false) s hc h (fun e a w => e = .normal ∧ ∃ cx' s', Inv F cx' s' a w ∧ K s') cx a _ hi' (fun c' s' a' w' hi' hk => ⟨rfl, c', s', hi', hk⟩) (fun cc a w hq => by cases hq.1) ops.toArray.size (by simpa using Nat.le_of_ble_eq_true hl)
  refine wp_mono (wp_region_any hm (by simpa using h1)) ?_
  rintro e a' w' ⟨rfl, cx', s', hi'', hq⟩
  exact ⟨cx', s', hi'', hq⟩
end
end Go.Proofs.YtbeocnjlepcglaaGreatDoor.Sim
namespace Go.Proofs.YtbeocnjlepcglaaGreatDoor.Sim
open Go.RowKit
set_option linter.unusedVariables false
set_option linter.unusedSimpArgs false
set_option maxRecDepth 10000
set_option maxHeartbeats 8000000
variable {G : List (Nat × List Value)}
theorem copy_all (l : List Int) : (List.replicate l.length (0 : Int)).take 0 ++ l.take l.length ++ (List.replicate l.length (0 : Int)).drop (0 + min l.length l.length) = l := by
  rw [copy_row l l.length (Nat.le_refl _), Nat.sub_self]
  simp
theorem n_norm (a : List Int) (ok : okD 18446744073709551616 a) (hl : a.length ≤ 1152921504606846976) : FC Tryz.prog G 113 [.ws .u64 a] (· = natT (vl 18446744073709551616 a).toNat) := by
  have f1 := n_trim (G := G) a hl
  rw [trim64 ok] at f1
  obtain ⟨X, hX⟩ : ∃ X, X = (vl 18446744073709551616 a).toNat := ⟨_, rfl⟩
  rw [← hX] at f1 ⊢
  have hl : (d64 X).length = L64 X := rfl
  have hcp := copy_all (d64 X)
  refine FC.intro (X := XX) tok Tryz.func113 rfl Tryz.ntmps113 (by rw [Tryz.results113]) (by kernel_rfl) rfl ?_; intro F hG hO
  rw [← hG] at f1
  repeat' ((try (conv => whnf)); first
  | ((with_reducible refine cg ?_); refine call_eq (f1) (LpL.refl _) rfl ?_)
  
  | (with_reducible refine Chk.mk' (by first | omega | exact trivial | (simp only [List.length_append, List.length_set, List.length_replicate, List.length_take, List.length_drop, List.length_cons, List.length_nil, List.length_map]; omega)) ?_)
  | (with_reducible refine wrap_g (by dsimp only [inR]; omega) ?_)
  | (with_reducible refine idx_g (by omega) ?_)
  | (with_reducible refine idx_l _ rfl (by decide) ?_)
  | (with_reducible refine BothG.mk ?_ ?_)
  | (with_reducible refine fork_tt ?_) | (with_reducible refine fork_ff ?_)
  | (with_reducible refine fork_e (c := true) (by decide) ?_; with_reducible refine fork_tt ?_) | (with_reducible refine fork_e (c := false) (by decide) ?_; with_reducible refine fork_ff ?_)
  | (with_reducible refine fork_t (by omega) ?_) | (with_reducible refine fork_f (by omega) ?_)
  | (with_reducible refine fork_d ?_ ?_ <;> intro hc)
  | (with_reducible refine fork_n ?_)
  | (with_reducible refine fork_b ?_ ?_ <;> intro hc)
  | (with_reducible refine SlcG.mk (by omega) ?_)
  | (with_reducible refine MakG.mk (by dsimp only; omega) ?_)
  | (with_reducible refine AppG.mk (by first | omega | (simp only [List.length_append, List.length_set, List.length_replicate, List.length_take, List.length_drop, List.length_cons, List.length_nil, List.length_map]; omega)) (by dsimp only [List.length_cons, List.length_nil]; omega) (by omega) ?_)
  | (with_reducible refine div_g (by omega) (by omega) (by dsimp only [inR]; omega) ?_)
  | (with_reducible refine mod_g (by omega) (by omega) ?_)
  | (with_reducible refine mask_g (m := 4294967296) 32 rfl rfl (by decide) (by omega) ?_)
  | (with_reducible refine shr_g (m := 4294967296) 32 rfl (by decide) (by omega) rfl ?_)
  | (with_reducible refine fz_all (by omega) ?_)
  | (with_reducible refine Stuck.h (A := RetE _ _) ?_) | (with_reducible refine Stuck.h (A := RetM _ _ _ _) ?_) | (with_reducible refine Stuck.h (A := Again _ _ _ _ _ _ _ _) ?_) | (with_reducible refine Stuck.h (A := CallF _ _ _ _ _ _ _) ?_) | (with_reducible refine Stuck.h (A := LoopG _ _ _ _ _ _ _ _) ?_) | (with_reducible refine Stuck.h (A := DrawG _ _ _ _ _ _ _ _) ?_)
  | (with_reducible refine Stuck.h (A := WrapG _ _ _) ?_) | (with_reducible refine Stuck.h (A := DivG _ _ _ _) ?_) | (with_reducible refine Stuck.h (A := ModG _ _ _) ?_) | (with_reducible refine Stuck.h (A := ShlG _ _ _ _) ?_) | (with_reducible refine Stuck.h (A := ShrG _ _ _ _) ?_) | (with_reducible refine Stuck.h (A := BitG _ _ _ _ _) ?_)
  | (with_reducible refine Stuck.h (A := IdxG _ _ _) ?_) | (with_reducible refine Stuck.h (A := IdxL _ _ _) ?_) | (with_reducible refine Stuck.h (A := SlcG _ _ _ _ _) ?_) | (with_reducible refine Stuck.h (A := MakG _ _ _ _) ?_) | (with_reducible refine Stuck.h (A := AppG _ _ _ _ _ _ _) ?_) | (with_reducible refine Stuck.h (A := FzG _ _ _ _) ?_)
  | (with_reducible refine Stuck.h (A := RawG _) ?_) | (with_reducible refine Stuck.h (A := TabG _ _ _ _ _) ?_) | (with_reducible refine Stuck.h (A := ExtF _ _ _ _) ?_) | (with_reducible refine Stuck.h (A := Chk _ _) ?_) | (with_reducible refine Stuck.h (A := False) ?_))
  · exact ⟨ret_l _ (lp_natE 5) (natT_no (by omega)).symm⟩
  · refine ⟨fz_all (by simp) (ret_e ?_)⟩
    rw [natT_ok (by omega)]
    simp [natR]
def DwI (X w : Nat) (q : List Int) (m : Nat) (left : Int) : Prop := q.length = L64 X ∧ okD 18446744073709551616 q ∧ m ≤ L64 X ∧ left = ((X / 2 ^ (64 * m) % w : Nat) : Int) ∧ vl 18446744073709551616 (q.drop m) = ((X / 2 ^ (64 * m) / w : Nat) : Int)
theorem DwI.init (X w : Nat) : DwI X w (List.replicate (L64 X) 0) (L64 X) 0 := by
  have h := L64_lt X
  refine ⟨by simp, fun x hx => by rw [List.eq_of_mem_replicate hx]; decide, Nat.le_refl _, ?_, ?_⟩
  · rw [Nat.div_eq_of_lt h, Nat.zero_mod]; rfl
  · rw [Nat.div_eq_of_lt h, Nat.zero_div, List.drop_eq_nil_of_le (by simp)]; rfl
theorem DwI.step {X w : Nat} {q : List Int} {m : Nat} {left : Int} (h : DwI X w q m left) (hw : 0 < w) (hwb : w < 18446744073709551616) (hm : 0 < m) : (0 ≤ left ∧ left < w) ∧ DwI X w (q.set (m - 1) ((left * 18446744073709551616 + rd (d64 X) ((m - 1 : Nat) : Int)) / w)) (m - 1) ((left * 18446744073709551616 + rd (d64 X) ((m - 1 : Nat) : Int)) % w) := by
  obtain ⟨h1, h2, h3, h4, h5⟩ := h
  obtain ⟨Y, hY⟩ : ∃ Y, Y = X / 2 ^ (64 * m) := ⟨_, rfl⟩
  obtain ⟨a, ha⟩ : ∃ a, a = X / 2 ^ (64 * (m - 1)) % 18446744073709551616 := ⟨_, rfl⟩
  have ha2 : a < 18446744073709551616 := by rw [ha]; exact Nat.mod_lt _ (by decide)
  have e1 : X / 2 ^ (64 * (m - 1)) = 18446744073709551616 * Y + a := by
    have : X / 2 ^ (64 * m) = X / 2 ^ (64 * (m - 1)) / 18446744073709551616 := by
      rw [Nat.div_div_eq_div_mul, show (18446744073709551616 : Nat) = 2 ^ 64 by decide, ← Nat.pow_add, show 64 * (m - 1) + 64 = 64 * m by omega]
    rw [hY, this, ha]
    omega
  rw [d64_rd, ← ha, h4, ← hY]
  have hm2 := Nat.mod_lt Y hw
  obtain ⟨d, hd⟩ : ∃ d, d = (Y % w * 18446744073709551616 + a) / w := ⟨_, rfl⟩
  have hd2 : d < 18446744073709551616 := by
    rw [hd, Nat.div_lt_iff_lt_mul hw]
    have : (Y % w + 1) * 18446744073709551616 ≤ w * 18446744073709551616 := Nat.mul_le_mul_right _ hm2
    omega
  have c1 : ((Y % w : Nat) : Int) * 18446744073709551616 + (a : Int) = ((Y % w * 18446744073709551616 + a : Nat) : Int) := by simp
  have c2 : ((Y % w : Nat) : Int) * 18446744073709551616 + ((a : Nat) : Int) = ((Y % w * 18446744073709551616 + a : Nat) : Int) := c1
  rw [c1, ← Int.natCast_ediv, ← Int.natCast_emod, ← hd]
  have e2 : 18446744073709551616 * Y + a = w * (18446744073709551616 * (Y / w)) + (Y % w * 18446744073709551616 + a) := by
    have := Nat.div_add_mod Y w
    rw [Nat.mul_left_comm]
    omega
  refine ⟨by omega, by rw [List.length_set, h1], okD_set h2 (by omega), by omega, ?_, ?_⟩
  · rw [e1, e2, Nat.mul_add_mod]
  · rw [e1, e2, Nat.mul_add_div hw, ← hd]
    have e3 : (q.set (m - 1) (d : Int)).drop (m - 1) = (d : Int) :: q.drop m := by
      rw [List.drop_eq_getElem_cons (by simp; omega)]
      simp
      rw [show m - 1 + 1 = m by omega]
      exact List.drop_set_of_lt (by omega)
    rw [e3, vl, h5, ← hY]
    simp
    omega
theorem DwI.done {X w : Nat} {q : List Int} {left : Int} (h : DwI X w q 0 left) : (vl 18446744073709551616 q).toNat = X / w ∧ left = ((X % w : Nat) : Int) := by
  obtain ⟨h1, h2, h3, h4, h5⟩ := h
  rw [Nat.mul_zero, Nat.pow_zero, Nat.div_one] at h4 h5
  rw [List.drop_zero] at h5
  exact ⟨by rw [h5, Int.toNat_natCast], h4⟩
theorem n_divword (X : Nat) (w : Nat) (hX : L64 X ≤ 8192) (hw : 0 < w) (hwb : w < 18446744073709551616) : FC Tryz.prog G 114 [.ws .u64 (d64 X), .val (.int .u64 (w : Int))] (· = .tup [.ws .u64 (d64 (X / w)), .val (.int .u64 ((X % w : Nat) : Int)), .val (.int .i64 0)]) := by
  have fa := n_formN (G := G) X hX
  have hl : (d64 X).length = L64 X := rfl
  have hq8 : L64 (X / w) ≤ 8192 := Nat.le_trans (L64_mono (Nat.div_le_self _ _)) hX
  refine FC.intro (X := XX) tok Tryz.func114 rfl Tryz.ntmps114 (by rw [Tryz.results114]) (by kernel_rfl) rfl ?_; intro F hG hO
  rw [← hG] at fa
  repeat' ((try (conv => whnf)); first
  | ((with_reducible refine cg ?_); refine call_eq fa (LpL.refl _) rfl ?_)
  | ((with_reducible refine lg ?_); refine loop_g (A := List Int × Int × Nat) (fun (q, c, m) => DwI X w q m c) (fun (q, c, m) => m) (fun (q, c, m) => [(0, .ws .u64 (d64 X)), (1, .val (.int .u64 (w : Int))), (7, .arr 0 0 (L64 X)), (8, .val (.int .u64 c)), (9, .val (.int .i64 ((m : Int) - 1)))]) (fun _ => []) (fun (q, c, m) => [some ⟨1, 44, .w .u64 q⟩]) (List.replicate (L64 X) 0, 0, L64 X) tok (fun (q, c, m) => ⟨⟨trivial, trivial, Nat.one_pos, trivial, trivial, trivial⟩, trivial, by simp only [List.length_cons, List.length_nil]; omega⟩) ?_ ⟨rfl, rfl, congrArg (PV.arr 0 0) (by omega), rfl, iv_eq (by omega), trivial⟩ ⟨[], rfl⟩ ⟨[], (by dsimp only; rw [hl, Int.toNat_natCast]; rfl)⟩ ?_; rotate_left; rintro ⟨q, c, m⟩ hI; have hI2 := hI; obtain ⟨i1, i2, i3, i4, i5⟩ := hI2)
  | ((with_reducible refine cg ?_); have hst := hI.step hw hwb (by omega); have hrd := rd_bd (by decide) (d64_ok X).1 ((m - 1 : Nat) : Int); rw [show (m : Int) - 1 = ((m - 1 : Nat) : Int) by omega]; refine call_eq (b_div c (rd (d64 X) ((m - 1 : Nat) : Int)) w (by omega) hst.1 hrd) (LpL.refl _) rfl ?_)
  | ((with_reducible refine cg ?_); obtain rfl : m = 0 := (by omega); have hdn := hI.done; refine call_fz 0 (A := q) (B := q) rfl rfl (by omega) (by rw [List.drop_zero]; exact List.take_of_length_le (by omega)) (by omega) ?_; refine call_eq (n_told q i2 (by omega)) (LpL.refl _) rfl ?_; rw [hdn.1, natT_ok hq8]; unfold natR)
  
  | (with_reducible refine Chk.mk' (by first | omega | exact trivial | (simp only [List.length_append, List.length_set, List.length_replicate, List.length_take, List.length_drop, List.length_cons, List.length_nil, List.length_map]; omega)) ?_)
  | (with_reducible refine wrap_g (by dsimp only [inR]; omega) ?_)
  | (with_reducible refine idx_g (by omega) ?_)
  | (with_reducible refine idx_l _ rfl (by decide) ?_)
  | (with_reducible refine BothG.mk ?_ ?_)
  | (with_reducible refine fork_tt ?_) | (with_reducible refine fork_ff ?_)
  | (with_reducible refine fork_e (c := true) (by decide) ?_; with_reducible refine fork_tt ?_) | (with_reducible refine fork_e (c := false) (by decide) ?_; with_reducible refine fork_ff ?_)
  | (with_reducible refine fork_t (by omega) ?_) | (with_reducible refine fork_f (by omega) ?_)
  | (with_reducible refine fork_d ?_ ?_ <;> intro hc)
  | (with_reducible refine fork_n ?_)
  | (with_reducible refine fork_b ?_ ?_ <;> intro hc)
  | (with_reducible refine SlcG.mk (by omega) ?_)
  | (with_reducible refine MakG.mk (by dsimp only; omega) ?_)
  | (with_reducible refine AppG.mk (by first | omega | (simp only [List.length_append, List.length_set, List.length_replicate, List.length_take, List.length_drop, List.length_cons, List.length_nil, List.length_map]; omega)) (by dsimp only [List.length_cons, List.length_nil]; omega) (by omega) ?_)
  | (with_reducible refine div_g (by omega) (by omega) (by dsimp only [inR]; omega) ?_)
  | (with_reducible refine mod_g (by omega) (by omega) ?_)
  | (with_reducible refine mask_g (m := 4294967296) 32 rfl rfl (by decide) (by omega) ?_)
  | (with_reducible refine shr_g (m := 4294967296) 32 rfl (by decide) (by omega) rfl ?_)
  | (with_reducible refine fz_all (by omega) ?_)
  | (with_reducible refine Stuck.h (A := RetE _ _) ?_) | (with_reducible refine Stuck.h (A := RetM _ _ _ _) ?_) | (with_reducible refine Stuck.h (A := Again _ _ _ _ _ _ _ _) ?_) | (with_reducible refine Stuck.h (A := CallF _ _ _ _ _ _ _) ?_) | (with_reducible refine Stuck.h (A := LoopG _ _ _ _ _ _ _ _) ?_) | (with_reducible refine Stuck.h (A := DrawG _ _ _ _ _ _ _ _) ?_)
  | (with_reducible refine Stuck.h (A := WrapG _ _ _) ?_) | (with_reducible refine Stuck.h (A := DivG _ _ _ _) ?_) | (with_reducible refine Stuck.h (A := ModG _ _ _) ?_) | (with_reducible refine Stuck.h (A := ShlG _ _ _ _) ?_) | (with_reducible refine Stuck.h (A := ShrG _ _ _ _) ?_) | (with_reducible refine Stuck.h (A := BitG _ _ _ _ _) ?_)
  | (with_reducible refine Stuck.h (A := IdxG _ _ _) ?_) | (with_reducible refine Stuck.h (A := IdxL _ _ _) ?_) | (with_reducible refine Stuck.h (A := SlcG _ _ _ _ _) ?_) | (with_reducible refine Stuck.h (A := MakG _ _ _ _) ?_) | (with_reducible refine Stuck.h (A := AppG _ _ _ _ _ _ _) ?_) | (with_reducible refine Stuck.h (A := FzG _ _ _ _) ?_)
  | (with_reducible refine Stuck.h (A := RawG _) ?_) | (with_reducible refine Stuck.h (A := TabG _ _ _ _ _) ?_) | (with_reducible refine Stuck.h (A := ExtF _ _ _ _) ?_) | (with_reducible refine Stuck.h (A := Chk _ _) ?_) | (with_reducible refine Stuck.h (A := False) ?_))
  · have hst := hI.step hw hwb (by omega)
    refine ⟨again (q.set (m - 1) ((c * 18446744073709551616 + rd (d64 X) ((m - 1 : Nat) : Int)) / w), (c * 18446744073709551616 + rd (d64 X) ((m - 1 : Nat) : Int)) % w, m - 1) hst.2 (by dsimp only; omega) ⟨rfl, rfl, rfl, rfl, iv_eq (by omega), trivial⟩ ⟨[], rfl⟩ ⟨[], ?_⟩⟩
    dsimp only
    rw [show 0 + ((m - 1 : Nat) : Int).toNat = m - 1 by omega]; rfl
  · exact ⟨ret_e (by rw [hdn.2])⟩
  · exact DwI.init X w
theorem d_shifted (X n : Nat) (s : Nat) (hs : s < 64) (hn : L64 X ≤ n) (hnb : n ≤ 1073741824) (hlt : X * 2 ^ s < 2 ^ (64 * n)) : PM Tryz.prog G 116 [.ws .u64 (d64 X), .val (.int .i64 (s : Int)), .val (.int .i64 (n : Int))] [] (fun r rs => r = .arr 0 0 n ∧ RowOf n (X * 2 ^ s) rs) := by
  have hl : (d64 X).length = L64 X := rfl
  have hcp := copy_row (d64 X) n hn
  have hpk := pad_ok hn
  obtain ⟨pa, hpa⟩ : ∃ p, p = d64 X ++ List.replicate (n - L64 X) (0 : Int) := ⟨_, rfl⟩
  rw [hl, ← hpa, ← hl] at hcp
  rw [← hpa] at hpk
  obtain ⟨p1, p2, p3⟩ := hpk
  have hw := pw64 hs
  refine PM.intro (X := XX) tok Tryz.func116 rfl Tryz.ntmps116 (by rw [Tryz.results116]) (by kernel_rfl) rfl ?_; intro F hG hO; simp only [List.length_cons, List.length_nil, Nat.zero_add, Nat.reduceAdd] at hO
  repeat' ((try (conv => whnf)); first
  | ((with_reducible refine lg ?_); refine loop_g (A := List Int × Int) (fun (t, c) => ShlI pa t s c) (fun (t, c) => n - t.length) (fun (t, c) => [(1, .val (.int .i64 (s : Int))), (7, .arr 0 0 n), (8, .val (.int .u64 c)), (19, .val (.int .i64 (n : Int))), (20, .val (.int .i64 (t.length : Int)))]) (fun _ => []) (fun (t, c) => [some ⟨1, 44, .w .u64 (ins pa 0 t)⟩]) ([], 0) tok (fun (t, c) => ⟨⟨trivial, Nat.one_pos, trivial, trivial, trivial, trivial⟩, trivial, by simp only [List.length_cons, List.length_nil]; omega⟩) ?_ ⟨rfl, congrArg (PV.arr 0 0) (by omega), rfl, iv_eq (by omega), rfl, trivial⟩ ⟨[], rfl⟩ ⟨[], (by dsimp only; rw [ins_nil, Int.toNat_natCast, hcp]; rfl)⟩ ?_; rotate_left; rintro ⟨t, c⟩ hI; have hI2 := hI; obtain ⟨i1, i2, i3, i4⟩ := hI2; have ra := rd_bd (by decide) p2 (t.length : Int); have hil : (ins pa 0 t).length = n := (by rw [ins_len (by omega), p1]); have ig : (ins pa 0 t).getD (0 + (t.length : Int).toNat) 0 = rd pa (t.length : Int) := (by rw [Int.toNat_natCast, ins_get (by omega), Nat.zero_add]))
  | (with_reducible refine shl_m (by omega) ?_)
  | (with_reducible refine shr_p (by omega) (by dsimp only [IntKind.bits]; omega) ?_)
  | (have hst := hI.step (by omega) p2 hs; rw [ig, Int.toNat_natCast]; refine or_g2 s hst.1 (by omega) i3.2 hst.2.1 (by omega) ?_)
  
  | (with_reducible refine draw_q (id := 9) (.take 0 (.take 1 (.take 2 (.take 3 (.take 6 (.take 8 (.take 10 (.take 11 (.take 14 (.take 15 (.two 4 (.two 5 (.take 7 (.take 9 (.one 12 (.one 13 (.take 16 (.one 17 (.one 18 (.one 19 (.fin))))))))) 12 (.two 5 (.take 7 (.take 9 (.one 13 (.take 16 (.one 17 (.one 18 (.one 19 (.fin)))))))) 13 (.take 16 (.one 5 (.take 7 (.take 9 (.one 17 (.one 18 (.one 19 (.fin)))))))))) 12 (.two 4 (.two 5 (.take 7 (.take 9 (.one 13 (.take 16 (.one 17 (.one 18 (.one 19 (.fin)))))))) 13 (.take 16 (.one 5 (.take 7 (.take 9 (.one 17 (.one 18 (.one 19 (.fin))))))))) 13 (.take 16 (.one 4 (.one 5 (.take 7 (.take 9 (.one 17 (.one 18 (.one 19 (.fin))))))))))))))))))))) tok mixed (by kernel_rfl) (by kernel_rfl) ?_)
  | (with_reducible refine Chk.mk' (by first | omega | exact trivial | (simp only [List.length_append, List.length_set, List.length_replicate, List.length_take, List.length_drop, List.length_cons, List.length_nil, List.length_map]; omega)) ?_)
  | (with_reducible refine wrap_g (by dsimp only [inR]; omega) ?_)
  | (with_reducible refine idx_g (by omega) ?_)
  | (with_reducible refine idx_l _ rfl (by decide) ?_)
  | (with_reducible refine BothG.mk ?_ ?_)
  | (with_reducible refine fork_tt ?_) | (with_reducible refine fork_ff ?_)
  | (with_reducible refine fork_e (c := true) (by decide) ?_; with_reducible refine fork_tt ?_) | (with_reducible refine fork_e (c := false) (by decide) ?_; with_reducible refine fork_ff ?_)
  | (with_reducible refine fork_t (by omega) ?_) | (with_reducible refine fork_f (by omega) ?_)
  | (with_reducible refine fork_d ?_ ?_ <;> intro hc)
  | (with_reducible refine fork_n ?_)
  | (with_reducible refine fork_b ?_ ?_ <;> intro hc)
  | (with_reducible refine SlcG.mk (by omega) ?_)
  | (with_reducible refine MakG.mk (by dsimp only; omega) ?_)
  | (with_reducible refine AppG.mk (by first | omega | (simp only [List.length_append, List.length_set, List.length_replicate, List.length_take, List.length_drop, List.length_cons, List.length_nil, List.length_map]; omega)) (by dsimp only [List.length_cons, List.length_nil]; omega) (by omega) ?_)
  | (with_reducible refine div_g (by omega) (by omega) (by dsimp only [inR]; omega) ?_)
  | (with_reducible refine mod_g (by omega) (by omega) ?_)
  | (with_reducible refine mask_g (m := 4294967296) 32 rfl rfl (by decide) (by omega) ?_)
  | (with_reducible refine shr_g (m := 4294967296) 32 rfl (by decide) (by omega) rfl ?_)
  | (with_reducible refine fz_all (by omega) ?_)
  | (with_reducible refine Stuck.h (A := RetE _ _) ?_) | (with_reducible refine Stuck.h (A := RetM _ _ _ _) ?_) | (with_reducible refine Stuck.h (A := Again _ _ _ _ _ _ _ _) ?_) | (with_reducible refine Stuck.h (A := CallF _ _ _ _ _ _ _) ?_) | (with_reducible refine Stuck.h (A := LoopG _ _ _ _ _ _ _ _) ?_) | (with_reducible refine Stuck.h (A := DrawG _ _ _ _ _ _ _ _) ?_)
  | (with_reducible refine Stuck.h (A := WrapG _ _ _) ?_) | (with_reducible refine Stuck.h (A := DivG _ _ _ _) ?_) | (with_reducible refine Stuck.h (A := ModG _ _ _) ?_) | (with_reducible refine Stuck.h (A := ShlG _ _ _ _) ?_) | (with_reducible refine Stuck.h (A := ShrG _ _ _ _) ?_) | (with_reducible refine Stuck.h (A := BitG _ _ _ _ _) ?_)
  | (with_reducible refine Stuck.h (A := IdxG _ _ _) ?_) | (with_reducible refine Stuck.h (A := IdxL _ _ _) ?_) | (with_reducible refine Stuck.h (A := SlcG _ _ _ _ _) ?_) | (with_reducible refine Stuck.h (A := MakG _ _ _ _) ?_) | (with_reducible refine Stuck.h (A := AppG _ _ _ _ _ _ _) ?_) | (with_reducible refine Stuck.h (A := FzG _ _ _ _) ?_)
  | (with_reducible refine Stuck.h (A := RawG _) ?_) | (with_reducible refine Stuck.h (A := TabG _ _ _ _ _) ?_) | (with_reducible refine Stuck.h (A := ExtF _ _ _ _) ?_) | (with_reducible refine Stuck.h (A := Chk _ _) ?_) | (with_reducible refine Stuck.h (A := False) ?_))
  all_goals first
    | (
      have hst := hI.step (by omega) p2 hs
      have e3 : rd pa (t.length : Int) / 2 ^ (64 - (s : Int)).toNat = rd pa (t.length : Int) / 2 / 2 ^ (63 - s) := by
        rw [Int.ediv_ediv_of_nonneg (by decide), show (64 - (s : Int)).toNat = 63 - s + 1 by omega, Int.pow_succ, Int.mul_comm]
      refine ⟨again (t ++ [c + rd pa (t.length : Int) * 2 ^ s % 18446744073709551616], rd pa (t.length : Int) / 2 / 2 ^ (63 - s)) hst.2.2.2 (by dsimp only; rw [len_snoc]; omega) ⟨rfl, rfl, iv_eq (by first | rw [ig, e3] | rw [e3] | omega), rfl, iv_eq (by rw [len_snoc]; omega), trivial⟩ ⟨[], rfl⟩ ⟨[], by dsimp only; exact ins_row (by omega) (by omega) (by omega)⟩⟩)
    | (
      obtain rfl : s = 0 := by omega
      refine ⟨ret_m [0] (.arr 0 0 n) [some ⟨1, 44, .w .u64 pa⟩] (by rw [Int.toNat_natCast]; rfl) rfl (by simp) (fun i h => absurd h (Nat.not_lt_zero i)) (by dsimp only [List.map_cons, List.map_nil]; rw [Int.toNat_natCast, hcp]; rfl) ⟨rfl, pa, p1, p2, ?_, rfl⟩⟩
      rw [p3, Nat.pow_zero, Nat.mul_one])
    | (
      have htl : t.length = n := by omega
      rw [List.take_of_length_le (by omega), htl, p3] at i4
      have h1 := vl_nonneg (B := 18446744073709551616) (by decide) i2
      have e1 : (X : Int) * 2 ^ s = ((X * 2 ^ s : Nat) : Int) := by simp
      rw [e1] at i4
      have hc0 : c = 0 := by
        have h2 : ((X * 2 ^ s : Nat) : Int) < 18446744073709551616 ^ n := by rw [pow64i]; exact Int.ofNat_lt.2 hlt
        have hp : 0 < (18446744073709551616 : Int) ^ n := Int.pow_pos (by decide)
        rcases Int.lt_or_le 0 c with h3 | h3
        · have : 18446744073709551616 ^ n * 1 ≤ (18446744073709551616 : Int) ^ n * c := Int.mul_le_mul_of_nonneg_left (by omega) (by omega)
          omega
        · omega
      rw [hc0, Int.mul_zero, Int.add_zero] at i4
      have hins : ins pa 0 t = t := by rw [ins_end (by omega), List.take_zero, List.nil_append]
      refine ⟨ret_m [0] (.arr 0 0 n) [some ⟨1, 44, .w .u64 t⟩] rfl rfl (by simp) (fun i h => absurd h (Nat.not_lt_zero i)) (by dsimp only [List.map_cons, List.map_nil]; rw [hins]; rfl) ⟨rfl, t, htl, i2, i4, rfl⟩⟩)
    | (
      exact ⟨Nat.zero_le _, okD_nil _, ⟨Int.le_refl _, hw.1⟩, by simp [vl]⟩)
end Go.Proofs.YtbeocnjlepcglaaGreatDoor.Sim
namespace Go.Proofs.YtbeocnjlepcglaaGreatDoor.Sim
open Go.RowKit
set_option linter.unusedVariables false
set_option linter.unusedSimpArgs false
set_option maxRecDepth 10000
set_option maxHeartbeats 8000000
variable {G : List (Nat × List Value)}
theorem d64_one {Y : Nat} (h : L64 Y = 1) : rd (d64 Y) 0 = (Y : Int) ∧ 0 < Y ∧ Y < 18446744073709551616 := by
  have h1 := d64_rd Y 0
  have h2 := L64_lt Y
  rw [h] at h2
  have h3 : Y ≠ 0 := fun h0 => by subst h0; rw [L64, lenB_zero] at h; omega
  refine ⟨?_, by omega, by omega⟩
  rw [show ((0 : Nat) : Int) = 0 by rfl] at h1
  rw [h1, Nat.mul_zero, Nat.pow_zero, Nat.div_one]
  omega
theorem top_pos {v : List Int} {m : Nat} {V : Int} (ok : okD 18446744073709551616 v) (hl : v.length = m + 1) (hv : vl 18446744073709551616 v = V) (h : 18446744073709551616 ^ m ≤ V) : 0 < rd v m := by
  have h1 := vl_split 18446744073709551616 v m (by omega)
  have h2 := vl_lt (B := 18446744073709551616) (by decide) (ok.take m)
  rw [List.length_take, Nat.min_eq_left (by omega)] at h2
  rw [drop_rd v m (by omega), vl, List.drop_eq_nil_of_le (by omega)] at h1
  simp only [vl] at h1
  rw [Int.mul_zero, Int.add_zero] at h1
  have h3 := (rd_bd (B := 18446744073709551616) (by decide) ok (m : Int)).1
  rcases Int.lt_or_le 0 (rd v m) with h4 | h4
  · exact h4
  · exfalso
    rw [show rd v m = 0 by omega, Int.mul_zero, Int.add_zero] at h1
    omega
/-- What stands above the first digits of a shifted number. -/
theorem above_lt {u : List Int} {U V : Nat} {L : Nat} (ok : okD 18446744073709551616 u) (hu : vl 18446744073709551616 u = (U : Int)) (hl : L ≤ u.length) (h : U < 2 ^ (64 * L) * V) : vl 18446744073709551616 (u.drop L) < (V : Int) := by
  have h1 := vl_split 18446744073709551616 u L hl
  have h2 := vl_nonneg (B := 18446744073709551616) (by decide) (ok.take L)
  obtain ⟨Z, hZ⟩ := Int.eq_ofNat_of_zero_le (vl_nonneg (B := 18446744073709551616) (by decide) (ok.drop L))
  rw [hu, hZ] at h1
  rw [hZ]
  have h3 : 18446744073709551616 ^ L * Z ≤ U := by
    have : ((18446744073709551616 ^ L * Z : Nat) : Int) ≤ (U : Int) := by
      rw [h1]; simp only [Int.natCast_mul, Int.natCast_pow]; exact Int.le_add_of_nonneg_left h2
    exact Int.ofNat_le.1 this
  rw [pow64] at h3
  have h4 : Z < V := Nat.lt_of_mul_lt_mul_left (Nat.lt_of_le_of_lt h3 h)
  exact Int.ofNat_lt.2 h4
def qrT (q r : Nat) : PV := .tup [.ws .u64 (d64 q), .ws .u64 (d64 r), .val (.int .i64 0)]
theorem d_quorem (X Y : Nat) (hX : L64 X ≤ 8192) (hY : L64 Y ≤ 8192) (h0 : Y ≠ 0) : FC Tryz.prog G 68 [.ws .u64 (d64 X), .ws .u64 (d64 Y)] (· = qrT (X / Y) (X % Y)) := by
  have fa := n_formN (G := G) X hX
  have fb := n_formN (G := G) Y hY
  have fc := n_cmp (G := G) X Y (by omega) (by omega)
  have hlx : (d64 X).length = L64 X := rfl
  have hly : (d64 Y).length = L64 Y := rfl
  have hYp : 0 < L64 Y := lenB_pos (B := 18446744073709551616) (by decide) h0
  obtain ⟨T, hT⟩ : ∃ T, T = Y / 2 ^ (64 * (L64 Y - 1)) := ⟨_, rfl⟩
  have htop := top64 h0
  rw [← hT] at htop
  have hrd : rd (d64 Y) ((L64 Y : Int) - 1) = (T : Int) := by
    have := d64_rd Y (L64 Y - 1)
    rw [← hT, Nat.mod_eq_of_lt htop.1] at this
    rw [← this]; congr 1; omega
  have hTb : 0 < bl T ∧ bl T ≤ 64 := ⟨bl_pos htop.2, bl_le (k := 64) (by omega)⟩
  have hlead := b_lead (G := G) T htop.1
  obtain ⟨s, hs⟩ : ∃ s : Nat, s = 64 - bl T := ⟨_, rfl⟩
  rw [show (64 - (bl T : Int)) = (s : Int) by omega] at hlead
  have hs64 : s < 64 := by omega
  have hp2 : 0 < 2 ^ s := Nat.pow_pos (by decide)
  have hYlt : Y * 2 ^ s < 2 ^ (64 * L64 Y) := by
    have h2 : bl Y = 64 * (L64 Y - 1) + bl T := by rw [hT]; exact bl_top Y _ (by rw [← hT]; exact htop.2)
    have h6 : Y * 2 ^ s < 2 ^ bl Y * 2 ^ s := Nat.mul_lt_mul_of_pos_right (lt_bl Y) hp2
    rw [← Nat.pow_add] at h6
    exact Nat.lt_of_lt_of_le h6 (Nat.pow_le_pow_right (by decide) (by omega))
  have hYge : 2 ^ (64 * (L64 Y - 1)) ≤ Y := by
    have h2 : bl Y = 64 * (L64 Y - 1) + bl T := by rw [hT]; exact bl_top Y _ (by rw [← hT]; exact htop.2)
    exact Nat.le_trans (Nat.pow_le_pow_right (by decide) (by omega)) (le_of_bl h0)
  have hXlt : X * 2 ^ s < 2 ^ (64 * L64 X) * 2 ^ s := Nat.mul_lt_mul_of_pos_right (L64_lt X) hp2
  have hXlt2 : X * 2 ^ s < 2 ^ (64 * (L64 X + 1)) := by
    rw [← Nat.pow_add] at hXlt
    exact Nat.lt_of_lt_of_le hXlt (Nat.pow_le_pow_right (by decide) (by omega))
  have hcl : Unit → ¬ cmpN X Y < 0 → Y ≤ X ∧ L64 Y ≤ L64 X := fun _ h => by
    have : Y ≤ X := by
      unfold cmpN at h
      split at h
      · exact absurd (by decide) h
      · omega
    exact ⟨this, L64_mono this⟩
  have fu := d_shifted (G := G) X (L64 X + 1) s hs64 (by omega) (by omega) hXlt2
  have fv := d_shifted (G := G) Y (L64 Y) s hs64 (Nat.le_refl _) (by omega) hYlt
  have hab : Unit → L64 Y ≤ L64 X → X * 2 ^ s < 2 ^ (64 * (L64 X + 1 - L64 Y)) * (Y * 2 ^ s) := fun _ h => by
    refine Nat.lt_of_lt_of_le hXlt ?_
    have e : 64 * L64 X = 64 * (L64 X + 1 - L64 Y) + 64 * (L64 Y - 1) := by omega
    rw [e, Nat.pow_add, Nat.mul_assoc]
    exact Nat.mul_le_mul_left _ (Nat.mul_le_mul_right _ hYge)
  have hlow : (18446744073709551616 : Int) ^ (L64 Y - 1) ≤ ((Y * 2 ^ s : Nat) : Int) := by
    rw [pow64i]
    exact Int.ofNat_le.2 (Nat.le_trans hYge (Nat.le_mul_of_pos_right _ hp2))
  have hrl : L64 (X % Y) ≤ 8192 := Nat.le_trans (L64_mono (Nat.mod_le _ _)) hX
  have hql : L64 (X / Y) ≤ 8192 := Nat.le_trans (L64_mono (Nat.div_le_self _ _)) hX
  have hrl2 : L64 (X % Y * 2 ^ s) ≤ 8192 := by
    have h1 : X % Y * 2 ^ s ≤ Y * 2 ^ s := Nat.mul_le_mul_right _ (Nat.le_of_lt (Nat.mod_lt _ (by omega)))
    exact Nat.le_trans (L64_le (Nat.lt_of_le_of_lt h1 hYlt)) hY
  have hq2 : (((X * 2 ^ s : Nat) : Int) / ((Y * 2 ^ s : Nat) : Int)).toNat = X / Y := by
    rw [← Int.natCast_ediv, Int.toNat_natCast, Nat.mul_div_mul_right _ _ hp2]
  have hr2 : (((X * 2 ^ s : Nat) : Int) % ((Y * 2 ^ s : Nat) : Int)).toNat = X % Y * 2 ^ s := by
    rw [← Int.natCast_emod, Int.toNat_natCast, Nat.mul_mod_mul_right]
  have fsh := n_shr (G := G) (X % Y * 2 ^ s) (s : Int) hrl2 (by dsimp only [inR]; omega)
  rw [show shrT (X % Y * 2 ^ s) (s : Int) = natR (X % Y) by
    unfold shrT natR
    rw [if_neg (by omega), if_neg (by omega), Int.toNat_natCast, Nat.mul_div_cancel _ hp2]] at fsh
  have fw : Unit → X % Y < 18446744073709551616 → FC Tryz.prog G 70 [.val (.int .u64 ((X % Y : Nat) : Int))] (· = .ws .u64 (d64 (X % Y))) := fun _ h => by
    have := n_word (G := G) ((X % Y : Nat) : Int) (by omega)
    rw [Int.toNat_natCast] at this
    exact this
  refine FC.intro (X := XX) tok Tryz.func68 rfl Tryz.ntmps68 (by rw [Tryz.results68]) (by kernel_rfl) rfl ?_; intro F hG hO
  rw [← hG] at fa fb fc hlead fu fv fsh fw
  repeat' ((try (conv => whnf)); first
  | ((with_reducible refine cg ?_); refine call_eq fa (LpL.refl _) rfl ?_)
  | ((with_reducible refine cg ?_); refine call_eq fb (LpL.refl _) rfl ?_)
  | ((with_reducible refine cg ?_); refine call_eq fc (LpL.refl _) rfl ?_)
  | ((with_reducible refine cg ?_); refine call_eq (n_norm (d64 X) (d64_ok X).1 (by omega)) (LpL.refl _) rfl ?_; rw [vl_d64, natT_ok hX]; unfold natR)
  | ((with_reducible refine cg ?_); have h1 := d64_one (Y := Y) (by omega); rw [h1.1]; refine call_eq (n_divword X Y hX h1.2.1 h1.2.2) (LpL.refl _) rfl ?_)
  | ((with_reducible refine cg ?_); have h1 := d64_one (Y := Y) (by omega); refine call_eq (fw () (by have := Nat.mod_lt X h1.2.1; omega)) (LpL.refl _) rfl ?_)
  | ((with_reducible refine cg ?_); rw [hly, hrd]; refine call_eq hlead (LpL.refl _) rfl ?_)
  | ((with_reducible refine cg ?_); rw [show ((d64 X).length : Int) + 1 = ((L64 X + 1 : Nat) : Int) by omega]; refine call_row (m := 0) fu rfl rfl rfl ?_; intro u u1 u2 u3)
  | ((with_reducible refine cg ?_); refine call_row (m := 1) fv rfl rfl rfl ?_; intro v v1 v2 v3)
  | ((with_reducible refine cg ?_); have hcl2 := hcl () (by assumption); refine call_fz 1 (q := 1) (A := v) (B := v) rfl rfl (by omega) (by rw [List.drop_zero]; exact List.take_of_length_le (by omega)) (by omega) ?_; have dl := d_long (G := F.G) u v (L64 X + 1 - L64 Y) (L64 Y - 1) ((Y * 2 ^ s : Nat) : Int) (by omega) (by omega) (by omega) (by omega) u2 v2 v3 (top_pos v2 (by omega) v3 hlow) (above_lt u2 u3 (by omega) (hab () hcl2.2)); rw [show L64 X + 1 - L64 Y + (L64 Y - 1 + 1) = L64 X + 1 by omega, show L64 Y - 1 + 1 = L64 Y by omega, u3] at dl; refine call_pm [0] dl rfl rfl rfl (by simp) ?_; rintro r rs ⟨rfl, z, q, w1, w2, w3, w4, w5, w6, rfl⟩)
  | ((with_reducible refine cg ?_); refine call_fz 0 (q := 0) (A := z) (B := z.take (L64 Y)) rfl rfl (by omega) (by rw [List.drop_zero]; first | rfl | rw [v1] | (rw [Int.toNat_natCast])) (by omega) ?_; refine call_eq (n_norm (z.take (L64 Y)) (w2.take _) (by rw [List.length_take]; omega)) (LpL.refl _) rfl ?_; rw [w6, hr2, natT_ok hrl2]; unfold natR)
  | ((with_reducible refine cg ?_); refine call_eq fsh (LpL.refl _) rfl ?_)
  | ((with_reducible refine cg ?_); refine call_fz 0 (q := 2) (A := q) (B := q) rfl rfl (by omega) (by rw [List.drop_zero]; exact List.take_of_length_le (by omega)) (by omega) ?_; refine call_eq (n_norm q w4 (by omega)) (LpL.refl _) rfl ?_; rw [w5, hq2, natT_ok hql]; unfold natR)
  
  | (with_reducible refine Chk.mk' (by first | omega | exact trivial | (simp only [List.length_append, List.length_set, List.length_replicate, List.length_take, List.length_drop, List.length_cons, List.length_nil, List.length_map]; omega)) ?_)
  | (with_reducible refine wrap_g (by dsimp only [inR]; omega) ?_)
  | (with_reducible refine idx_g (by omega) ?_)
  | (with_reducible refine idx_l _ rfl (by decide) ?_)
  | (with_reducible refine BothG.mk ?_ ?_)
  | (with_reducible refine fork_tt ?_) | (with_reducible refine fork_ff ?_)
  | (with_reducible refine fork_e (c := true) (by decide) ?_; with_reducible refine fork_tt ?_) | (with_reducible refine fork_e (c := false) (by decide) ?_; with_reducible refine fork_ff ?_)
  | (with_reducible refine fork_t (by omega) ?_) | (with_reducible refine fork_f (by omega) ?_)
  | (with_reducible refine fork_d ?_ ?_ <;> intro hc)
  | (with_reducible refine fork_n ?_)
  | (with_reducible refine fork_b ?_ ?_ <;> intro hc)
  | (with_reducible refine SlcG.mk (by omega) ?_)
  | (with_reducible refine MakG.mk (by dsimp only; omega) ?_)
  | (with_reducible refine AppG.mk (by first | omega | (simp only [List.length_append, List.length_set, List.length_replicate, List.length_take, List.length_drop, List.length_cons, List.length_nil, List.length_map]; omega)) (by dsimp only [List.length_cons, List.length_nil]; omega) (by omega) ?_)
  | (with_reducible refine div_g (by omega) (by omega) (by dsimp only [inR]; omega) ?_)
  | (with_reducible refine mod_g (by omega) (by omega) ?_)
  | (with_reducible refine mask_g (m := 4294967296) 32 rfl rfl (by decide) (by omega) ?_)
  | (with_reducible refine shr_g (m := 4294967296) 32 rfl (by decide) (by omega) rfl ?_)
  | (with_reducible refine fz_all (by omega) ?_)
  | (with_reducible refine Stuck.h (A := RetE _ _) ?_) | (with_reducible refine Stuck.h (A := RetM _ _ _ _) ?_) | (with_reducible refine Stuck.h (A := Again _ _ _ _ _ _ _ _) ?_) | (with_reducible refine Stuck.h (A := CallF _ _ _ _ _ _ _) ?_) | (with_reducible refine Stuck.h (A := LoopG _ _ _ _ _ _ _ _) ?_) | (with_reducible refine Stuck.h (A := DrawG _ _ _ _ _ _ _ _) ?_)
  | (with_reducible refine Stuck.h (A := WrapG _ _ _) ?_) | (with_reducible refine Stuck.h (A := DivG _ _ _ _) ?_) | (with_reducible refine Stuck.h (A := ModG _ _ _) ?_) | (with_reducible refine Stuck.h (A := ShlG _ _ _ _) ?_) | (with_reducible refine Stuck.h (A := ShrG _ _ _ _) ?_) | (with_reducible refine Stuck.h (A := BitG _ _ _ _ _) ?_)
  | (with_reducible refine Stuck.h (A := IdxG _ _ _) ?_) | (with_reducible refine Stuck.h (A := IdxL _ _ _) ?_) | (with_reducible refine Stuck.h (A := SlcG _ _ _ _ _) ?_) | (with_reducible refine Stuck.h (A := MakG _ _ _ _) ?_) | (with_reducible refine Stuck.h (A := AppG _ _ _ _ _ _ _) ?_) | (with_reducible refine Stuck.h (A := FzG _ _ _ _) ?_)
  | (with_reducible refine Stuck.h (A := RawG _) ?_) | (with_reducible refine Stuck.h (A := TabG _ _ _ _ _) ?_) | (with_reducible refine Stuck.h (A := ExtF _ _ _ _) ?_) | (with_reducible refine Stuck.h (A := Chk _ _) ?_) | (with_reducible refine Stuck.h (A := False) ?_))
  · have : X < Y := by
      unfold cmpN at hc
      split at hc
      · assumption
      · split at hc <;> omega
    refine ⟨ret_l _ (.tup (.cons (.nil .u64) (.cons (.refl _) (.cons (.refl _) .nil)))) ?_⟩
    rw [Nat.div_eq_of_lt this, Nat.mod_eq_of_lt this]
    unfold qrT
    rw [d64_0]
  · exact ⟨ret_e rfl⟩
  · exact ⟨ret_e rfl⟩
end Go.Proofs.YtbeocnjlepcglaaGreatDoor.Sim
namespace Go.Proofs.YtbeocnjlepcglaaGreatDoor.Sim
open Go.RowKit
set_option linter.unusedVariables false
set_option linter.unusedSimpArgs false
set_option maxRecDepth 10000
set_option maxHeartbeats 8000000
variable {G : List (Nat × List Value)}
/-- A quotient's floor, or its ceiling. -/
def rdv (aw : Bool) (x d : Nat) : Nat := match aw with
  | true => (x + d - 1) / d
  | false => x / d
theorem rdv_rdv (aw : Bool) (x d k : Nat) (hd : 0 < d) (hk : 0 < k) : rdv aw (rdv aw x d) k = rdv aw x (d * k) := by
  cases aw
  · exact Nat.div_div_eq_div_mul x d k
  · show ((x + d - 1) / d + k - 1) / k = (x + d * k - 1) / (d * k)
    rw [← Nat.div_div_eq_div_mul]
    congr 1
    have e : x + d * k - 1 = (x + d - 1) + d * (k - 1) := by
      have : d * k = d * (k - 1) + d := by rw [← Nat.mul_succ]; congr 1; omega
      omega
    rw [e, Nat.add_mul_div_left _ _ hd]
    generalize (x + d - 1) / d = q
    omega
theorem rdv_cancel (aw : Bool) (x d t : Nat) (ht : 0 < t) (hd : 0 < d) : rdv aw (x * t) (d * t) = rdv aw x d := by
  cases aw
  · exact Nat.mul_div_mul_right x d ht
  · show (x * t + d * t - 1) / (d * t) = (x + d - 1) / d
    rw [Nat.mul_comm d t, ← Nat.div_div_eq_div_mul]
    congr 1
    have e : x * t + t * d - 1 = (t - 1) + t * (x + d - 1) := by
      have h1 : t * (x + d) = t * (x + d - 1) + t := by rw [← Nat.mul_succ]; congr 1; omega
      rw [Nat.mul_add, Nat.mul_comm t x] at h1
      omega
    rw [e, Nat.add_mul_div_left _ _ ht, Nat.div_eq_of_lt (by omega), Nat.zero_add]
theorem rdv_exact (aw : Bool) (x t : Nat) (ht : 0 < t) : rdv aw (x * t) t = x := by
  have h := rdv_cancel aw x 1 t ht (by decide)
  rw [Nat.one_mul] at h
  rw [h]
  cases aw
  · exact Nat.div_one x
  · show (x + 1 - 1) / 1 = x
    rw [Nat.div_one]; omega
theorem rdv_ge (aw : Bool) (x d : Nat) (hd : 0 < d) : x / d ≤ rdv aw x d := by
  cases aw
  · exact Nat.le_refl _
  · exact Nat.div_le_div_right (by omega)
theorem rdv_up (aw : Bool) (x d : Nat) (hd : 0 < d) : rdv aw x d ≤ x / d + 1 := by
  cases aw
  · exact Nat.le_succ _
  · show (x + d - 1) / d ≤ _
    rw [← Nat.add_div_right x hd]
    exact Nat.div_le_div_right (by omega)
theorem rdv_le (aw : Bool) (x d : Nat) (hd : 0 < d) : rdv aw x d ≤ x := by
  cases aw
  · exact Nat.div_le_self _ _
  · show (x + d - 1) / d ≤ x
    by_cases h : x = 0
    · subst h; rw [Nat.div_eq_of_lt (by omega)]; exact Nat.le_refl _
    · refine Nat.div_le_of_le_mul ?_
      have h1 : 0 ≤ (d - 1) * (x - 1) := Nat.zero_le _
      have h2 : d * x = (d - 1) * (x - 1) + (d - 1) + x := by
        obtain ⟨a, rfl⟩ : ∃ a, d = a + 1 := ⟨d - 1, by omega⟩
        obtain ⟨b, rfl⟩ : ∃ b, x = b + 1 := ⟨x - 1, by omega⟩
        simp only [Nat.add_sub_cancel]
        rw [Nat.add_mul, Nat.mul_add]
        omega
      omega
theorem neg_fdiv_rdv (x d : Nat) (hd : 0 < d) : (-(x : Int)).fdiv (d : Int) = -((rdv true x d : Nat) : Int) := by
  rw [Int.fdiv_eq_ediv_of_nonneg _ (by omega)]
  show _ = -(((x + d - 1) / d : Nat) : Int)
  obtain ⟨c, hc⟩ : ∃ c, c = (x + d - 1) / d := ⟨_, rfl⟩
  have h1 := Nat.div_add_mod (x + d - 1) d
  have h2 := Nat.mod_lt (x + d - 1) hd
  rw [← hc] at h1 ⊢
  have h3 : ((d * c : Nat) : Int) = (d : Int) * (c : Int) := by simp
  exact (div_of (a := -(x : Int)) (b := (d : Int)) (q := -(c : Int)) (r := ((d * c : Nat) : Int) - x) (by omega) (by rw [h3, Int.mul_neg]; omega) (by omega) (by omega)).1
theorem pos_fdiv_rdv (x d : Nat) (hd : 0 < d) : ((x : Int)).fdiv (d : Int) = ((rdv false x d : Nat) : Int) := by
  rw [Int.fdiv_eq_ediv_of_nonneg _ (by omega)]
  show _ = ((x / d : Nat) : Int)
  rw [Int.natCast_ediv]
def docQ (n m : Int) (s : Nat) (up : Bool) : Int := match up with
  | true => -((-(n * 2 ^ s)).fdiv m)
  | false => (n * 2 ^ s).fdiv m
theorem fdiv_sg (a b : Bool) (x d : Nat) (hd : 0 < d) : (sg a x).fdiv (sg b d) = sg (a != b) (rdv (a != b) x d) := by
  cases a <;> cases b
  · exact pos_fdiv_rdv x d hd
  · show ((x : Int)).fdiv (-(d : Int)) = -((rdv true x d : Nat) : Int)
    rw [← neg_fdiv_rdv x d hd, ← Int.neg_fdiv_neg, Int.neg_neg]
  · exact neg_fdiv_rdv x d hd
  · show (-(x : Int)).fdiv (-(d : Int)) = ((rdv false x d : Nat) : Int)
    rw [Int.neg_fdiv_neg]
    exact pos_fdiv_rdv x d hd
theorem neg_sg (a : Bool) (x : Nat) : -(sg a x) = sg (!a) x := by cases a <;> simp [sg]
theorem docQ_eq (n m : Int) (s : Nat) (up : Bool) (hm : m ≠ 0) : docQ n m s up = sg (decide (n < 0) != decide (m < 0)) (rdv (up != (decide (n < 0) != decide (m < 0))) (n.natAbs * 2 ^ s) m.natAbs) := by
  have hd : 0 < m.natAbs := by omega
  have hn := sg_of n
  have hm2 := sg_of m
  obtain ⟨a, ha⟩ : ∃ a, a = decide (n < 0) := ⟨_, rfl⟩
  obtain ⟨b, hb⟩ : ∃ b, b = decide (m < 0) := ⟨_, rfl⟩
  obtain ⟨x, hx⟩ : ∃ x, x = n.natAbs := ⟨_, rfl⟩
  obtain ⟨d, hd2⟩ : ∃ d, d = m.natAbs := ⟨_, rfl⟩
  rw [← ha, ← hx] at hn
  rw [← hb, ← hd2] at hm2
  rw [← hd2] at hd
  rw [← ha, ← hb, ← hx, ← hd2, ← hn, ← hm2]
  cases up
  · show (sg a x * 2 ^ s).fdiv (sg b d) = _
    rw [← sg_pow, fdiv_sg _ _ _ _ hd]
    simp
  · show -((-(sg a x * 2 ^ s)).fdiv (sg b d)) = _
    rw [← sg_pow, neg_sg, fdiv_sg _ _ _ _ hd, neg_sg]
    cases a <;> cases b <;> rfl
theorem whole_sg (neg up : Bool) (N : Nat) (k : Int) : wholeS (sg neg N) k up = sg neg (rdv (up != neg) N (2 ^ k.toNat)) := by
  have hp : 0 < 2 ^ k.toNat := Nat.pow_pos (by decide)
  have hP : (2 : Int) ^ k.toNat = ((2 ^ k.toNat : Nat) : Int) := by simp
  have h1 := pos_fdiv_rdv N (2 ^ k.toNat) hp
  have h2 := neg_fdiv_rdv N (2 ^ k.toNat) hp
  rw [Int.fdiv_eq_ediv_of_nonneg _ (by omega)] at h1 h2
  cases up <;> cases neg
  · show (N : Int) / 2 ^ k.toNat = _
    rw [hP, h1]; rfl
  · show (-(N : Int)) / 2 ^ k.toNat = _
    rw [hP, h2]; rfl
  · show -((-(N : Int)) / 2 ^ k.toNat) = _
    rw [hP, h2, Int.neg_neg]; rfl
  · show -((-(-(N : Int))) / 2 ^ k.toNat) = _
    rw [Int.neg_neg, hP, h1]; rfl
/-- A quotient, and one bit below it that tells whether anything is left. -/
def stk (y d : Nat) : Nat := 2 * (y / d) + (if y % d = 0 then 0 else 1)
theorem stk_rdv (aw : Bool) (y d j : Nat) (hd : 0 < d) (hj : 0 < j) : rdv aw (stk y d) (2 ^ j) = rdv aw y (d * 2 ^ (j - 1)) := by
  have hp : 0 < 2 ^ (j - 1) := Nat.pow_pos (by decide)
  have e : 2 ^ j = 2 * 2 ^ (j - 1) := by rw [Nat.mul_comm, ← Nat.pow_succ]; congr 1; omega
  rw [e, ← rdv_rdv aw _ 2 _ (by decide) hp, ← rdv_rdv aw y d _ hd hp]
  congr 1
  have h1 := Nat.div_add_mod y d
  have h2 := Nat.mod_lt y hd
  unfold stk
  obtain ⟨q, hq⟩ : ∃ q, q = y / d := ⟨_, rfl⟩
  obtain ⟨r, hr⟩ : ∃ r, r = y % d := ⟨_, rfl⟩
  rw [← hq, ← hr] at h1
  rw [← hr] at h2
  rw [← hq, ← hr]
  cases aw
  · show (2 * q + (if r = 0 then 0 else 1)) / 2 = y / d
    rw [← hq]
    split <;> omega
  · show (2 * q + (if r = 0 then 0 else 1) + 2 - 1) / 2 = (y + d - 1) / d
    split
    · have : (y + d - 1) / d = q := by
        rw [show y + d - 1 = (d - 1) + d * q by omega, Nat.add_mul_div_left _ _ hd, Nat.div_eq_of_lt (by omega), Nat.zero_add]
      omega
    · have : (y + d - 1) / d = q + 1 := by
        rw [show y + d - 1 = (r - 1) + d * (q + 1) by rw [Nat.mul_add]; omega, Nat.add_mul_div_left _ _ hd, Nat.div_eq_of_lt (by omega), Nat.zero_add]
      omega
theorem told_pow (neg : Bool) (p : Nat) (E : Int) (hp : 0 < p) (hE : -1099511627776 ≤ E) : toldS (sg neg (2 ^ p)) E = toldS (sg neg (2 ^ (p - 1))) (E + 1) := by
  have hne : ∀ k : Nat, sg neg (2 ^ k) ≠ 0 := fun k h => by
    have h1 := sg_abs neg (2 ^ k)
    rw [h] at h1
    have : 0 < 2 ^ k := Nat.pow_pos (by decide)
    simp at h1
    omega
  have htz : ∀ k : Nat, tz (2 ^ k) = k := fun k => tz_eq (m := 1) (by simp) (by decide)
  have hq : ∀ k : Nat, sg neg (2 ^ k) / 2 ^ k = sg neg 1 := fun k => by
    have := sg_pow 1 k neg
    rw [Nat.one_mul] at this
    rw [this]
    exact Int.mul_ediv_cancel _ (Int.ne_of_gt (Int.pow_pos (by decide)))
  have h1 : ∀ k : Nat, 2 ^ k / 2 ^ k = 1 := fun k => Nat.div_self (Nat.pow_pos (by decide))
  have hl : ¬ 16384 < L32 1 := by decide +kernel
  unfold toldS
  simp only [sg_abs, htz, hq, h1]
  rw [if_neg (hne p), if_neg (hne (p - 1)), if_neg (show ¬ E < -1099511627776 by omega), if_neg (show ¬ E + 1 < -1099511627776 by omega), if_neg hl, if_neg hl]
  rw [show E + 1 + ((p - 1 : Nat) : Int) = E + (p : Int) by omega]
  by_cases h2 : 1048576 < E + 1
  · rw [if_pos h2]
    split
    · rfl
    · rw [if_neg (by omega), if_pos (by omega)]
  · rw [if_neg h2, if_neg (by omega)]
/-- A quotient with a bit for what is left, cut, and the quotient rounded, cut. -/
theorem quo_same (neg up : Bool) (x d p t : Nat) (E : Int) (ht : t ≤ 1) (hp : 0 < p) (hF : 2 ^ p ≤ x / d) (hd : 0 < d) (hE : -1000000000000 ≤ E) :
    cutS (sg neg (stk (x * 2 ^ t) d)) (E - t - 1) p up = cutS (sg neg (rdv (up != neg) x d)) E p up := by
  obtain ⟨aw, haw⟩ : ∃ aw, aw = (up != neg) := ⟨_, rfl⟩
  rw [← haw]
  obtain ⟨F, hFe⟩ : ∃ F, F = x / d := ⟨_, rfl⟩
  obtain ⟨N, hN⟩ : ∃ N, N = rdv aw x d := ⟨_, rfl⟩
  have hge := rdv_ge aw x d hd
  have hup := rdv_up aw x d hd
  rw [← hFe] at hF hge hup
  rw [← hN] at hge hup ⊢
  have hFp : 0 < 2 ^ p := Nat.pow_pos (by decide)
  have hbF := bl_ge hF
  have hbN : p < bl N := bl_ge (Nat.le_trans hF hge)
  have htp : 0 < 2 ^ t := Nat.pow_pos (by decide)
  have hQ : x * 2 ^ t / d / 2 ^ t = F := by
    rw [Nat.div_div_eq_div_mul, Nat.mul_div_mul_right _ _ htp, hFe]
  have hbQ : bl (x * 2 ^ t / d) = t + bl F := by rw [bl_top _ t (by rw [hQ]; omega), hQ]
  have hM2 : stk (x * 2 ^ t) d / 2 ^ 1 = x * 2 ^ t / d := by
    unfold stk
    split <;> omega
  have hQ0 : x * 2 ^ t / d ≠ 0 := fun h => by rw [h] at hQ; simp at hQ; omega
  have hbM : bl (stk (x * 2 ^ t) d) = 1 + (t + bl F) := by rw [bl_top _ 1 (by rw [hM2]; exact hQ0), hM2, hbQ]
  obtain ⟨j, hj⟩ : ∃ j, j = bl F - p := ⟨_, rfl⟩
  have hR : rdv aw x (d * 2 ^ j) = rdv aw N (2 ^ j) := by rw [hN, rdv_rdv _ _ _ _ hd (Nat.pow_pos (by decide))]
  unfold cutS
  rw [sg_abs, sg_abs, hbM, if_neg (by omega), if_neg (by omega), whole_sg, whole_sg, ← haw]
  rw [show ((1 + (t + bl F) : Nat) : Int) - (p : Int) = ((1 + (t + j) : Nat) : Int) by omega, Int.toNat_natCast, stk_rdv _ _ _ _ hd (by omega)]
  rw [show 1 + (t + j) - 1 = j + t by omega, Nat.pow_add, ← Nat.mul_assoc, rdv_cancel _ _ _ _ htp (Nat.mul_pos hd (Nat.pow_pos (by decide))), hR]
  rw [show E - (t : Int) - 1 + ((1 + (t + j) : Nat) : Int) = E + (j : Int) by omega]
  by_cases hb : bl N = bl F
  · rw [hb, show ((bl F : Nat) : Int) - (p : Int) = (j : Int) by omega, Int.toNat_natCast]
  · have h1 := lt_bl F
    have h2 : bl F ≤ bl N := bl_mono hge
    have h3 : N = 2 ^ bl F := by
      rcases Nat.lt_or_ge N (2 ^ bl F) with h | h
      · exact absurd (Nat.le_antisymm (bl_le h) h2) hb
      · omega
    have h4 : bl N = bl F + 1 := by
      rw [h3]
      exact bl_eq (Nat.pow_lt_pow_right (by decide) (by omega)) (.inr (by simp))
    rw [h4, show ((bl F + 1 : Nat) : Int) - (p : Int) = ((j + 1 : Nat) : Int) by omega, Int.toNat_natCast, h3]
    have e1 : 2 ^ bl F = 2 ^ p * 2 ^ j := by rw [← Nat.pow_add]; congr 1; omega
    have e2 : 2 ^ bl F = 2 ^ (p - 1) * 2 ^ (j + 1) := by rw [← Nat.pow_add]; congr 1; omega
    rw [show rdv aw (2 ^ bl F) (2 ^ j) = 2 ^ p by rw [e1, rdv_exact _ _ _ (Nat.pow_pos (by decide))]]
    rw [show rdv aw (2 ^ bl F) (2 ^ (j + 1)) = 2 ^ (p - 1) by rw [e2, rdv_exact _ _ _ (Nat.pow_pos (by decide))]]
    rw [told_pow neg p _ hp (by omega)]
    congr 1
    omega
def quoK (n m p c : Int) : Int := max 0 (p + c + bl m.natAbs - bl n.natAbs)
def quoS (n e m f p : Int) (up : Bool) : PV := if p < 1 then dyE 1 else if 70000 < p then dyE 1 else if m = 0 then dyE 4 else if 4096 < L64 n.natAbs then dyE 5 else if 4096 < L64 m.natAbs then dyE 5
  else cutS (docQ n m (quoK n m p 1).toNat up) (e - f - quoK n m p 1) p up
theorem quoS_1 {n e m f p : Int} {up : Bool} (h : p < 1 ∨ 70000 < p) : quoS n e m f p up = dyE 1 := by
  unfold quoS
  split
  · rfl
  · rw [if_pos (by omega)]
theorem quoS_4 {n e m f p : Int} {up : Bool} (h : 1 ≤ p ∧ p ≤ 70000) (hm : m = 0) : quoS n e m f p up = dyE 4 := by
  unfold quoS
  rw [if_neg (by omega), if_neg (by omega), if_pos hm]
theorem quoS_5 {n e m f p : Int} {up : Bool} (h : 1 ≤ p ∧ p ≤ 70000) (hm : m ≠ 0) (hl : 4096 < L64 n.natAbs ∨ 4096 < L64 m.natAbs) : quoS n e m f p up = dyE 5 := by
  unfold quoS
  rw [if_neg (by omega), if_neg (by omega), if_neg hm]
  split
  · rfl
  · rw [if_pos (by omega)]
theorem quoS_ok {n e m f p : Int} {up : Bool} (h : 1 ≤ p ∧ p ≤ 70000) (hm : m ≠ 0) (hn4 : L64 n.natAbs ≤ 4096) (hm4 : L64 m.natAbs ≤ 4096) : quoS n e m f p up = cutS (docQ n m (quoK n m p 1).toNat up) (e - f - quoK n m p 1) p up := by
  unfold quoS
  rw [if_neg (by omega), if_neg (by omega), if_neg hm, if_neg (by omega), if_neg (by omega)]
theorem quo_form (n e m f p : Int) (up : Bool) : ∃ x y c, quoS n e m f p up = .tup [DY x y, .val (.int .i64 c)] ∧ Good x y := by
  unfold quoS
  repeat' split
  · exact ⟨0, 0, 1, rfl, Good.zero⟩
  · exact ⟨0, 0, 1, rfl, Good.zero⟩
  · exact ⟨0, 0, 4, rfl, Good.zero⟩
  · exact ⟨0, 0, 5, rfl, Good.zero⟩
  · exact ⟨0, 0, 5, rfl, Good.zero⟩
  · obtain ⟨x, y, c, h, g, _⟩ := cut_form (docQ n m (quoK n m p 1).toNat up) (e - f - quoK n m p 1) p up
    exact ⟨x, y, c, h, g⟩
/-- What the program cuts is what the document cuts. -/
theorem quo_code {n e m f p : Int} (up : Bool) (h : 1 ≤ p ∧ p ≤ 70000) (hm : m ≠ 0) (hn4 : bl n.natAbs ≤ 262144) (hm4 : bl m.natAbs ≤ 262144) (he : -1048576 ≤ e ∧ e ≤ 1048576) (hf : -1048576 ≤ f ∧ f ≤ 1048576) :
    cutS (sg (decide (n < 0) != decide (m < 0)) (stk (n.natAbs * 2 ^ (quoK n m p 2).toNat) m.natAbs)) (e - f - quoK n m p 2 - 1) p up = cutS (docQ n m (quoK n m p 1).toNat up) (e - f - quoK n m p 1) p up := by
  have hd : 0 < m.natAbs := by omega
  rw [docQ_eq _ _ _ _ hm]
  have hk1 : quoK n m p 1 = max 0 (p + 1 + bl m.natAbs - bl n.natAbs) := rfl
  have hk2 : quoK n m p 2 = max 0 (p + 2 + bl m.natAbs - bl n.natAbs) := rfl
  obtain ⟨k1, e1⟩ : ∃ k, k = quoK n m p 1 := ⟨_, rfl⟩
  obtain ⟨k2, e2⟩ : ∃ k, k = quoK n m p 2 := ⟨_, rfl⟩
  rw [← e1] at hk1 ⊢
  rw [← e2] at hk2 ⊢
  obtain ⟨neg, hneg⟩ : ∃ b, b = (decide (n < 0) != decide (m < 0)) := ⟨_, rfl⟩
  rw [← hneg]
  obtain ⟨P, rfl⟩ : ∃ P : Nat, p = (P : Int) := ⟨p.toNat, by omega⟩
  by_cases h0 : n = 0
  · subst h0
    have z1 : stk (Int.natAbs 0 * 2 ^ k2.toNat) m.natAbs = 0 := by
      unfold stk; simp
    have z2 : rdv (up != neg) (Int.natAbs 0 * 2 ^ k1.toNat) m.natAbs = 0 := by
      have := rdv_le (up != neg) (Int.natAbs 0 * 2 ^ k1.toNat) m.natAbs hd
      simp at this ⊢
      exact this
    rw [z1, z2]
    have z3 : sg neg 0 = 0 := by cases neg <;> rfl
    have z4 : ∀ E : Int, cutS 0 E (P : Int) up = dyE 0 := fun E => by
      unfold cutS
      rw [if_pos (by rw [show Int.natAbs 0 = 0 from rfl, bl_zero]; omega)]
      unfold toldS
      rw [if_pos rfl]
    rw [z3, z4, z4]
  · have hn0 : n.natAbs ≠ 0 := by omega
    obtain ⟨t, ht⟩ : ∃ t : Nat, t = (k2 - k1).toNat := ⟨_, rfl⟩
    have hk : k2.toNat = k1.toNat + t := by omega
    have hq := quo_same neg up (n.natAbs * 2 ^ k1.toNat) m.natAbs P t (e - f - k1) (by omega) (by omega) ?_ hd (by omega)
    · rw [hk, Nat.pow_add, ← Nat.mul_assoc, ← hq]
      congr 1
      omega
    · rw [Nat.le_div_iff_mul_le hd]
      have a1 := le_of_bl hn0
      have a2 := lt_bl m.natAbs
      have a3 : 2 ^ P * m.natAbs ≤ 2 ^ P * 2 ^ bl m.natAbs := Nat.mul_le_mul_left _ (Nat.le_of_lt a2)
      have a4 : 2 ^ (bl n.natAbs - 1) * 2 ^ k1.toNat ≤ n.natAbs * 2 ^ k1.toNat := Nat.mul_le_mul_right _ a1
      rw [← Nat.pow_add] at a3 a4
      have a5 : 2 ^ (P + bl m.natAbs) ≤ 2 ^ (bl n.natAbs - 1 + k1.toNat) := Nat.pow_le_pow_right (by decide) (by have := bl_pos hn0; omega)
      omega
end Go.Proofs.YtbeocnjlepcglaaGreatDoor.Sim
namespace Go.Proofs.YtbeocnjlepcglaaGreatDoor.Sim
open Go.RowKit
set_option linter.unusedVariables false
set_option linter.unusedSimpArgs false
set_option maxRecDepth 10000
set_option maxHeartbeats 8000000
variable {G : List (Nat × List Value)}
theorem rdv_L32 (aw : Bool) (x d : Nat) (hd : 0 < d) : L32 (rdv aw x d) ≤ L32 x := L32_mono (rdv_le aw x d hd)
theorem docQ_L (n m : Int) (s : Nat) (up : Bool) (hm : m ≠ 0) : LZ (docQ n m s up) ≤ LZ n + s / 32 + 1 := by
  rw [docQ_eq n m s up hm]
  unfold LZ
  rw [sg_abs]
  exact Nat.le_trans (rdv_L32 _ _ _ (by omega)) (L32_shl _ _)
theorem r_quo {n e m f : Int} (p : Int) (up : Bool) (h : Good n e) (g : Good m f) (hp : inR .i64 p) : FC Tryz.prog G 140 [DY n e, DY m f, .val (.int .i64 p), .val (.bool up)] (· = quoS n e m f p up) := by
  dsimp only [inR] at hp
  have l1 := h.lz
  have l2 := g.lz
  have u1 : LZ n = L32 n.natAbs := rfl
  have u2 : LZ m = L32 m.natAbs := rfl
  have e1 := h.2.1
  have e2 := h.2.2.1
  have e3 := g.2.1
  have e4 := g.2.2.1
  have b1 := h.bl
  have b2 := g.bl
  have z1 := r_bits (G := G) n.natAbs (by omega)
  have z2 := r_bits (G := G) m.natAbs (by omega)
  obtain ⟨K, hK⟩ : ∃ K, K = quoK n m p 1 := ⟨_, rfl⟩
  have hK2 : K = max 0 (p + 1 + bl m.natAbs - bl n.natAbs) := hK
  have z3 : Unit → 1 ≤ p ∧ p ≤ 70000 → FC Tryz.prog G 127 [ZI n, .val (.int .i64 K)] (· = ZI (n * 2 ^ K.toNat)) := fun _ hp => r_zshl (G := G) n K (by omega) (by dsimp only [inR]; omega) (by omega)
  have hs := LZ_shl n K.toNat
  have z4 : Unit → 1 ≤ p ∧ p ≤ 70000 → FC Tryz.prog G 158 [ZI (n * 2 ^ K.toNat), ZI m] (· = ZI (docQ n m K.toNat false)) := fun _ hp => r_zfdiv (G := G) (n * 2 ^ K.toNat) m (by omega) (by omega)
  have z5 : Unit → 1 ≤ p ∧ p ≤ 70000 → FC Tryz.prog G 159 [ZI (n * 2 ^ K.toNat), ZI m] (· = ZI (docQ n m K.toNat true)) := fun _ hp => r_zcdiv (G := G) (n * 2 ^ K.toNat) m (by omega) (by omega)
  obtain ⟨x, y, c, hr, hgd, hcc⟩ := cut_form (docQ n m K.toNat up) (e - f - K) p up
  have z6 : Unit → 1 ≤ p ∧ p ≤ 70000 → m ≠ 0 → FC Tryz.prog G 156 [ZI (docQ n m K.toNat up), .val (.int .i64 (e - f - K)), .val (.int .i64 p), .val (.bool up)] (· = .tup [DY x y, .val (.int .i64 c)]) := fun _ hp hm => by
    have hq := docQ_L n m K.toNat up hm
    rw [← hr]
    exact r_cut (G := G) _ _ _ _ (by omega) (by omega) (by omega)
  have hlx : (d64 n.natAbs).length = L64 n.natAbs := rfl
  have hly : (d64 m.natAbs).length = L64 m.natAbs := rfl
  have hok : Unit → 1 ≤ p ∧ p ≤ 70000 → m ≠ 0 → L64 n.natAbs ≤ 4096 → L64 m.natAbs ≤ 4096 → quoS n e m f p up = .tup [DY x y, .val (.int .i64 c)] := fun _ a b c d => by rw [quoS_ok a b c d, ← hK, hr]
  refine FC.intro (X := XX) tok Tryz.func140 rfl Tryz.ntmps140 (by rw [Tryz.results140]) (by kernel_rfl) rfl ?_; intro F hG hO
  rw [← hG] at z1 z2 z3 z4 z5 z6
  repeat' ((try (conv => whnf)); first
  | ((with_reducible refine cg ?_); refine call_eq (r_formg h) (LpL.refl _) rfl ?_)
  | ((with_reducible refine cg ?_); refine call_eq (r_formg g) (LpL.refl _) rfl ?_)
  | ((with_reducible refine cg ?_); refine call_eq (r_noughtg m f) (LpL.refl _) rfl ?_)
  | ((with_reducible refine cg ?_); refine call_eq (r_zfromN n (Nat.le_trans h.1 (by decide))) (LpL.refl _) rfl ?_)
  | ((with_reducible refine cg ?_); refine call_eq (r_zfromN m (Nat.le_trans g.1 (by decide))) (LpL.refl _) rfl ?_)
  | ((with_reducible refine cg ?_); refine call_eq z1 (LpL.refl _) rfl ?_)
  | ((with_reducible refine cg ?_); refine call_eq z2 (LpL.refl _) rfl ?_)
  | ((with_reducible refine cg ?_); rw [← hK2]; refine call_eq (z3 () (by omega)) (LpL.refl _) rfl ?_)
  | ((with_reducible refine cg ?_); refine call_eq (z3 () (by omega)) (LpL.refl _) rfl ?_)
  | ((with_reducible refine cg ?_); refine call_eq (z4 () (by omega)) (LpL.refl _) rfl ?_)
  | ((with_reducible refine cg ?_); refine call_eq (z5 () (by omega)) (LpL.refl _) rfl ?_)
  | ((with_reducible refine cg ?_); subst hc; refine call_eq (z6 () (by omega) (by omega)) (LpL.refl _) rfl ?_)
  
  | (with_reducible refine draw_t (id := 9) (.one 0 (.one 1 (.one 3 (.one 4 (.two (.one 2 (.two (.one 5 (.two (.one 6 (.one 7 (.st (.one 8 (.st (.one 9 (.fin))))))) (.one 7 (.one 6 (.st (.one 8 (.st (.one 9 (.fin))))))))) (.two (.one 6 (.two (.one 5 (.one 7 (.st (.one 8 (.st (.one 9 (.fin))))))) (.one 7 (.one 5 (.st (.one 8 (.st (.one 9 (.fin))))))))) (.one 7 (.two (.one 5 (.one 6 (.st (.one 8 (.st (.one 9 (.fin))))))) (.one 6 (.one 5 (.st (.one 8 (.st (.one 9 (.fin)))))))))))) (.two (.one 6 (.two (.one 2 (.two (.one 5 (.one 7 (.st (.one 8 (.st (.one 9 (.fin))))))) (.one 7 (.one 5 (.st (.one 8 (.st (.one 9 (.fin))))))))) (.one 7 (.one 2 (.one 5 (.st (.one 8 (.st (.one 9 (.fin)))))))))) (.one 7 (.two (.one 2 (.two (.one 5 (.one 6 (.st (.one 8 (.st (.one 9 (.fin))))))) (.one 6 (.one 5 (.st (.one 8 (.st (.one 9 (.fin))))))))) (.one 6 (.one 2 (.one 5 (.st (.one 8 (.st (.one 9 (.fin)))))))))))))))) tok mixed (by kernel_rfl) (by kernel_rfl) ?_)
  | (with_reducible refine draw_g (id := 10) [[0, 1, 2, 3, 6, 7, 4, 5, 8, 9, 10, 11]] tok mixed (by kernel_rfl) ?_)
  | (with_reducible refine draw_t (id := 11) (.one 0 (.one 1 (.one 3 (.two (.one 2 (.two (.one 4 (.one 5 (.st (.one 6 (.fin))))) (.one 5 (.one 4 (.st (.one 6 (.fin))))))) (.one 5 (.one 2 (.one 4 (.st (.one 6 (.fin)))))))))) tok mixed (by kernel_rfl) (by kernel_rfl) ?_)
  | (with_reducible refine draw_g (id := 13) [[0, 1, 3, 2, 4], [5]] tok mixed (by kernel_rfl) ?_)
  | (with_reducible refine Chk.mk' (by first | omega | exact trivial | (simp only [List.length_append, List.length_set, List.length_replicate, List.length_take, List.length_drop, List.length_cons, List.length_nil, List.length_map]; omega)) ?_)
  | (with_reducible refine wrap_g (by dsimp only [inR]; omega) ?_)
  | (with_reducible refine idx_g (by omega) ?_)
  | (with_reducible refine idx_l _ rfl (by decide) ?_)
  | (with_reducible refine BothG.mk ?_ ?_)
  | (with_reducible refine fork_tt ?_) | (with_reducible refine fork_ff ?_)
  | (with_reducible refine fork_e (c := true) (by decide) ?_; with_reducible refine fork_tt ?_) | (with_reducible refine fork_e (c := false) (by decide) ?_; with_reducible refine fork_ff ?_)
  | (with_reducible refine fork_t (by omega) ?_) | (with_reducible refine fork_f (by omega) ?_)
  | (with_reducible refine fork_d ?_ ?_ <;> intro hc)
  | (with_reducible refine fork_n ?_)
  | (with_reducible refine fork_b ?_ ?_ <;> intro hc)
  | (with_reducible refine SlcG.mk (by omega) ?_)
  | (with_reducible refine MakG.mk (by dsimp only; omega) ?_)
  | (with_reducible refine AppG.mk (by first | omega | (simp only [List.length_append, List.length_set, List.length_replicate, List.length_take, List.length_drop, List.length_cons, List.length_nil, List.length_map]; omega)) (by dsimp only [List.length_cons, List.length_nil]; omega) (by omega) ?_)
  | (with_reducible refine div_g (by omega) (by omega) (by dsimp only [inR]; omega) ?_)
  | (with_reducible refine mod_g (by omega) (by omega) ?_)
  | (with_reducible refine mask_g (m := 4294967296) 32 rfl rfl (by decide) (by omega) ?_)
  | (with_reducible refine shr_g (m := 4294967296) 32 rfl (by decide) (by omega) rfl ?_)
  | (with_reducible refine fz_all (by omega) ?_)
  | (with_reducible refine Stuck.h (A := RetE _ _) ?_) | (with_reducible refine Stuck.h (A := RetM _ _ _ _) ?_) | (with_reducible refine Stuck.h (A := Again _ _ _ _ _ _ _ _) ?_) | (with_reducible refine Stuck.h (A := CallF _ _ _ _ _ _ _) ?_) | (with_reducible refine Stuck.h (A := LoopG _ _ _ _ _ _ _ _) ?_) | (with_reducible refine Stuck.h (A := DrawG _ _ _ _ _ _ _ _) ?_)
  | (with_reducible refine Stuck.h (A := WrapG _ _ _) ?_) | (with_reducible refine Stuck.h (A := DivG _ _ _ _) ?_) | (with_reducible refine Stuck.h (A := ModG _ _ _) ?_) | (with_reducible refine Stuck.h (A := ShlG _ _ _ _) ?_) | (with_reducible refine Stuck.h (A := ShrG _ _ _ _) ?_) | (with_reducible refine Stuck.h (A := BitG _ _ _ _ _) ?_)
  | (with_reducible refine Stuck.h (A := IdxG _ _ _) ?_) | (with_reducible refine Stuck.h (A := IdxL _ _ _) ?_) | (with_reducible refine Stuck.h (A := SlcG _ _ _ _ _) ?_) | (with_reducible refine Stuck.h (A := MakG _ _ _ _) ?_) | (with_reducible refine Stuck.h (A := AppG _ _ _ _ _ _ _) ?_) | (with_reducible refine Stuck.h (A := FzG _ _ _ _) ?_)
  | (with_reducible refine Stuck.h (A := RawG _) ?_) | (with_reducible refine Stuck.h (A := TabG _ _ _ _ _) ?_) | (with_reducible refine Stuck.h (A := ExtF _ _ _ _) ?_) | (with_reducible refine Stuck.h (A := Chk _ _) ?_) | (with_reducible refine Stuck.h (A := False) ?_))
  all_goals first
    | exact ⟨ret_l _ (lp_dyE 1) (quoS_1 (by omega)).symm⟩
    | exact ⟨ret_l _ (lp_dyE 4) (quoS_4 (by omega) (by omega)).symm⟩
    | exact ⟨ret_l _ (lp_dyE 5) (quoS_5 (by omega) (by omega) (by omega)).symm⟩
    | exact ⟨ret_e (hok () (by omega) (by omega) (by omega) (by omega)).symm⟩
theorem r_docquodown {n e m f : Int} (p : Int) (h : Good n e) (g : Good m f) (hp : inR .i64 p) : FC Tryz.prog G 103 [DY n e, DY m f, .val (.int .i64 p)] (· = quoS n e m f p false) := by
  have f1 := r_quo (G := G) p false h g hp
  obtain ⟨x, y, c, hr, hgd⟩ := quo_form n e m f p false
  rw [hr] at f1 ⊢
  refine FC.intro (X := XX) tok Tryz.func103 rfl Tryz.ntmps103 (by rw [Tryz.results103]) (by kernel_rfl) rfl ?_; intro F hG hO
  rw [← hG] at f1
  repeat' ((try (conv => whnf)); first
  | ((with_reducible refine cg ?_); refine call_eq f1 (LpL.refl _) rfl ?_)
  
  | (with_reducible refine Chk.mk' (by first | omega | exact trivial | (simp only [List.length_append, List.length_set, List.length_replicate, List.length_take, List.length_drop, List.length_cons, List.length_nil, List.length_map]; omega)) ?_)
  | (with_reducible refine wrap_g (by dsimp only [inR]; omega) ?_)
  | (with_reducible refine idx_g (by omega) ?_)
  | (with_reducible refine idx_l _ rfl (by decide) ?_)
  | (with_reducible refine BothG.mk ?_ ?_)
  | (with_reducible refine fork_tt ?_) | (with_reducible refine fork_ff ?_)
  | (with_reducible refine fork_e (c := true) (by decide) ?_; with_reducible refine fork_tt ?_) | (with_reducible refine fork_e (c := false) (by decide) ?_; with_reducible refine fork_ff ?_)
  | (with_reducible refine fork_t (by omega) ?_) | (with_reducible refine fork_f (by omega) ?_)
  | (with_reducible refine fork_d ?_ ?_ <;> intro hc)
  | (with_reducible refine fork_n ?_)
  | (with_reducible refine fork_b ?_ ?_ <;> intro hc)
  | (with_reducible refine SlcG.mk (by omega) ?_)
  | (with_reducible refine MakG.mk (by dsimp only; omega) ?_)
  | (with_reducible refine AppG.mk (by first | omega | (simp only [List.length_append, List.length_set, List.length_replicate, List.length_take, List.length_drop, List.length_cons, List.length_nil, List.length_map]; omega)) (by dsimp only [List.length_cons, List.length_nil]; omega) (by omega) ?_)
  | (with_reducible refine div_g (by omega) (by omega) (by dsimp only [inR]; omega) ?_)
  | (with_reducible refine mod_g (by omega) (by omega) ?_)
  | (with_reducible refine mask_g (m := 4294967296) 32 rfl rfl (by decide) (by omega) ?_)
  | (with_reducible refine shr_g (m := 4294967296) 32 rfl (by decide) (by omega) rfl ?_)
  | (with_reducible refine fz_all (by omega) ?_)
  | (with_reducible refine Stuck.h (A := RetE _ _) ?_) | (with_reducible refine Stuck.h (A := RetM _ _ _ _) ?_) | (with_reducible refine Stuck.h (A := Again _ _ _ _ _ _ _ _) ?_) | (with_reducible refine Stuck.h (A := CallF _ _ _ _ _ _ _) ?_) | (with_reducible refine Stuck.h (A := LoopG _ _ _ _ _ _ _ _) ?_) | (with_reducible refine Stuck.h (A := DrawG _ _ _ _ _ _ _ _) ?_)
  | (with_reducible refine Stuck.h (A := WrapG _ _ _) ?_) | (with_reducible refine Stuck.h (A := DivG _ _ _ _) ?_) | (with_reducible refine Stuck.h (A := ModG _ _ _) ?_) | (with_reducible refine Stuck.h (A := ShlG _ _ _ _) ?_) | (with_reducible refine Stuck.h (A := ShrG _ _ _ _) ?_) | (with_reducible refine Stuck.h (A := BitG _ _ _ _ _) ?_)
  | (with_reducible refine Stuck.h (A := IdxG _ _ _) ?_) | (with_reducible refine Stuck.h (A := IdxL _ _ _) ?_) | (with_reducible refine Stuck.h (A := SlcG _ _ _ _ _) ?_) | (with_reducible refine Stuck.h (A := MakG _ _ _ _) ?_) | (with_reducible refine Stuck.h (A := AppG _ _ _ _ _ _ _) ?_) | (with_reducible refine Stuck.h (A := FzG _ _ _ _) ?_)
  | (with_reducible refine Stuck.h (A := RawG _) ?_) | (with_reducible refine Stuck.h (A := TabG _ _ _ _ _) ?_) | (with_reducible refine Stuck.h (A := ExtF _ _ _ _) ?_) | (with_reducible refine Stuck.h (A := Chk _ _) ?_) | (with_reducible refine Stuck.h (A := False) ?_))
  exact ⟨ret_e rfl⟩
theorem r_docquoup {n e m f : Int} (p : Int) (h : Good n e) (g : Good m f) (hp : inR .i64 p) : FC Tryz.prog G 104 [DY n e, DY m f, .val (.int .i64 p)] (· = quoS n e m f p true) := by
  have f1 := r_quo (G := G) p true h g hp
  obtain ⟨x, y, c, hr, hgd⟩ := quo_form n e m f p true
  rw [hr] at f1 ⊢
  refine FC.intro (X := XX) tok Tryz.func104 rfl Tryz.ntmps104 (by rw [Tryz.results104]) (by kernel_rfl) rfl ?_; intro F hG hO
  rw [← hG] at f1
  repeat' ((try (conv => whnf)); first
  | ((with_reducible refine cg ?_); refine call_eq f1 (LpL.refl _) rfl ?_)
  
  | (with_reducible refine Chk.mk' (by first | omega | exact trivial | (simp only [List.length_append, List.length_set, List.length_replicate, List.length_take, List.length_drop, List.length_cons, List.length_nil, List.length_map]; omega)) ?_)
  | (with_reducible refine wrap_g (by dsimp only [inR]; omega) ?_)
  | (with_reducible refine idx_g (by omega) ?_)
  | (with_reducible refine idx_l _ rfl (by decide) ?_)
  | (with_reducible refine BothG.mk ?_ ?_)
  | (with_reducible refine fork_tt ?_) | (with_reducible refine fork_ff ?_)
  | (with_reducible refine fork_e (c := true) (by decide) ?_; with_reducible refine fork_tt ?_) | (with_reducible refine fork_e (c := false) (by decide) ?_; with_reducible refine fork_ff ?_)
  | (with_reducible refine fork_t (by omega) ?_) | (with_reducible refine fork_f (by omega) ?_)
  | (with_reducible refine fork_d ?_ ?_ <;> intro hc)
  | (with_reducible refine fork_n ?_)
  | (with_reducible refine fork_b ?_ ?_ <;> intro hc)
  | (with_reducible refine SlcG.mk (by omega) ?_)
  | (with_reducible refine MakG.mk (by dsimp only; omega) ?_)
  | (with_reducible refine AppG.mk (by first | omega | (simp only [List.length_append, List.length_set, List.length_replicate, List.length_take, List.length_drop, List.length_cons, List.length_nil, List.length_map]; omega)) (by dsimp only [List.length_cons, List.length_nil]; omega) (by omega) ?_)
  | (with_reducible refine div_g (by omega) (by omega) (by dsimp only [inR]; omega) ?_)
  | (with_reducible refine mod_g (by omega) (by omega) ?_)
  | (with_reducible refine mask_g (m := 4294967296) 32 rfl rfl (by decide) (by omega) ?_)
  | (with_reducible refine shr_g (m := 4294967296) 32 rfl (by decide) (by omega) rfl ?_)
  | (with_reducible refine fz_all (by omega) ?_)
  | (with_reducible refine Stuck.h (A := RetE _ _) ?_) | (with_reducible refine Stuck.h (A := RetM _ _ _ _) ?_) | (with_reducible refine Stuck.h (A := Again _ _ _ _ _ _ _ _) ?_) | (with_reducible refine Stuck.h (A := CallF _ _ _ _ _ _ _) ?_) | (with_reducible refine Stuck.h (A := LoopG _ _ _ _ _ _ _ _) ?_) | (with_reducible refine Stuck.h (A := DrawG _ _ _ _ _ _ _ _) ?_)
  | (with_reducible refine Stuck.h (A := WrapG _ _ _) ?_) | (with_reducible refine Stuck.h (A := DivG _ _ _ _) ?_) | (with_reducible refine Stuck.h (A := ModG _ _ _) ?_) | (with_reducible refine Stuck.h (A := ShlG _ _ _ _) ?_) | (with_reducible refine Stuck.h (A := ShrG _ _ _ _) ?_) | (with_reducible refine Stuck.h (A := BitG _ _ _ _ _) ?_)
  | (with_reducible refine Stuck.h (A := IdxG _ _ _) ?_) | (with_reducible refine Stuck.h (A := IdxL _ _ _) ?_) | (with_reducible refine Stuck.h (A := SlcG _ _ _ _ _) ?_) | (with_reducible refine Stuck.h (A := MakG _ _ _ _) ?_) | (with_reducible refine Stuck.h (A := AppG _ _ _ _ _ _ _) ?_) | (with_reducible refine Stuck.h (A := FzG _ _ _ _) ?_)
  | (with_reducible refine Stuck.h (A := RawG _) ?_) | (with_reducible refine Stuck.h (A := TabG _ _ _ _ _) ?_) | (with_reducible refine Stuck.h (A := ExtF _ _ _ _) ?_) | (with_reducible refine Stuck.h (A := Chk _ _) ?_) | (with_reducible refine Stuck.h (A := False) ?_))
  exact ⟨ret_e rfl⟩
end Go.Proofs.YtbeocnjlepcglaaGreatDoor.Sim
namespace Go.Proofs.YtbeocnjlepcglaaGreatDoor.Sim
open Go.RowKit
set_option linter.unusedVariables false
set_option linter.unusedSimpArgs false
set_option maxRecDepth 10000
set_option maxHeartbeats 8000000
variable {G : List (Nat × List Value)}
theorem shlT_nat {X : Nat} {k : Int} (hk : 0 ≤ k) (h : (bl X : Int) + k ≤ 524288) : shlT X k = natR (X * 2 ^ k.toNat) := by
  by_cases h0 : X = 0
  · rw [shlT_0 (by omega) h0, h0, Nat.zero_mul]
    unfold natE natR
    rw [d64_0]
  · rw [shlT_ok (by omega) h0 (by omega), natT_ok]
    rw [L64_bl, bl_mul_pow X k.toNat h0]
    omega
theorem NI_sg {b : Bool} {M : Nat} (h : b = true → M ≠ 0) : NI (sg b M) = .agg [.val (.bool b), .ws .u64 (d64 M)] := by
  unfold NI
  rw [sg_abs]
  have : decide (sg b M < 0) = b := by
    cases b
    · simp only [sg]; exact decide_eq_false (by omega)
    · have := h rfl
      simp only [sg]; exact decide_eq_true (by omega)
  rw [this]; rfl
theorem bl_succ (n : Nat) : bl (n + 1) ≤ bl n + 1 := bl_le (by have := lt_bl n; have : 0 < 2 ^ bl n := Nat.pow_pos (by decide); rw [Nat.pow_succ]; omega)
theorem bl_div (x d : Nat) : bl (x / d) ≤ bl x := bl_mono (Nat.div_le_self _ _)
theorem y_quotient {g : List (Nat × List Value)} (hD : (0, debT.map (Value.int .u8)) ∈ g) {n e m f : Int} (p : Int) (up : Bool) (h : Good n e) (k : Good m f) (hp : inR .i64 p) : FC Tryz.prog g 34 [DY n e, DY m f, .val (.int .i64 p), .val (.bool up)] (· = quoS n e m f p up) := by
  dsimp only [inR] at hp
  have f0 := y_precise (G := g) p
  have f1 := y_form (G := g) h
  have f2 := y_form (G := g) k
  have f3 := y_noughtg (G := g) m f
  have hlx : (d64 n.natAbs).length = L64 n.natAbs := rfl
  have hly : (d64 m.natAbs).length = L64 m.natAbs := rfl
  by_cases hp2 : 1 ≤ p ∧ p ≤ 70000
  rotate_left
  · rw [show (decide (1 ≤ p) && decide (p ≤ 70000)) = false by
      rw [← Bool.not_eq_true, Bool.and_eq_true, decide_eq_true_eq, decide_eq_true_eq]; exact hp2] at f0
    rw [quoS_1 (by omega)]
    refine FC.intro (X := XX) tok Tryz.func34 rfl Tryz.ntmps34 (by rw [Tryz.results34]) (by kernel_rfl) rfl ?_; intro F hG hO
    rw [← hG] at f0
    repeat' ((try (conv => whnf)); first
  | ((with_reducible refine cg ?_); refine call_eq (f0) (LpL.refl _) rfl ?_)
  
  | (with_reducible refine draw_g (id := 9) [[0, 1, 2, 3, 4, 7, 8, 9, 5, 6, 10, 11, 12, 13]] tok mixed (by kernel_rfl) ?_)
  | (with_reducible refine Chk.mk' (by first | omega | exact trivial | (simp only [List.length_append, List.length_set, List.length_replicate, List.length_take, List.length_drop, List.length_cons, List.length_nil, List.length_map]; omega)) ?_)
  | (with_reducible refine wrap_g (by dsimp only [inR]; omega) ?_)
  | (with_reducible refine idx_g (by omega) ?_)
  | (with_reducible refine idx_l _ rfl (by decide) ?_)
  | (with_reducible refine BothG.mk ?_ ?_)
  | (with_reducible refine fork_tt ?_) | (with_reducible refine fork_ff ?_)
  | (with_reducible refine fork_e (c := true) (by decide) ?_; with_reducible refine fork_tt ?_) | (with_reducible refine fork_e (c := false) (by decide) ?_; with_reducible refine fork_ff ?_)
  | (with_reducible refine fork_t (by omega) ?_) | (with_reducible refine fork_f (by omega) ?_)
  | (with_reducible refine fork_d ?_ ?_ <;> intro hc)
  | (with_reducible refine fork_n ?_)
  | (with_reducible refine fork_b ?_ ?_ <;> intro hc)
  | (with_reducible refine SlcG.mk (by omega) ?_)
  | (with_reducible refine MakG.mk (by dsimp only; omega) ?_)
  | (with_reducible refine AppG.mk (by first | omega | (simp only [List.length_append, List.length_set, List.length_replicate, List.length_take, List.length_drop, List.length_cons, List.length_nil, List.length_map]; omega)) (by dsimp only [List.length_cons, List.length_nil]; omega) (by omega) ?_)
  | (with_reducible refine div_g (by omega) (by omega) (by dsimp only [inR]; omega) ?_)
  | (with_reducible refine mod_g (by omega) (by omega) ?_)
  | (with_reducible refine mask_g (m := 4294967296) 32 rfl rfl (by decide) (by omega) ?_)
  | (with_reducible refine shr_g (m := 4294967296) 32 rfl (by decide) (by omega) rfl ?_)
  | (with_reducible refine fz_all (by omega) ?_)
  | (with_reducible refine Stuck.h (A := RetE _ _) ?_) | (with_reducible refine Stuck.h (A := RetM _ _ _ _) ?_) | (with_reducible refine Stuck.h (A := Again _ _ _ _ _ _ _ _) ?_) | (with_reducible refine Stuck.h (A := CallF _ _ _ _ _ _ _) ?_) | (with_reducible refine Stuck.h (A := LoopG _ _ _ _ _ _ _ _) ?_) | (with_reducible refine Stuck.h (A := DrawG _ _ _ _ _ _ _ _) ?_)
  | (with_reducible refine Stuck.h (A := WrapG _ _ _) ?_) | (with_reducible refine Stuck.h (A := DivG _ _ _ _) ?_) | (with_reducible refine Stuck.h (A := ModG _ _ _) ?_) | (with_reducible refine Stuck.h (A := ShlG _ _ _ _) ?_) | (with_reducible refine Stuck.h (A := ShrG _ _ _ _) ?_) | (with_reducible refine Stuck.h (A := BitG _ _ _ _ _) ?_)
  | (with_reducible refine Stuck.h (A := IdxG _ _ _) ?_) | (with_reducible refine Stuck.h (A := IdxL _ _ _) ?_) | (with_reducible refine Stuck.h (A := SlcG _ _ _ _ _) ?_) | (with_reducible refine Stuck.h (A := MakG _ _ _ _) ?_) | (with_reducible refine Stuck.h (A := AppG _ _ _ _ _ _ _) ?_) | (with_reducible refine Stuck.h (A := FzG _ _ _ _) ?_)
  | (with_reducible refine Stuck.h (A := RawG _) ?_) | (with_reducible refine Stuck.h (A := TabG _ _ _ _ _) ?_) | (with_reducible refine Stuck.h (A := ExtF _ _ _ _) ?_) | (with_reducible refine Stuck.h (A := Chk _ _) ?_) | (with_reducible refine Stuck.h (A := False) ?_))
    exact ⟨ret_l _ (lp_dyE 1) rfl⟩
  rw [show (decide (1 ≤ p) && decide (p ≤ 70000)) = true by
    rw [Bool.and_eq_true, decide_eq_true_eq, decide_eq_true_eq]; exact hp2] at f0
  by_cases hm : m = 0
  · rw [quoS_4 hp2 hm]
    rw [decide_eq_true hm] at f3
    refine FC.intro (X := XX) tok Tryz.func34 rfl Tryz.ntmps34 (by rw [Tryz.results34]) (by kernel_rfl) rfl ?_; intro F hG hO
    rw [← hG] at f0 f1 f2 f3
    repeat' ((try (conv => whnf)); first
  | ((with_reducible refine cg ?_); refine call_eq (f0) (LpL.refl _) rfl ?_)
  | ((with_reducible refine cg ?_); refine call_eq (f1) (LpL.refl _) rfl ?_)
  | ((with_reducible refine cg ?_); refine call_eq (f2) (LpL.refl _) rfl ?_)
  | ((with_reducible refine cg ?_); refine call_eq (f3) (LpL.refl _) rfl ?_)
  
  | (with_reducible refine draw_g (id := 9) [[0, 1, 2, 3, 4, 7, 8, 9, 5, 6, 10, 11, 12, 13]] tok mixed (by kernel_rfl) ?_)
  | (with_reducible refine Chk.mk' (by first | omega | exact trivial | (simp only [List.length_append, List.length_set, List.length_replicate, List.length_take, List.length_drop, List.length_cons, List.length_nil, List.length_map]; omega)) ?_)
  | (with_reducible refine wrap_g (by dsimp only [inR]; omega) ?_)
  | (with_reducible refine idx_g (by omega) ?_)
  | (with_reducible refine idx_l _ rfl (by decide) ?_)
  | (with_reducible refine BothG.mk ?_ ?_)
  | (with_reducible refine fork_tt ?_) | (with_reducible refine fork_ff ?_)
  | (with_reducible refine fork_e (c := true) (by decide) ?_; with_reducible refine fork_tt ?_) | (with_reducible refine fork_e (c := false) (by decide) ?_; with_reducible refine fork_ff ?_)
  | (with_reducible refine fork_t (by omega) ?_) | (with_reducible refine fork_f (by omega) ?_)
  | (with_reducible refine fork_d ?_ ?_ <;> intro hc)
  | (with_reducible refine fork_n ?_)
  | (with_reducible refine fork_b ?_ ?_ <;> intro hc)
  | (with_reducible refine SlcG.mk (by omega) ?_)
  | (with_reducible refine MakG.mk (by dsimp only; omega) ?_)
  | (with_reducible refine AppG.mk (by first | omega | (simp only [List.length_append, List.length_set, List.length_replicate, List.length_take, List.length_drop, List.length_cons, List.length_nil, List.length_map]; omega)) (by dsimp only [List.length_cons, List.length_nil]; omega) (by omega) ?_)
  | (with_reducible refine div_g (by omega) (by omega) (by dsimp only [inR]; omega) ?_)
  | (with_reducible refine mod_g (by omega) (by omega) ?_)
  | (with_reducible refine mask_g (m := 4294967296) 32 rfl rfl (by decide) (by omega) ?_)
  | (with_reducible refine shr_g (m := 4294967296) 32 rfl (by decide) (by omega) rfl ?_)
  | (with_reducible refine fz_all (by omega) ?_)
  | (with_reducible refine Stuck.h (A := RetE _ _) ?_) | (with_reducible refine Stuck.h (A := RetM _ _ _ _) ?_) | (with_reducible refine Stuck.h (A := Again _ _ _ _ _ _ _ _) ?_) | (with_reducible refine Stuck.h (A := CallF _ _ _ _ _ _ _) ?_) | (with_reducible refine Stuck.h (A := LoopG _ _ _ _ _ _ _ _) ?_) | (with_reducible refine Stuck.h (A := DrawG _ _ _ _ _ _ _ _) ?_)
  | (with_reducible refine Stuck.h (A := WrapG _ _ _) ?_) | (with_reducible refine Stuck.h (A := DivG _ _ _ _) ?_) | (with_reducible refine Stuck.h (A := ModG _ _ _) ?_) | (with_reducible refine Stuck.h (A := ShlG _ _ _ _) ?_) | (with_reducible refine Stuck.h (A := ShrG _ _ _ _) ?_) | (with_reducible refine Stuck.h (A := BitG _ _ _ _ _) ?_)
  | (with_reducible refine Stuck.h (A := IdxG _ _ _) ?_) | (with_reducible refine Stuck.h (A := IdxL _ _ _) ?_) | (with_reducible refine Stuck.h (A := SlcG _ _ _ _ _) ?_) | (with_reducible refine Stuck.h (A := MakG _ _ _ _) ?_) | (with_reducible refine Stuck.h (A := AppG _ _ _ _ _ _ _) ?_) | (with_reducible refine Stuck.h (A := FzG _ _ _ _) ?_)
  | (with_reducible refine Stuck.h (A := RawG _) ?_) | (with_reducible refine Stuck.h (A := TabG _ _ _ _ _) ?_) | (with_reducible refine Stuck.h (A := ExtF _ _ _ _) ?_) | (with_reducible refine Stuck.h (A := Chk _ _) ?_) | (with_reducible refine Stuck.h (A := False) ?_))
    exact ⟨ret_l _ (lp_dyE 4) rfl⟩
  rw [decide_eq_false hm] at f3
  by_cases hl : L64 n.natAbs ≤ 4096 ∧ L64 m.natAbs ≤ 4096
  rotate_left
  · rw [quoS_5 hp2 hm (by omega)]
    refine FC.intro (X := XX) tok Tryz.func34 rfl Tryz.ntmps34 (by rw [Tryz.results34]) (by kernel_rfl) rfl ?_; intro F hG hO
    rw [← hG] at f0 f1 f2 f3
    repeat' ((try (conv => whnf)); first
  | ((with_reducible refine cg ?_); refine call_eq (f0) (LpL.refl _) rfl ?_)
  | ((with_reducible refine cg ?_); refine call_eq (f1) (LpL.refl _) rfl ?_)
  | ((with_reducible refine cg ?_); refine call_eq (f2) (LpL.refl _) rfl ?_)
  | ((with_reducible refine cg ?_); refine call_eq (f3) (LpL.refl _) rfl ?_)
  
  | (with_reducible refine draw_g (id := 9) [[0, 1, 2, 3, 4, 7, 8, 9, 5, 6, 10, 11, 12, 13]] tok mixed (by kernel_rfl) ?_)
  | (with_reducible refine Chk.mk' (by first | omega | exact trivial | (simp only [List.length_append, List.length_set, List.length_replicate, List.length_take, List.length_drop, List.length_cons, List.length_nil, List.length_map]; omega)) ?_)
  | (with_reducible refine wrap_g (by dsimp only [inR]; omega) ?_)
  | (with_reducible refine idx_g (by omega) ?_)
  | (with_reducible refine idx_l _ rfl (by decide) ?_)
  | (with_reducible refine BothG.mk ?_ ?_)
  | (with_reducible refine fork_tt ?_) | (with_reducible refine fork_ff ?_)
  | (with_reducible refine fork_e (c := true) (by decide) ?_; with_reducible refine fork_tt ?_) | (with_reducible refine fork_e (c := false) (by decide) ?_; with_reducible refine fork_ff ?_)
  | (with_reducible refine fork_t (by omega) ?_) | (with_reducible refine fork_f (by omega) ?_)
  | (with_reducible refine fork_d ?_ ?_ <;> intro hc)
  | (with_reducible refine fork_n ?_)
  | (with_reducible refine fork_b ?_ ?_ <;> intro hc)
  | (with_reducible refine SlcG.mk (by omega) ?_)
  | (with_reducible refine MakG.mk (by dsimp only; omega) ?_)
  | (with_reducible refine AppG.mk (by first | omega | (simp only [List.length_append, List.length_set, List.length_replicate, List.length_take, List.length_drop, List.length_cons, List.length_nil, List.length_map]; omega)) (by dsimp only [List.length_cons, List.length_nil]; omega) (by omega) ?_)
  | (with_reducible refine div_g (by omega) (by omega) (by dsimp only [inR]; omega) ?_)
  | (with_reducible refine mod_g (by omega) (by omega) ?_)
  | (with_reducible refine mask_g (m := 4294967296) 32 rfl rfl (by decide) (by omega) ?_)
  | (with_reducible refine shr_g (m := 4294967296) 32 rfl (by decide) (by omega) rfl ?_)
  | (with_reducible refine fz_all (by omega) ?_)
  | (with_reducible refine Stuck.h (A := RetE _ _) ?_) | (with_reducible refine Stuck.h (A := RetM _ _ _ _) ?_) | (with_reducible refine Stuck.h (A := Again _ _ _ _ _ _ _ _) ?_) | (with_reducible refine Stuck.h (A := CallF _ _ _ _ _ _ _) ?_) | (with_reducible refine Stuck.h (A := LoopG _ _ _ _ _ _ _ _) ?_) | (with_reducible refine Stuck.h (A := DrawG _ _ _ _ _ _ _ _) ?_)
  | (with_reducible refine Stuck.h (A := WrapG _ _ _) ?_) | (with_reducible refine Stuck.h (A := DivG _ _ _ _) ?_) | (with_reducible refine Stuck.h (A := ModG _ _ _) ?_) | (with_reducible refine Stuck.h (A := ShlG _ _ _ _) ?_) | (with_reducible refine Stuck.h (A := ShrG _ _ _ _) ?_) | (with_reducible refine Stuck.h (A := BitG _ _ _ _ _) ?_)
  | (with_reducible refine Stuck.h (A := IdxG _ _ _) ?_) | (with_reducible refine Stuck.h (A := IdxL _ _ _) ?_) | (with_reducible refine Stuck.h (A := SlcG _ _ _ _ _) ?_) | (with_reducible refine Stuck.h (A := MakG _ _ _ _) ?_) | (with_reducible refine Stuck.h (A := AppG _ _ _ _ _ _ _) ?_) | (with_reducible refine Stuck.h (A := FzG _ _ _ _) ?_)
  | (with_reducible refine Stuck.h (A := RawG _) ?_) | (with_reducible refine Stuck.h (A := TabG _ _ _ _ _) ?_) | (with_reducible refine Stuck.h (A := ExtF _ _ _ _) ?_) | (with_reducible refine Stuck.h (A := Chk _ _) ?_) | (with_reducible refine Stuck.h (A := False) ?_))
    all_goals exact ⟨ret_l _ (lp_dyE 5) rfl⟩
  have b1 := bl_L64 n.natAbs
  have b2 := bl_L64 m.natAbs
  have e1 := h.2.1
  have e2 := h.2.2.1
  have e3 := k.2.1
  have e4 := k.2.2.1
  rw [quoS_ok hp2 hm hl.1 hl.2, ← quo_code up hp2 hm (by omega) (by omega) ⟨e1, e2⟩ ⟨e3, e4⟩]
  obtain ⟨K, hK⟩ : ∃ K, K = quoK n m p 2 := ⟨_, rfl⟩
  have hK2 : K = max 0 (p + 2 + bl m.natAbs - bl n.natAbs) := hK
  rw [← hK]
  have hm0 : m.natAbs ≠ 0 := by omega
  obtain ⟨x, hx⟩ : ∃ x, x = n.natAbs * 2 ^ K.toNat := ⟨_, rfl⟩
  have hbx : bl x ≤ 400000 := by
    by_cases h0 : n.natAbs = 0
    · rw [hx, h0, Nat.zero_mul, bl_zero]; omega
    · rw [hx, bl_mul_pow _ _ h0]; omega
  have f4 := n_bits (G := g) n.natAbs (by omega)
  have f5 := n_bits (G := g) m.natAbs (by omega)
  have f6 := n_shl (G := g) n.natAbs K (by omega) (by dsimp only [inR]; omega)
  rw [shlT_nat (by omega) (by omega), ← hx] at f6
  have hxl : L64 x ≤ 8192 := by rw [L64_bl]; omega
  have f7 := d_quorem (G := g) x m.natAbs hxl (by omega) hm0
  have hbq := bl_div x m.natAbs
  obtain ⟨Q, hQ⟩ : ∃ Q, Q = x / m.natAbs := ⟨_, rfl⟩
  obtain ⟨R, hR⟩ : ∃ R, R = x % m.natAbs := ⟨_, rfl⟩
  have hst : stk x m.natAbs = 2 * Q + (if R = 0 then 0 else 1) := by rw [hQ, hR]; rfl
  rw [← hQ, ← hR] at f7
  rw [← hQ] at hbq
  rw [← hx, hst]
  have hQl : L64 Q ≤ 8192 := by rw [L64_bl]; omega
  have f8 := n_shl (G := g) Q 1 hQl (by dsimp only [inR]; omega)
  rw [shlT_nat (by decide) (by omega), show (1 : Int).toNat = 1 from rfl, Nat.pow_one, Nat.mul_comm] at f8
  have hlr := len64_pos R
  have hlR : (d64 R).length = L64 R := rfl
  have hb2 : bl (2 * Q) ≤ 400001 := by
    by_cases h0 : Q = 0
    · rw [h0]; decide
    · have := bl_mul_pow Q 1 h0
      rw [Nat.pow_one, Nat.mul_comm] at this
      omega
  have h2l : L64 (2 * Q) ≤ 8192 := by rw [L64_bl]; omega
  have hb3 : bl (2 * Q + 1) ≤ 400002 := by have := bl_succ (2 * Q); omega
  have h3l : L64 (2 * Q + 1) ≤ 8192 := by rw [L64_bl]; omega
  have f9 := n_word (G := g) 1 (by decide)
  have f10 := n_add (G := g) (2 * Q) 1 h2l (Nat.le_trans (L64_le (n := 1) (by decide)) (by decide))
  rw [natT_ok h3l] at f10
  obtain ⟨s1, hs1⟩ : ∃ b, b = decide (n < 0) := ⟨_, rfl⟩
  obtain ⟨s2, hs2⟩ : ∃ b, b = decide (m < 0) := ⟨_, rfl⟩
  obtain ⟨M, hM⟩ : ∃ M, M = 2 * Q + (if R = 0 then 0 else 1) := ⟨_, rfl⟩
  have hMl : L64 M ≤ 8192 := by
    rw [hM]
    split
    · exact h2l
    · exact h3l
  have hlM := len64_pos M
  have hlM2 : (d64 M).length = L64 M := rfl
  rw [← hM]
  have f11 := y_short hD (sg (s1 != s2) M) (e - f - K - 1) p up (by rw [sg_abs]; exact hMl) (by omega) (by omega)
  obtain ⟨y, z, c, hr, hgd, hcc⟩ := cut_form (sg (s1 != s2) M) (e - f - K - 1) p up
  rw [hr] at f11
  rw [← hs1, ← hs2, hr]
  unfold DY at f1 f2 f3
  unfold DY
  rw [← hs1] at f1
  rw [← hs2] at f2 f3
  rw [← hs1, ← hs2]
  have f12 : Unit → ((s1 != s2) = true → M ≠ 0) → FC Tryz.prog g 71 [.agg [.val (.bool (s1 != s2)), .ws .u64 (d64 M)], .val (.int .i64 (e - f - K - 1)), .val (.int .i64 p), .val (.bool up)] (· = .tup [DY y z, .val (.int .i64 c)]) := fun _ hh => by rw [← NI_sg hh]; exact f11
  have f13 : Unit → M = 0 → FC Tryz.prog g 71 [.agg [.val (.bool false), .ws .u64 (d64 M)], .val (.int .i64 (e - f - K - 1)), .val (.int .i64 p), .val (.bool up)] (· = .tup [DY y z, .val (.int .i64 c)]) := fun _ hh => by
    have e0 : sg (s1 != s2) M = sg false M := by rw [hh]; cases (s1 != s2) <;> rfl
    rw [← NI_sg (b := false) (fun h => by cases h), ← e0]
    exact f11
  have f14 : Unit → (s1 != s2) = true → FC Tryz.prog g 71 [.agg [.val (.bool (decide ((0 : Int) < ((d64 M).length : Int)))), .ws .u64 (d64 M)], .val (.int .i64 (e - f - K - 1)), .val (.int .i64 p), .val (.bool up)] (· = .tup [DY y z, .val (.int .i64 c)]) := fun _ hh => by
    by_cases hM0 : M = 0
    · rw [decide_eq_false (show ¬ (0 : Int) < ((d64 M).length : Int) by omega)]
      exact f13 () hM0
    · rw [decide_eq_true (show (0 : Int) < ((d64 M).length : Int) by omega)]
      have := f12 () (fun _ => hM0)
      rw [hh] at this
      exact this
  unfold DY at f12 f13 f14
  by_cases hR0 : R = 0
  · rw [if_pos hR0, Nat.add_zero] at hM
    rw [← hM] at f8
    cases s1 <;> cases s2
    all_goals
      refine FC.intro (X := XX) tok Tryz.func34 rfl Tryz.ntmps34 (by rw [Tryz.results34]) (by kernel_rfl) rfl ?_; intro F hG hO
      rw [← hG] at f0 f1 f2 f3 f4 f5 f6 f7 f8 f12 f13 f14
      repeat' ((try (conv => whnf)); first
  | ((with_reducible refine cg ?_); refine call_eq (f0) (LpL.refl _) rfl ?_)
  | ((with_reducible refine cg ?_); refine call_eq (f1) (LpL.refl _) rfl ?_)
  | ((with_reducible refine cg ?_); refine call_eq (f2) (LpL.refl _) rfl ?_)
  | ((with_reducible refine cg ?_); refine call_eq (f3) (LpL.refl _) rfl ?_)
  | ((with_reducible refine cg ?_); refine call_eq (f4) (LpL.refl _) rfl ?_)
  | ((with_reducible refine cg ?_); refine call_eq (f5) (LpL.refl _) rfl ?_)
  | ((with_reducible refine cg ?_); rw [← hK2]; refine call_eq f6 (LpL.refl _) rfl ?_)
  | ((with_reducible refine cg ?_); refine call_eq (f7) (LpL.refl _) rfl ?_)
  | ((with_reducible refine cg ?_); refine call_eq (f8) (LpL.refl _) rfl ?_)
  | ((with_reducible refine cg ?_); refine call_eq (f14 () rfl) (LpL.refl _) rfl ?_)
  | ((with_reducible refine cg ?_); refine call_eq (f12 () (fun h => absurd h (by decide))) (LpL.refl _) rfl ?_)
  
  | (with_reducible refine draw_g (id := 9) [[0, 1, 2, 3, 4, 7, 8, 9, 5, 6, 10, 11, 12, 13]] tok mixed (by kernel_rfl) ?_)
  | (with_reducible refine Chk.mk' (by first | omega | exact trivial | (simp only [List.length_append, List.length_set, List.length_replicate, List.length_take, List.length_drop, List.length_cons, List.length_nil, List.length_map]; omega)) ?_)
  | (with_reducible refine wrap_g (by dsimp only [inR]; omega) ?_)
  | (with_reducible refine idx_g (by omega) ?_)
  | (with_reducible refine idx_l _ rfl (by decide) ?_)
  | (with_reducible refine BothG.mk ?_ ?_)
  | (with_reducible refine fork_tt ?_) | (with_reducible refine fork_ff ?_)
  | (with_reducible refine fork_e (c := true) (by decide) ?_; with_reducible refine fork_tt ?_) | (with_reducible refine fork_e (c := false) (by decide) ?_; with_reducible refine fork_ff ?_)
  | (with_reducible refine fork_t (by omega) ?_) | (with_reducible refine fork_f (by omega) ?_)
  | (with_reducible refine fork_d ?_ ?_ <;> intro hc)
  | (with_reducible refine fork_n ?_)
  | (with_reducible refine fork_b ?_ ?_ <;> intro hc)
  | (with_reducible refine SlcG.mk (by omega) ?_)
  | (with_reducible refine MakG.mk (by dsimp only; omega) ?_)
  | (with_reducible refine AppG.mk (by first | omega | (simp only [List.length_append, List.length_set, List.length_replicate, List.length_take, List.length_drop, List.length_cons, List.length_nil, List.length_map]; omega)) (by dsimp only [List.length_cons, List.length_nil]; omega) (by omega) ?_)
  | (with_reducible refine div_g (by omega) (by omega) (by dsimp only [inR]; omega) ?_)
  | (with_reducible refine mod_g (by omega) (by omega) ?_)
  | (with_reducible refine mask_g (m := 4294967296) 32 rfl rfl (by decide) (by omega) ?_)
  | (with_reducible refine shr_g (m := 4294967296) 32 rfl (by decide) (by omega) rfl ?_)
  | (with_reducible refine fz_all (by omega) ?_)
  | (with_reducible refine Stuck.h (A := RetE _ _) ?_) | (with_reducible refine Stuck.h (A := RetM _ _ _ _) ?_) | (with_reducible refine Stuck.h (A := Again _ _ _ _ _ _ _ _) ?_) | (with_reducible refine Stuck.h (A := CallF _ _ _ _ _ _ _) ?_) | (with_reducible refine Stuck.h (A := LoopG _ _ _ _ _ _ _ _) ?_) | (with_reducible refine Stuck.h (A := DrawG _ _ _ _ _ _ _ _) ?_)
  | (with_reducible refine Stuck.h (A := WrapG _ _ _) ?_) | (with_reducible refine Stuck.h (A := DivG _ _ _ _) ?_) | (with_reducible refine Stuck.h (A := ModG _ _ _) ?_) | (with_reducible refine Stuck.h (A := ShlG _ _ _ _) ?_) | (with_reducible refine Stuck.h (A := ShrG _ _ _ _) ?_) | (with_reducible refine Stuck.h (A := BitG _ _ _ _ _) ?_)
  | (with_reducible refine Stuck.h (A := IdxG _ _ _) ?_) | (with_reducible refine Stuck.h (A := IdxL _ _ _) ?_) | (with_reducible refine Stuck.h (A := SlcG _ _ _ _ _) ?_) | (with_reducible refine Stuck.h (A := MakG _ _ _ _) ?_) | (with_reducible refine Stuck.h (A := AppG _ _ _ _ _ _ _) ?_) | (with_reducible refine Stuck.h (A := FzG _ _ _ _) ?_)
  | (with_reducible refine Stuck.h (A := RawG _) ?_) | (with_reducible refine Stuck.h (A := TabG _ _ _ _ _) ?_) | (with_reducible refine Stuck.h (A := ExtF _ _ _ _) ?_) | (with_reducible refine Stuck.h (A := Chk _ _) ?_) | (with_reducible refine Stuck.h (A := False) ?_))
      all_goals exact ⟨ret_e rfl⟩
  · rw [if_neg hR0] at hM
    rw [← hM] at f10
    cases s1 <;> cases s2
    all_goals
      refine FC.intro (X := XX) tok Tryz.func34 rfl Tryz.ntmps34 (by rw [Tryz.results34]) (by kernel_rfl) rfl ?_; intro F hG hO
      rw [← hG] at f0 f1 f2 f3 f4 f5 f6 f7 f8 f9 f10 f12 f14
      repeat' ((try (conv => whnf)); first
  | ((with_reducible refine cg ?_); refine call_eq (f0) (LpL.refl _) rfl ?_)
  | ((with_reducible refine cg ?_); refine call_eq (f1) (LpL.refl _) rfl ?_)
  | ((with_reducible refine cg ?_); refine call_eq (f2) (LpL.refl _) rfl ?_)
  | ((with_reducible refine cg ?_); refine call_eq (f3) (LpL.refl _) rfl ?_)
  | ((with_reducible refine cg ?_); refine call_eq (f4) (LpL.refl _) rfl ?_)
  | ((with_reducible refine cg ?_); refine call_eq (f5) (LpL.refl _) rfl ?_)
  | ((with_reducible refine cg ?_); rw [← hK2]; refine call_eq f6 (LpL.refl _) rfl ?_)
  | ((with_reducible refine cg ?_); refine call_eq (f7) (LpL.refl _) rfl ?_)
  | ((with_reducible refine cg ?_); refine call_eq (f8) (LpL.refl _) rfl ?_)
  | ((with_reducible refine cg ?_); refine call_eq (f9) (LpL.refl _) rfl ?_)
  | ((with_reducible refine cg ?_); refine call_eq (f10) (LpL.refl _) rfl ?_)
  | ((with_reducible refine cg ?_); refine call_eq (f14 () rfl) (LpL.refl _) rfl ?_)
  | ((with_reducible refine cg ?_); refine call_eq (f12 () (fun h => absurd h (by decide))) (LpL.refl _) rfl ?_)
  
  | (with_reducible refine draw_g (id := 9) [[0, 1, 2, 3, 4, 7, 8, 9, 5, 6, 10, 11, 12, 13]] tok mixed (by kernel_rfl) ?_)
  | (with_reducible refine Chk.mk' (by first | omega | exact trivial | (simp only [List.length_append, List.length_set, List.length_replicate, List.length_take, List.length_drop, List.length_cons, List.length_nil, List.length_map]; omega)) ?_)
  | (with_reducible refine wrap_g (by dsimp only [inR]; omega) ?_)
  | (with_reducible refine idx_g (by omega) ?_)
  | (with_reducible refine idx_l _ rfl (by decide) ?_)
  | (with_reducible refine BothG.mk ?_ ?_)
  | (with_reducible refine fork_tt ?_) | (with_reducible refine fork_ff ?_)
  | (with_reducible refine fork_e (c := true) (by decide) ?_; with_reducible refine fork_tt ?_) | (with_reducible refine fork_e (c := false) (by decide) ?_; with_reducible refine fork_ff ?_)
  | (with_reducible refine fork_t (by omega) ?_) | (with_reducible refine fork_f (by omega) ?_)
  | (with_reducible refine fork_d ?_ ?_ <;> intro hc)
  | (with_reducible refine fork_n ?_)
  | (with_reducible refine fork_b ?_ ?_ <;> intro hc)
  | (with_reducible refine SlcG.mk (by omega) ?_)
  | (with_reducible refine MakG.mk (by dsimp only; omega) ?_)
  | (with_reducible refine AppG.mk (by first | omega | (simp only [List.length_append, List.length_set, List.length_replicate, List.length_take, List.length_drop, List.length_cons, List.length_nil, List.length_map]; omega)) (by dsimp only [List.length_cons, List.length_nil]; omega) (by omega) ?_)
  | (with_reducible refine div_g (by omega) (by omega) (by dsimp only [inR]; omega) ?_)
  | (with_reducible refine mod_g (by omega) (by omega) ?_)
  | (with_reducible refine mask_g (m := 4294967296) 32 rfl rfl (by decide) (by omega) ?_)
  | (with_reducible refine shr_g (m := 4294967296) 32 rfl (by decide) (by omega) rfl ?_)
  | (with_reducible refine fz_all (by omega) ?_)
  | (with_reducible refine Stuck.h (A := RetE _ _) ?_) | (with_reducible refine Stuck.h (A := RetM _ _ _ _) ?_) | (with_reducible refine Stuck.h (A := Again _ _ _ _ _ _ _ _) ?_) | (with_reducible refine Stuck.h (A := CallF _ _ _ _ _ _ _) ?_) | (with_reducible refine Stuck.h (A := LoopG _ _ _ _ _ _ _ _) ?_) | (with_reducible refine Stuck.h (A := DrawG _ _ _ _ _ _ _ _) ?_)
  | (with_reducible refine Stuck.h (A := WrapG _ _ _) ?_) | (with_reducible refine Stuck.h (A := DivG _ _ _ _) ?_) | (with_reducible refine Stuck.h (A := ModG _ _ _) ?_) | (with_reducible refine Stuck.h (A := ShlG _ _ _ _) ?_) | (with_reducible refine Stuck.h (A := ShrG _ _ _ _) ?_) | (with_reducible refine Stuck.h (A := BitG _ _ _ _ _) ?_)
  | (with_reducible refine Stuck.h (A := IdxG _ _ _) ?_) | (with_reducible refine Stuck.h (A := IdxL _ _ _) ?_) | (with_reducible refine Stuck.h (A := SlcG _ _ _ _ _) ?_) | (with_reducible refine Stuck.h (A := MakG _ _ _ _) ?_) | (with_reducible refine Stuck.h (A := AppG _ _ _ _ _ _ _) ?_) | (with_reducible refine Stuck.h (A := FzG _ _ _ _) ?_)
  | (with_reducible refine Stuck.h (A := RawG _) ?_) | (with_reducible refine Stuck.h (A := TabG _ _ _ _ _) ?_) | (with_reducible refine Stuck.h (A := ExtF _ _ _ _) ?_) | (with_reducible refine Stuck.h (A := Chk _ _) ?_) | (with_reducible refine Stuck.h (A := False) ?_))
      all_goals exact ⟨ret_e rfl⟩
theorem y_quodown {g : List (Nat × List Value)} (hD : (0, debT.map (Value.int .u8)) ∈ g) {n e m f : Int} (p : Int) (h : Good n e) (k : Good m f) (hp : inR .i64 p) : FC Tryz.prog g 10 [DY n e, DY m f, .val (.int .i64 p)] (· = quoS n e m f p false) := by
  have f1 := y_quotient hD p false h k hp
  obtain ⟨x, y, c, hr, hgd⟩ := quo_form n e m f p false
  rw [hr] at f1 ⊢
  refine FC.intro (X := XX) tok Tryz.func10 rfl Tryz.ntmps10 (by rw [Tryz.results10]) (by kernel_rfl) rfl ?_; intro F hG hO
  rw [← hG] at f1
  repeat' ((try (conv => whnf)); first
  | ((with_reducible refine cg ?_); refine call_eq (f1) (LpL.refl _) rfl ?_)
  
  | (with_reducible refine Chk.mk' (by first | omega | exact trivial | (simp only [List.length_append, List.length_set, List.length_replicate, List.length_take, List.length_drop, List.length_cons, List.length_nil, List.length_map]; omega)) ?_)
  | (with_reducible refine wrap_g (by dsimp only [inR]; omega) ?_)
  | (with_reducible refine idx_g (by omega) ?_)
  | (with_reducible refine idx_l _ rfl (by decide) ?_)
  | (with_reducible refine BothG.mk ?_ ?_)
  | (with_reducible refine fork_tt ?_) | (with_reducible refine fork_ff ?_)
  | (with_reducible refine fork_e (c := true) (by decide) ?_; with_reducible refine fork_tt ?_) | (with_reducible refine fork_e (c := false) (by decide) ?_; with_reducible refine fork_ff ?_)
  | (with_reducible refine fork_t (by omega) ?_) | (with_reducible refine fork_f (by omega) ?_)
  | (with_reducible refine fork_d ?_ ?_ <;> intro hc)
  | (with_reducible refine fork_n ?_)
  | (with_reducible refine fork_b ?_ ?_ <;> intro hc)
  | (with_reducible refine SlcG.mk (by omega) ?_)
  | (with_reducible refine MakG.mk (by dsimp only; omega) ?_)
  | (with_reducible refine AppG.mk (by first | omega | (simp only [List.length_append, List.length_set, List.length_replicate, List.length_take, List.length_drop, List.length_cons, List.length_nil, List.length_map]; omega)) (by dsimp only [List.length_cons, List.length_nil]; omega) (by omega) ?_)
  | (with_reducible refine div_g (by omega) (by omega) (by dsimp only [inR]; omega) ?_)
  | (with_reducible refine mod_g (by omega) (by omega) ?_)
  | (with_reducible refine mask_g (m := 4294967296) 32 rfl rfl (by decide) (by omega) ?_)
  | (with_reducible refine shr_g (m := 4294967296) 32 rfl (by decide) (by omega) rfl ?_)
  | (with_reducible refine fz_all (by omega) ?_)
  | (with_reducible refine Stuck.h (A := RetE _ _) ?_) | (with_reducible refine Stuck.h (A := RetM _ _ _ _) ?_) | (with_reducible refine Stuck.h (A := Again _ _ _ _ _ _ _ _) ?_) | (with_reducible refine Stuck.h (A := CallF _ _ _ _ _ _ _) ?_) | (with_reducible refine Stuck.h (A := LoopG _ _ _ _ _ _ _ _) ?_) | (with_reducible refine Stuck.h (A := DrawG _ _ _ _ _ _ _ _) ?_)
  | (with_reducible refine Stuck.h (A := WrapG _ _ _) ?_) | (with_reducible refine Stuck.h (A := DivG _ _ _ _) ?_) | (with_reducible refine Stuck.h (A := ModG _ _ _) ?_) | (with_reducible refine Stuck.h (A := ShlG _ _ _ _) ?_) | (with_reducible refine Stuck.h (A := ShrG _ _ _ _) ?_) | (with_reducible refine Stuck.h (A := BitG _ _ _ _ _) ?_)
  | (with_reducible refine Stuck.h (A := IdxG _ _ _) ?_) | (with_reducible refine Stuck.h (A := IdxL _ _ _) ?_) | (with_reducible refine Stuck.h (A := SlcG _ _ _ _ _) ?_) | (with_reducible refine Stuck.h (A := MakG _ _ _ _) ?_) | (with_reducible refine Stuck.h (A := AppG _ _ _ _ _ _ _) ?_) | (with_reducible refine Stuck.h (A := FzG _ _ _ _) ?_)
  | (with_reducible refine Stuck.h (A := RawG _) ?_) | (with_reducible refine Stuck.h (A := TabG _ _ _ _ _) ?_) | (with_reducible refine Stuck.h (A := ExtF _ _ _ _) ?_) | (with_reducible refine Stuck.h (A := Chk _ _) ?_) | (with_reducible refine Stuck.h (A := False) ?_))
  exact ⟨ret_e rfl⟩
theorem y_quoup {g : List (Nat × List Value)} (hD : (0, debT.map (Value.int .u8)) ∈ g) {n e m f : Int} (p : Int) (h : Good n e) (k : Good m f) (hp : inR .i64 p) : FC Tryz.prog g 14 [DY n e, DY m f, .val (.int .i64 p)] (· = quoS n e m f p true) := by
  have f1 := y_quotient hD p true h k hp
  obtain ⟨x, y, c, hr, hgd⟩ := quo_form n e m f p true
  rw [hr] at f1 ⊢
  refine FC.intro (X := XX) tok Tryz.func14 rfl Tryz.ntmps14 (by rw [Tryz.results14]) (by kernel_rfl) rfl ?_; intro F hG hO
  rw [← hG] at f1
  repeat' ((try (conv => whnf)); first
  | ((with_reducible refine cg ?_); refine call_eq (f1) (LpL.refl _) rfl ?_)
  
  | (with_reducible refine Chk.mk' (by first | omega | exact trivial | (simp only [List.length_append, List.length_set, List.length_replicate, List.length_take, List.length_drop, List.length_cons, List.length_nil, List.length_map]; omega)) ?_)
  | (with_reducible refine wrap_g (by dsimp only [inR]; omega) ?_)
  | (with_reducible refine idx_g (by omega) ?_)
  | (with_reducible refine idx_l _ rfl (by decide) ?_)
  | (with_reducible refine BothG.mk ?_ ?_)
  | (with_reducible refine fork_tt ?_) | (with_reducible refine fork_ff ?_)
  | (with_reducible refine fork_e (c := true) (by decide) ?_; with_reducible refine fork_tt ?_) | (with_reducible refine fork_e (c := false) (by decide) ?_; with_reducible refine fork_ff ?_)
  | (with_reducible refine fork_t (by omega) ?_) | (with_reducible refine fork_f (by omega) ?_)
  | (with_reducible refine fork_d ?_ ?_ <;> intro hc)
  | (with_reducible refine fork_n ?_)
  | (with_reducible refine fork_b ?_ ?_ <;> intro hc)
  | (with_reducible refine SlcG.mk (by omega) ?_)
  | (with_reducible refine MakG.mk (by dsimp only; omega) ?_)
  | (with_reducible refine AppG.mk (by first | omega | (simp only [List.length_append, List.length_set, List.length_replicate, List.length_take, List.length_drop, List.length_cons, List.length_nil, List.length_map]; omega)) (by dsimp only [List.length_cons, List.length_nil]; omega) (by omega) ?_)
  | (with_reducible refine div_g (by omega) (by omega) (by dsimp only [inR]; omega) ?_)
  | (with_reducible refine mod_g (by omega) (by omega) ?_)
  | (with_reducible refine mask_g (m := 4294967296) 32 rfl rfl (by decide) (by omega) ?_)
  | (with_reducible refine shr_g (m := 4294967296) 32 rfl (by decide) (by omega) rfl ?_)
  | (with_reducible refine fz_all (by omega) ?_)
  | (with_reducible refine Stuck.h (A := RetE _ _) ?_) | (with_reducible refine Stuck.h (A := RetM _ _ _ _) ?_) | (with_reducible refine Stuck.h (A := Again _ _ _ _ _ _ _ _) ?_) | (with_reducible refine Stuck.h (A := CallF _ _ _ _ _ _ _) ?_) | (with_reducible refine Stuck.h (A := LoopG _ _ _ _ _ _ _ _) ?_) | (with_reducible refine Stuck.h (A := DrawG _ _ _ _ _ _ _ _) ?_)
  | (with_reducible refine Stuck.h (A := WrapG _ _ _) ?_) | (with_reducible refine Stuck.h (A := DivG _ _ _ _) ?_) | (with_reducible refine Stuck.h (A := ModG _ _ _) ?_) | (with_reducible refine Stuck.h (A := ShlG _ _ _ _) ?_) | (with_reducible refine Stuck.h (A := ShrG _ _ _ _) ?_) | (with_reducible refine Stuck.h (A := BitG _ _ _ _ _) ?_)
  | (with_reducible refine Stuck.h (A := IdxG _ _ _) ?_) | (with_reducible refine Stuck.h (A := IdxL _ _ _) ?_) | (with_reducible refine Stuck.h (A := SlcG _ _ _ _ _) ?_) | (with_reducible refine Stuck.h (A := MakG _ _ _ _) ?_) | (with_reducible refine Stuck.h (A := AppG _ _ _ _ _ _ _) ?_) | (with_reducible refine Stuck.h (A := FzG _ _ _ _) ?_)
  | (with_reducible refine Stuck.h (A := RawG _) ?_) | (with_reducible refine Stuck.h (A := TabG _ _ _ _ _) ?_) | (with_reducible refine Stuck.h (A := ExtF _ _ _ _) ?_) | (with_reducible refine Stuck.h (A := Chk _ _) ?_) | (with_reducible refine Stuck.h (A := False) ?_))
  exact ⟨ret_e rfl⟩
end Go.Proofs.YtbeocnjlepcglaaGreatDoor.Sim
