/-
  What the statement DyadicMulsCardSaid leans on, part 12: the logic of walks, digits, contracts of the functions, the plain law. Conditions stand in each theorem.
-/
import Derived.Test.YtbeocnjlepcglaaGreatDoorPkDyadicMulsCardSaidK
import Derived.SizedLaws
import Derived.DataElems
import Derived.ChangeSame
namespace Go.Proofs.YtbeocnjlepcglaaGreatDoor.Sim
open Go.RowKit Go.ChangeShapes Go.WideShapes
set_option linter.unusedVariables false
set_option linter.unusedSimpArgs false
/-- One call, as a record. -/
structure OpR where
  k : Int
  b1 : Bool
  l1 : List Int
  e1 : Int
  b2 : Bool
  l2 : List Int
  e2 : Int
  b3 : Bool
  l3 : List Int
  m : Int
def OpR.pv (o : OpR) : PV := OpV o.k o.b1 o.l1 o.e1 o.b2 o.l2 o.e2 o.b3 o.l3 o.m
def OpR.ok (o : OpR) : Prop := inR .i64 o.k ∧ OKL o.l1 ∧ OKL o.l2 ∧ OKL o.l3 ∧ inR .i64 o.m
def OpR.cells (o : OpR) : List PV := [.val (.int .i64 o.k), .val (.bool o.b1), .ws .u64 o.l1, .val (.int .i64 o.e1), .val (.bool o.b2), .ws .u64 o.l2, .val (.int .i64 o.e2), .val (.bool o.b3), .ws .u64 o.l3, .val (.int .i64 o.m)]
def opsF (ops : Nat → OpR) : Nat → PV := fun j => (ops (j / 10)).cells.getD (j % 10) .any
theorem opsF_at (ops : Nat → OpR) (i j : Nat) (h : j < 10) : opsF ops (i * 10 + j) = (ops i).cells.getD j .any := by
  unfold opsF
  rw [show (i * 10 + j) / 10 = i by omega, show (i * 10 + j) % 10 = j by omega]
section
variable {H : Type} {enc : TypeId × Value → H} {P : Program} {w : World} {base : Nat} {sp : Nat → Bool} {held : Bool}
theorem trod_fieldsW {t : TypeId} {c : Nat} {fs : List (TypeId × Nat × Nat)} {fuel : Nat} {cs : List Value} {x : DataW H × List MemPlace} (hu : fieldT P t = some (c, fs)) (h : DataW.trod enc P w base sp held fuel t cs = some x) (hw : ∀ q ∈ x.1.weights P t, q ≤ reachBytes) :
    cs.length = c ∧ ∃ n, ∀ (i : Nat) (ty off z : Nat), fs[i]? = some (ty, off, z) → ∃ y, DataW.trod enc P w base sp held n ty ((cs.drop off).take z) = some y ∧ ∀ q ∈ y.1.weights P ty, q ≤ reachBytes := by
  unfold fieldT at hu
  split at hu
  · rename_i gs hg
    simp only [Option.some.injEq, Prod.mk.injEq] at hu
    obtain ⟨rfl, rfl⟩ := hu
    obtain ⟨xs, n, _, rfl, hl, hlen, hf⟩ := DataW.trod_struct hg h
    refine ⟨hl, n, fun i ty off z hi => ?_⟩
    rw [List.getElem?_map] at hi
    cases hq : gs.toList[i]? with
    | none => rw [hq] at hi; cases hi
    | some f =>
      rw [hq] at hi
      simp only [Option.map_some, Option.some.injEq, Prod.mk.injEq] at hi
      obtain ⟨rfl, rfl, rfl⟩ := hi
      have h2 := hf i f (by simpa using hq)
      have h3 : i < xs.length := by
        rw [hlen]
        have := (List.getElem?_eq_some_iff.1 hq).1
        simpa using this
      rw [List.getElem?_eq_getElem h3] at h2
      refine ⟨_, h2, fun q hqm => hw q ?_⟩
      have hm := DataW.weights_mem_each (P := P) (ts := gs.toList.map (·.type)) (ds := xs.map (·.1)) (j := i) (t := f.type) (d := xs[i].1) (by rw [List.getElem?_map, hq]; rfl) (by rw [List.getElem?_map, List.getElem?_eq_getElem h3]; rfl) q hqm
      simpa [DataW.weights, hg] using hm
  · cases hu
theorem lits_len (k : IntKind) (zs : List Int) : (ChangeShapes.lits (H := H) k zs).length = zs.length := by simp [ChangeShapes.lits]
theorem trod_wordsW {t e : TypeId} {k : IntKind} {fuel : Nat} {v : Value} {x : DataW H × List MemPlace} (ht : P.underlying t = some (.slice e)) (he : P.underlying e = some (.int k)) (hc : P.cellsOf e = 1)
    (h : DataW.trod enc P w base sp held fuel t [v] = some x) (hw : ∀ q ∈ x.1.weights P t, q ≤ reachBytes) : ∃ l : List Int, Rep ⟨w.cell?, [], []⟩ (.ws k l) v ∧ (∀ z ∈ l, (Lit.int k z).wf = true) ∧ l.length * P.bytesOf e ≤ reachBytes := by
  rcases open_ints ht he hc h with ⟨h1, h2⟩ | ⟨a, len, cap, zs, h1, h2, h3, h4, h5, h6, h7, h8⟩
  · simp only [List.cons.injEq, and_true] at h1
    subst h1
    exact ⟨[], .ws rfl (Nat.le_refl _) (fun j x hj => by cases hj), (fun z hz => by cases hz), by rw [List.length_nil, Nat.zero_mul]; exact Nat.zero_le _⟩
  · simp only [List.cons.injEq, and_true] at h1
    subst h1
    have hlen : (zs.take len).length = len := by
      rw [List.length_take]
      split at h5 <;> omega
    refine ⟨zs.take len, .ws hlen.symm h3 (fun j x hj => ⟨a, rfl, ?_⟩), (fun z hz => h8 z (List.mem_of_mem_take hz)), ?_⟩
    · have hj1 := (List.getElem?_eq_some_iff.1 hj).1
      rw [hlen] at hj1
      rw [List.getElem?_take, if_pos hj1] at hj
      have hj2 := (List.getElem?_eq_some_iff.1 hj).1
      have := h7 j hj2
      rw [List.getD_eq_getElem?_getD, hj] at this
      exact this
    · have := hw (((ChangeShapes.lits (H := H) k (zs.take len)).length + (ChangeShapes.lits (H := H) k (zs.drop len)).length) * P.bytesOf e) (by rw [h6]; simp [DataW.weights, ht])
      refine Nat.le_trans (Nat.mul_le_mul_right _ ?_) this
      rw [lits_len]
      exact Nat.le_add_right _ _
theorem mem_weightsAll {e : TypeId} : ∀ {ds : List (DataW H)} {i : Nat} {d : DataW H}, ds[i]? = some d → ∀ q ∈ d.weights P e, q ∈ DataW.weightsAll P e ds
  | d0 :: ds, 0, d, h, q, hq => by
    simp only [List.getElem?_cons_zero, Option.some.injEq] at h
    subst h
    simp only [DataW.weightsAll, List.mem_append]
    exact .inl hq
  | d0 :: ds, i + 1, d, h, q, hq => by
    simp only [List.getElem?_cons_succ] at h
    simp only [DataW.weightsAll, List.mem_append]
    exact .inr (mem_weightsAll h q hq)
  | [], _, _, h, _, _ => by simp at h
end
theorem fOp : fieldT Tryz.prog 51 = some (10, [(3, 0, 1), (26, 1, 3), (26, 4, 3), (24, 7, 2), (3, 9, 1)]) := by kernel_rfl
theorem uOps : Tryz.prog.underlying 42 = some (.slice 51) := by kernel_rfl
theorem cOp : Tryz.prog.cellsOf 51 = 10 := by kernel_rfl
theorem byU6 : Tryz.prog.bytesOf 44 = 8 := by kernel_rfl
section
variable {H : Type} {enc : TypeId × Value → H} {w : World} {base : Nat} {sp : Nat → Bool} {held : Bool}
theorem open_int24W {fuel : Nat} {cs : List Value} {x : DataW H × List MemPlace} (h : DataW.trod enc Tryz.prog w base sp held fuel 24 cs = some x) (hw : ∀ q ∈ x.1.weights Tryz.prog 24, q ≤ reachBytes) :
    ∃ b l v, cs = [.bool b, v] ∧ Rep ⟨w.cell?, [], []⟩ (.ws .u64 l) v ∧ OKL l := by
  obtain ⟨hl, n, hf⟩ := trod_fieldsW fIn h hw
  match cs, hl with
  | [a, v], _ =>
    obtain ⟨y0, h0, _⟩ := hf 0 _ _ _ rfl
    obtain ⟨y1, h1, w1⟩ := hf 1 _ _ _ rfl
    obtain ⟨b, rfl⟩ := trod_bool uBo h0
    obtain ⟨l, hr, ho, hs⟩ := trod_wordsW uWs uU6 cU6 h1 w1
    rw [byU6] at hs
    exact ⟨b, l, v, rfl, hr, okD_wf ho, by unfold reachBytes at hs; omega⟩
theorem open_dyW {fuel : Nat} {cs : List Value} {x : DataW H × List MemPlace} (h : DataW.trod enc Tryz.prog w base sp held fuel 26 cs = some x) (hw : ∀ q ∈ x.1.weights Tryz.prog 26, q ≤ reachBytes) :
    ∃ b l e v, cs = [.bool b, v, .int .i64 e] ∧ Rep ⟨w.cell?, [], []⟩ (.ws .u64 l) v ∧ OKL l ∧ inR .i64 e := by
  obtain ⟨hl, n, hf⟩ := trod_fieldsW fDy h hw
  match cs, hl with
  | [a, v, e], _ =>
    obtain ⟨y0, h0, w0⟩ := hf 0 _ _ _ rfl
    obtain ⟨y1, h1, w1⟩ := hf 1 _ _ _ rfl
    obtain ⟨b, l, v', hc, hr, ho⟩ := open_int24W h0 w0
    simp only [List.drop_zero, List.take_succ_cons, List.take_zero, List.cons.injEq, and_true] at hc
    obtain ⟨rfl, rfl⟩ := hc
    obtain ⟨z, rfl, hz⟩ := trod_int uIt h1
    exact ⟨b, l, z, v, rfl, hr, ho, wf_i64r hz⟩
theorem open_op {fuel : Nat} {cs : List Value} {x : DataW H × List MemPlace} (h : DataW.trod enc Tryz.prog w base sp held fuel 51 cs = some x) (hw : ∀ q ∈ x.1.weights Tryz.prog 51, q ≤ reachBytes) :
    ∃ o : OpR, o.ok ∧ RepL ⟨w.cell?, [], []⟩ o.cells cs := by
  obtain ⟨hl, n, hf⟩ := trod_fieldsW fOp h hw
  match cs, hl with
  | [c0, c1, c2, c3, c4, c5, c6, c7, c8, c9], _ =>
    obtain ⟨y0, h0, _⟩ := hf 0 _ _ _ rfl
    obtain ⟨y1, h1, w1⟩ := hf 1 _ _ _ rfl
    obtain ⟨y2, h2, w2⟩ := hf 2 _ _ _ rfl
    obtain ⟨y3, h3, w3⟩ := hf 3 _ _ _ rfl
    obtain ⟨y4, h4, _⟩ := hf 4 _ _ _ rfl
    obtain ⟨k, rfl, hk⟩ := trod_int uIt h0
    obtain ⟨b1, l1, e1, v1, q1, r1, o1, _⟩ := open_dyW h1 w1
    obtain ⟨b2, l2, e2, v2, q2, r2, o2, _⟩ := open_dyW h2 w2
    obtain ⟨b3, l3, v3, q3, r3, o3⟩ := open_int24W h3 w3
    obtain ⟨m, rfl, hm⟩ := trod_int uIt h4
    simp only [List.drop_succ_cons, List.drop_zero, List.take_succ_cons, List.take_zero, List.cons.injEq, and_true] at q1 q2 q3
    obtain ⟨rfl, rfl, rfl⟩ := q1
    obtain ⟨rfl, rfl, rfl⟩ := q2
    obtain ⟨rfl, rfl⟩ := q3
    exact ⟨⟨k, b1, l1, e1, b2, l2, e2, b3, l3, m⟩, ⟨wf_i64r hk, o1, o2, o3, wf_i64r hm⟩,
      .cons (.val _) (.cons (.val _) (.cons r1 (.cons (.val _) (.cons (.val _) (.cons r2 (.cons (.val _) (.cons (.val _) (.cons r3 (.cons (.val _) .nil)))))))))⟩
theorem open_ops {fuel : Nat} {v : Value} {x : DataW H × List MemPlace} (h : DataW.trod enc Tryz.prog w base sp held fuel 42 [v] = some x) (hw : ∀ q ∈ x.1.weights Tryz.prog 42, q ≤ reachBytes) :
    ∃ (n : Nat) (ops : Nat → OpR), Rep ⟨w.cell?, [], []⟩ (.fs 10 n (opsF ops)) v ∧ n ≤ 9223372036854775807 ∧ ∀ i, i < n → (ops i).ok := by
  have dflt : OpR := ⟨0, false, [], 0, false, [], 0, false, [], 0⟩
  rcases DataW.trod_slice uOps h with ⟨h1, h2⟩ | ⟨a, len, cap, elems, rest, n, _, h1, h2, hb, hl, hm, hlen, hel, hsp, hns⟩
  · simp only [List.cons.injEq, and_true] at h1
    subst h1
    exact ⟨0, fun _ => dflt, .fs (us := []) (by decide) rfl (Nat.le_refl _) (fun j u hj => by cases hj) (fun j u hj => by cases hj), by decide, fun i hi => absurd hi (Nat.not_lt_zero _)⟩
  · simp only [List.cons.injEq, and_true] at h1
    subst h1
    rw [cOp] at hel
    have each : ∀ i, ∃ oc : OpR × List Value, i < len → oc.1.ok ∧ RepL ⟨w.cell?, [], []⟩ oc.1.cells oc.2 ∧ oc.2.length = 10 ∧ ∀ j, j < 10 → w.cell? (a.add (i * 10 + j)) = oc.2[j]? := by
      intro i
      by_cases hi : i < len
      · have h3 := hel i hi
        rw [List.getElem?_eq_getElem (by omega)] at h3
        rw [Option.bind_eq_some_iff] at h3
        obtain ⟨cs, h4, h5⟩ := h3
        obtain ⟨o, ho, hr⟩ := open_op h5 (fun q hq => hw q (by
          rw [h2]
          have hmm := mem_weightsAll (P := Tryz.prog) (e := 51) (ds := elems.map (·.1)) (i := i) (d := (elems[i]'(by omega)).1) (by rw [List.getElem?_map, List.getElem?_eq_getElem (by omega)]; rfl) q hq
          simp only [DataW.weights, uOps, List.mem_cons, List.mem_append]
          exact .inr (.inl hmm)))
        obtain ⟨_, h6, h7⟩ := World.cells?_some h4
        refine ⟨(o, cs), fun _ => ⟨ho, hr, h6, fun j hj => ?_⟩⟩
        have := h7 j hj
        rw [Addr.add_add] at this
        exact this
      · exact ⟨(dflt, []), fun h => absurd h hi⟩
    obtain ⟨oc, hoc⟩ := Classical.axiomOfChoice each
    refine ⟨len, fun i => (oc i).1, ?_, Nat.le_trans hl (by unfold maxLen at hm; omega), fun i hi => (hoc i hi).1⟩
    refine .fs (us := (List.range (len * 10)).map fun j => (oc (j / 10)).2.getD (j % 10) (.bool false)) (by decide) (by simp) hl (fun j u hj => ?_) (fun j u hj => ⟨a, rfl, ?_⟩)
    all_goals
      have hj1 := (List.getElem?_eq_some_iff.1 hj).1
      rw [List.length_map, List.length_range] at hj1
      rw [List.getElem?_map, List.getElem?_range hj1] at hj
      simp only [Option.map_some, Option.some.injEq] at hj
      obtain ⟨k1, k2, k3, k4⟩ := hoc (j / 10) (by omega)
      have hg : (oc (j / 10)).2[j % 10]? = some u := by
        rw [List.getD_eq_getElem?_getD, List.getElem?_eq_getElem (by omega)] at hj
        rw [List.getElem?_eq_getElem (by omega)]
        exact congrArg some hj
    · have hc : (oc (j / 10)).1.cells[j % 10]? = some ((oc (j / 10)).1.cells.getD (j % 10) .any) := by
        rw [List.getD_eq_getElem?_getD, List.getElem?_eq_getElem (show j % 10 < (oc (j / 10)).1.cells.length from Nat.mod_lt _ (by decide))]
        rfl
      exact k2.both hc hg
    · have := k4 (j % 10) (Nat.mod_lt _ (by decide))
      rw [show j / 10 * 10 + j % 10 = j by omega] at this
      exact this.trans hg
end
end Go.Proofs.YtbeocnjlepcglaaGreatDoor.Sim
namespace Go.Proofs.YtbeocnjlepcglaaGreatDoor.Sim
open Go.RowKit
set_option linter.unusedVariables false
set_option linter.unusedSimpArgs false
set_option maxRecDepth 10000
set_option maxHeartbeats 8000000
variable {G : List (Nat × List Value)}
theorem l_all (n : Nat) (ops : Nat → OpR) (lo hi : Int) (hn : n ≤ 9223372036854775807) (hp : ∀ i, i < n → lo ≤ (ops i).k → (ops i).k ≤ hi → FC Tryz.prog G 49 [(ops i).pv] (· = .val (.bool true))) : FC Tryz.prog G 27 [.fs 10 n (opsF ops), .val (.int .i64 lo), .val (.int .i64 hi)] (· = .val (.bool true)) := by
  obtain ⟨f, hf⟩ : ∃ f, f = opsF ops := ⟨_, rfl⟩
  rw [← hf]
  refine FC.intro (X := XX) tok Tryz.func27 rfl Tryz.ntmps27 (by rw [Tryz.results27]) (by kernel_rfl) rfl ?_; intro F hG hO
  rw [← hG] at hp
  repeat' ((try (conv => whnf)); first
  | ((with_reducible refine lg ?_); refine loop_g (A := Nat) (fun m => m ≤ n) (fun m => n - m) (fun m => [(1, .val (.int .i64 lo)), (2, .val (.int .i64 hi)), (9, .fs 10 n f), (10, .val (.int .i64 (n : Int))), (11, .val (.int .i64 (m : Int)))]) (fun _ => []) (fun _ => []) 0 tok (fun _ => ⟨⟨trivial, trivial, trivial, trivial, trivial, trivial⟩, trivial, by simp only [List.length_nil]; omega⟩) (Nat.zero_le _) ⟨rfl, rfl, rfl, rfl, rfl, trivial⟩ ⟨[], rfl⟩ ⟨[], rfl⟩ ?_; intro m hm; have e0 : f ((m : Int).toNat * 10) = (ops m).cells.getD 0 .any := (by rw [hf, show (m : Int).toNat * 10 = m * 10 + 0 by omega]; exact opsF_at ops m 0 (by decide)); have e1 : f ((m : Int).toNat * 10 + 1) = (ops m).cells.getD 1 .any := (by rw [hf, show (m : Int).toNat * 10 + 1 = m * 10 + 1 by omega]; exact opsF_at ops m 1 (by decide)); have e2 : f ((m : Int).toNat * 10 + 1 + 1) = (ops m).cells.getD 2 .any := (by rw [hf, show (m : Int).toNat * 10 + 1 + 1 = m * 10 + 2 by omega]; exact opsF_at ops m 2 (by decide)); have e3 : f ((m : Int).toNat * 10 + 1 + 1 + 1) = (ops m).cells.getD 3 .any := (by rw [hf, show (m : Int).toNat * 10 + 1 + 1 + 1 = m * 10 + 3 by omega]; exact opsF_at ops m 3 (by decide)); have e4 : f ((m : Int).toNat * 10 + 1 + 1 + 1 + 1) = (ops m).cells.getD 4 .any := (by rw [hf, show (m : Int).toNat * 10 + 1 + 1 + 1 + 1 = m * 10 + 4 by omega]; exact opsF_at ops m 4 (by decide)); have e5 : f ((m : Int).toNat * 10 + 1 + 1 + 1 + 1 + 1) = (ops m).cells.getD 5 .any := (by rw [hf, show (m : Int).toNat * 10 + 1 + 1 + 1 + 1 + 1 = m * 10 + 5 by omega]; exact opsF_at ops m 5 (by decide)); have e6 : f ((m : Int).toNat * 10 + 1 + 1 + 1 + 1 + 1 + 1) = (ops m).cells.getD 6 .any := (by rw [hf, show (m : Int).toNat * 10 + 1 + 1 + 1 + 1 + 1 + 1 = m * 10 + 6 by omega]; exact opsF_at ops m 6 (by decide)); have e7 : f ((m : Int).toNat * 10 + 1 + 1 + 1 + 1 + 1 + 1 + 1) = (ops m).cells.getD 7 .any := (by rw [hf, show (m : Int).toNat * 10 + 1 + 1 + 1 + 1 + 1 + 1 + 1 = m * 10 + 7 by omega]; exact opsF_at ops m 7 (by decide)); have e8 : f ((m : Int).toNat * 10 + 1 + 1 + 1 + 1 + 1 + 1 + 1 + 1) = (ops m).cells.getD 8 .any := (by rw [hf, show (m : Int).toNat * 10 + 1 + 1 + 1 + 1 + 1 + 1 + 1 + 1 = m * 10 + 8 by omega]; exact opsF_at ops m 8 (by decide)); have e9 : f ((m : Int).toNat * 10 + 1 + 1 + 1 + 1 + 1 + 1 + 1 + 1 + 1) = (ops m).cells.getD 9 .any := (by rw [hf, show (m : Int).toNat * 10 + 1 + 1 + 1 + 1 + 1 + 1 + 1 + 1 + 1 = m * 10 + 9 by omega]; exact opsF_at ops m 9 (by decide)))
  | (rw [e0]) | (rw [e1]) | (rw [e2]) | (rw [e3]) | (rw [e4]) | (rw [e5]) | (rw [e6]) | (rw [e7]) | (rw [e8]) | (rw [e9])
  | ((with_reducible refine cg ?_); refine call_eq (hp m (by omega) (by omega) (by omega)) (LpL.refl _) rfl ?_)
  
  | (with_reducible refine Chk.mk' (by first | omega | exact trivial | (simp only [List.length_append, List.length_set, List.length_replicate, List.length_take, List.length_drop, List.length_cons, List.length_nil, List.length_map]; omega)) ?_)
  | (with_reducible refine wrap_g (by dsimp only [inR]; omega) ?_)
  | (with_reducible refine idx_g (by omega) ?_)
  | (with_reducible refine idx_l _ rfl (by decide) ?_)
  | (with_reducible refine BothG.mk ?_ ?_)
  | (with_reducible refine fork_tt ?_) | (with_reducible refine fork_ff ?_)
  | (with_reducible refine fork_e (c := true) (by decide) ?_; with_reducible refine fork_tt ?_) | (with_reducible refine fork_e (c := false) (by decide) ?_; with_reducible refine fork_ff ?_)
  | (with_reducible refine fork_t (by omega) ?_) | (with_reducible refine fork_f (by omega) ?_)
  | (with_reducible refine fork_d ?_ ?_ <;> intro hc)
  | (with_reducible refine fork_n ?_)
  | (with_reducible refine fork_b ?_ ?_ <;> intro hc)
  | (with_reducible refine SlcG.mk (by omega) ?_)
  | (with_reducible refine MakG.mk (by dsimp only; omega) ?_)
  | (with_reducible refine AppG.mk (by first | omega | (simp only [List.length_append, List.length_set, List.length_replicate, List.length_take, List.length_drop, List.length_cons, List.length_nil, List.length_map]; omega)) (by dsimp only [List.length_cons, List.length_nil]; omega) (by omega) ?_)
  | (with_reducible refine div_g (by omega) (by omega) (by dsimp only [inR]; omega) ?_)
  | (with_reducible refine mod_g (by omega) (by omega) ?_)
  | (with_reducible refine mask_g (m := 4294967296) 32 rfl rfl (by decide) (by omega) ?_)
  | (with_reducible refine shr_g (m := 4294967296) 32 rfl (by decide) (by omega) rfl ?_)
  | (with_reducible refine fz_all (by omega) ?_)
  | (with_reducible refine Stuck.h (A := RetE _ _) ?_) | (with_reducible refine Stuck.h (A := RetM _ _ _ _) ?_) | (with_reducible refine Stuck.h (A := Again _ _ _ _ _ _ _ _) ?_) | (with_reducible refine Stuck.h (A := CallF _ _ _ _ _ _ _) ?_) | (with_reducible refine Stuck.h (A := LoopG _ _ _ _ _ _ _ _) ?_) | (with_reducible refine Stuck.h (A := DrawG _ _ _ _ _ _ _ _) ?_)
  | (with_reducible refine Stuck.h (A := WrapG _ _ _) ?_) | (with_reducible refine Stuck.h (A := DivG _ _ _ _) ?_) | (with_reducible refine Stuck.h (A := ModG _ _ _) ?_) | (with_reducible refine Stuck.h (A := ShlG _ _ _ _) ?_) | (with_reducible refine Stuck.h (A := ShrG _ _ _ _) ?_) | (with_reducible refine Stuck.h (A := BitG _ _ _ _ _) ?_)
  | (with_reducible refine Stuck.h (A := IdxG _ _ _) ?_) | (with_reducible refine Stuck.h (A := IdxL _ _ _) ?_) | (with_reducible refine Stuck.h (A := SlcG _ _ _ _ _) ?_) | (with_reducible refine Stuck.h (A := MakG _ _ _ _) ?_) | (with_reducible refine Stuck.h (A := AppG _ _ _ _ _ _ _) ?_) | (with_reducible refine Stuck.h (A := FzG _ _ _ _) ?_)
  | (with_reducible refine Stuck.h (A := RawG _) ?_) | (with_reducible refine Stuck.h (A := TabG _ _ _ _ _) ?_) | (with_reducible refine Stuck.h (A := ExtF _ _ _ _) ?_) | (with_reducible refine Stuck.h (A := Chk _ _) ?_) | (with_reducible refine Stuck.h (A := False) ?_))
  all_goals first
    | exact ⟨ret_e rfl⟩
    | exact ⟨again (m + 1) (by omega) (by omega) ⟨rfl, rfl, rfl, rfl, rfl, trivial⟩ ⟨_, rfl⟩ ⟨_, rfl⟩⟩
theorem pv_kind {o : OpR} {k : Int} (h : o.k = k) : o.pv = OpV k o.b1 o.l1 o.e1 o.b2 o.l2 o.e2 o.b3 o.l3 o.m := by unfold OpR.pv; rw [h]
end Go.Proofs.YtbeocnjlepcglaaGreatDoor.Sim
namespace Go.Proofs.YtbeocnjlepcglaaGreatDoor.Sim
open Go.RowKit
set_option linter.unusedVariables false
set_option linter.unusedSimpArgs false
set_option maxRecDepth 10000
set_option maxHeartbeats 8000000
variable {G : List (Nat × List Value)}
theorem mul_parts (x0 x1 y0 y1 : Int) : (4294967296 * x1 + x0) * (4294967296 * y1 + y0) = 18446744073709551616 * (x1 * y1) + 4294967296 * (x1 * y0) + 4294967296 * (x0 * y1) + x0 * y0 := by
  rw [Int.add_mul, Int.mul_add, Int.mul_add, Int.mul_assoc 4294967296 x1 (4294967296 * y1), Int.mul_left_comm x1 4294967296 y1, Int.mul_assoc 4294967296 x1 y0, Int.mul_left_comm x0 4294967296 y1]
  omega
theorem tup2_eq {k j : IntKind} {a b c d : Int} (h1 : a = c) (h2 : b = d) : PV.tup [.val (.int k a), .val (.int j b)] = .tup [.val (.int k c), .val (.int j d)] := by rw [h1, h2]
theorem one_row {i : Nat} (h : i < 1) : [0][i]? = some i := by
  have : i = 0 := by omega
  subst this; rfl
theorem mul_split (x y : Int) : x * y = 18446744073709551616 * (x / 4294967296 * (y / 4294967296)) + 4294967296 * (x / 4294967296 * (y % 4294967296)) + 4294967296 * (x % 4294967296 * (y / 4294967296)) + x % 4294967296 * (y % 4294967296) := by
  rw [← mul_parts, Int.mul_ediv_add_emod, Int.mul_ediv_add_emod]
theorem mul_bd32 {x y : Int} (hx : 0 ≤ x ∧ x < 4294967296) (hy : 0 ≤ y ∧ y < 4294967296) : 0 ≤ x * y ∧ x * y ≤ 18446744065119617025 := by
  refine ⟨Int.mul_nonneg hx.1 hy.1, ?_⟩
  have h1 : x * y ≤ 4294967295 * y := Int.mul_le_mul_of_nonneg_right (by omega) hy.1
  omega
theorem b_mul (x y : Int) (hx : 0 ≤ x ∧ x < 18446744073709551616) (hy : 0 ≤ y ∧ y < 18446744073709551616) : FC Tryz.prog G 160 [.val (.int .u64 x), .val (.int .u64 y)] (· = .tup [.val (.int .u64 (x * y / 18446744073709551616)), .val (.int .u64 (x * y % 18446744073709551616))]) := by
  have hs := mul_split x y
  have b1 := mul_bd32 (x := x / 4294967296) (y := y / 4294967296) (by omega) (by omega)
  have b2 := mul_bd32 (x := x / 4294967296) (y := y % 4294967296) (by omega) (by omega)
  have b3 := mul_bd32 (x := x % 4294967296) (y := y / 4294967296) (by omega) (by omega)
  have b4 := mul_bd32 (x := x % 4294967296) (y := y % 4294967296) (by omega) (by omega)
  refine FC.intro (X := XX) tok Tryz.func160 rfl Tryz.ntmps160 (by rw [Tryz.results160]) (by kernel_rfl) rfl ?_; intro F hG hO
  repeat' ((try (conv => whnf)); first
  | (with_reducible refine wrap_g (by dsimp only [inR]; omega) ?_)
  | ((with_reducible refine wrap_r ?_); rw [wrap64])
  
  | (with_reducible refine Chk.mk' (by first | omega | exact trivial | (simp only [List.length_append, List.length_set, List.length_replicate, List.length_take, List.length_drop, List.length_cons, List.length_nil, List.length_map]; omega)) ?_)
  | (with_reducible refine wrap_g (by dsimp only [inR]; omega) ?_)
  | (with_reducible refine idx_g (by omega) ?_)
  | (with_reducible refine idx_l _ rfl (by decide) ?_)
  | (with_reducible refine BothG.mk ?_ ?_)
  | (with_reducible refine fork_tt ?_) | (with_reducible refine fork_ff ?_)
  | (with_reducible refine fork_e (c := true) (by decide) ?_; with_reducible refine fork_tt ?_) | (with_reducible refine fork_e (c := false) (by decide) ?_; with_reducible refine fork_ff ?_)
  | (with_reducible refine fork_t (by omega) ?_) | (with_reducible refine fork_f (by omega) ?_)
  | (with_reducible refine fork_d ?_ ?_ <;> intro hc)
  | (with_reducible refine fork_n ?_)
  | (with_reducible refine fork_b ?_ ?_ <;> intro hc)
  | (with_reducible refine SlcG.mk (by omega) ?_)
  | (with_reducible refine MakG.mk (by dsimp only; omega) ?_)
  | (with_reducible refine AppG.mk (by first | omega | (simp only [List.length_append, List.length_set, List.length_replicate, List.length_take, List.length_drop, List.length_cons, List.length_nil, List.length_map]; omega)) (by dsimp only [List.length_cons, List.length_nil]; omega) (by omega) ?_)
  | (with_reducible refine div_g (by omega) (by omega) (by dsimp only [inR]; omega) ?_)
  | (with_reducible refine mod_g (by omega) (by omega) ?_)
  | (with_reducible refine mask_g (m := 4294967296) 32 rfl rfl (by decide) (by omega) ?_)
  | (with_reducible refine shr_g (m := 4294967296) 32 rfl (by decide) (by omega) rfl ?_)
  | (with_reducible refine fz_all (by omega) ?_)
  | (with_reducible refine Stuck.h (A := RetE _ _) ?_) | (with_reducible refine Stuck.h (A := RetM _ _ _ _) ?_) | (with_reducible refine Stuck.h (A := Again _ _ _ _ _ _ _ _) ?_) | (with_reducible refine Stuck.h (A := CallF _ _ _ _ _ _ _) ?_) | (with_reducible refine Stuck.h (A := LoopG _ _ _ _ _ _ _ _) ?_) | (with_reducible refine Stuck.h (A := DrawG _ _ _ _ _ _ _ _) ?_)
  | (with_reducible refine Stuck.h (A := WrapG _ _ _) ?_) | (with_reducible refine Stuck.h (A := DivG _ _ _ _) ?_) | (with_reducible refine Stuck.h (A := ModG _ _ _) ?_) | (with_reducible refine Stuck.h (A := ShlG _ _ _ _) ?_) | (with_reducible refine Stuck.h (A := ShrG _ _ _ _) ?_) | (with_reducible refine Stuck.h (A := BitG _ _ _ _ _) ?_)
  | (with_reducible refine Stuck.h (A := IdxG _ _ _) ?_) | (with_reducible refine Stuck.h (A := IdxL _ _ _) ?_) | (with_reducible refine Stuck.h (A := SlcG _ _ _ _ _) ?_) | (with_reducible refine Stuck.h (A := MakG _ _ _ _) ?_) | (with_reducible refine Stuck.h (A := AppG _ _ _ _ _ _ _) ?_) | (with_reducible refine Stuck.h (A := FzG _ _ _ _) ?_)
  | (with_reducible refine Stuck.h (A := RawG _) ?_) | (with_reducible refine Stuck.h (A := TabG _ _ _ _ _) ?_) | (with_reducible refine Stuck.h (A := ExtF _ _ _ _) ?_) | (with_reducible refine Stuck.h (A := Chk _ _) ?_) | (with_reducible refine Stuck.h (A := False) ?_))
  all_goals exact ⟨ret_e (tup2_eq (by omega) (by omega))⟩
theorem m_trimw (a : List Int) (hl : a.length ≤ 1152921504606846976) : FC Tryz.prog G 148 [.ws .u64 a] (· = .ws .u64 (trim a)) := by
  refine FC.intro (X := XX) tok Tryz.func148 rfl Tryz.ntmps148 (by rw [Tryz.results148]) (by kernel_rfl) rfl ?_; intro F hG hO
  repeat' ((try (conv => whnf)); first
  | ((with_reducible refine lg ?_); refine loop_g (A := Nat) (fun m => m ≤ a.length ∧ ∀ j : Nat, m ≤ j → rd a j = 0) id (fun m => [(0, .ws .u64 a), (3, .val (.int .i64 (m : Int)))]) (fun _ => []) (fun _ => []) a.length tok (fun _ => ⟨⟨trivial, trivial, trivial⟩, trivial, by simp only [List.length_nil]; omega⟩) ?_ ⟨rfl, rfl, trivial⟩ ⟨[], rfl⟩ ⟨[], rfl⟩ ?_; rotate_left; rintro m ⟨h1, h2⟩)
  
  | (with_reducible refine Chk.mk' (by first | omega | exact trivial | (simp only [List.length_append, List.length_set, List.length_replicate, List.length_take, List.length_drop, List.length_cons, List.length_nil, List.length_map]; omega)) ?_)
  | (with_reducible refine wrap_g (by dsimp only [inR]; omega) ?_)
  | (with_reducible refine idx_g (by omega) ?_)
  | (with_reducible refine idx_l _ rfl (by decide) ?_)
  | (with_reducible refine BothG.mk ?_ ?_)
  | (with_reducible refine fork_tt ?_) | (with_reducible refine fork_ff ?_)
  | (with_reducible refine fork_e (c := true) (by decide) ?_; with_reducible refine fork_tt ?_) | (with_reducible refine fork_e (c := false) (by decide) ?_; with_reducible refine fork_ff ?_)
  | (with_reducible refine fork_t (by omega) ?_) | (with_reducible refine fork_f (by omega) ?_)
  | (with_reducible refine fork_d ?_ ?_ <;> intro hc)
  | (with_reducible refine fork_n ?_)
  | (with_reducible refine fork_b ?_ ?_ <;> intro hc)
  | (with_reducible refine SlcG.mk (by omega) ?_)
  | (with_reducible refine MakG.mk (by dsimp only; omega) ?_)
  | (with_reducible refine AppG.mk (by first | omega | (simp only [List.length_append, List.length_set, List.length_replicate, List.length_take, List.length_drop, List.length_cons, List.length_nil, List.length_map]; omega)) (by dsimp only [List.length_cons, List.length_nil]; omega) (by omega) ?_)
  | (with_reducible refine div_g (by omega) (by omega) (by dsimp only [inR]; omega) ?_)
  | (with_reducible refine mod_g (by omega) (by omega) ?_)
  | (with_reducible refine mask_g (m := 4294967296) 32 rfl rfl (by decide) (by omega) ?_)
  | (with_reducible refine shr_g (m := 4294967296) 32 rfl (by decide) (by omega) rfl ?_)
  | (with_reducible refine fz_all (by omega) ?_)
  | (with_reducible refine Stuck.h (A := RetE _ _) ?_) | (with_reducible refine Stuck.h (A := RetM _ _ _ _) ?_) | (with_reducible refine Stuck.h (A := Again _ _ _ _ _ _ _ _) ?_) | (with_reducible refine Stuck.h (A := CallF _ _ _ _ _ _ _) ?_) | (with_reducible refine Stuck.h (A := LoopG _ _ _ _ _ _ _ _) ?_) | (with_reducible refine Stuck.h (A := DrawG _ _ _ _ _ _ _ _) ?_)
  | (with_reducible refine Stuck.h (A := WrapG _ _ _) ?_) | (with_reducible refine Stuck.h (A := DivG _ _ _ _) ?_) | (with_reducible refine Stuck.h (A := ModG _ _ _) ?_) | (with_reducible refine Stuck.h (A := ShlG _ _ _ _) ?_) | (with_reducible refine Stuck.h (A := ShrG _ _ _ _) ?_) | (with_reducible refine Stuck.h (A := BitG _ _ _ _ _) ?_)
  | (with_reducible refine Stuck.h (A := IdxG _ _ _) ?_) | (with_reducible refine Stuck.h (A := IdxL _ _ _) ?_) | (with_reducible refine Stuck.h (A := SlcG _ _ _ _ _) ?_) | (with_reducible refine Stuck.h (A := MakG _ _ _ _) ?_) | (with_reducible refine Stuck.h (A := AppG _ _ _ _ _ _ _) ?_) | (with_reducible refine Stuck.h (A := FzG _ _ _ _) ?_)
  | (with_reducible refine Stuck.h (A := RawG _) ?_) | (with_reducible refine Stuck.h (A := TabG _ _ _ _ _) ?_) | (with_reducible refine Stuck.h (A := ExtF _ _ _ _) ?_) | (with_reducible refine Stuck.h (A := Chk _ _) ?_) | (with_reducible refine Stuck.h (A := False) ?_))
  · exact ⟨again (m - 1) ⟨by omega, fun j hj => by
      rcases Nat.lt_or_ge j m with hjm | hjm
      · rw [show (j : Int) = m - 1 by omega]; assumption
      · exact h2 j hjm⟩ (by simp only [id]; omega) ⟨rfl, iv_eq (by omega), trivial⟩ ⟨[], rfl⟩ ⟨[], rfl⟩⟩
  · have e : trim a = a.take m := trim_take a m h1 (fun j hj => by simpa [rd] using h2 j hj) (.inr (by
      have : ((m : Int) - 1).toNat = m - 1 := by omega
      simpa [rd, this] using hc))
    exact ⟨ret_e (by rw [e]; simp)⟩
  · have e : trim a = a.take m := trim_take a m h1 (fun j hj => by simpa [rd] using h2 j hj) (.inl (by omega))
    exact ⟨ret_e (by rw [e]; simp)⟩
  · exact ⟨Nat.le_refl _, fun j hj => by simp [rd, List.getD_eq_getElem?_getD, hj]⟩
theorem m_trim (z : List Int) (n : Nat) (hn : n ≤ z.length) (hl : z.length ≤ 1152921504606846976) : PM Tryz.prog G 148 [.arr 0 0 n] [⟨1, 44, .w .u64 z⟩] (fun r rs => r = .arr 0 0 (trim (z.take n)).length ∧ rs = [some ⟨1, 44, .w .u64 z⟩]) := by
  obtain ⟨a, ha⟩ : ∃ a, a = z.take n := ⟨_, rfl⟩
  have hal : a.length = n := by rw [ha, List.length_take]; omega
  have hrd : ∀ j : Nat, j < n → rd a j = z.getD j 0 := fun j hj => by
    rw [ha]
    simp only [rd, Int.toNat_natCast, List.getD_eq_getElem?_getD, List.getElem?_take, if_pos hj]
  rw [← ha]
  refine PM.intro (X := XX) tok Tryz.func148 rfl Tryz.ntmps148 (by rw [Tryz.results148]) (by kernel_rfl) rfl ?_; intro F hG hO; simp only [List.length_cons, List.length_nil, Nat.zero_add, Nat.reduceAdd] at hO
  repeat' ((try (conv => whnf)); first
  | ((with_reducible refine lg ?_); refine loop_g (A := Nat) (fun m => m ≤ n ∧ ∀ j : Nat, m ≤ j → rd a j = 0) id (fun m => [(0, .arr 0 0 n), (3, .val (.int .i64 (m : Int)))]) (fun _ => []) (fun _ => [some ⟨1, 44, .w .u64 z⟩]) n tok (fun _ => ⟨⟨Nat.one_pos, trivial, trivial⟩, trivial, by simp only [List.length_cons, List.length_nil]; omega⟩) ?_ ⟨rfl, rfl, trivial⟩ ⟨[], rfl⟩ ⟨[], rfl⟩ ?_; rotate_left; rintro m ⟨h1, h2⟩; have hm1 : 0 < m → z.getD (0 + ((m : Int) - 1).toNat) 0 = rd a ((m - 1 : Nat) : Int) := (fun h => by rw [hrd (m - 1) (by omega)]; congr 1; omega))
  
  | (with_reducible refine Chk.mk' (by first | omega | exact trivial | (simp only [List.length_append, List.length_set, List.length_replicate, List.length_take, List.length_drop, List.length_cons, List.length_nil, List.length_map]; omega)) ?_)
  | (with_reducible refine wrap_g (by dsimp only [inR]; omega) ?_)
  | (with_reducible refine idx_g (by omega) ?_)
  | (with_reducible refine idx_l _ rfl (by decide) ?_)
  | (with_reducible refine BothG.mk ?_ ?_)
  | (with_reducible refine fork_tt ?_) | (with_reducible refine fork_ff ?_)
  | (with_reducible refine fork_e (c := true) (by decide) ?_; with_reducible refine fork_tt ?_) | (with_reducible refine fork_e (c := false) (by decide) ?_; with_reducible refine fork_ff ?_)
  | (with_reducible refine fork_t (by omega) ?_) | (with_reducible refine fork_f (by omega) ?_)
  | (with_reducible refine fork_d ?_ ?_ <;> intro hc)
  | (with_reducible refine fork_n ?_)
  | (with_reducible refine fork_b ?_ ?_ <;> intro hc)
  | (with_reducible refine SlcG.mk (by omega) ?_)
  | (with_reducible refine MakG.mk (by dsimp only; omega) ?_)
  | (with_reducible refine AppG.mk (by first | omega | (simp only [List.length_append, List.length_set, List.length_replicate, List.length_take, List.length_drop, List.length_cons, List.length_nil, List.length_map]; omega)) (by dsimp only [List.length_cons, List.length_nil]; omega) (by omega) ?_)
  | (with_reducible refine div_g (by omega) (by omega) (by dsimp only [inR]; omega) ?_)
  | (with_reducible refine mod_g (by omega) (by omega) ?_)
  | (with_reducible refine mask_g (m := 4294967296) 32 rfl rfl (by decide) (by omega) ?_)
  | (with_reducible refine shr_g (m := 4294967296) 32 rfl (by decide) (by omega) rfl ?_)
  | (with_reducible refine fz_all (by omega) ?_)
  | (with_reducible refine Stuck.h (A := RetE _ _) ?_) | (with_reducible refine Stuck.h (A := RetM _ _ _ _) ?_) | (with_reducible refine Stuck.h (A := Again _ _ _ _ _ _ _ _) ?_) | (with_reducible refine Stuck.h (A := CallF _ _ _ _ _ _ _) ?_) | (with_reducible refine Stuck.h (A := LoopG _ _ _ _ _ _ _ _) ?_) | (with_reducible refine Stuck.h (A := DrawG _ _ _ _ _ _ _ _) ?_)
  | (with_reducible refine Stuck.h (A := WrapG _ _ _) ?_) | (with_reducible refine Stuck.h (A := DivG _ _ _ _) ?_) | (with_reducible refine Stuck.h (A := ModG _ _ _) ?_) | (with_reducible refine Stuck.h (A := ShlG _ _ _ _) ?_) | (with_reducible refine Stuck.h (A := ShrG _ _ _ _) ?_) | (with_reducible refine Stuck.h (A := BitG _ _ _ _ _) ?_)
  | (with_reducible refine Stuck.h (A := IdxG _ _ _) ?_) | (with_reducible refine Stuck.h (A := IdxL _ _ _) ?_) | (with_reducible refine Stuck.h (A := SlcG _ _ _ _ _) ?_) | (with_reducible refine Stuck.h (A := MakG _ _ _ _) ?_) | (with_reducible refine Stuck.h (A := AppG _ _ _ _ _ _ _) ?_) | (with_reducible refine Stuck.h (A := FzG _ _ _ _) ?_)
  | (with_reducible refine Stuck.h (A := RawG _) ?_) | (with_reducible refine Stuck.h (A := TabG _ _ _ _ _) ?_) | (with_reducible refine Stuck.h (A := ExtF _ _ _ _) ?_) | (with_reducible refine Stuck.h (A := Chk _ _) ?_) | (with_reducible refine Stuck.h (A := False) ?_))
  · exact ⟨again (m - 1) ⟨by omega, fun j hj => by
      rcases Nat.lt_or_ge j m with hjm | hjm
      · rw [show j = m - 1 by omega, ← hm1 (by omega)]; assumption
      · exact h2 j hjm⟩ (by simp only [id]; omega) ⟨rfl, iv_eq (by omega), trivial⟩ ⟨[], rfl⟩ ⟨[], rfl⟩⟩
  · have e : trim a = a.take m := trim_take a m (by omega) (fun j hj => by simpa [rd] using h2 j hj) (.inr (by
      rw [hm1 (by omega)] at hc
      simpa [rd] using hc))
    refine ⟨ret_m [0] (.arr 0 0 (m : Int).toNat) [some ⟨1, 44, .w .u64 z⟩] rfl rfl (by simp) (fun i h => one_row h) rfl ⟨?_, rfl⟩⟩
    rw [e, List.length_take, Int.toNat_natCast, Nat.min_eq_left (by omega)]
  · have e : trim a = a.take m := trim_take a m (by omega) (fun j hj => by simpa [rd] using h2 j hj) (.inl (by omega))
    refine ⟨ret_m [0] (.arr 0 0 (m : Int).toNat) [some ⟨1, 44, .w .u64 z⟩] rfl rfl (by simp) (fun i h => one_row h) rfl ⟨?_, rfl⟩⟩
    rw [e, List.length_take, Int.toNat_natCast, Nat.min_eq_left (by omega)]
  · exact ⟨Nat.le_refl _, fun j hj => by simp [rd, List.getD_eq_getElem?_getD, hal, hj]⟩
end Go.Proofs.YtbeocnjlepcglaaGreatDoor.Sim
namespace Go.Proofs.YtbeocnjlepcglaaGreatDoor.Sim
open Go.RowKit
set_option linter.unusedVariables false
set_option linter.unusedSimpArgs false
set_option maxRecDepth 10000
set_option maxHeartbeats 8000000
variable {G : List (Nat × List Value)}
theorem AddI.swap {u v s : List Int} {c : Int} (h : AddI u v s c) (hl : s.length ≤ v.length) : AddI v u s c := by
  obtain ⟨h1, h2, h3, h4⟩ := h
  exact ⟨hl, h2, h3, by omega⟩
theorem AddI.carry {u v s : List Int} {c : Int} (h : AddI u v s c) (hv : v.length ≤ s.length) (hno : vl 18446744073709551616 u + vl 18446744073709551616 v < 18446744073709551616 ^ u.length) (hc : 0 < c) : s.length < u.length := by
  obtain ⟨h1, h2, h3, h4⟩ := h
  rcases Nat.lt_or_ge s.length u.length with h5 | h5
  · exact h5
  · exfalso
    have h6 : s.length = u.length := by omega
    rw [List.take_of_length_le (by omega), List.take_of_length_le (by omega), h6] at h4
    have b2 := vl_nonneg (B := 18446744073709551616) (by decide) h2
    rw [show c = 1 by omega, Int.mul_one] at h4
    omega
theorem AddI.final {z b s : List Int} {t : Nat} (h : AddI (z.drop t) b s 0) (hb : b.length ≤ s.length) (ht : t ≤ z.length) : vl 18446744073709551616 (ins z t s) = vl 18446744073709551616 z + 18446744073709551616 ^ t * vl 18446744073709551616 b := by
  obtain ⟨h1, h2, h3, h4⟩ := h
  rw [List.length_drop] at h1
  rw [ins_vl 18446744073709551616 (by omega), vl_split 18446744073709551616 z t ht, vl_split 18446744073709551616 (z.drop t) s.length (by rw [List.length_drop]; omega), List.drop_drop]
  rw [List.take_of_length_le (l := b) hb, Int.mul_zero, Int.add_zero] at h4
  rw [h4, Int.add_assoc, Int.add_assoc, ← Int.mul_add]
  congr 2
  omega
theorem m_addat (z b : List Int) (t n : Nat) (hzn : z.length = n) (okz : okD 18446744073709551616 z) (okb : okD 18446744073709551616 b) (hz : z.length ≤ 1152921504606846976) (ht : t + b.length ≤ z.length) (hno : vl 18446744073709551616 (z.drop t) + vl 18446744073709551616 b < 18446744073709551616 ^ (z.length - t)) :
    PM Tryz.prog G 170 [.arr 0 0 n, .ws .u64 b, .val (.int .i64 (t : Int))] [⟨1, 44, .w .u64 z⟩] (fun r rs => r = .tup [] ∧ ∃ c : List Int, c.length = z.length ∧ okD 18446744073709551616 c ∧ vl 18446744073709551616 c = vl 18446744073709551616 z + 18446744073709551616 ^ t * vl 18446744073709551616 b ∧ rs = [some ⟨1, 44, .w .u64 c⟩]) := by
  subst hzn
  obtain ⟨u, hu⟩ : ∃ u, u = z.drop t := ⟨_, rfl⟩
  have hul : u.length = z.length - t := by rw [hu, List.length_drop]
  have oku : okD 18446744073709551616 u := by rw [hu]; exact okz.drop t
  rw [← hu, ← hul] at hno
  refine PM.intro (X := XX) tok Tryz.func170 rfl Tryz.ntmps170 (by rw [Tryz.results170]) (by kernel_rfl) rfl ?_; intro F hG hO; simp only [List.length_cons, List.length_nil, Nat.zero_add, Nat.reduceAdd] at hO
  repeat' ((try (conv => whnf)); first
  | (with_reducible refine add64_g (by omega) (by omega) (by omega) ?_)
  | ((with_reducible refine lg ?_); refine loop_g (A := List Int × Int) (fun (s, c) => AddI u b s c ∧ b.length ≤ s.length) (fun (s, c) => u.length - s.length) (fun (s, c) => [(0, .arr 0 0 z.length), (6, .val (.int .u64 c)), (8, .val (.int .i64 ((t : Int) + (s.length : Int))))]) (fun _ => []) (fun (s, c) => [some ⟨1, 44, .w .u64 (ins z t s)⟩]) (s0, c0) tok (fun (s, c) => ⟨⟨Nat.one_pos, trivial, trivial, trivial⟩, trivial, by simp only [List.length_cons, List.length_nil]; omega⟩) ?_ ⟨rfl, rfl, iv_eq (by omega), trivial⟩ ⟨[], rfl⟩ ⟨[], rfl⟩ ?_; rotate_left; rintro ⟨s, c⟩ ⟨hJ, hJb⟩; have hJ2 := hJ; obtain ⟨i1, i2, i3, i4⟩ := hJ2; have ru := rd_bd (by decide) oku (s.length : Int); have hil : (ins z t s).length = z.length := ins_len (by omega); have hx : (ins z t s).getD (0 + ((t : Int) + (s.length : Int)).toNat) 0 = rd u (s.length : Int) := (by rw [show 0 + ((t : Int) + (s.length : Int)).toNat = t + s.length by omega, ins_get (by omega), ← rd_drop, hu]); have hcr := fun hc => hJ.carry hJb hno hc)
  | ((with_reducible refine lg ?_); refine loop_g (A := List Int × Int) (fun (s, c) => AddI b u s c) (fun (s, c) => b.length - s.length) (fun (s, c) => [(0, .arr 0 0 z.length), (1, .ws .u64 b), (2, .val (.int .i64 (t : Int))), (6, .val (.int .u64 c)), (10, .val (.int .i64 (b.length : Int))), (11, .val (.int .i64 (s.length : Int)))]) (fun _ => []) (fun (s, c) => [some ⟨1, 44, .w .u64 (ins z t s)⟩]) ([], 0) tok (fun (s, c) => ⟨⟨Nat.one_pos, trivial, trivial, trivial, trivial, trivial, trivial⟩, trivial, by simp only [List.length_cons, List.length_nil]; omega⟩) ?_ ⟨rfl, rfl, rfl, rfl, rfl, rfl, trivial⟩ ⟨[], rfl⟩ ⟨[], (by dsimp only; rw [ins_nil]; rfl)⟩ ?_; rotate_left; rintro ⟨s0, c0⟩ hI; have hI2 := hI; obtain ⟨j1, j2, j3, j4⟩ := hI2; have rb := rd_bd (by decide) okb (s0.length : Int); have ru0 := rd_bd (by decide) oku (s0.length : Int); have hil0 : (ins z t s0).length = z.length := ins_len (by omega); have hx0 : (ins z t s0).getD (0 + ((t : Int) + (s0.length : Int)).toNat) 0 = rd u (s0.length : Int) := (by rw [show 0 + ((t : Int) + (s0.length : Int)).toNat = t + s0.length by omega, ins_get (by omega), ← rd_drop, hu]))
  
  | (with_reducible refine draw_g (id := 4) [[], [0], [1], [2], [3], [4], [5], [6], [7], [10], [11], [14, 8, 9, 12, 13, 15], [16], [17], [18, 19], [20, 21]] tok mixed (by kernel_rfl) ?_)
  | (with_reducible refine Chk.mk' (by first | omega | exact trivial | (simp only [List.length_append, List.length_set, List.length_replicate, List.length_take, List.length_drop, List.length_cons, List.length_nil, List.length_map]; omega)) ?_)
  | (with_reducible refine wrap_g (by dsimp only [inR]; omega) ?_)
  | (with_reducible refine idx_g (by omega) ?_)
  | (with_reducible refine idx_l _ rfl (by decide) ?_)
  | (with_reducible refine BothG.mk ?_ ?_)
  | (with_reducible refine fork_tt ?_) | (with_reducible refine fork_ff ?_)
  | (with_reducible refine fork_e (c := true) (by decide) ?_; with_reducible refine fork_tt ?_) | (with_reducible refine fork_e (c := false) (by decide) ?_; with_reducible refine fork_ff ?_)
  | (with_reducible refine fork_t (by omega) ?_) | (with_reducible refine fork_f (by omega) ?_)
  | (with_reducible refine fork_d ?_ ?_ <;> intro hc)
  | (with_reducible refine fork_n ?_)
  | (with_reducible refine fork_b ?_ ?_ <;> intro hc)
  | (with_reducible refine SlcG.mk (by omega) ?_)
  | (with_reducible refine MakG.mk (by dsimp only; omega) ?_)
  | (with_reducible refine AppG.mk (by first | omega | (simp only [List.length_append, List.length_set, List.length_replicate, List.length_take, List.length_drop, List.length_cons, List.length_nil, List.length_map]; omega)) (by dsimp only [List.length_cons, List.length_nil]; omega) (by omega) ?_)
  | (with_reducible refine div_g (by omega) (by omega) (by dsimp only [inR]; omega) ?_)
  | (with_reducible refine mod_g (by omega) (by omega) ?_)
  | (with_reducible refine mask_g (m := 4294967296) 32 rfl rfl (by decide) (by omega) ?_)
  | (with_reducible refine shr_g (m := 4294967296) 32 rfl (by decide) (by omega) rfl ?_)
  | (with_reducible refine fz_all (by omega) ?_)
  | (with_reducible refine Stuck.h (A := RetE _ _) ?_) | (with_reducible refine Stuck.h (A := RetM _ _ _ _) ?_) | (with_reducible refine Stuck.h (A := Again _ _ _ _ _ _ _ _) ?_) | (with_reducible refine Stuck.h (A := CallF _ _ _ _ _ _ _) ?_) | (with_reducible refine Stuck.h (A := LoopG _ _ _ _ _ _ _ _) ?_) | (with_reducible refine Stuck.h (A := DrawG _ _ _ _ _ _ _ _) ?_)
  | (with_reducible refine Stuck.h (A := WrapG _ _ _) ?_) | (with_reducible refine Stuck.h (A := DivG _ _ _ _) ?_) | (with_reducible refine Stuck.h (A := ModG _ _ _) ?_) | (with_reducible refine Stuck.h (A := ShlG _ _ _ _) ?_) | (with_reducible refine Stuck.h (A := ShrG _ _ _ _) ?_) | (with_reducible refine Stuck.h (A := BitG _ _ _ _ _) ?_)
  | (with_reducible refine Stuck.h (A := IdxG _ _ _) ?_) | (with_reducible refine Stuck.h (A := IdxL _ _ _) ?_) | (with_reducible refine Stuck.h (A := SlcG _ _ _ _ _) ?_) | (with_reducible refine Stuck.h (A := MakG _ _ _ _) ?_) | (with_reducible refine Stuck.h (A := AppG _ _ _ _ _ _ _) ?_) | (with_reducible refine Stuck.h (A := FzG _ _ _ _) ?_)
  | (with_reducible refine Stuck.h (A := RawG _) ?_) | (with_reducible refine Stuck.h (A := TabG _ _ _ _ _) ?_) | (with_reducible refine Stuck.h (A := ExtF _ _ _ _) ?_) | (with_reducible refine Stuck.h (A := Chk _ _) ?_) | (with_reducible refine Stuck.h (A := False) ?_))
  · refine ⟨again (s0 ++ [((ins z t s0).getD (0 + ((t : Int) + (s0.length : Int)).toNat) 0 + rd b (s0.length : Int) + c0) % 18446744073709551616], ((ins z t s0).getD (0 + ((t : Int) + (s0.length : Int)).toNat) 0 + rd b (s0.length : Int) + c0) / 18446744073709551616) (hI.step (by omega) okb oku (by rw [hx0]; omega)) (by dsimp only; rw [len_snoc]; omega) ⟨rfl, rfl, rfl, rfl, rfl, iv_eq (by rw [len_snoc]; omega), trivial⟩ ⟨[], rfl⟩ ⟨[], ?_⟩⟩
    have hset := ins_set (p := z) (s := s0) (lo := t) (((ins z t s0).getD (0 + ((t : Int) + (s0.length : Int)).toNat) 0 + rd b (s0.length : Int) + c0) % 18446744073709551616) (by omega)
    dsimp only
    rw [← hset, show 0 + ((t : Int) + (s0.length : Int)).toNat = t + s0.length by omega]; rfl
  · have hlt := hcr hc
    refine ⟨again (s ++ [((ins z t s).getD (0 + ((t : Int) + (s.length : Int)).toNat) 0 + 0 + c) % 18446744073709551616], ((ins z t s).getD (0 + ((t : Int) + (s.length : Int)).toNat) 0 + 0 + c) / 18446744073709551616) ⟨hJ.step hlt oku okb (by rw [hx, rd_out b s.length hJb]), by rw [len_snoc]; omega⟩ (by dsimp only; rw [len_snoc]; omega) ⟨rfl, rfl, iv_eq (by rw [len_snoc]; omega), trivial⟩ ⟨[], rfl⟩ ⟨[], ?_⟩⟩
    have hset := ins_set (p := z) (s := s) (lo := t) (((ins z t s).getD (0 + ((t : Int) + (s.length : Int)).toNat) 0 + 0 + c) % 18446744073709551616) (by omega)
    dsimp only
    rw [← hset, show 0 + ((t : Int) + (s.length : Int)).toNat = t + s.length by omega]; rfl
  · have hc0 : c = 0 := by omega
    subst hc0
    rw [hu] at hJ
    exact ⟨ret_m [0] (.tup []) [some ⟨1, 44, .w .u64 (ins z t s)⟩] rfl rfl (by simp) (fun i h => one_row h) rfl ⟨rfl, ins z t s, hil, ins_okD okz i2, hJ.final hJb (by omega), rfl⟩⟩
  · exact ⟨hI.swap (by omega), by omega⟩
  · exact ⟨Nat.zero_le _, okD_nil _, by decide, by simp [vl]⟩
theorem SubI.carry {u v s : List Int} {c : Int} (h : SubI u v s c) (hv : v.length ≤ s.length) (hle : vl 18446744073709551616 v ≤ vl 18446744073709551616 u) (hc : 0 < c) : s.length < u.length := by
  obtain ⟨h1, h2, h3, h4⟩ := h
  rcases Nat.lt_or_ge s.length u.length with h5 | h5
  · exact h5
  · exfalso
    rw [List.take_of_length_le (by omega), List.take_of_length_le (by omega), show c = 1 by omega, Int.mul_one] at h4
    have b2 := vl_lt (B := 18446744073709551616) (by decide) h2
    omega
theorem ins_front {z s : List Int} {n : Nat} (h : s.length ≤ n) : (ins z 0 s).take n = ins (z.take n) 0 s := by
  unfold ins
  rw [List.take_zero, List.take_zero, List.nil_append, Nat.zero_add, List.take_append, List.take_of_length_le h, List.drop_take]
theorem SubI.final {z b s : List Int} {n : Nat} (h : SubI (z.take n) b s 0) (hb : b.length ≤ s.length) (hn : n ≤ z.length) : vl 18446744073709551616 ((ins z 0 s).take n) = vl 18446744073709551616 (z.take n) - vl 18446744073709551616 b := by
  obtain ⟨h1, h2, h3, h4⟩ := h
  have hl : s.length ≤ n := by rw [List.length_take] at h1; omega
  rw [ins_front hl, ins_vl 18446744073709551616 (by omega), List.take_zero, Nat.zero_add, vl_split 18446744073709551616 (z.take n) s.length h1]
  rw [List.take_of_length_le (l := b) hb, Int.mul_zero, Int.sub_zero] at h4
  rw [h4, Int.pow_zero, Int.one_mul]
  simp only [vl]
  omega
theorem m_takeaway (z b : List Int) (n : Nat) (okz : okD 18446744073709551616 z) (okb : okD 18446744073709551616 b) (hz : z.length ≤ 1152921504606846976) (hn : n ≤ z.length) (hb : b.length ≤ n) (hle : vl 18446744073709551616 b ≤ vl 18446744073709551616 (z.take n)) :
    PM Tryz.prog G 173 [.arr 0 0 n, .ws .u64 b] [⟨1, 44, .w .u64 z⟩] (fun r rs => r = .tup [] ∧ ∃ c : List Int, c.length = z.length ∧ okD 18446744073709551616 c ∧ vl 18446744073709551616 (c.take n) = vl 18446744073709551616 (z.take n) - vl 18446744073709551616 b ∧ rs = [some ⟨1, 44, .w .u64 c⟩]) := by
  obtain ⟨u, hu⟩ : ∃ u, u = z.take n := ⟨_, rfl⟩
  have hul : u.length = n := by rw [hu, List.length_take]; omega
  have oku : okD 18446744073709551616 u := by rw [hu]; exact okz.take n
  have hru : ∀ j : Nat, j < n → rd u (j : Int) = rd z (j : Int) := fun j hj => by
    rw [hu]
    simp only [rd, Int.toNat_natCast, List.getD_eq_getElem?_getD, List.getElem?_take, if_pos hj]
  rw [← hu] at hle
  refine PM.intro (X := XX) tok Tryz.func173 rfl Tryz.ntmps173 (by rw [Tryz.results173]) (by kernel_rfl) rfl ?_; intro F hG hO; simp only [List.length_cons, List.length_nil, Nat.zero_add, Nat.reduceAdd] at hO
  repeat' ((try (conv => whnf)); first
  | (with_reducible refine sub64_g (by omega) (by omega) (by omega) ?_)
  | ((with_reducible refine lg ?_); refine loop_g (A := List Int × Int) (fun (s, c) => SubI u b s c ∧ b.length ≤ s.length) (fun (s, c) => u.length - s.length) (fun (s, c) => [(0, .arr 0 0 n), (4, .val (.int .u64 c)), (6, .val (.int .i64 (s.length : Int)))]) (fun _ => []) (fun (s, c) => [some ⟨1, 44, .w .u64 (ins z 0 s)⟩]) (s0, c0) tok (fun (s, c) => ⟨⟨Nat.one_pos, trivial, trivial, trivial⟩, trivial, by simp only [List.length_cons, List.length_nil]; omega⟩) ?_ ⟨rfl, rfl, iv_eq (by omega), trivial⟩ ⟨[], rfl⟩ ⟨[], rfl⟩ ?_; rotate_left; rintro ⟨s, c⟩ ⟨hJ, hJb⟩; have hJ2 := hJ; obtain ⟨i1, i2, i3, i4⟩ := hJ2; have ru := rd_bd (by decide) oku (s.length : Int); have hil : (ins z 0 s).length = z.length := ins_len (by omega); have hx : Unit → s.length < n → (ins z 0 s).getD (0 + (s.length : Int).toNat) 0 = rd u (s.length : Int) := (fun _ h => by rw [Int.toNat_natCast, ins_get (by omega), hru _ h, Nat.zero_add]); have rz := gd_bd (by decide) (ins_okD (lo := 0) okz i2) (0 + (s.length : Int).toNat); have hcr := fun hc => hJ.carry hJb hle hc)
  | ((with_reducible refine lg ?_); refine loop_g (A := List Int × Int) (fun (s, c) => SubI u b s c ∧ s.length ≤ b.length) (fun (s, c) => b.length - s.length) (fun (s, c) => [(0, .arr 0 0 n), (1, .ws .u64 b), (4, .val (.int .u64 c)), (8, .val (.int .i64 (b.length : Int))), (9, .val (.int .i64 (s.length : Int)))]) (fun _ => []) (fun (s, c) => [some ⟨1, 44, .w .u64 (ins z 0 s)⟩]) ([], 0) tok (fun (s, c) => ⟨⟨Nat.one_pos, trivial, trivial, trivial, trivial, trivial⟩, trivial, by simp only [List.length_cons, List.length_nil]; omega⟩) ?_ ⟨rfl, rfl, rfl, rfl, rfl, trivial⟩ ⟨[], rfl⟩ ⟨[], (by dsimp only; rw [ins_nil]; rfl)⟩ ?_; rotate_left; rintro ⟨s0, c0⟩ ⟨hI, hIb⟩; have hI2 := hI; obtain ⟨j1, j2, j3, j4⟩ := hI2; have rb := rd_bd (by decide) okb (s0.length : Int); have hil0 : (ins z 0 s0).length = z.length := ins_len (by omega); have hx0 : Unit → s0.length < n → (ins z 0 s0).getD (0 + (s0.length : Int).toNat) 0 = rd u (s0.length : Int) := (fun _ h => by rw [Int.toNat_natCast, ins_get (by omega), hru _ h, Nat.zero_add]); have rz0 := gd_bd (by decide) (ins_okD (lo := 0) okz j2) (0 + (s0.length : Int).toNat))
  
  | (with_reducible refine draw_g (id := 4) [[], [0], [1], [2], [3], [6], [7], [10, 4, 5, 8, 9, 11], [12], [13], [14, 15], [16, 17]] tok mixed (by kernel_rfl) ?_)
  | (with_reducible refine Chk.mk' (by first | omega | exact trivial | (simp only [List.length_append, List.length_set, List.length_replicate, List.length_take, List.length_drop, List.length_cons, List.length_nil, List.length_map]; omega)) ?_)
  | (with_reducible refine wrap_g (by dsimp only [inR]; omega) ?_)
  | (with_reducible refine idx_g (by omega) ?_)
  | (with_reducible refine idx_l _ rfl (by decide) ?_)
  | (with_reducible refine BothG.mk ?_ ?_)
  | (with_reducible refine fork_tt ?_) | (with_reducible refine fork_ff ?_)
  | (with_reducible refine fork_e (c := true) (by decide) ?_; with_reducible refine fork_tt ?_) | (with_reducible refine fork_e (c := false) (by decide) ?_; with_reducible refine fork_ff ?_)
  | (with_reducible refine fork_t (by omega) ?_) | (with_reducible refine fork_f (by omega) ?_)
  | (with_reducible refine fork_d ?_ ?_ <;> intro hc)
  | (with_reducible refine fork_n ?_)
  | (with_reducible refine fork_b ?_ ?_ <;> intro hc)
  | (with_reducible refine SlcG.mk (by omega) ?_)
  | (with_reducible refine MakG.mk (by dsimp only; omega) ?_)
  | (with_reducible refine AppG.mk (by first | omega | (simp only [List.length_append, List.length_set, List.length_replicate, List.length_take, List.length_drop, List.length_cons, List.length_nil, List.length_map]; omega)) (by dsimp only [List.length_cons, List.length_nil]; omega) (by omega) ?_)
  | (with_reducible refine div_g (by omega) (by omega) (by dsimp only [inR]; omega) ?_)
  | (with_reducible refine mod_g (by omega) (by omega) ?_)
  | (with_reducible refine mask_g (m := 4294967296) 32 rfl rfl (by decide) (by omega) ?_)
  | (with_reducible refine shr_g (m := 4294967296) 32 rfl (by decide) (by omega) rfl ?_)
  | (with_reducible refine fz_all (by omega) ?_)
  | (with_reducible refine Stuck.h (A := RetE _ _) ?_) | (with_reducible refine Stuck.h (A := RetM _ _ _ _) ?_) | (with_reducible refine Stuck.h (A := Again _ _ _ _ _ _ _ _) ?_) | (with_reducible refine Stuck.h (A := CallF _ _ _ _ _ _ _) ?_) | (with_reducible refine Stuck.h (A := LoopG _ _ _ _ _ _ _ _) ?_) | (with_reducible refine Stuck.h (A := DrawG _ _ _ _ _ _ _ _) ?_)
  | (with_reducible refine Stuck.h (A := WrapG _ _ _) ?_) | (with_reducible refine Stuck.h (A := DivG _ _ _ _) ?_) | (with_reducible refine Stuck.h (A := ModG _ _ _) ?_) | (with_reducible refine Stuck.h (A := ShlG _ _ _ _) ?_) | (with_reducible refine Stuck.h (A := ShrG _ _ _ _) ?_) | (with_reducible refine Stuck.h (A := BitG _ _ _ _ _) ?_)
  | (with_reducible refine Stuck.h (A := IdxG _ _ _) ?_) | (with_reducible refine Stuck.h (A := IdxL _ _ _) ?_) | (with_reducible refine Stuck.h (A := SlcG _ _ _ _ _) ?_) | (with_reducible refine Stuck.h (A := MakG _ _ _ _) ?_) | (with_reducible refine Stuck.h (A := AppG _ _ _ _ _ _ _) ?_) | (with_reducible refine Stuck.h (A := FzG _ _ _ _) ?_)
  | (with_reducible refine Stuck.h (A := RawG _) ?_) | (with_reducible refine Stuck.h (A := TabG _ _ _ _ _) ?_) | (with_reducible refine Stuck.h (A := ExtF _ _ _ _) ?_) | (with_reducible refine Stuck.h (A := Chk _ _) ?_) | (with_reducible refine Stuck.h (A := False) ?_))
  · refine ⟨again (s0 ++ [((ins z 0 s0).getD (0 + (s0.length : Int).toNat) 0 - rd b (s0.length : Int) - c0) % 18446744073709551616], -(((ins z 0 s0).getD (0 + (s0.length : Int).toNat) 0 - rd b (s0.length : Int) - c0) / 18446744073709551616)) ⟨hI.step (by omega) oku okb (by rw [hx0 () (by omega)]), by rw [len_snoc]; omega⟩ (by dsimp only; rw [len_snoc]; omega) ⟨rfl, rfl, rfl, rfl, iv_eq (by rw [len_snoc]; omega), trivial⟩ ⟨[], rfl⟩ ⟨[], ?_⟩⟩
    have hset := ins_set (p := z) (s := s0) (lo := 0) (((ins z 0 s0).getD (0 + (s0.length : Int).toNat) 0 - rd b (s0.length : Int) - c0) % 18446744073709551616) (by omega)
    dsimp only
    rw [← hset]; rfl
  · have hlt := hcr hc
    refine ⟨again (s ++ [((ins z 0 s).getD (0 + (s.length : Int).toNat) 0 - 0 - c) % 18446744073709551616], -(((ins z 0 s).getD (0 + (s.length : Int).toNat) 0 - 0 - c) / 18446744073709551616)) ⟨hJ.step hlt oku okb (by rw [hx () (by omega), rd_out b s.length hJb]), by rw [len_snoc]; omega⟩ (by dsimp only; rw [len_snoc]; omega) ⟨rfl, rfl, iv_eq (by rw [len_snoc]; omega), trivial⟩ ⟨[], rfl⟩ ⟨[], ?_⟩⟩
    have hset := ins_set (p := z) (s := s) (lo := 0) (((ins z 0 s).getD (0 + (s.length : Int).toNat) 0 - 0 - c) % 18446744073709551616) (by omega)
    dsimp only
    rw [← hset]; rfl
  · have hc0 : c = 0 := by omega
    subst hc0
    rw [hu] at hJ
    exact ⟨ret_m [0] (.tup []) [some ⟨1, 44, .w .u64 (ins z 0 s)⟩] rfl rfl (by simp) (fun i h => one_row h) rfl ⟨rfl, ins z 0 s, hil, ins_okD okz i2, hJ.final hJb hn, rfl⟩⟩
  · exact ⟨hI, by omega⟩
  · exact ⟨⟨Nat.zero_le _, okD_nil _, by decide, by simp [vl]⟩, Nat.zero_le _⟩
end Go.Proofs.YtbeocnjlepcglaaGreatDoor.Sim
namespace Go.Proofs.YtbeocnjlepcglaaGreatDoor.Sim
open Go.RowKit
set_option linter.unusedVariables false
set_option linter.unusedSimpArgs false
set_option maxRecDepth 10000
set_option maxHeartbeats 8000000
variable {G : List (Nat × List Value)}
theorem FC.of_row {f : FuncId} {args : List PV} {T : TypeId} {l : List Int} (h : PM Tryz.prog G f args [] (fun r rs => r = .arr 0 0 l.length ∧ ∃ c : List Int, l.length ≤ c.length ∧ c.take l.length = l ∧ rs = [some ⟨1, T, .w .u64 c⟩])) : FC Tryz.prog G f args (· = .ws .u64 l) :=
  FC.of_pm h (by rintro r rs ⟨rfl, c, h1, h2, rfl⟩; exact (fz_g (by omega) (by rw [List.drop_zero]; exact h2) (ret_e rfl) : FzG c 0 l.length fun B => RetE (· = .ws .u64 l) (.ws .u64 B)))
theorem d64_len (X : Nat) : (d64 X).length = L64 X := rfl
theorem trim_pos {c : List Int} {X : Nat} (ok : okD 18446744073709551616 c) (h : vl 18446744073709551616 c = X) : trim c = d64 X := by
  rw [trim64 ok, h, Int.toNat_natCast]
theorem trim_pre : ∀ (c : List Int), c.take (trim c).length = trim c
  | [] => rfl
  | x :: c => by
    have ih := trim_pre c
    simp only [trim]
    cases h : trim c with
    | nil =>
      simp only
      by_cases h0 : x = 0
      · rw [if_pos h0]; rfl
      · rw [if_neg h0]; rfl
    | cons y l =>
      rw [h] at ih
      simp only
      rw [List.length_cons, List.take_succ_cons, ih]
/-- The part of a natural from the limb k on. -/
theorem d64_hi (X k : Nat) : (d64 X).drop k = d64 (X / 2 ^ (64 * k)) := d64_drop X k
theorem trim_lo (X k : Nat) : trim ((d64 X).take k) = d64 (X % 2 ^ (64 * k)) := by
  rw [trim64 ((d64_ok X).1.take k), d64_take, Int.toNat_natCast]
theorem m_cut (X k : Nat) (hX : L64 X ≤ 1152921504606846976) (hk : k ≤ 1152921504606846976) : FC Tryz.prog G 171 [.ws .u64 (d64 X), .val (.int .i64 (k : Int))] (· = .tup [.ws .u64 (d64 (X % 2 ^ (64 * k))), .ws .u64 (d64 (X / 2 ^ (64 * k)))]) := by
  have hl : (d64 X).length = L64 X := rfl
  have f1 := m_trimw (G := G) ((d64 X).take k) (by rw [List.length_take]; omega)
  rw [trim_lo] at f1
  have f2 := m_trimw (G := G) (d64 X) (by omega)
  rw [d64_trim] at f2
  have hd := d64_hi X k
  obtain ⟨a, ha⟩ : ∃ a, a = d64 X := ⟨_, rfl⟩
  rw [← ha] at hl f1 f2 hd ⊢
  refine FC.intro (X := XX) tok Tryz.func171 rfl Tryz.ntmps171 (by rw [Tryz.results171]) (by kernel_rfl) rfl ?_; intro F hG hO
  rw [← hG] at f1 f2
  repeat' ((try (conv => whnf)); first
  | ((with_reducible refine cg ?_); simp only [List.drop_zero, Int.toNat_natCast, Nat.sub_zero, List.take_length, Int.toNat_zero]; refine call_eq f1 (LpL.refl _) rfl ?_)
  | ((with_reducible refine cg ?_); simp only [List.drop_zero, Int.toNat_natCast, Nat.sub_zero, List.take_length, Int.toNat_zero]; refine call_eq f2 (LpL.refl _) rfl ?_)
  
  | (with_reducible refine draw_g (id := 3) [[0, 1, 2, 3, 5, 6, 7, 8, 9, 10, 11, 4, 12, 13]] tok mixed (by kernel_rfl) ?_)
  | (with_reducible refine Chk.mk' (by first | omega | exact trivial | (simp only [List.length_append, List.length_set, List.length_replicate, List.length_take, List.length_drop, List.length_cons, List.length_nil, List.length_map]; omega)) ?_)
  | (with_reducible refine wrap_g (by dsimp only [inR]; omega) ?_)
  | (with_reducible refine idx_g (by omega) ?_)
  | (with_reducible refine idx_l _ rfl (by decide) ?_)
  | (with_reducible refine BothG.mk ?_ ?_)
  | (with_reducible refine fork_tt ?_) | (with_reducible refine fork_ff ?_)
  | (with_reducible refine fork_e (c := true) (by decide) ?_; with_reducible refine fork_tt ?_) | (with_reducible refine fork_e (c := false) (by decide) ?_; with_reducible refine fork_ff ?_)
  | (with_reducible refine fork_t (by omega) ?_) | (with_reducible refine fork_f (by omega) ?_)
  | (with_reducible refine fork_d ?_ ?_ <;> intro hc)
  | (with_reducible refine fork_n ?_)
  | (with_reducible refine fork_b ?_ ?_ <;> intro hc)
  | (with_reducible refine SlcG.mk (by omega) ?_)
  | (with_reducible refine MakG.mk (by dsimp only; omega) ?_)
  | (with_reducible refine AppG.mk (by first | omega | (simp only [List.length_append, List.length_set, List.length_replicate, List.length_take, List.length_drop, List.length_cons, List.length_nil, List.length_map]; omega)) (by dsimp only [List.length_cons, List.length_nil]; omega) (by omega) ?_)
  | (with_reducible refine div_g (by omega) (by omega) (by dsimp only [inR]; omega) ?_)
  | (with_reducible refine mod_g (by omega) (by omega) ?_)
  | (with_reducible refine mask_g (m := 4294967296) 32 rfl rfl (by decide) (by omega) ?_)
  | (with_reducible refine shr_g (m := 4294967296) 32 rfl (by decide) (by omega) rfl ?_)
  | (with_reducible refine fz_all (by omega) ?_)
  | (with_reducible refine Stuck.h (A := RetE _ _) ?_) | (with_reducible refine Stuck.h (A := RetM _ _ _ _) ?_) | (with_reducible refine Stuck.h (A := Again _ _ _ _ _ _ _ _) ?_) | (with_reducible refine Stuck.h (A := CallF _ _ _ _ _ _ _) ?_) | (with_reducible refine Stuck.h (A := LoopG _ _ _ _ _ _ _ _) ?_) | (with_reducible refine Stuck.h (A := DrawG _ _ _ _ _ _ _ _) ?_)
  | (with_reducible refine Stuck.h (A := WrapG _ _ _) ?_) | (with_reducible refine Stuck.h (A := DivG _ _ _ _) ?_) | (with_reducible refine Stuck.h (A := ModG _ _ _) ?_) | (with_reducible refine Stuck.h (A := ShlG _ _ _ _) ?_) | (with_reducible refine Stuck.h (A := ShrG _ _ _ _) ?_) | (with_reducible refine Stuck.h (A := BitG _ _ _ _ _) ?_)
  | (with_reducible refine Stuck.h (A := IdxG _ _ _) ?_) | (with_reducible refine Stuck.h (A := IdxL _ _ _) ?_) | (with_reducible refine Stuck.h (A := SlcG _ _ _ _ _) ?_) | (with_reducible refine Stuck.h (A := MakG _ _ _ _) ?_) | (with_reducible refine Stuck.h (A := AppG _ _ _ _ _ _ _) ?_) | (with_reducible refine Stuck.h (A := FzG _ _ _ _) ?_)
  | (with_reducible refine Stuck.h (A := RawG _) ?_) | (with_reducible refine Stuck.h (A := TabG _ _ _ _ _) ?_) | (with_reducible refine Stuck.h (A := ExtF _ _ _ _) ?_) | (with_reducible refine Stuck.h (A := Chk _ _) ?_) | (with_reducible refine Stuck.h (A := False) ?_))
  · have hlt : X < 2 ^ (64 * k) := Nat.lt_of_lt_of_le (L64_lt X) (Nat.pow_le_pow_right (by decide) (by omega))
    refine ⟨ret_l (.tup [.ws .u64 a, .ws .u64 []]) (.tup (.cons (.refl _) (.cons (.nil _) .nil))) ?_⟩
    rw [Nat.mod_eq_of_lt hlt, Nat.div_eq_of_lt hlt, d64_0, ha]
  · exact ⟨ret_e (by rw [hd])⟩
theorem row_eq {T : TypeId} {p : List Int} {k k' : Nat} {w w' : Int} (h1 : k = k') (h2 : w = w') : ([some ⟨1, T, .w .u64 (p.set k w)⟩] : List (Option Row)) = [some ⟨1, T, .w .u64 (p.set k' w')⟩] ++ [] := by subst h1; subst h2; rfl
theorem mul_bd64 {x y : Int} (hx : 0 ≤ x ∧ x < 18446744073709551616) (hy : 0 ≤ y ∧ y < 18446744073709551616) : 0 ≤ x * y ∧ x * y ≤ 340282366920938463426481119284349108225 := by
  refine ⟨Int.mul_nonneg hx.1 hy.1, ?_⟩
  have h1 : x * y ≤ 18446744073709551615 * y := Int.mul_le_mul_of_nonneg_right (by omega) hy.1
  omega
theorem m_rows (a b : List Int) (hX : a.length ≤ 1073741824) (hY : b.length ≤ 1073741824) (oka : okD 18446744073709551616 a) (okb : okD 18446744073709551616 b) :
    PM Tryz.prog G 161 [.arr 0 0 (a.length + b.length), .ws .u64 a, .ws .u64 b] [⟨1, 44, .w .u64 (List.replicate (a.length + b.length) 0)⟩] (fun r rs => r = .tup [] ∧ ∃ c : List Int, c.length = a.length + b.length ∧ okD 18446744073709551616 c ∧ vl 18446744073709551616 c = vl 18446744073709551616 a * vl 18446744073709551616 b ∧ rs = [some ⟨1, 44, .w .u64 c⟩]) := by
  refine PM.intro (X := XX) tok Tryz.func161 rfl Tryz.ntmps161 (by rw [Tryz.results161]) (by kernel_rfl) rfl ?_; intro F hG hO; simp only [List.length_cons, List.length_nil, Nat.zero_add, Nat.reduceAdd] at hO
  repeat' ((try (conv => whnf)); first
  | (with_reducible refine add64_g (by omega) (by omega) (by omega) ?_)
  | ((with_reducible refine cg ?_); refine call_eq (b_mul (rd a (i : Int)) (rd b (j : Int)) ra rb) (LpL.refl _) rfl ?_)
  | ((with_reducible refine lg ?_); refine loop_g (A := Nat × List Int × Int) (fun (i, p, c) => i ≤ a.length ∧ (0 ≤ c ∧ c < 18446744073709551616) ∧ p.length = a.length + b.length ∧ okD 18446744073709551616 p ∧ p.drop (j + i) = p0.drop (j + i) ∧ vl 18446744073709551616 p + 18446744073709551616 ^ (j + i) * c = vl 18446744073709551616 p0 + 18446744073709551616 ^ j * (rd b j * vl 18446744073709551616 (a.take i))) (fun (i, p, c) => a.length - i) (fun (i, p, c) => [(0, .arr 0 0 (a.length + b.length)), (1, .ws .u64 a), (2, .ws .u64 b), (6, .val (.int .i64 (j : Int))), (7, .val (.int .u64 c)), (13, .val (.int .i64 (b.length : Int))), (14, .val (.int .i64 (j : Int))), (18, .val (.int .i64 (a.length : Int))), (19, .val (.int .i64 (i : Int)))]) (fun _ => []) (fun (i, p, c) => [some ⟨1, 44, .w .u64 p⟩]) (0, p0, 0) tok (fun (i, p, c) => ⟨⟨Nat.one_pos, trivial, trivial, trivial, trivial, trivial, trivial, trivial, trivial, trivial⟩, trivial, by simp only [List.length_cons, List.length_nil]; omega⟩) ?_ ⟨rfl, rfl, rfl, rfl, rfl, rfl, rfl, rfl, rfl, trivial⟩ ⟨[], rfl⟩ ⟨[], rfl⟩ ?_; rotate_left; rintro ⟨i, p, c⟩ ⟨g1, g2, g5, g6, g7, g8⟩; have ra := rd_bd (by decide) oka (i : Int); have rp := gd_bd (by decide) g6 (0 + ((i : Int) + (j : Int)).toNat); have rm := mul_bd64 ra rb)
  | ((with_reducible refine lg ?_); refine loop_g (A := Nat × List Int) (fun (j, p0) => j ≤ b.length ∧ p0.length = a.length + b.length ∧ okD 18446744073709551616 p0 ∧ (∀ k : Nat, j + a.length ≤ k → rd p0 k = 0) ∧ vl 18446744073709551616 p0 = vl 18446744073709551616 (b.take j) * vl 18446744073709551616 a) (fun (j, p0) => b.length - j) (fun (j, p0) => [(0, .arr 0 0 (a.length + b.length)), (1, .ws .u64 a), (2, .ws .u64 b), (13, .val (.int .i64 (b.length : Int))), (14, .val (.int .i64 (j : Int)))]) (fun _ => []) (fun (j, p0) => [some ⟨1, 44, .w .u64 p0⟩]) (0, List.replicate (a.length + b.length) 0) tok (fun (j, p0) => ⟨⟨Nat.one_pos, trivial, trivial, trivial, trivial, trivial⟩, trivial, by simp only [List.length_cons, List.length_nil]; omega⟩) ?_ ⟨rfl, rfl, rfl, rfl, rfl, trivial⟩ ⟨[], rfl⟩ ⟨[], rfl⟩ ?_; rotate_left; rintro ⟨j, p0⟩ ⟨h1, h5, h6, h7, h8⟩; have rb := rd_bd (by decide) okb (j : Int))
  
  | (with_reducible refine draw_g (id := 7) [[0, 1, 2, 3, 4, 5, 6, 7, 8, 9, 10, 11, 12, 13]] tok mixed (by kernel_rfl) ?_)
  | (with_reducible refine Chk.mk' (by first | omega | exact trivial | (simp only [List.length_append, List.length_set, List.length_replicate, List.length_take, List.length_drop, List.length_cons, List.length_nil, List.length_map]; omega)) ?_)
  | (with_reducible refine wrap_g (by dsimp only [inR]; omega) ?_)
  | (with_reducible refine idx_g (by omega) ?_)
  | (with_reducible refine idx_l _ rfl (by decide) ?_)
  | (with_reducible refine BothG.mk ?_ ?_)
  | (with_reducible refine fork_tt ?_) | (with_reducible refine fork_ff ?_)
  | (with_reducible refine fork_e (c := true) (by decide) ?_; with_reducible refine fork_tt ?_) | (with_reducible refine fork_e (c := false) (by decide) ?_; with_reducible refine fork_ff ?_)
  | (with_reducible refine fork_t (by omega) ?_) | (with_reducible refine fork_f (by omega) ?_)
  | (with_reducible refine fork_d ?_ ?_ <;> intro hc)
  | (with_reducible refine fork_n ?_)
  | (with_reducible refine fork_b ?_ ?_ <;> intro hc)
  | (with_reducible refine SlcG.mk (by omega) ?_)
  | (with_reducible refine MakG.mk (by dsimp only; omega) ?_)
  | (with_reducible refine AppG.mk (by first | omega | (simp only [List.length_append, List.length_set, List.length_replicate, List.length_take, List.length_drop, List.length_cons, List.length_nil, List.length_map]; omega)) (by dsimp only [List.length_cons, List.length_nil]; omega) (by omega) ?_)
  | (with_reducible refine div_g (by omega) (by omega) (by dsimp only [inR]; omega) ?_)
  | (with_reducible refine mod_g (by omega) (by omega) ?_)
  | (with_reducible refine mask_g (m := 4294967296) 32 rfl rfl (by decide) (by omega) ?_)
  | (with_reducible refine shr_g (m := 4294967296) 32 rfl (by decide) (by omega) rfl ?_)
  | (with_reducible refine fz_all (by omega) ?_)
  | (with_reducible refine Stuck.h (A := RetE _ _) ?_) | (with_reducible refine Stuck.h (A := RetM _ _ _ _) ?_) | (with_reducible refine Stuck.h (A := Again _ _ _ _ _ _ _ _) ?_) | (with_reducible refine Stuck.h (A := CallF _ _ _ _ _ _ _) ?_) | (with_reducible refine Stuck.h (A := LoopG _ _ _ _ _ _ _ _) ?_) | (with_reducible refine Stuck.h (A := DrawG _ _ _ _ _ _ _ _) ?_)
  | (with_reducible refine Stuck.h (A := WrapG _ _ _) ?_) | (with_reducible refine Stuck.h (A := DivG _ _ _ _) ?_) | (with_reducible refine Stuck.h (A := ModG _ _ _) ?_) | (with_reducible refine Stuck.h (A := ShlG _ _ _ _) ?_) | (with_reducible refine Stuck.h (A := ShrG _ _ _ _) ?_) | (with_reducible refine Stuck.h (A := BitG _ _ _ _ _) ?_)
  | (with_reducible refine Stuck.h (A := IdxG _ _ _) ?_) | (with_reducible refine Stuck.h (A := IdxL _ _ _) ?_) | (with_reducible refine Stuck.h (A := SlcG _ _ _ _ _) ?_) | (with_reducible refine Stuck.h (A := MakG _ _ _ _) ?_) | (with_reducible refine Stuck.h (A := AppG _ _ _ _ _ _ _) ?_) | (with_reducible refine Stuck.h (A := FzG _ _ _ _) ?_)
  | (with_reducible refine Stuck.h (A := RawG _) ?_) | (with_reducible refine Stuck.h (A := TabG _ _ _ _ _) ?_) | (with_reducible refine Stuck.h (A := ExtF _ _ _ _) ?_) | (with_reducible refine Stuck.h (A := Chk _ _) ?_) | (with_reducible refine Stuck.h (A := False) ?_))
  · obtain ⟨T, hT⟩ : ∃ T : Int, T = c + (p.getD (0 + ((i : Int) + (j : Int)).toNat) 0 + rd a i * rd b j) := ⟨_, rfl⟩
    have hk : 0 + ((i : Int) + (j : Int)).toNat = j + i := by omega
    have hrp : rd p ((j + i : Nat) : Int) = p.getD (0 + ((i : Int) + (j : Int)).toNat) 0 := by rw [hk, gd_rd]
    have hv := vl_set 18446744073709551616 p (j + i) (T % 18446744073709551616) (by omega)
    have hs := sum_step (B := 18446744073709551616) (vs := vl 18446744073709551616 p) (d := T % 18446744073709551616 - rd p ((j + i : Nat) : Int)) (c2 := T / 18446744073709551616) (T := c + rd a i * rd b j) (j + i) (by omega)
    refine ⟨again (i + 1, p.set (j + i) (T % 18446744073709551616), T / 18446744073709551616) ⟨by omega, ⟨by omega, by omega⟩, by simpa using g5, fun x hx => ?_, ?_, ?_⟩ (by dsimp only; omega) ⟨rfl, rfl, rfl, rfl, iv_eq (by omega), rfl, rfl, rfl, rfl, trivial⟩ ⟨[], rfl⟩ ⟨[], by dsimp only; exact row_eq (by omega) (by omega)⟩⟩
    · rcases List.mem_or_eq_of_mem_set hx with h | h
      · exact g6 x h
      · rw [h]; omega
    · rw [← Nat.add_assoc, List.drop_set_of_lt (by omega)]; exact drop_next g7
    · rw [hv, ← Nat.add_assoc, hs, vl_take_step]
      have e1 : (18446744073709551616 : Int) ^ (j + i) * (c + rd a i * rd b j) = 18446744073709551616 ^ (j + i) * c + 18446744073709551616 ^ j * (rd b j * (18446744073709551616 ^ i * rd a i)) := by
        rw [Int.mul_add, Int.pow_add, Int.mul_comm (rd a i) (rd b j), Int.mul_assoc (18446744073709551616 ^ j) (18446744073709551616 ^ i) (rd b j * rd a i), Int.mul_left_comm (18446744073709551616 ^ i) (rd b j) (rd a i)]
      rw [e1, Int.mul_add (rd b j), Int.mul_add (18446744073709551616 ^ j)]
      omega
  · have hk : 0 + ((j : Int) + (a.length : Int)).toNat = j + a.length := by omega
    have hi : i = a.length := by omega
    subst hi
    have hz : rd p ((j + a.length : Nat) : Int) = 0 := by
      have e1 := drop_rd p (j + a.length) (by omega)
      have e2 := drop_rd p0 (j + a.length) (by omega)
      rw [g7, e2] at e1
      have := (List.cons.inj e1).1
      rw [← this]; exact h7 _ (Nat.le_refl _)
    have hv := vl_set 18446744073709551616 p (j + a.length) c (by omega)
    rw [hz, Int.sub_zero] at hv
    refine ⟨again (j + 1, p.set (j + a.length) c) ⟨by omega, by simpa using g5, fun x hx => ?_, fun k hk2 => ?_, ?_⟩ (by dsimp only; omega) ⟨rfl, rfl, rfl, rfl, rfl, trivial⟩ ⟨[], rfl⟩ ⟨[], by dsimp only; exact row_eq (by omega) rfl⟩⟩
    · rcases List.mem_or_eq_of_mem_set hx with h | h
      · exact g6 x h
      · rw [h]; exact g2
    · have e3 : (p.set (j + a.length) c).drop (j + a.length + 1) = p0.drop (j + a.length + 1) := by
        rw [List.drop_set_of_lt (by omega)]; exact drop_next g7
      have e4 : rd (p.set (j + a.length) c) k = rd p0 k := by
        have h0 := congrArg (fun l => l.getD (k - (j + a.length + 1)) 0) e3
        simp only [List.getD_eq_getElem?_getD, List.getElem?_drop] at h0
        rw [show j + a.length + 1 + (k - (j + a.length + 1)) = k by omega] at h0
        simpa [rd, List.getD_eq_getElem?_getD] using h0
      rw [e4]; exact h7 k (by omega)
    · rw [hv, g8, h8, vl_take_step, List.take_length, Int.add_mul, Int.mul_assoc]
  · exact ⟨by omega, ⟨by omega, by omega⟩, h5, h6, rfl, by simp [vl]⟩
  · refine ⟨ret_m [0] (.tup []) [some ⟨1, 44, .w .u64 p0⟩] rfl rfl (by simp) (fun i h => one_row h) rfl ⟨rfl, p0, h5, h6, ?_, rfl⟩⟩
    rw [h8, List.take_of_length_le (by omega), Int.mul_comm]
  · exact ⟨by omega, by simp, fun x hx => by rw [List.eq_of_mem_replicate hx]; decide, fun k _ => by simp [rd, List.getD_eq_getElem?_getD, List.getElem?_replicate]; split <;> rfl, by rw [vl_zero]; simp [vl]⟩
end Go.Proofs.YtbeocnjlepcglaaGreatDoor.Sim
namespace Go.Proofs.YtbeocnjlepcglaaGreatDoor.Sim
open Go.RowKit
set_option linter.unusedVariables false
set_option linter.unusedSimpArgs false
set_option maxRecDepth 10000
set_option maxHeartbeats 8000000
variable {G : List (Nat × List Value)}
theorem pw_le {m n : Nat} (h : m ≤ n) : (18446744073709551616 : Int) ^ m ≤ 18446744073709551616 ^ n := by
  obtain ⟨d, rfl⟩ := Nat.exists_eq_add_of_le h
  rw [Int.pow_add]
  have h1 : (0 : Int) < 18446744073709551616 ^ m := Int.pow_pos (by decide)
  have h2 : (0 : Int) < 18446744073709551616 ^ d := Int.pow_pos (by decide)
  have := Int.mul_le_mul_of_nonneg_left (show (1 : Int) ≤ 18446744073709551616 ^ d by omega) (Int.le_of_lt h1)
  rw [Int.mul_one] at this
  exact this
theorem sum_row (a : List Int) : (List.replicate (a.length + 1) (0 : Int)).take 0 ++ a.take (a.length + 1) ++ (List.replicate (a.length + 1) (0 : Int)).drop (0 + min (a.length + 1) a.length) = a ++ [0] := by
  rw [List.take_zero, List.nil_append, List.take_of_length_le (by omega), show 0 + min (a.length + 1) a.length = a.length by omega, List.drop_replicate, show a.length + 1 - a.length = 1 by omega]
  rfl
theorem m_sum1 (X Y : Nat) (hX : L64 X ≤ 1073741824) (hY : L64 Y ≤ L64 X) : PM Tryz.prog G 172 [.ws .u64 (d64 X), .ws .u64 (d64 Y)] [] (fun r rs => r = .arr 0 0 (d64 (X + Y)).length ∧ ∃ c : List Int, (d64 (X + Y)).length ≤ c.length ∧ c.take (d64 (X + Y)).length = d64 (X + Y) ∧ rs = [some ⟨1, 44, .w .u64 c⟩]) := by
  obtain ⟨a, ea⟩ : ∃ a, a = d64 X := ⟨_, rfl⟩
  obtain ⟨b, eb⟩ : ∃ b, b = d64 Y := ⟨_, rfl⟩
  obtain ⟨oka, va⟩ := d64_ok X
  obtain ⟨okb, vb⟩ := d64_ok Y
  replace hX : (d64 X).length ≤ 1073741824 := hX
  replace hY : (d64 Y).length ≤ (d64 X).length := hY
  rw [← ea] at hX hY oka va
  rw [← eb] at hY okb vb
  rw [← ea, ← eb]
  have hsr := sum_row a
  have hvs : vl 18446744073709551616 (a ++ [0]) = X := by rw [vl_snoc, va]; simp
  have hok : okD 18446744073709551616 (a ++ [0]) := okD_append.2 ⟨oka, okD_cons.2 ⟨by decide, okD_nil _⟩⟩
  have hsl : (a ++ [0]).length = a.length + 1 := by simp
  have hno : vl 18446744073709551616 ((a ++ [0]).drop 0) + vl 18446744073709551616 b < 18446744073709551616 ^ ((a ++ [0]).length - 0) := by
    have h1 := vl_lt (B := 18446744073709551616) (by decide) oka
    have h2 := vl_lt (B := 18446744073709551616) (by decide) okb
    have h3 := vl_nonneg (B := 18446744073709551616) (by decide) okb
    have h4 : (18446744073709551616 : Int) ^ b.length ≤ 18446744073709551616 ^ a.length := by
      exact pw_le hY
    rw [List.drop_zero, hvs, hsl, Nat.sub_zero, Int.pow_succ]
    omega
  refine PM.intro (X := XX) tok Tryz.func172 rfl Tryz.ntmps172 (by rw [Tryz.results172]) (by kernel_rfl) rfl ?_; intro F hG hO; simp only [List.length_cons, List.length_nil, Nat.zero_add, Nat.reduceAdd] at hO
  repeat' ((try (conv => whnf)); first
  | ((with_reducible refine cg ?_); simp only [show ((a.length : Int) + 1).toNat = a.length + 1 by omega, hsr]; refine call_pm [0] (m_addat (a ++ [0]) b 0 (a.length + 1) hsl hok okb (by omega) (by omega) hno) rfl rfl rfl (by simp) ?_; rintro r rs ⟨rfl, c, c1, c2, c3, rfl⟩)
  | ((with_reducible refine cg ?_); refine call_pm [0] (m_trim c (a.length + 1) (by omega) (by omega)) rfl rfl rfl (by simp) ?_; rintro r rs ⟨rfl, rfl⟩)
  
  | (with_reducible refine Chk.mk' (by first | omega | exact trivial | (simp only [List.length_append, List.length_set, List.length_replicate, List.length_take, List.length_drop, List.length_cons, List.length_nil, List.length_map]; omega)) ?_)
  | (with_reducible refine wrap_g (by dsimp only [inR]; omega) ?_)
  | (with_reducible refine idx_g (by omega) ?_)
  | (with_reducible refine idx_l _ rfl (by decide) ?_)
  | (with_reducible refine BothG.mk ?_ ?_)
  | (with_reducible refine fork_tt ?_) | (with_reducible refine fork_ff ?_)
  | (with_reducible refine fork_e (c := true) (by decide) ?_; with_reducible refine fork_tt ?_) | (with_reducible refine fork_e (c := false) (by decide) ?_; with_reducible refine fork_ff ?_)
  | (with_reducible refine fork_t (by omega) ?_) | (with_reducible refine fork_f (by omega) ?_)
  | (with_reducible refine fork_d ?_ ?_ <;> intro hc)
  | (with_reducible refine fork_n ?_)
  | (with_reducible refine fork_b ?_ ?_ <;> intro hc)
  | (with_reducible refine SlcG.mk (by omega) ?_)
  | (with_reducible refine MakG.mk (by dsimp only; omega) ?_)
  | (with_reducible refine AppG.mk (by first | omega | (simp only [List.length_append, List.length_set, List.length_replicate, List.length_take, List.length_drop, List.length_cons, List.length_nil, List.length_map]; omega)) (by dsimp only [List.length_cons, List.length_nil]; omega) (by omega) ?_)
  | (with_reducible refine div_g (by omega) (by omega) (by dsimp only [inR]; omega) ?_)
  | (with_reducible refine mod_g (by omega) (by omega) ?_)
  | (with_reducible refine mask_g (m := 4294967296) 32 rfl rfl (by decide) (by omega) ?_)
  | (with_reducible refine shr_g (m := 4294967296) 32 rfl (by decide) (by omega) rfl ?_)
  | (with_reducible refine fz_all (by omega) ?_)
  | (with_reducible refine Stuck.h (A := RetE _ _) ?_) | (with_reducible refine Stuck.h (A := RetM _ _ _ _) ?_) | (with_reducible refine Stuck.h (A := Again _ _ _ _ _ _ _ _) ?_) | (with_reducible refine Stuck.h (A := CallF _ _ _ _ _ _ _) ?_) | (with_reducible refine Stuck.h (A := LoopG _ _ _ _ _ _ _ _) ?_) | (with_reducible refine Stuck.h (A := DrawG _ _ _ _ _ _ _ _) ?_)
  | (with_reducible refine Stuck.h (A := WrapG _ _ _) ?_) | (with_reducible refine Stuck.h (A := DivG _ _ _ _) ?_) | (with_reducible refine Stuck.h (A := ModG _ _ _) ?_) | (with_reducible refine Stuck.h (A := ShlG _ _ _ _) ?_) | (with_reducible refine Stuck.h (A := ShrG _ _ _ _) ?_) | (with_reducible refine Stuck.h (A := BitG _ _ _ _ _) ?_)
  | (with_reducible refine Stuck.h (A := IdxG _ _ _) ?_) | (with_reducible refine Stuck.h (A := IdxL _ _ _) ?_) | (with_reducible refine Stuck.h (A := SlcG _ _ _ _ _) ?_) | (with_reducible refine Stuck.h (A := MakG _ _ _ _) ?_) | (with_reducible refine Stuck.h (A := AppG _ _ _ _ _ _ _) ?_) | (with_reducible refine Stuck.h (A := FzG _ _ _ _) ?_)
  | (with_reducible refine Stuck.h (A := RawG _) ?_) | (with_reducible refine Stuck.h (A := TabG _ _ _ _ _) ?_) | (with_reducible refine Stuck.h (A := ExtF _ _ _ _) ?_) | (with_reducible refine Stuck.h (A := Chk _ _) ?_) | (with_reducible refine Stuck.h (A := False) ?_))
  have hc : vl 18446744073709551616 c = ((X + Y : Nat) : Int) := by
    rw [c3, hvs, vb, Int.pow_zero, Int.one_mul, Int.natCast_add]
  have ht : trim (c.take (a.length + 1)) = d64 (X + Y) := by rw [List.take_of_length_le (by omega)]; exact trim_pos c2 hc
  have hl : (d64 (X + Y)).length ≤ c.length := by
    have h := congrArg List.length (trim_pre c)
    rw [trim_pos c2 hc, List.length_take] at h
    omega
  refine ⟨ret_m [0] (.arr 0 0 (trim (c.take (a.length + 1))).length) [some ⟨1, 44, .w .u64 c⟩] rfl rfl (by simp) (fun i h => absurd h (Nat.not_lt_zero _)) rfl ⟨by rw [ht], c, hl, ?_, rfl⟩⟩
  rw [← trim_pos c2 hc]
  exact trim_pre c
theorem m_sum2 (X Y : Nat) (hX : L64 X ≤ 1073741824) (hY : L64 Y < L64 X) : PM Tryz.prog G 172 [.ws .u64 (d64 Y), .ws .u64 (d64 X)] [] (fun r rs => r = .arr 0 0 (d64 (X + Y)).length ∧ ∃ c : List Int, (d64 (X + Y)).length ≤ c.length ∧ c.take (d64 (X + Y)).length = d64 (X + Y) ∧ rs = [some ⟨1, 44, .w .u64 c⟩]) := by
  obtain ⟨a, ea⟩ : ∃ a, a = d64 X := ⟨_, rfl⟩
  obtain ⟨b, eb⟩ : ∃ b, b = d64 Y := ⟨_, rfl⟩
  obtain ⟨oka, va⟩ := d64_ok X
  obtain ⟨okb, vb⟩ := d64_ok Y
  replace hX : (d64 X).length ≤ 1073741824 := hX
  replace hY : (d64 Y).length < (d64 X).length := hY
  rw [← ea] at hX hY oka va
  rw [← eb] at hY okb vb
  rw [← ea, ← eb]
  have hsr := sum_row a
  have hvs : vl 18446744073709551616 (a ++ [0]) = X := by rw [vl_snoc, va]; simp
  have hok : okD 18446744073709551616 (a ++ [0]) := okD_append.2 ⟨oka, okD_cons.2 ⟨by decide, okD_nil _⟩⟩
  have hsl : (a ++ [0]).length = a.length + 1 := by simp
  have hno : vl 18446744073709551616 ((a ++ [0]).drop 0) + vl 18446744073709551616 b < 18446744073709551616 ^ ((a ++ [0]).length - 0) := by
    have h1 := vl_lt (B := 18446744073709551616) (by decide) oka
    have h2 := vl_lt (B := 18446744073709551616) (by decide) okb
    have h3 := vl_nonneg (B := 18446744073709551616) (by decide) okb
    have h4 : (18446744073709551616 : Int) ^ b.length ≤ 18446744073709551616 ^ a.length := by
      exact pw_le (Nat.le_of_lt hY)
    rw [List.drop_zero, hvs, hsl, Nat.sub_zero, Int.pow_succ]
    omega
  refine PM.intro (X := XX) tok Tryz.func172 rfl Tryz.ntmps172 (by rw [Tryz.results172]) (by kernel_rfl) rfl ?_; intro F hG hO; simp only [List.length_cons, List.length_nil, Nat.zero_add, Nat.reduceAdd] at hO
  repeat' ((try (conv => whnf)); first
  | ((with_reducible refine cg ?_); simp only [show ((a.length : Int) + 1).toNat = a.length + 1 by omega, hsr]; refine call_pm [0] (m_addat (a ++ [0]) b 0 (a.length + 1) hsl hok okb (by omega) (by omega) hno) rfl rfl rfl (by simp) ?_; rintro r rs ⟨rfl, c, c1, c2, c3, rfl⟩)
  | ((with_reducible refine cg ?_); refine call_pm [0] (m_trim c (a.length + 1) (by omega) (by omega)) rfl rfl rfl (by simp) ?_; rintro r rs ⟨rfl, rfl⟩)
  
  | (with_reducible refine Chk.mk' (by first | omega | exact trivial | (simp only [List.length_append, List.length_set, List.length_replicate, List.length_take, List.length_drop, List.length_cons, List.length_nil, List.length_map]; omega)) ?_)
  | (with_reducible refine wrap_g (by dsimp only [inR]; omega) ?_)
  | (with_reducible refine idx_g (by omega) ?_)
  | (with_reducible refine idx_l _ rfl (by decide) ?_)
  | (with_reducible refine BothG.mk ?_ ?_)
  | (with_reducible refine fork_tt ?_) | (with_reducible refine fork_ff ?_)
  | (with_reducible refine fork_e (c := true) (by decide) ?_; with_reducible refine fork_tt ?_) | (with_reducible refine fork_e (c := false) (by decide) ?_; with_reducible refine fork_ff ?_)
  | (with_reducible refine fork_t (by omega) ?_) | (with_reducible refine fork_f (by omega) ?_)
  | (with_reducible refine fork_d ?_ ?_ <;> intro hc)
  | (with_reducible refine fork_n ?_)
  | (with_reducible refine fork_b ?_ ?_ <;> intro hc)
  | (with_reducible refine SlcG.mk (by omega) ?_)
  | (with_reducible refine MakG.mk (by dsimp only; omega) ?_)
  | (with_reducible refine AppG.mk (by first | omega | (simp only [List.length_append, List.length_set, List.length_replicate, List.length_take, List.length_drop, List.length_cons, List.length_nil, List.length_map]; omega)) (by dsimp only [List.length_cons, List.length_nil]; omega) (by omega) ?_)
  | (with_reducible refine div_g (by omega) (by omega) (by dsimp only [inR]; omega) ?_)
  | (with_reducible refine mod_g (by omega) (by omega) ?_)
  | (with_reducible refine mask_g (m := 4294967296) 32 rfl rfl (by decide) (by omega) ?_)
  | (with_reducible refine shr_g (m := 4294967296) 32 rfl (by decide) (by omega) rfl ?_)
  | (with_reducible refine fz_all (by omega) ?_)
  | (with_reducible refine Stuck.h (A := RetE _ _) ?_) | (with_reducible refine Stuck.h (A := RetM _ _ _ _) ?_) | (with_reducible refine Stuck.h (A := Again _ _ _ _ _ _ _ _) ?_) | (with_reducible refine Stuck.h (A := CallF _ _ _ _ _ _ _) ?_) | (with_reducible refine Stuck.h (A := LoopG _ _ _ _ _ _ _ _) ?_) | (with_reducible refine Stuck.h (A := DrawG _ _ _ _ _ _ _ _) ?_)
  | (with_reducible refine Stuck.h (A := WrapG _ _ _) ?_) | (with_reducible refine Stuck.h (A := DivG _ _ _ _) ?_) | (with_reducible refine Stuck.h (A := ModG _ _ _) ?_) | (with_reducible refine Stuck.h (A := ShlG _ _ _ _) ?_) | (with_reducible refine Stuck.h (A := ShrG _ _ _ _) ?_) | (with_reducible refine Stuck.h (A := BitG _ _ _ _ _) ?_)
  | (with_reducible refine Stuck.h (A := IdxG _ _ _) ?_) | (with_reducible refine Stuck.h (A := IdxL _ _ _) ?_) | (with_reducible refine Stuck.h (A := SlcG _ _ _ _ _) ?_) | (with_reducible refine Stuck.h (A := MakG _ _ _ _) ?_) | (with_reducible refine Stuck.h (A := AppG _ _ _ _ _ _ _) ?_) | (with_reducible refine Stuck.h (A := FzG _ _ _ _) ?_)
  | (with_reducible refine Stuck.h (A := RawG _) ?_) | (with_reducible refine Stuck.h (A := TabG _ _ _ _ _) ?_) | (with_reducible refine Stuck.h (A := ExtF _ _ _ _) ?_) | (with_reducible refine Stuck.h (A := Chk _ _) ?_) | (with_reducible refine Stuck.h (A := False) ?_))
  have hc : vl 18446744073709551616 c = ((X + Y : Nat) : Int) := by
    rw [c3, hvs, vb, Int.pow_zero, Int.one_mul, Int.natCast_add]
  have ht : trim (c.take (a.length + 1)) = d64 (X + Y) := by rw [List.take_of_length_le (by omega)]; exact trim_pos c2 hc
  have hl : (d64 (X + Y)).length ≤ c.length := by
    have h := congrArg List.length (trim_pre c)
    rw [trim_pos c2 hc, List.length_take] at h
    omega
  refine ⟨ret_m [0] (.arr 0 0 (trim (c.take (a.length + 1))).length) [some ⟨1, 44, .w .u64 c⟩] rfl rfl (by simp) (fun i h => absurd h (Nat.not_lt_zero _)) rfl ⟨by rw [ht], c, hl, ?_, rfl⟩⟩
  rw [← trim_pos c2 hc]
  exact trim_pre c
theorem m_sum (X Y : Nat) (hX : L64 X ≤ 1073741824) (hY : L64 Y ≤ 1073741824) : FC Tryz.prog G 172 [.ws .u64 (d64 X), .ws .u64 (d64 Y)] (· = .ws .u64 (d64 (X + Y))) := by
  rcases Nat.lt_or_ge (L64 X) (L64 Y) with h | h
  · have := FC.of_row (m_sum2 (G := G) Y X hY h)
    rw [Nat.add_comm Y X] at this
    exact this
  · exact FC.of_row (m_sum1 X Y hX h)
end Go.Proofs.YtbeocnjlepcglaaGreatDoor.Sim
namespace Go.Proofs.YtbeocnjlepcglaaGreatDoor.Sim
open Go.RowKit
set_option linter.unusedVariables false
set_option linter.unusedSimpArgs false
set_option maxRecDepth 10000
set_option maxHeartbeats 8000000
variable {G : List (Nat × List Value)}
/-- The row that holds V in n limbs. -/
def RowOf (n V : Nat) (rs : List (Option Row)) : Prop := ∃ c : List Int, c.length = n ∧ okD 18446744073709551616 c ∧ vl 18446744073709551616 c = (V : Int) ∧ rs = [some ⟨1, 44, .w .u64 c⟩]
def FillOk (g : List (Nat × List Value)) (X Y : Nat) : Prop := PM Tryz.prog g 147 [.arr 0 0 (L64 X + L64 Y), .ws .u64 (d64 X), .ws .u64 (d64 Y)] [⟨1, 44, .w .u64 (List.replicate (L64 X + L64 Y) 0)⟩] (fun r rs => r = .tup [] ∧ RowOf (L64 X + L64 Y) (X * Y) rs)
def ProdOk (g : List (Nat × List Value)) (X Y : Nat) : Prop := PM Tryz.prog g 123 [.ws .u64 (d64 X), .ws .u64 (d64 Y)] [] (fun r rs => r = .arr 0 0 (L64 (X * Y)) ∧ RowOf (L64 X + L64 Y) (X * Y) rs)
theorem L64_mul (x y : Nat) : L64 (x * y) ≤ L64 x + L64 y := lenB_mul (by decide) x y
theorem L64_mono {x y : Nat} (h : x ≤ y) : L64 x ≤ L64 y := lenB_mono (by decide) h
theorem row_take {c : List Int} {V : Nat} (ok : okD 18446744073709551616 c) (h : vl 18446744073709551616 c = (V : Int)) : c.take (L64 V) = d64 V ∧ L64 V ≤ c.length := by
  have h1 := trim_pos ok h
  have h2 := trim_pre c
  rw [h1] at h2
  refine ⟨h2, ?_⟩
  have h3 := congrArg List.length h2
  rw [List.length_take, d64_len] at h3
  omega
theorem ProdOk.fc {X Y : Nat} (h : ProdOk G X Y) : FC Tryz.prog G 123 [.ws .u64 (d64 X), .ws .u64 (d64 Y)] (· = .ws .u64 (d64 (X * Y))) := by
  refine FC.of_row (l := d64 (X * Y)) (T := 44) (h.mono ?_)
  rintro r rs ⟨rfl, c, h1, h2, h3, rfl⟩
  obtain ⟨h4, h5⟩ := row_take h2 h3
  exact ⟨rfl, c, h5, h4, rfl⟩
theorem vl_d64i (X : Nat) : vl 18446744073709551616 (d64 X) = (X : Int) := (d64_ok X).2
theorem prod_of_fill {X Y : Nat} (h : FillOk G X Y) (hX : L64 X + L64 Y ≤ 1073741824) : ProdOk G X Y := by
  unfold FillOk at h
  have l1 : (d64 X).length = L64 X := rfl
  have l2 : (d64 Y).length = L64 Y := rfl
  obtain ⟨n, hn⟩ : ∃ n, n = L64 X + L64 Y := ⟨_, rfl⟩
  obtain ⟨a, ha⟩ : ∃ a, a = d64 X := ⟨_, rfl⟩
  obtain ⟨b, hb⟩ : ∃ b, b = d64 Y := ⟨_, rfl⟩
  unfold ProdOk
  rw [← hn, ← ha, ← hb] at h
  rw [← ha] at l1
  rw [← hb] at l2
  rw [← ha, ← hb, ← hn]
  refine PM.intro (X := XX) tok Tryz.func123 rfl Tryz.ntmps123 (by rw [Tryz.results123]) (by kernel_rfl) rfl ?_; intro F hG hO; simp only [List.length_cons, List.length_nil, Nat.zero_add, Nat.reduceAdd] at hO
  rw [← hG] at h
  repeat' ((try (conv => whnf)); first
  | ((with_reducible refine cg ?_); simp only [show ((a.length : Int) + (b.length : Int)).toNat = n by omega]; refine call_pm [0] h rfl rfl rfl (by simp) ?_; rintro r rs ⟨rfl, c, c1, c2, c3, rfl⟩)
  | ((with_reducible refine cg ?_); refine call_pm [0] (m_trim c n (by omega) (by omega)) rfl rfl rfl (by simp) ?_; rintro r rs ⟨rfl, rfl⟩)
  
  | (with_reducible refine Chk.mk' (by first | omega | exact trivial | (simp only [List.length_append, List.length_set, List.length_replicate, List.length_take, List.length_drop, List.length_cons, List.length_nil, List.length_map]; omega)) ?_)
  | (with_reducible refine wrap_g (by dsimp only [inR]; omega) ?_)
  | (with_reducible refine idx_g (by omega) ?_)
  | (with_reducible refine idx_l _ rfl (by decide) ?_)
  | (with_reducible refine BothG.mk ?_ ?_)
  | (with_reducible refine fork_tt ?_) | (with_reducible refine fork_ff ?_)
  | (with_reducible refine fork_e (c := true) (by decide) ?_; with_reducible refine fork_tt ?_) | (with_reducible refine fork_e (c := false) (by decide) ?_; with_reducible refine fork_ff ?_)
  | (with_reducible refine fork_t (by omega) ?_) | (with_reducible refine fork_f (by omega) ?_)
  | (with_reducible refine fork_d ?_ ?_ <;> intro hc)
  | (with_reducible refine fork_n ?_)
  | (with_reducible refine fork_b ?_ ?_ <;> intro hc)
  | (with_reducible refine SlcG.mk (by omega) ?_)
  | (with_reducible refine MakG.mk (by dsimp only; omega) ?_)
  | (with_reducible refine AppG.mk (by first | omega | (simp only [List.length_append, List.length_set, List.length_replicate, List.length_take, List.length_drop, List.length_cons, List.length_nil, List.length_map]; omega)) (by dsimp only [List.length_cons, List.length_nil]; omega) (by omega) ?_)
  | (with_reducible refine div_g (by omega) (by omega) (by dsimp only [inR]; omega) ?_)
  | (with_reducible refine mod_g (by omega) (by omega) ?_)
  | (with_reducible refine mask_g (m := 4294967296) 32 rfl rfl (by decide) (by omega) ?_)
  | (with_reducible refine shr_g (m := 4294967296) 32 rfl (by decide) (by omega) rfl ?_)
  | (with_reducible refine fz_all (by omega) ?_)
  | (with_reducible refine Stuck.h (A := RetE _ _) ?_) | (with_reducible refine Stuck.h (A := RetM _ _ _ _) ?_) | (with_reducible refine Stuck.h (A := Again _ _ _ _ _ _ _ _) ?_) | (with_reducible refine Stuck.h (A := CallF _ _ _ _ _ _ _) ?_) | (with_reducible refine Stuck.h (A := LoopG _ _ _ _ _ _ _ _) ?_) | (with_reducible refine Stuck.h (A := DrawG _ _ _ _ _ _ _ _) ?_)
  | (with_reducible refine Stuck.h (A := WrapG _ _ _) ?_) | (with_reducible refine Stuck.h (A := DivG _ _ _ _) ?_) | (with_reducible refine Stuck.h (A := ModG _ _ _) ?_) | (with_reducible refine Stuck.h (A := ShlG _ _ _ _) ?_) | (with_reducible refine Stuck.h (A := ShrG _ _ _ _) ?_) | (with_reducible refine Stuck.h (A := BitG _ _ _ _ _) ?_)
  | (with_reducible refine Stuck.h (A := IdxG _ _ _) ?_) | (with_reducible refine Stuck.h (A := IdxL _ _ _) ?_) | (with_reducible refine Stuck.h (A := SlcG _ _ _ _ _) ?_) | (with_reducible refine Stuck.h (A := MakG _ _ _ _) ?_) | (with_reducible refine Stuck.h (A := AppG _ _ _ _ _ _ _) ?_) | (with_reducible refine Stuck.h (A := FzG _ _ _ _) ?_)
  | (with_reducible refine Stuck.h (A := RawG _) ?_) | (with_reducible refine Stuck.h (A := TabG _ _ _ _ _) ?_) | (with_reducible refine Stuck.h (A := ExtF _ _ _ _) ?_) | (with_reducible refine Stuck.h (A := Chk _ _) ?_) | (with_reducible refine Stuck.h (A := False) ?_))
  have ht : (trim (c.take n)).length = L64 (X * Y) := by rw [List.take_of_length_le (by omega), trim_pos c2 c3]; rfl
  refine ⟨ret_m [0] (.arr 0 0 (trim (c.take n)).length) [some ⟨1, 44, .w .u64 c⟩] rfl rfl (by simp) (fun i h => absurd h (Nat.not_lt_zero _)) rfl ⟨by rw [ht], c, c1, c2, c3, rfl⟩⟩
end Go.Proofs.YtbeocnjlepcglaaGreatDoor.Sim
namespace Go.Proofs.YtbeocnjlepcglaaGreatDoor.Sim
open Go.RowKit
set_option linter.unusedVariables false
set_option linter.unusedSimpArgs false
set_option maxRecDepth 10000
set_option maxHeartbeats 8000000
variable {G : List (Nat × List Value)}
theorem add_room {c : List Int} {n t : Nat} {V : Int} (ok : okD 18446744073709551616 c) (hl : c.length = n) (ht : t ≤ n) (h : vl 18446744073709551616 c + 18446744073709551616 ^ t * V < 18446744073709551616 ^ n) : vl 18446744073709551616 (c.drop t) + V < 18446744073709551616 ^ (c.length - t) := by
  have h1 := vl_split 18446744073709551616 c t (by omega)
  have h2 := vl_nonneg (B := 18446744073709551616) (by decide) (ok.take t)
  have hp : (0 : Int) < 18446744073709551616 ^ t := Int.pow_pos (by decide)
  have e : (18446744073709551616 : Int) ^ n = 18446744073709551616 ^ t * 18446744073709551616 ^ (n - t) := by rw [← Int.pow_add]; congr 1; omega
  rw [hl]
  have h3 : 18446744073709551616 ^ t * (vl 18446744073709551616 (c.drop t) + V) < 18446744073709551616 ^ t * 18446744073709551616 ^ (n - t) := by
    rw [← e, Int.mul_add]
    omega
  exact Int.lt_of_mul_lt_mul_left h3 (Int.le_of_lt hp)
/-- A piece of a natural. -/
theorem piece (X t m : Nat) : trim (((d64 X).drop t).take m) = d64 (X / 2 ^ (64 * t) % 2 ^ (64 * m)) := by
  rw [d64_hi, trim_lo]
theorem pow64i (n : Nat) : (18446744073709551616 : Int) ^ n = ((2 ^ (64 * n) : Nat) : Int) := by
  rw [← pow64]; simp
theorem low_step (X t m : Nat) : X % 2 ^ (64 * (t + m)) = X % 2 ^ (64 * t) + 2 ^ (64 * t) * (X / 2 ^ (64 * t) % 2 ^ (64 * m)) := by
  rw [Nat.mul_add, Nat.pow_add, Nat.mod_mul]
def slabP (X t lb la : Nat) : Nat := X / 2 ^ (64 * t) % 2 ^ (64 * (min (t + lb) la - t))
theorem slab_piece (X t lb la : Nat) : trim (List.drop ((t : Int).toNat) (List.take (min ((t : Int) + (lb : Int)) (la : Int)).toNat (d64 X))) = d64 (slabP X t lb la) := by
  rw [Int.toNat_natCast, show (min ((t : Int) + (lb : Int)) (la : Int)).toNat = min (t + lb) la by omega, List.drop_take, piece]; rfl
theorem slab_len (X t lb la : Nat) : L64 (slabP X t lb la) ≤ min (t + lb) la - t := L64_le (Nat.mod_lt _ (Nat.pow_pos (by decide)))
theorem slab_next {X t lb la : Nat} (hX : X < 2 ^ (64 * la)) (ht : t < la) : X % 2 ^ (64 * (t + lb)) = X % 2 ^ (64 * t) + 2 ^ (64 * t) * slabP X t lb la := by
  unfold slabP
  rw [← low_step]
  rcases Nat.lt_or_ge la (t + lb) with h | h
  · rw [show t + (min (t + lb) la - t) = la by omega, Nat.mod_eq_of_lt hX, Nat.mod_eq_of_lt (Nat.lt_of_lt_of_le hX (Nat.pow_le_pow_right (by decide) (by omega)))]
  · rw [show t + (min (t + lb) la - t) = t + lb by omega]
theorem slab_vl {X Y t lb la : Nat} {v : Int} (hX : X < 2 ^ (64 * la)) (ht : t < la) (hv : v = ((X % 2 ^ (64 * t) * Y : Nat) : Int)) : v + 18446744073709551616 ^ t * ((slabP X t lb la * Y : Nat) : Int) = ((X % 2 ^ (64 * (t + lb)) * Y : Nat) : Int) := by
  rw [hv, slab_next hX ht, pow64i, ← Int.natCast_mul, ← Int.natCast_add, Nat.add_mul, Nat.mul_assoc]
theorem slab_room {X Y t lb la n : Nat} (hX : X < 2 ^ (64 * la)) (hY : Y < 2 ^ (64 * lb)) (ht : t < la) (hn : n = la + lb) : ((X % 2 ^ (64 * (t + lb)) * Y : Nat) : Int) < 18446744073709551616 ^ n := by
  have e : 2 ^ (64 * n) = 2 ^ (64 * la) * 2 ^ (64 * lb) := by rw [hn, Nat.mul_add, Nat.pow_add]
  rw [pow64i, e]
  have h1 : X % 2 ^ (64 * (t + lb)) ≤ X := Nat.mod_le _ _
  have h2 : X % 2 ^ (64 * (t + lb)) * Y < 2 ^ (64 * la) * 2 ^ (64 * lb) := Nat.mul_lt_mul'' (by omega) hY
  exact Int.ofNat_lt.2 h2
theorem m_slabs (X Y : Nat) (ih : ∀ X' Y' : Nat, L64 X' + L64 Y' < L64 X + L64 Y → ProdOk G X' Y') (hb : 0 < L64 Y) (hge : 2 * L64 Y ≤ L64 X) (hX : L64 X ≤ 536870912) :
    PM Tryz.prog G 162 [.arr 0 0 (L64 X + L64 Y), .ws .u64 (d64 X), .ws .u64 (d64 Y)] [⟨1, 44, .w .u64 (List.replicate (L64 X + L64 Y) 0)⟩] (fun r rs => r = .tup [] ∧ RowOf (L64 X + L64 Y) (X * Y) rs) := by
  have l1 : (d64 X).length = L64 X := rfl
  have l2 : (d64 Y).length = L64 Y := rfl
  obtain ⟨n, hn⟩ : ∃ n, n = L64 X + L64 Y := ⟨_, rfl⟩
  have hpc := fun t lb la => slab_piece X t lb la
  obtain ⟨a, ha⟩ : ∃ a, a = d64 X := ⟨_, rfl⟩
  obtain ⟨b, hb2⟩ : ∃ b, b = d64 Y := ⟨_, rfl⟩
  rw [← ha] at l1 hpc
  rw [← hb2] at l2
  rw [← ha, ← hb2, ← hn]
  refine PM.intro (X := XX) tok Tryz.func162 rfl Tryz.ntmps162 (by rw [Tryz.results162]) (by kernel_rfl) rfl ?_; intro F hG hO; simp only [List.length_cons, List.length_nil, Nat.zero_add, Nat.reduceAdd] at hO
  rw [← hG] at ih
  repeat' ((try (conv => whnf)); first
  | ((with_reducible refine lg ?_); refine loop_g (A := Nat × List Int) (fun (t, c) => t ≤ n ∧ c.length = n ∧ okD 18446744073709551616 c ∧ vl 18446744073709551616 c = ((X % 2 ^ (64 * t) * Y : Nat) : Int)) (fun (t, c) => a.length - t) (fun (t, c) => [(0, .arr 0 0 n), (1, .ws .u64 a), (2, .ws .u64 b), (6, .val (.int .i64 (t : Int)))]) (fun _ => []) (fun (t, c) => [some ⟨1, 44, .w .u64 c⟩]) (0, List.replicate n 0) tok (fun (t, c) => ⟨⟨Nat.one_pos, trivial, trivial, trivial, trivial⟩, trivial, by simp only [List.length_cons, List.length_nil]; omega⟩) ?_ ⟨rfl, rfl, rfl, rfl, trivial⟩ ⟨[], rfl⟩ ⟨[], rfl⟩ ?_; rotate_left; rintro ⟨t, c⟩ ⟨i1, i2, i3, i4⟩)
  | ((with_reducible refine cg ?_); have f1 := m_trimw (G := F.G) (List.drop ((t : Int).toNat) (List.take (min ((t : Int) + (b.length : Int)) (a.length : Int)).toNat a)) (by rw [List.length_drop, List.length_take]; omega); rw [hpc] at f1; refine call_eq f1 (LpL.refl _) rfl ?_)
  | ((with_reducible refine cg ?_); have f2 := (ih (slabP X t b.length a.length) Y (by have := slab_len X t b.length a.length; omega)).fc; rw [← hb2] at f2; refine call_eq f2 (LpL.refl _) rfl ?_)
  | ((with_reducible refine cg ?_); dsimp only; have hsv := slab_vl (Y := Y) (lb := b.length) (by rw [l1]; exact L64_lt X) (show t < a.length by omega) i4; refine call_pm [0] (m_addat c (d64 (slabP X t b.length a.length * Y)) t n i2 i3 (d64_ok _).1 (by omega) (by have h1 := slab_len X t b.length a.length; have h2 := L64_mul (slabP X t b.length a.length) Y; rw [d64_len]; omega) (add_room i3 i2 (by omega) (by rw [vl_d64i, hsv]; exact slab_room (by rw [l1]; exact L64_lt X) (by rw [l2]; exact L64_lt Y) (show t < a.length by omega) (by omega)))) rfl rfl rfl (by simp) ?_; rintro r rs ⟨rfl, c', c1, c2, c3, rfl⟩; rw [vl_d64i, hsv] at c3)
  
  | (with_reducible refine Chk.mk' (by first | omega | exact trivial | (simp only [List.length_append, List.length_set, List.length_replicate, List.length_take, List.length_drop, List.length_cons, List.length_nil, List.length_map]; omega)) ?_)
  | (with_reducible refine wrap_g (by dsimp only [inR]; omega) ?_)
  | (with_reducible refine idx_g (by omega) ?_)
  | (with_reducible refine idx_l _ rfl (by decide) ?_)
  | (with_reducible refine BothG.mk ?_ ?_)
  | (with_reducible refine fork_tt ?_) | (with_reducible refine fork_ff ?_)
  | (with_reducible refine fork_e (c := true) (by decide) ?_; with_reducible refine fork_tt ?_) | (with_reducible refine fork_e (c := false) (by decide) ?_; with_reducible refine fork_ff ?_)
  | (with_reducible refine fork_t (by omega) ?_) | (with_reducible refine fork_f (by omega) ?_)
  | (with_reducible refine fork_d ?_ ?_ <;> intro hc)
  | (with_reducible refine fork_n ?_)
  | (with_reducible refine fork_b ?_ ?_ <;> intro hc)
  | (with_reducible refine SlcG.mk (by omega) ?_)
  | (with_reducible refine MakG.mk (by dsimp only; omega) ?_)
  | (with_reducible refine AppG.mk (by first | omega | (simp only [List.length_append, List.length_set, List.length_replicate, List.length_take, List.length_drop, List.length_cons, List.length_nil, List.length_map]; omega)) (by dsimp only [List.length_cons, List.length_nil]; omega) (by omega) ?_)
  | (with_reducible refine div_g (by omega) (by omega) (by dsimp only [inR]; omega) ?_)
  | (with_reducible refine mod_g (by omega) (by omega) ?_)
  | (with_reducible refine mask_g (m := 4294967296) 32 rfl rfl (by decide) (by omega) ?_)
  | (with_reducible refine shr_g (m := 4294967296) 32 rfl (by decide) (by omega) rfl ?_)
  | (with_reducible refine fz_all (by omega) ?_)
  | (with_reducible refine Stuck.h (A := RetE _ _) ?_) | (with_reducible refine Stuck.h (A := RetM _ _ _ _) ?_) | (with_reducible refine Stuck.h (A := Again _ _ _ _ _ _ _ _) ?_) | (with_reducible refine Stuck.h (A := CallF _ _ _ _ _ _ _) ?_) | (with_reducible refine Stuck.h (A := LoopG _ _ _ _ _ _ _ _) ?_) | (with_reducible refine Stuck.h (A := DrawG _ _ _ _ _ _ _ _) ?_)
  | (with_reducible refine Stuck.h (A := WrapG _ _ _) ?_) | (with_reducible refine Stuck.h (A := DivG _ _ _ _) ?_) | (with_reducible refine Stuck.h (A := ModG _ _ _) ?_) | (with_reducible refine Stuck.h (A := ShlG _ _ _ _) ?_) | (with_reducible refine Stuck.h (A := ShrG _ _ _ _) ?_) | (with_reducible refine Stuck.h (A := BitG _ _ _ _ _) ?_)
  | (with_reducible refine Stuck.h (A := IdxG _ _ _) ?_) | (with_reducible refine Stuck.h (A := IdxL _ _ _) ?_) | (with_reducible refine Stuck.h (A := SlcG _ _ _ _ _) ?_) | (with_reducible refine Stuck.h (A := MakG _ _ _ _) ?_) | (with_reducible refine Stuck.h (A := AppG _ _ _ _ _ _ _) ?_) | (with_reducible refine Stuck.h (A := FzG _ _ _ _) ?_)
  | (with_reducible refine Stuck.h (A := RawG _) ?_) | (with_reducible refine Stuck.h (A := TabG _ _ _ _ _) ?_) | (with_reducible refine Stuck.h (A := ExtF _ _ _ _) ?_) | (with_reducible refine Stuck.h (A := Chk _ _) ?_) | (with_reducible refine Stuck.h (A := False) ?_))
  · exact ⟨again (t + b.length, c') ⟨by dsimp only; omega, by dsimp only; omega, c2, c3⟩ (by dsimp only; omega) ⟨rfl, rfl, rfl, iv_eq (by omega), trivial⟩ ⟨[], rfl⟩ ⟨[], rfl⟩⟩
  · refine ⟨ret_m [0] (.tup []) [some ⟨1, 44, .w .u64 c⟩] rfl rfl (by simp) (fun i h => one_row h) rfl ⟨rfl, c, i2, i3, ?_, rfl⟩⟩
    rw [i4, Nat.mod_eq_of_lt (Nat.lt_of_lt_of_le (L64_lt X) (Nat.pow_le_pow_right (by decide) (by omega)))]
  · exact ⟨Nat.zero_le _, by simp, fun x hx => by rw [List.eq_of_mem_replicate hx]; decide, by rw [vl_zero, Nat.mul_zero, Nat.pow_zero, Nat.mod_one, Nat.zero_mul]; rfl⟩
end Go.Proofs.YtbeocnjlepcglaaGreatDoor.Sim
namespace Go.Proofs.YtbeocnjlepcglaaGreatDoor.Sim
open Go.RowKit
set_option linter.unusedVariables false
set_option linter.unusedSimpArgs false
set_option maxRecDepth 10000
set_option maxHeartbeats 8000000
variable {G : List (Nat × List Value)}
theorem kara (x0 x1 y0 y1 P : Nat) : (x0 + P * x1) * (y0 + P * y1) = x0 * y0 + P * (x0 * y1 + x1 * y0) + P * P * (x1 * y1) ∧ (x0 + x1) * (y0 + y1) = x0 * y0 + x1 * y1 + (x0 * y1 + x1 * y0) := by
  constructor
  · rw [Nat.add_mul, Nat.mul_add, Nat.mul_add, Nat.mul_add]
    have e1 : x0 * (P * y1) = P * (x0 * y1) := Nat.mul_left_comm _ _ _
    have e2 : P * x1 * y0 = P * (x1 * y0) := Nat.mul_assoc _ _ _
    have e3 : P * x1 * (P * y1) = P * P * (x1 * y1) := Nat.mul_mul_mul_comm _ _ _ _
    rw [e1, e2, e3]
    omega
  · rw [Nat.add_mul, Nat.mul_add, Nat.mul_add]
    omega
theorem call_row {F : Fr} {N : Nat} {t : Nat → PV} {bx : List (List PV)} {ob : List (Option Row)} {f : FuncId} {args : List PV} {n n2 V m : Nat} {K : St → PV → Prop} (h : PM Tryz.prog F.G f args [] (fun r rs => r = .arr 0 0 n ∧ RowOf n2 V rs)) (hok : okAL 0 args = true) (hre : renL [] ob.length args = args) (hm : ob.length = m)
    (hK : ∀ c : List Int, c.length = n2 → okD 18446744073709551616 c → vl 18446744073709551616 c = (V : Int) → K ⟨N, t, bx, ob ++ [some ⟨1, 44, .w .u64 c⟩]⟩ (.arr m 0 n)) : CallF Tryz.prog F false f args ⟨N, t, bx, ob⟩ K :=
  call_pm [] h hre hok rfl List.nodup_nil (by rintro r rs ⟨rfl, c, c1, c2, c3, rfl⟩; subst hm; simpa [putR, ren, renI] using hK c c1 c2 c3)
theorem vL_bar {F : Fr} {TT : List TI} {X : List FuncId} {all : List Oper} {l : List (Oper × Md)} {s : St} {K : St → Prop} (h : ∀ K' : St → Prop, K' = K → vL Tryz.prog F TT X all l s K') : vL Tryz.prog F TT X all l s K := h K rfl
theorem vC_bar {F : Fr} {TT : List TI} {X : List FuncId} {a b : Code} {kn kr : St → Prop} {kx : Nat → St → Prop} {s : St} (h : ∀ K1 : St → Prop, K1 = vC Tryz.prog F TT X b kn kr kx → vC Tryz.prog F TT X a K1 kr kx s) : vC Tryz.prog F TT X (a.seq b) kn kr kx s := h _ rfl
theorem len_room {V t n : Nat} (h : 2 ^ (64 * t) * V < 2 ^ (64 * n)) (ht : t ≤ n) : t + L64 V ≤ n := by
  have e : 2 ^ (64 * n) = 2 ^ (64 * t) * 2 ^ (64 * (n - t)) := by rw [← Nat.pow_add]; congr 1; omega
  rw [e] at h
  have h2 := Nat.lt_of_mul_lt_mul_left h
  have := L64_le h2
  omega
theorem take_trim {c : List Int} {m : Nat} {V : Nat} (h : trim (c.take m) = d64 V) : c.take (trim (c.take m)).length = d64 V := by
  have h1 := trim_pre (c.take m)
  rw [List.take_take, h] at h1
  have h2 : (d64 V).length ≤ m := by
    have := congrArg List.length (trim_pre (c.take m))
    rw [h, List.length_take, List.length_take] at this
    omega
  rw [Nat.min_eq_left h2] at h1
  rw [h]; exact h1
theorem L64_add (x y : Nat) : L64 (x + y) ≤ max (L64 x) (L64 y) + 1 := lenB_add (by decide) x y
theorem copy_row (l : List Int) (n : Nat) (h : l.length ≤ n) : (List.replicate n (0 : Int)).take 0 ++ l.take n ++ (List.replicate n (0 : Int)).drop (0 + min n l.length) = l ++ List.replicate (n - l.length) 0 := by
  rw [List.take_zero, List.nil_append, List.take_of_length_le (by omega), show 0 + min n l.length = l.length by omega, List.drop_replicate]
theorem pad_ok {V n : Nat} (h : L64 V ≤ n) : (d64 V ++ List.replicate (n - L64 V) (0 : Int)).length = n ∧ okD 18446744073709551616 (d64 V ++ List.replicate (n - L64 V) 0) ∧ vl 18446744073709551616 (d64 V ++ List.replicate (n - L64 V) 0) = (V : Int) := by
  refine ⟨by rw [List.length_append, List.length_replicate, d64_len]; omega, okD_append.2 ⟨(d64_ok V).1, fun x hx => by rw [List.eq_of_mem_replicate hx]; decide⟩, by rw [vl_append, vl_zero, Int.mul_zero, Int.add_zero, vl_d64i]⟩
theorem m_thirds (X Y : Nat) (ih : ∀ X' Y' : Nat, L64 X' + L64 Y' < L64 X + L64 Y → ProdOk G X' Y') (hb : 40 ≤ L64 Y) (hge : L64 Y ≤ L64 X) (hX : L64 X ≤ 536870912) :
    PM Tryz.prog G 163 [.arr 0 0 (L64 X + L64 Y), .ws .u64 (d64 X), .ws .u64 (d64 Y)] [⟨1, 44, .w .u64 (List.replicate (L64 X + L64 Y) 0)⟩] (fun r rs => r = .tup [] ∧ RowOf (L64 X + L64 Y) (X * Y) rs) := by
  have l1 : (d64 X).length = L64 X := rfl
  have l2 : (d64 Y).length = L64 Y := rfl
  obtain ⟨n, hn⟩ : ∃ n, n = L64 X + L64 Y := ⟨_, rfl⟩
  obtain ⟨k, hk⟩ : ∃ k, k = (L64 X + 1) / 2 := ⟨_, rfl⟩
  have g1 := m_cut (G := G) X k (by omega) (by omega)
  have g2 := m_cut (G := G) Y k (by omega) (by omega)
  obtain ⟨P, hP⟩ : ∃ P, P = 2 ^ (64 * k) := ⟨_, rfl⟩
  rw [← hP] at g1 g2
  have hPp : 0 < P := by rw [hP]; exact Nat.pow_pos (by decide)
  have ex := nat_dm X P hPp
  have ey := nat_dm Y P hPp
  have hx0 : L64 (X % P) ≤ k := L64_le (by rw [hP]; exact Nat.mod_lt _ (Nat.pow_pos (by decide)))
  have hy0 : L64 (Y % P) ≤ k := L64_le (by rw [hP]; exact Nat.mod_lt _ (Nat.pow_pos (by decide)))
  have hx1 : L64 (X / P) ≤ L64 X - k := by
    have h := congrArg List.length (d64_hi X k)
    rw [List.length_drop, ← hP] at h
    exact Nat.le_of_eq h.symm
  have hy1 : L64 (Y / P) ≤ L64 Y - k := by
    have h := congrArg List.length (d64_hi Y k)
    rw [List.length_drop, ← hP] at h
    exact Nat.le_of_eq h.symm
  obtain ⟨x0, ex0⟩ : ∃ x0, x0 = X % P := ⟨_, rfl⟩
  obtain ⟨x1, ex1⟩ : ∃ x1, x1 = X / P := ⟨_, rfl⟩
  obtain ⟨y0, ey0⟩ : ∃ y0, y0 = Y % P := ⟨_, rfl⟩
  obtain ⟨y1, ey1⟩ : ∃ y1, y1 = Y / P := ⟨_, rfl⟩
  rw [← ex0] at g1 ex hx0
  rw [← ex1] at g1 ex hx1
  rw [← ey0] at g2 ey hy0
  rw [← ey1] at g2 ey hy1
  have sx : L64 (x0 + x1) ≤ k + 1 := Nat.le_trans (L64_add x0 x1) (by clear ex ey ex0 ex1 ey0 ey1; omega)
  have sy : L64 (y0 + y1) ≤ k + 1 := Nat.le_trans (L64_add y0 y1) (by clear ex ey ex0 ex1 ey0 ey1; omega)
  have g3 := m_sum (G := G) x0 x1 (by omega) (by omega)
  have g4 := m_sum (G := G) y0 y1 (by omega) (by omega)
  have g5 := (ih x0 y0 (by omega)).fc
  have g6 := (ih x1 y1 (by omega)).fc
  have g7 := ih (x0 + x1) (y0 + y1) (by omega)
  obtain ⟨kar1, kar2⟩ := kara x0 x1 y0 y1 P
  obtain ⟨low, elow⟩ : ∃ v, v = x0 * y0 := ⟨_, rfl⟩
  obtain ⟨high, ehigh⟩ : ∃ v, v = x1 * y1 := ⟨_, rfl⟩
  obtain ⟨mid, emid⟩ : ∃ v, v = x0 * y1 + x1 * y0 := ⟨_, rfl⟩
  rw [← elow, ← ehigh, ← emid] at kar1 kar2
  have hXY : X * Y = low + P * mid + P * P * high := by
    rw [← kar1]
    congr 1 <;> omega
  clear kar1
  rw [← elow] at g5
  rw [← ehigh] at g6
  unfold ProdOk at g7
  rw [kar2] at g7
  obtain ⟨M, eM⟩ : ∃ M, M = low + high + mid := ⟨_, rfl⟩
  rw [← eM] at g7
  obtain ⟨m, hm⟩ : ∃ m, m = L64 M := ⟨_, rfl⟩
  obtain ⟨n2, hn2⟩ : ∃ n2, n2 = L64 (x0 + x1) + L64 (y0 + y1) := ⟨_, rfl⟩
  rw [← hm, ← hn2] at g7
  obtain ⟨a, ha⟩ : ∃ a, a = d64 X := ⟨_, rfl⟩
  obtain ⟨b, hb2⟩ : ∃ b, b = d64 Y := ⟨_, rfl⟩
  rw [← ha] at l1 g1
  rw [← hb2] at l2 g2
  rw [← ha, ← hb2, ← hn]
  obtain ⟨dX0, hdX0⟩ : ∃ d, d = d64 x0 := ⟨_, rfl⟩
  rw [← hdX0] at g1 g3 g5
  obtain ⟨dX1, hdX1⟩ : ∃ d, d = d64 x1 := ⟨_, rfl⟩
  rw [← hdX1] at g1 g3 g6
  obtain ⟨dY0, hdY0⟩ : ∃ d, d = d64 y0 := ⟨_, rfl⟩
  rw [← hdY0] at g2 g4 g5
  obtain ⟨dY1, hdY1⟩ : ∃ d, d = d64 y1 := ⟨_, rfl⟩
  rw [← hdY1] at g2 g4 g6
  obtain ⟨dSx, hdSx⟩ : ∃ d, d = d64 (x0 + x1) := ⟨_, rfl⟩
  rw [← hdSx] at g3 g7
  obtain ⟨dSy, hdSy⟩ : ∃ d, d = d64 (y0 + y1) := ⟨_, rfl⟩
  rw [← hdSy] at g4 g7
  obtain ⟨dL, hdL⟩ : ∃ d, d = d64 low := ⟨_, rfl⟩
  rw [← hdL] at g5
  obtain ⟨dH, hdH⟩ : ∃ d, d = d64 high := ⟨_, rfl⟩
  rw [← hdH] at g6
  have okL : okD 18446744073709551616 dL := by rw [hdL]; exact (d64_ok low).1
  have okH : okD 18446744073709551616 dH := by rw [hdH]; exact (d64_ok high).1
  have vL0 : vl 18446744073709551616 dL = (low : Int) := by rw [hdL]; exact (d64_ok low).2
  have vH0 : vl 18446744073709551616 dH = (high : Int) := by rw [hdH]; exact (d64_ok high).2
  have lL : dL.length = L64 low := by rw [hdL]; rfl
  have lH : dH.length = L64 high := by rw [hdH]; rfl
  have mL : L64 low ≤ m := by rw [hm]; exact L64_mono (by omega)
  have mH : L64 high ≤ m := by rw [hm]; exact L64_mono (by omega)
  have mM : L64 mid ≤ m := by rw [hm]; exact L64_mono (by omega)
  have hlt : X * Y < 2 ^ (64 * n) := by
    rw [hn, Nat.mul_add, Nat.pow_add]
    exact Nat.mul_lt_mul'' (L64_lt X) (L64_lt Y)
  have rM : k + L64 mid ≤ n := len_room (by rw [← hP]; exact Nat.lt_of_le_of_lt (by omega) hlt) (by omega)
  have e2k : 2 ^ (64 * (2 * k)) = P * P := by rw [hP, ← Nat.pow_add]; congr 1; omega
  have rH : 2 * k + L64 high ≤ n := len_room (by rw [e2k]; exact Nat.lt_of_le_of_lt (by omega) hlt) (by omega)
  have iN : ((X * Y : Nat) : Int) < 18446744073709551616 ^ n := by rw [pow64i]; exact Int.ofNat_lt.2 hlt
  have iK : (18446744073709551616 : Int) ^ k = (P : Int) := by rw [pow64i, ← hP]
  have i2K : (18446744073709551616 : Int) ^ (2 * k) = ((P * P : Nat) : Int) := by rw [pow64i, e2k]
  have iXY : ((X * Y : Nat) : Int) = (low : Int) + ((P * mid : Nat) : Int) + ((P * P * high : Nat) : Int) := by rw [hXY]; omega
  have hLn : dL.length ≤ n := by
    have := L64_mul X Y
    have h2 : L64 low ≤ L64 (X * Y) := L64_mono (by omega)
    omega
  have hcp := copy_row dL n hLn
  obtain ⟨pL, hpL⟩ : ∃ p, p = dL ++ List.replicate (n - dL.length) (0 : Int) := ⟨_, rfl⟩
  rw [← hpL] at hcp
  have hpk := pad_ok (V := low) (n := n) (by omega)
  rw [← hdL, ← lL, ← hpL] at hpk
  obtain ⟨p1, p2, p3⟩ := hpk
  have n1 : vl 18446744073709551616 pL + 18446744073709551616 ^ k * vl 18446744073709551616 (d64 mid) = (low : Int) + ((P * mid : Nat) : Int) := by rw [p3, (d64_ok mid).2, iK, Int.natCast_mul]
  have room1 := add_room (t := k) (V := vl 18446744073709551616 (d64 mid)) p2 p1 (by omega) (by rw [n1]; omega)
  refine PM.intro (X := XX) tok Tryz.func163 rfl Tryz.ntmps163 (by rw [Tryz.results163]) (by kernel_rfl) rfl ?_; intro F hG hO; simp only [List.length_cons, List.length_nil, Nat.zero_add, Nat.reduceAdd] at hO
  rw [← hG] at g1 g2 g3 g4 g5 g6 g7
  repeat' ((try (conv => whnf)); first
  | ((with_reducible refine cg ?_); rw [show ((a.length : Int) + 1) / 2 = (k : Int) by omega]; refine call_eq g1 (LpL.refl _) rfl ?_)
  | ((with_reducible refine cg ?_); refine call_eq g1 (LpL.refl _) rfl ?_)
  | ((with_reducible refine cg ?_); refine call_eq g2 (LpL.refl _) rfl ?_)
  | ((with_reducible refine cg ?_); refine call_eq g3 (LpL.refl _) rfl ?_)
  | ((with_reducible refine cg ?_); refine call_eq g4 (LpL.refl _) rfl ?_)
  | ((with_reducible refine cg ?_); refine call_eq g5 (LpL.refl _) rfl ?_)
  | ((with_reducible refine cg ?_); refine call_eq g6 (LpL.refl _) rfl ?_)
  | ((with_reducible refine cg ?_); refine call_row (m := 1) g7 rfl rfl rfl ?_; intro c c1 c2 c3; unfold vPut; simp only [show Nat.blt 42 62 = true from rfl]; refine vL_bar ?_; intro K hK; (conv => whnf); subst hK; refine vC_bar ?_; intro K1 hK1)
  | ((with_reducible refine cg ?_); have q1 := row_take c2 c3; rw [← hm] at q1; have q2 : vl 18446744073709551616 (c.take m) = (M : Int) := (by rw [q1.1]; exact (d64_ok M).2); refine call_pm [1] (m_takeaway c dL m c2 okL (by omega) q1.2 (by omega) (by omega)) rfl rfl rfl (by simp) ?_; rintro r rs ⟨rfl, c', d1, d2, d3, rfl⟩)
  | ((with_reducible refine cg ?_); refine call_pm [1] (m_takeaway c' dH m d2 okH (by omega) (by omega) (by omega) (by omega)) rfl rfl rfl (by simp) ?_; rintro r rs ⟨rfl, c'', f1, f2, f3, rfl⟩)
  | ((with_reducible refine cg ?_); refine call_pm [1] (m_trim c'' m (by omega) (by omega)) rfl rfl rfl (by simp) ?_; rintro r rs ⟨rfl, rfl⟩)
  | ((with_reducible refine cg ?_); rw [show 2 * (k : Int) = ((2 * k : Nat) : Int) by omega]; have n3 : vl 18446744073709551616 e + 18446744073709551616 ^ (2 * k) * vl 18446744073709551616 dH = ((X * Y : Nat) : Int) := (by rw [x3, n1, vH0, i2K, iXY, Int.natCast_mul (P * P) high]); have room2 := add_room (t := 2 * k) (V := vl 18446744073709551616 dH) x2 (show e.length = n by omega) (by omega) (by rw [n3]; exact iN); refine call_pm [0] (m_addat e dH (2 * k) n (by omega) x2 okH (by omega) (by omega) room2) rfl rfl rfl (by simp) ?_; rintro r rs ⟨rfl, z, z1, z2, z3, rfl⟩; rw [n3] at z3)
  | ((with_reducible refine cg ?_); have htm : trim (c''.take m) = d64 mid := trim_pos (f2.take m) (by rw [f3, d3, q2, vL0, vH0]; omega); refine call_fz 1 (q := 1) (A := c'') (B := d64 mid) rfl rfl (by rw [htm, d64_len]; omega) (by rw [List.drop_zero]; exact take_trim htm) (by omega) ?_; refine call_pm [0] (m_addat pL (d64 mid) k n p1 p2 (d64_ok mid).1 (by omega) (by rw [d64_len]; omega) room1) rfl rfl (congrArg (fun l => [some (some (⟨1, 44, .w .u64 l⟩ : Row))]) hcp) (by simp) ?_; rintro r rs ⟨rfl, e, x1, x2, x3, rfl⟩)
  | (subst hK1; refine vC_bar ?_; intro K1 hK1) | (subst hK1)
  
  | (with_reducible refine Chk.mk' (by first | omega | exact trivial | (simp only [List.length_append, List.length_set, List.length_replicate, List.length_take, List.length_drop, List.length_cons, List.length_nil, List.length_map]; omega)) ?_)
  | (with_reducible refine wrap_g (by dsimp only [inR]; omega) ?_)
  | (with_reducible refine idx_g (by omega) ?_)
  | (with_reducible refine idx_l _ rfl (by decide) ?_)
  | (with_reducible refine BothG.mk ?_ ?_)
  | (with_reducible refine fork_tt ?_) | (with_reducible refine fork_ff ?_)
  | (with_reducible refine fork_e (c := true) (by decide) ?_; with_reducible refine fork_tt ?_) | (with_reducible refine fork_e (c := false) (by decide) ?_; with_reducible refine fork_ff ?_)
  | (with_reducible refine fork_t (by omega) ?_) | (with_reducible refine fork_f (by omega) ?_)
  | (with_reducible refine fork_d ?_ ?_ <;> intro hc)
  | (with_reducible refine fork_n ?_)
  | (with_reducible refine fork_b ?_ ?_ <;> intro hc)
  | (with_reducible refine SlcG.mk (by omega) ?_)
  | (with_reducible refine MakG.mk (by dsimp only; omega) ?_)
  | (with_reducible refine AppG.mk (by first | omega | (simp only [List.length_append, List.length_set, List.length_replicate, List.length_take, List.length_drop, List.length_cons, List.length_nil, List.length_map]; omega)) (by dsimp only [List.length_cons, List.length_nil]; omega) (by omega) ?_)
  | (with_reducible refine div_g (by omega) (by omega) (by dsimp only [inR]; omega) ?_)
  | (with_reducible refine mod_g (by omega) (by omega) ?_)
  | (with_reducible refine mask_g (m := 4294967296) 32 rfl rfl (by decide) (by omega) ?_)
  | (with_reducible refine shr_g (m := 4294967296) 32 rfl (by decide) (by omega) rfl ?_)
  | (with_reducible refine fz_all (by omega) ?_)
  | (with_reducible refine Stuck.h (A := RetE _ _) ?_) | (with_reducible refine Stuck.h (A := RetM _ _ _ _) ?_) | (with_reducible refine Stuck.h (A := Again _ _ _ _ _ _ _ _) ?_) | (with_reducible refine Stuck.h (A := CallF _ _ _ _ _ _ _) ?_) | (with_reducible refine Stuck.h (A := LoopG _ _ _ _ _ _ _ _) ?_) | (with_reducible refine Stuck.h (A := DrawG _ _ _ _ _ _ _ _) ?_)
  | (with_reducible refine Stuck.h (A := WrapG _ _ _) ?_) | (with_reducible refine Stuck.h (A := DivG _ _ _ _) ?_) | (with_reducible refine Stuck.h (A := ModG _ _ _) ?_) | (with_reducible refine Stuck.h (A := ShlG _ _ _ _) ?_) | (with_reducible refine Stuck.h (A := ShrG _ _ _ _) ?_) | (with_reducible refine Stuck.h (A := BitG _ _ _ _ _) ?_)
  | (with_reducible refine Stuck.h (A := IdxG _ _ _) ?_) | (with_reducible refine Stuck.h (A := IdxL _ _ _) ?_) | (with_reducible refine Stuck.h (A := SlcG _ _ _ _ _) ?_) | (with_reducible refine Stuck.h (A := MakG _ _ _ _) ?_) | (with_reducible refine Stuck.h (A := AppG _ _ _ _ _ _ _) ?_) | (with_reducible refine Stuck.h (A := FzG _ _ _ _) ?_)
  | (with_reducible refine Stuck.h (A := RawG _) ?_) | (with_reducible refine Stuck.h (A := TabG _ _ _ _ _) ?_) | (with_reducible refine Stuck.h (A := ExtF _ _ _ _) ?_) | (with_reducible refine Stuck.h (A := Chk _ _) ?_) | (with_reducible refine Stuck.h (A := False) ?_))
  exact ⟨ret_m [0] (.tup []) [some ⟨1, 44, .w .u64 z⟩] rfl rfl (by simp) (fun i h => one_row h) rfl ⟨rfl, z, by omega, z2, z3, rfl⟩⟩
end Go.Proofs.YtbeocnjlepcglaaGreatDoor.Sim
namespace Go.Proofs.YtbeocnjlepcglaaGreatDoor.Sim
open Go.RowKit
set_option linter.unusedVariables false
set_option linter.unusedSimpArgs false
set_option maxRecDepth 10000
set_option maxHeartbeats 8000000
variable {G : List (Nat × List Value)}
theorem rows_row (X Y n : Nat) (hn : L64 X + L64 Y = n) (hX : L64 X ≤ 536870912) (hY : L64 Y ≤ 536870912) : PM Tryz.prog G 161 [.arr 0 0 n, .ws .u64 (d64 X), .ws .u64 (d64 Y)] [⟨1, 44, .w .u64 (List.replicate n 0)⟩] (fun r rs => r = .tup [] ∧ RowOf n (X * Y) rs) := by
  subst hn
  have h := m_rows (G := G) (d64 X) (d64 Y) (by rw [d64_len]; omega) (by rw [d64_len]; omega) (d64_ok X).1 (d64_ok Y).1
  rw [d64_len, d64_len] at h
  refine h.mono ?_
  rintro r rs ⟨rfl, c, h1, h2, h3, rfl⟩
  exact ⟨rfl, c, h1, h2, by rw [h3, vl_d64i, vl_d64i, Int.natCast_mul], rfl⟩
theorem fill_step (X Y : Nat) (ih : ∀ X' Y' : Nat, L64 X' + L64 Y' < L64 X + L64 Y → ProdOk G X' Y') (hX : L64 X ≤ 536870912) (hY : L64 Y ≤ 536870912) : FillOk G X Y := by
  unfold FillOk
  obtain ⟨n, hn⟩ : ∃ n, n = L64 X + L64 Y := ⟨_, rfl⟩
  have l1 : (d64 X).length = L64 X := rfl
  have l2 : (d64 Y).length = L64 Y := rfl
  by_cases hlt : L64 X < L64 Y
  · have r1 := rows_row (G := G) Y X n (by omega) hY hX
    have r2 := fun h1 h2 => m_slabs (G := G) Y X (fun X' Y' h => ih X' Y' (by omega)) h1 h2 hY
    have r3 := fun h1 => m_thirds (G := G) Y X (fun X' Y' h => ih X' Y' (by omega)) h1 (by omega) hY
    rw [show L64 Y + L64 X = n by omega] at r2 r3
    rw [Nat.mul_comm Y X] at r1 r2 r3
    obtain ⟨V, hV⟩ : ∃ V, V = X * Y := ⟨_, rfl⟩
    rw [← hV] at r1 r2 r3 ⊢
    rw [← hn]
    obtain ⟨a, ha⟩ : ∃ a, a = d64 X := ⟨_, rfl⟩
    obtain ⟨b, hb⟩ : ∃ b, b = d64 Y := ⟨_, rfl⟩
    rw [← ha, ← hb] at r1 r2 r3
    rw [← ha] at l1
    rw [← hb] at l2
    rw [← ha, ← hb]
    clear ih hV
    refine PM.intro (X := XX) tok Tryz.func147 rfl Tryz.ntmps147 (by rw [Tryz.results147]) (by kernel_rfl) rfl ?_; intro F hG hO; simp only [List.length_cons, List.length_nil, Nat.zero_add, Nat.reduceAdd] at hO
    rw [← hG] at r1 r2 r3
    repeat' ((try (conv => whnf)); first
  | ((with_reducible refine cg ?_); refine call_pm [0] r1 rfl rfl rfl (by simp) ?_; rintro r rs ⟨rfl, c, c1, c2, c3, rfl⟩)
  | ((with_reducible refine cg ?_); refine call_pm [0] (r2 (by omega) (by omega)) rfl rfl rfl (by simp) ?_; rintro r rs ⟨rfl, c, c1, c2, c3, rfl⟩)
  | ((with_reducible refine cg ?_); refine call_pm [0] (r3 (by omega)) rfl rfl rfl (by simp) ?_; rintro r rs ⟨rfl, c, c1, c2, c3, rfl⟩)
  
  | (with_reducible refine Chk.mk' (by first | omega | exact trivial | (simp only [List.length_append, List.length_set, List.length_replicate, List.length_take, List.length_drop, List.length_cons, List.length_nil, List.length_map]; omega)) ?_)
  | (with_reducible refine wrap_g (by dsimp only [inR]; omega) ?_)
  | (with_reducible refine idx_g (by omega) ?_)
  | (with_reducible refine idx_l _ rfl (by decide) ?_)
  | (with_reducible refine BothG.mk ?_ ?_)
  | (with_reducible refine fork_tt ?_) | (with_reducible refine fork_ff ?_)
  | (with_reducible refine fork_e (c := true) (by decide) ?_; with_reducible refine fork_tt ?_) | (with_reducible refine fork_e (c := false) (by decide) ?_; with_reducible refine fork_ff ?_)
  | (with_reducible refine fork_t (by omega) ?_) | (with_reducible refine fork_f (by omega) ?_)
  | (with_reducible refine fork_d ?_ ?_ <;> intro hc)
  | (with_reducible refine fork_n ?_)
  | (with_reducible refine fork_b ?_ ?_ <;> intro hc)
  | (with_reducible refine SlcG.mk (by omega) ?_)
  | (with_reducible refine MakG.mk (by dsimp only; omega) ?_)
  | (with_reducible refine AppG.mk (by first | omega | (simp only [List.length_append, List.length_set, List.length_replicate, List.length_take, List.length_drop, List.length_cons, List.length_nil, List.length_map]; omega)) (by dsimp only [List.length_cons, List.length_nil]; omega) (by omega) ?_)
  | (with_reducible refine div_g (by omega) (by omega) (by dsimp only [inR]; omega) ?_)
  | (with_reducible refine mod_g (by omega) (by omega) ?_)
  | (with_reducible refine mask_g (m := 4294967296) 32 rfl rfl (by decide) (by omega) ?_)
  | (with_reducible refine shr_g (m := 4294967296) 32 rfl (by decide) (by omega) rfl ?_)
  | (with_reducible refine fz_all (by omega) ?_)
  | (with_reducible refine Stuck.h (A := RetE _ _) ?_) | (with_reducible refine Stuck.h (A := RetM _ _ _ _) ?_) | (with_reducible refine Stuck.h (A := Again _ _ _ _ _ _ _ _) ?_) | (with_reducible refine Stuck.h (A := CallF _ _ _ _ _ _ _) ?_) | (with_reducible refine Stuck.h (A := LoopG _ _ _ _ _ _ _ _) ?_) | (with_reducible refine Stuck.h (A := DrawG _ _ _ _ _ _ _ _) ?_)
  | (with_reducible refine Stuck.h (A := WrapG _ _ _) ?_) | (with_reducible refine Stuck.h (A := DivG _ _ _ _) ?_) | (with_reducible refine Stuck.h (A := ModG _ _ _) ?_) | (with_reducible refine Stuck.h (A := ShlG _ _ _ _) ?_) | (with_reducible refine Stuck.h (A := ShrG _ _ _ _) ?_) | (with_reducible refine Stuck.h (A := BitG _ _ _ _ _) ?_)
  | (with_reducible refine Stuck.h (A := IdxG _ _ _) ?_) | (with_reducible refine Stuck.h (A := IdxL _ _ _) ?_) | (with_reducible refine Stuck.h (A := SlcG _ _ _ _ _) ?_) | (with_reducible refine Stuck.h (A := MakG _ _ _ _) ?_) | (with_reducible refine Stuck.h (A := AppG _ _ _ _ _ _ _) ?_) | (with_reducible refine Stuck.h (A := FzG _ _ _ _) ?_)
  | (with_reducible refine Stuck.h (A := RawG _) ?_) | (with_reducible refine Stuck.h (A := TabG _ _ _ _ _) ?_) | (with_reducible refine Stuck.h (A := ExtF _ _ _ _) ?_) | (with_reducible refine Stuck.h (A := Chk _ _) ?_) | (with_reducible refine Stuck.h (A := False) ?_))
    all_goals exact ⟨ret_m [0] (.tup []) [some ⟨1, 44, .w .u64 c⟩] rfl rfl (by simp) (fun i h => one_row h) rfl ⟨rfl, c, c1, c2, c3, rfl⟩⟩
  · have r1 := rows_row (G := G) X Y n (by omega) hX hY
    have r2 := fun h1 h2 => m_slabs (G := G) X Y ih h1 h2 hX
    have r3 := fun h1 => m_thirds (G := G) X Y ih h1 (by omega) hX
    rw [← hn] at r2 r3 ⊢
    obtain ⟨V, hV⟩ : ∃ V, V = X * Y := ⟨_, rfl⟩
    rw [← hV] at r1 r2 r3 ⊢
    obtain ⟨a, ha⟩ : ∃ a, a = d64 X := ⟨_, rfl⟩
    obtain ⟨b, hb⟩ : ∃ b, b = d64 Y := ⟨_, rfl⟩
    rw [← ha, ← hb] at r1 r2 r3
    rw [← ha] at l1
    rw [← hb] at l2
    rw [← ha, ← hb]
    clear ih hV
    refine PM.intro (X := XX) tok Tryz.func147 rfl Tryz.ntmps147 (by rw [Tryz.results147]) (by kernel_rfl) rfl ?_; intro F hG hO; simp only [List.length_cons, List.length_nil, Nat.zero_add, Nat.reduceAdd] at hO
    rw [← hG] at r1 r2 r3
    repeat' ((try (conv => whnf)); first
  | ((with_reducible refine cg ?_); refine call_pm [0] r1 rfl rfl rfl (by simp) ?_; rintro r rs ⟨rfl, c, c1, c2, c3, rfl⟩)
  | ((with_reducible refine cg ?_); refine call_pm [0] (r2 (by omega) (by omega)) rfl rfl rfl (by simp) ?_; rintro r rs ⟨rfl, c, c1, c2, c3, rfl⟩)
  | ((with_reducible refine cg ?_); refine call_pm [0] (r3 (by omega)) rfl rfl rfl (by simp) ?_; rintro r rs ⟨rfl, c, c1, c2, c3, rfl⟩)
  
  | (with_reducible refine Chk.mk' (by first | omega | exact trivial | (simp only [List.length_append, List.length_set, List.length_replicate, List.length_take, List.length_drop, List.length_cons, List.length_nil, List.length_map]; omega)) ?_)
  | (with_reducible refine wrap_g (by dsimp only [inR]; omega) ?_)
  | (with_reducible refine idx_g (by omega) ?_)
  | (with_reducible refine idx_l _ rfl (by decide) ?_)
  | (with_reducible refine BothG.mk ?_ ?_)
  | (with_reducible refine fork_tt ?_) | (with_reducible refine fork_ff ?_)
  | (with_reducible refine fork_e (c := true) (by decide) ?_; with_reducible refine fork_tt ?_) | (with_reducible refine fork_e (c := false) (by decide) ?_; with_reducible refine fork_ff ?_)
  | (with_reducible refine fork_t (by omega) ?_) | (with_reducible refine fork_f (by omega) ?_)
  | (with_reducible refine fork_d ?_ ?_ <;> intro hc)
  | (with_reducible refine fork_n ?_)
  | (with_reducible refine fork_b ?_ ?_ <;> intro hc)
  | (with_reducible refine SlcG.mk (by omega) ?_)
  | (with_reducible refine MakG.mk (by dsimp only; omega) ?_)
  | (with_reducible refine AppG.mk (by first | omega | (simp only [List.length_append, List.length_set, List.length_replicate, List.length_take, List.length_drop, List.length_cons, List.length_nil, List.length_map]; omega)) (by dsimp only [List.length_cons, List.length_nil]; omega) (by omega) ?_)
  | (with_reducible refine div_g (by omega) (by omega) (by dsimp only [inR]; omega) ?_)
  | (with_reducible refine mod_g (by omega) (by omega) ?_)
  | (with_reducible refine mask_g (m := 4294967296) 32 rfl rfl (by decide) (by omega) ?_)
  | (with_reducible refine shr_g (m := 4294967296) 32 rfl (by decide) (by omega) rfl ?_)
  | (with_reducible refine fz_all (by omega) ?_)
  | (with_reducible refine Stuck.h (A := RetE _ _) ?_) | (with_reducible refine Stuck.h (A := RetM _ _ _ _) ?_) | (with_reducible refine Stuck.h (A := Again _ _ _ _ _ _ _ _) ?_) | (with_reducible refine Stuck.h (A := CallF _ _ _ _ _ _ _) ?_) | (with_reducible refine Stuck.h (A := LoopG _ _ _ _ _ _ _ _) ?_) | (with_reducible refine Stuck.h (A := DrawG _ _ _ _ _ _ _ _) ?_)
  | (with_reducible refine Stuck.h (A := WrapG _ _ _) ?_) | (with_reducible refine Stuck.h (A := DivG _ _ _ _) ?_) | (with_reducible refine Stuck.h (A := ModG _ _ _) ?_) | (with_reducible refine Stuck.h (A := ShlG _ _ _ _) ?_) | (with_reducible refine Stuck.h (A := ShrG _ _ _ _) ?_) | (with_reducible refine Stuck.h (A := BitG _ _ _ _ _) ?_)
  | (with_reducible refine Stuck.h (A := IdxG _ _ _) ?_) | (with_reducible refine Stuck.h (A := IdxL _ _ _) ?_) | (with_reducible refine Stuck.h (A := SlcG _ _ _ _ _) ?_) | (with_reducible refine Stuck.h (A := MakG _ _ _ _) ?_) | (with_reducible refine Stuck.h (A := AppG _ _ _ _ _ _ _) ?_) | (with_reducible refine Stuck.h (A := FzG _ _ _ _) ?_)
  | (with_reducible refine Stuck.h (A := RawG _) ?_) | (with_reducible refine Stuck.h (A := TabG _ _ _ _ _) ?_) | (with_reducible refine Stuck.h (A := ExtF _ _ _ _) ?_) | (with_reducible refine Stuck.h (A := Chk _ _) ?_) | (with_reducible refine Stuck.h (A := False) ?_))
    all_goals exact ⟨ret_m [0] (.tup []) [some ⟨1, 44, .w .u64 c⟩] rfl rfl (by simp) (fun i h => one_row h) rfl ⟨rfl, c, c1, c2, c3, rfl⟩⟩
theorem prod_all : ∀ (m X Y : Nat), L64 X + L64 Y ≤ m → m ≤ 536870912 → ProdOk G X Y := by
  intro m
  induction m with
  | zero =>
    intro X Y h h2
    exact prod_of_fill (fill_step X Y (fun X' Y' h' => absurd h' (by omega)) (by omega) (by omega)) (by omega)
  | succ m ih =>
    intro X Y h h2
    exact prod_of_fill (fill_step X Y (fun X' Y' h' => ih X' Y' (by omega) (by omega)) (by omega) (by omega)) (by omega)
theorem m_product (X Y : Nat) (h : L64 X + L64 Y ≤ 536870912) : FC Tryz.prog G 123 [.ws .u64 (d64 X), .ws .u64 (d64 Y)] (· = .ws .u64 (d64 (X * Y))) := (prod_all _ X Y (Nat.le_refl _) h).fc
theorem m_told (X : Nat) (h : L64 X ≤ 536870912) : FC Tryz.prog G 122 [.ws .u64 (d64 X)] (· = natT X) := by
  have hl : (d64 X).length = L64 X := rfl
  refine FC.intro (X := XX) tok Tryz.func122 rfl Tryz.ntmps122 (by rw [Tryz.results122]) (by kernel_rfl) rfl ?_; intro F hG hO
  repeat' ((try (conv => whnf)); first
  
  | (with_reducible refine Chk.mk' (by first | omega | exact trivial | (simp only [List.length_append, List.length_set, List.length_replicate, List.length_take, List.length_drop, List.length_cons, List.length_nil, List.length_map]; omega)) ?_)
  | (with_reducible refine wrap_g (by dsimp only [inR]; omega) ?_)
  | (with_reducible refine idx_g (by omega) ?_)
  | (with_reducible refine idx_l _ rfl (by decide) ?_)
  | (with_reducible refine BothG.mk ?_ ?_)
  | (with_reducible refine fork_tt ?_) | (with_reducible refine fork_ff ?_)
  | (with_reducible refine fork_e (c := true) (by decide) ?_; with_reducible refine fork_tt ?_) | (with_reducible refine fork_e (c := false) (by decide) ?_; with_reducible refine fork_ff ?_)
  | (with_reducible refine fork_t (by omega) ?_) | (with_reducible refine fork_f (by omega) ?_)
  | (with_reducible refine fork_d ?_ ?_ <;> intro hc)
  | (with_reducible refine fork_n ?_)
  | (with_reducible refine fork_b ?_ ?_ <;> intro hc)
  | (with_reducible refine SlcG.mk (by omega) ?_)
  | (with_reducible refine MakG.mk (by dsimp only; omega) ?_)
  | (with_reducible refine AppG.mk (by first | omega | (simp only [List.length_append, List.length_set, List.length_replicate, List.length_take, List.length_drop, List.length_cons, List.length_nil, List.length_map]; omega)) (by dsimp only [List.length_cons, List.length_nil]; omega) (by omega) ?_)
  | (with_reducible refine div_g (by omega) (by omega) (by dsimp only [inR]; omega) ?_)
  | (with_reducible refine mod_g (by omega) (by omega) ?_)
  | (with_reducible refine mask_g (m := 4294967296) 32 rfl rfl (by decide) (by omega) ?_)
  | (with_reducible refine shr_g (m := 4294967296) 32 rfl (by decide) (by omega) rfl ?_)
  | (with_reducible refine fz_all (by omega) ?_)
  | (with_reducible refine Stuck.h (A := RetE _ _) ?_) | (with_reducible refine Stuck.h (A := RetM _ _ _ _) ?_) | (with_reducible refine Stuck.h (A := Again _ _ _ _ _ _ _ _) ?_) | (with_reducible refine Stuck.h (A := CallF _ _ _ _ _ _ _) ?_) | (with_reducible refine Stuck.h (A := LoopG _ _ _ _ _ _ _ _) ?_) | (with_reducible refine Stuck.h (A := DrawG _ _ _ _ _ _ _ _) ?_)
  | (with_reducible refine Stuck.h (A := WrapG _ _ _) ?_) | (with_reducible refine Stuck.h (A := DivG _ _ _ _) ?_) | (with_reducible refine Stuck.h (A := ModG _ _ _) ?_) | (with_reducible refine Stuck.h (A := ShlG _ _ _ _) ?_) | (with_reducible refine Stuck.h (A := ShrG _ _ _ _) ?_) | (with_reducible refine Stuck.h (A := BitG _ _ _ _ _) ?_)
  | (with_reducible refine Stuck.h (A := IdxG _ _ _) ?_) | (with_reducible refine Stuck.h (A := IdxL _ _ _) ?_) | (with_reducible refine Stuck.h (A := SlcG _ _ _ _ _) ?_) | (with_reducible refine Stuck.h (A := MakG _ _ _ _) ?_) | (with_reducible refine Stuck.h (A := AppG _ _ _ _ _ _ _) ?_) | (with_reducible refine Stuck.h (A := FzG _ _ _ _) ?_)
  | (with_reducible refine Stuck.h (A := RawG _) ?_) | (with_reducible refine Stuck.h (A := TabG _ _ _ _ _) ?_) | (with_reducible refine Stuck.h (A := ExtF _ _ _ _) ?_) | (with_reducible refine Stuck.h (A := Chk _ _) ?_) | (with_reducible refine Stuck.h (A := False) ?_))
  · exact ⟨ret_l _ (lp_natE 5) (natT_no (by omega)).symm⟩
  · exact ⟨ret_e (natT_ok (by omega)).symm⟩
theorem m_mul (X Y : Nat) (hX : L64 X ≤ 8192) (hY : L64 Y ≤ 8192) : FC Tryz.prog G 79 [.ws .u64 (d64 X), .ws .u64 (d64 Y)] (· = natT (X * Y)) := by
  have f1 := n_formN (G := G) X hX
  have f2 := n_formN (G := G) Y hY
  have f3 := m_product (G := G) X Y (by omega)
  have hm := L64_mul X Y
  have f4 := m_told (G := G) (X * Y) (by omega)
  obtain ⟨V, hV⟩ : ∃ V, V = X * Y := ⟨_, rfl⟩
  rw [← hV] at f3 f4 ⊢
  unfold natT at f4 ⊢
  refine FC.intro (X := XX) tok Tryz.func79 rfl Tryz.ntmps79 (by rw [Tryz.results79]) (by kernel_rfl) rfl ?_; intro F hG hO
  rw [← hG] at f1 f2 f3 f4
  repeat' ((try (conv => whnf)); first
  | ((with_reducible refine cg ?_); refine call_eq (f1) (LpL.refl _) rfl ?_)
  | ((with_reducible refine cg ?_); refine call_eq (f2) (LpL.refl _) rfl ?_)
  | ((with_reducible refine cg ?_); refine call_eq (f3) (LpL.refl _) rfl ?_)
  | ((with_reducible refine cg ?_); refine call_eq (f4) (LpL.refl _) rfl ?_)
  
  | (with_reducible refine Chk.mk' (by first | omega | exact trivial | (simp only [List.length_append, List.length_set, List.length_replicate, List.length_take, List.length_drop, List.length_cons, List.length_nil, List.length_map]; omega)) ?_)
  | (with_reducible refine wrap_g (by dsimp only [inR]; omega) ?_)
  | (with_reducible refine idx_g (by omega) ?_)
  | (with_reducible refine idx_l _ rfl (by decide) ?_)
  | (with_reducible refine BothG.mk ?_ ?_)
  | (with_reducible refine fork_tt ?_) | (with_reducible refine fork_ff ?_)
  | (with_reducible refine fork_e (c := true) (by decide) ?_; with_reducible refine fork_tt ?_) | (with_reducible refine fork_e (c := false) (by decide) ?_; with_reducible refine fork_ff ?_)
  | (with_reducible refine fork_t (by omega) ?_) | (with_reducible refine fork_f (by omega) ?_)
  | (with_reducible refine fork_d ?_ ?_ <;> intro hc)
  | (with_reducible refine fork_n ?_)
  | (with_reducible refine fork_b ?_ ?_ <;> intro hc)
  | (with_reducible refine SlcG.mk (by omega) ?_)
  | (with_reducible refine MakG.mk (by dsimp only; omega) ?_)
  | (with_reducible refine AppG.mk (by first | omega | (simp only [List.length_append, List.length_set, List.length_replicate, List.length_take, List.length_drop, List.length_cons, List.length_nil, List.length_map]; omega)) (by dsimp only [List.length_cons, List.length_nil]; omega) (by omega) ?_)
  | (with_reducible refine div_g (by omega) (by omega) (by dsimp only [inR]; omega) ?_)
  | (with_reducible refine mod_g (by omega) (by omega) ?_)
  | (with_reducible refine mask_g (m := 4294967296) 32 rfl rfl (by decide) (by omega) ?_)
  | (with_reducible refine shr_g (m := 4294967296) 32 rfl (by decide) (by omega) rfl ?_)
  | (with_reducible refine fz_all (by omega) ?_)
  | (with_reducible refine Stuck.h (A := RetE _ _) ?_) | (with_reducible refine Stuck.h (A := RetM _ _ _ _) ?_) | (with_reducible refine Stuck.h (A := Again _ _ _ _ _ _ _ _) ?_) | (with_reducible refine Stuck.h (A := CallF _ _ _ _ _ _ _) ?_) | (with_reducible refine Stuck.h (A := LoopG _ _ _ _ _ _ _ _) ?_) | (with_reducible refine Stuck.h (A := DrawG _ _ _ _ _ _ _ _) ?_)
  | (with_reducible refine Stuck.h (A := WrapG _ _ _) ?_) | (with_reducible refine Stuck.h (A := DivG _ _ _ _) ?_) | (with_reducible refine Stuck.h (A := ModG _ _ _) ?_) | (with_reducible refine Stuck.h (A := ShlG _ _ _ _) ?_) | (with_reducible refine Stuck.h (A := ShrG _ _ _ _) ?_) | (with_reducible refine Stuck.h (A := BitG _ _ _ _ _) ?_)
  | (with_reducible refine Stuck.h (A := IdxG _ _ _) ?_) | (with_reducible refine Stuck.h (A := IdxL _ _ _) ?_) | (with_reducible refine Stuck.h (A := SlcG _ _ _ _ _) ?_) | (with_reducible refine Stuck.h (A := MakG _ _ _ _) ?_) | (with_reducible refine Stuck.h (A := AppG _ _ _ _ _ _ _) ?_) | (with_reducible refine Stuck.h (A := FzG _ _ _ _) ?_)
  | (with_reducible refine Stuck.h (A := RawG _) ?_) | (with_reducible refine Stuck.h (A := TabG _ _ _ _ _) ?_) | (with_reducible refine Stuck.h (A := ExtF _ _ _ _) ?_) | (with_reducible refine Stuck.h (A := Chk _ _) ?_) | (with_reducible refine Stuck.h (A := False) ?_))
  exact ⟨ret_e rfl⟩
end Go.Proofs.YtbeocnjlepcglaaGreatDoor.Sim
namespace Go.Proofs.YtbeocnjlepcglaaGreatDoor.Sim
open Go.RowKit
set_option linter.unusedVariables false
set_option linter.unusedSimpArgs false
set_option maxRecDepth 10000
set_option maxHeartbeats 8000000
variable {G : List (Nat × List Value)}
def nmulS (n m : Int) : PV := if 8192 < L64 (n * m).natAbs then numE 5 else numR (n * m)
theorem sg_mul2 (x y : Nat) (s t : Bool) : sg (s != t) (x * y) = sg s x * sg t y := by
  cases s <;> cases t <;> simp [sg, Int.mul_neg, Int.neg_mul]
theorem n_nmul (n m : Int) (hn : L64 n.natAbs ≤ 8192) (hm : L64 m.natAbs ≤ 8192) : FC Tryz.prog G 40 [NI n, NI m] (· = nmulS n m) := by
  have f0 := n_nform (G := G) n hn
  have g0 := n_nform (G := G) m hm
  have f1 := m_mul (G := G) n.natAbs m.natAbs hn hm
  have hs : ∀ b : Bool, b = (decide (n < 0) != decide (m < 0)) → sg b (n.natAbs * m.natAbs) = n * m := fun b h => by rw [h, sg_mul2, sg_of, sg_of]
  have ha : (n * m).natAbs = n.natAbs * m.natAbs := Int.natAbs_mul n m
  unfold nmulS
  rw [ha]
  obtain ⟨V, hV⟩ : ∃ V, V = n.natAbs * m.natAbs := ⟨_, rfl⟩
  rw [← hV] at f1 hs ⊢
  by_cases hL : 8192 < L64 V
  · rw [if_pos hL]
    rw [natT_no hL] at f1
    have f5 := fun b => n_ntoldE (G := G) b [] 5 (by decide)
    clear hs
    refine by_signN (a := n) (p := fun p => FC _ _ _ [p, _] _) (fun h1 => ?_) (fun h1 => ?_)
    all_goals refine by_signN (a := m) (p := fun p => FC _ _ _ [_, p] _) (fun h2 => ?_) (fun h2 => ?_)
    all_goals
      first | rw [ni_neg h1] at f0 | rw [ni_pos h1] at f0
      first | rw [ni_neg h2] at g0 | rw [ni_pos h2] at g0
      refine FC.intro (X := XX) tok Tryz.func40 rfl Tryz.ntmps40 (by rw [Tryz.results40]) (by kernel_rfl) rfl ?_; intro F hG hO
      rw [← hG] at f0 g0 f1 f5
      repeat' ((try (conv => whnf)); first
  | ((with_reducible refine cg ?_); refine call_eq (f0) (LpL.refl _) rfl ?_)
  | ((with_reducible refine cg ?_); refine call_eq (g0) (LpL.refl _) rfl ?_)
  | ((with_reducible refine cg ?_); refine call_eq (f1) (LpL.refl _) rfl ?_)
  | ((with_reducible refine cg ?_); refine call_eq (f5 _) (LpL.refl _) rfl ?_)
  
  | (with_reducible refine Chk.mk' (by first | omega | exact trivial | (simp only [List.length_append, List.length_set, List.length_replicate, List.length_take, List.length_drop, List.length_cons, List.length_nil, List.length_map]; omega)) ?_)
  | (with_reducible refine wrap_g (by dsimp only [inR]; omega) ?_)
  | (with_reducible refine idx_g (by omega) ?_)
  | (with_reducible refine idx_l _ rfl (by decide) ?_)
  | (with_reducible refine BothG.mk ?_ ?_)
  | (with_reducible refine fork_tt ?_) | (with_reducible refine fork_ff ?_)
  | (with_reducible refine fork_e (c := true) (by decide) ?_; with_reducible refine fork_tt ?_) | (with_reducible refine fork_e (c := false) (by decide) ?_; with_reducible refine fork_ff ?_)
  | (with_reducible refine fork_t (by omega) ?_) | (with_reducible refine fork_f (by omega) ?_)
  | (with_reducible refine fork_d ?_ ?_ <;> intro hc)
  | (with_reducible refine fork_n ?_)
  | (with_reducible refine fork_b ?_ ?_ <;> intro hc)
  | (with_reducible refine SlcG.mk (by omega) ?_)
  | (with_reducible refine MakG.mk (by dsimp only; omega) ?_)
  | (with_reducible refine AppG.mk (by first | omega | (simp only [List.length_append, List.length_set, List.length_replicate, List.length_take, List.length_drop, List.length_cons, List.length_nil, List.length_map]; omega)) (by dsimp only [List.length_cons, List.length_nil]; omega) (by omega) ?_)
  | (with_reducible refine div_g (by omega) (by omega) (by dsimp only [inR]; omega) ?_)
  | (with_reducible refine mod_g (by omega) (by omega) ?_)
  | (with_reducible refine mask_g (m := 4294967296) 32 rfl rfl (by decide) (by omega) ?_)
  | (with_reducible refine shr_g (m := 4294967296) 32 rfl (by decide) (by omega) rfl ?_)
  | (with_reducible refine fz_all (by omega) ?_)
  | (with_reducible refine Stuck.h (A := RetE _ _) ?_) | (with_reducible refine Stuck.h (A := RetM _ _ _ _) ?_) | (with_reducible refine Stuck.h (A := Again _ _ _ _ _ _ _ _) ?_) | (with_reducible refine Stuck.h (A := CallF _ _ _ _ _ _ _) ?_) | (with_reducible refine Stuck.h (A := LoopG _ _ _ _ _ _ _ _) ?_) | (with_reducible refine Stuck.h (A := DrawG _ _ _ _ _ _ _ _) ?_)
  | (with_reducible refine Stuck.h (A := WrapG _ _ _) ?_) | (with_reducible refine Stuck.h (A := DivG _ _ _ _) ?_) | (with_reducible refine Stuck.h (A := ModG _ _ _) ?_) | (with_reducible refine Stuck.h (A := ShlG _ _ _ _) ?_) | (with_reducible refine Stuck.h (A := ShrG _ _ _ _) ?_) | (with_reducible refine Stuck.h (A := BitG _ _ _ _ _) ?_)
  | (with_reducible refine Stuck.h (A := IdxG _ _ _) ?_) | (with_reducible refine Stuck.h (A := IdxL _ _ _) ?_) | (with_reducible refine Stuck.h (A := SlcG _ _ _ _ _) ?_) | (with_reducible refine Stuck.h (A := MakG _ _ _ _) ?_) | (with_reducible refine Stuck.h (A := AppG _ _ _ _ _ _ _) ?_) | (with_reducible refine Stuck.h (A := FzG _ _ _ _) ?_)
  | (with_reducible refine Stuck.h (A := RawG _) ?_) | (with_reducible refine Stuck.h (A := TabG _ _ _ _ _) ?_) | (with_reducible refine Stuck.h (A := ExtF _ _ _ _) ?_) | (with_reducible refine Stuck.h (A := Chk _ _) ?_) | (with_reducible refine Stuck.h (A := False) ?_))
      exact ⟨ret_e rfl⟩
  · rw [if_neg hL]
    rw [natT_ok (by omega)] at f1
    have f5 := fun b => n_ntold (G := G) b V
    refine by_signN (a := n) (p := fun p => FC _ _ _ [p, _] _) (fun h1 => ?_) (fun h1 => ?_)
    all_goals refine by_signN (a := m) (p := fun p => FC _ _ _ [_, p] _) (fun h2 => ?_) (fun h2 => ?_)
    all_goals
      have hb : ∀ b c : Bool, b = decide (n < 0) → c = decide (m < 0) → sg (b != c) V = n * m := fun b c e1 e2 => hs _ (by rw [e1, e2])
      clear hs
      first | rw [ni_neg h1] at f0 | rw [ni_pos h1] at f0
      first | rw [ni_neg h2] at g0 | rw [ni_pos h2] at g0
      refine FC.intro (X := XX) tok Tryz.func40 rfl Tryz.ntmps40 (by rw [Tryz.results40]) (by kernel_rfl) rfl ?_; intro F hG hO
      rw [← hG] at f0 g0 f1 f5
      repeat' ((try (conv => whnf)); first
  | ((with_reducible refine cg ?_); refine call_eq (f0) (LpL.refl _) rfl ?_)
  | ((with_reducible refine cg ?_); refine call_eq (g0) (LpL.refl _) rfl ?_)
  | ((with_reducible refine cg ?_); refine call_eq (f1) (LpL.refl _) rfl ?_)
  | ((with_reducible refine cg ?_); refine call_eq (f5 _) (LpL.refl _) rfl ?_)
  
  | (with_reducible refine Chk.mk' (by first | omega | exact trivial | (simp only [List.length_append, List.length_set, List.length_replicate, List.length_take, List.length_drop, List.length_cons, List.length_nil, List.length_map]; omega)) ?_)
  | (with_reducible refine wrap_g (by dsimp only [inR]; omega) ?_)
  | (with_reducible refine idx_g (by omega) ?_)
  | (with_reducible refine idx_l _ rfl (by decide) ?_)
  | (with_reducible refine BothG.mk ?_ ?_)
  | (with_reducible refine fork_tt ?_) | (with_reducible refine fork_ff ?_)
  | (with_reducible refine fork_e (c := true) (by decide) ?_; with_reducible refine fork_tt ?_) | (with_reducible refine fork_e (c := false) (by decide) ?_; with_reducible refine fork_ff ?_)
  | (with_reducible refine fork_t (by omega) ?_) | (with_reducible refine fork_f (by omega) ?_)
  | (with_reducible refine fork_d ?_ ?_ <;> intro hc)
  | (with_reducible refine fork_n ?_)
  | (with_reducible refine fork_b ?_ ?_ <;> intro hc)
  | (with_reducible refine SlcG.mk (by omega) ?_)
  | (with_reducible refine MakG.mk (by dsimp only; omega) ?_)
  | (with_reducible refine AppG.mk (by first | omega | (simp only [List.length_append, List.length_set, List.length_replicate, List.length_take, List.length_drop, List.length_cons, List.length_nil, List.length_map]; omega)) (by dsimp only [List.length_cons, List.length_nil]; omega) (by omega) ?_)
  | (with_reducible refine div_g (by omega) (by omega) (by dsimp only [inR]; omega) ?_)
  | (with_reducible refine mod_g (by omega) (by omega) ?_)
  | (with_reducible refine mask_g (m := 4294967296) 32 rfl rfl (by decide) (by omega) ?_)
  | (with_reducible refine shr_g (m := 4294967296) 32 rfl (by decide) (by omega) rfl ?_)
  | (with_reducible refine fz_all (by omega) ?_)
  | (with_reducible refine Stuck.h (A := RetE _ _) ?_) | (with_reducible refine Stuck.h (A := RetM _ _ _ _) ?_) | (with_reducible refine Stuck.h (A := Again _ _ _ _ _ _ _ _) ?_) | (with_reducible refine Stuck.h (A := CallF _ _ _ _ _ _ _) ?_) | (with_reducible refine Stuck.h (A := LoopG _ _ _ _ _ _ _ _) ?_) | (with_reducible refine Stuck.h (A := DrawG _ _ _ _ _ _ _ _) ?_)
  | (with_reducible refine Stuck.h (A := WrapG _ _ _) ?_) | (with_reducible refine Stuck.h (A := DivG _ _ _ _) ?_) | (with_reducible refine Stuck.h (A := ModG _ _ _) ?_) | (with_reducible refine Stuck.h (A := ShlG _ _ _ _) ?_) | (with_reducible refine Stuck.h (A := ShrG _ _ _ _) ?_) | (with_reducible refine Stuck.h (A := BitG _ _ _ _ _) ?_)
  | (with_reducible refine Stuck.h (A := IdxG _ _ _) ?_) | (with_reducible refine Stuck.h (A := IdxL _ _ _) ?_) | (with_reducible refine Stuck.h (A := SlcG _ _ _ _ _) ?_) | (with_reducible refine Stuck.h (A := MakG _ _ _ _) ?_) | (with_reducible refine Stuck.h (A := AppG _ _ _ _ _ _ _) ?_) | (with_reducible refine Stuck.h (A := FzG _ _ _ _) ?_)
  | (with_reducible refine Stuck.h (A := RawG _) ?_) | (with_reducible refine Stuck.h (A := TabG _ _ _ _ _) ?_) | (with_reducible refine Stuck.h (A := ExtF _ _ _ _) ?_) | (with_reducible refine Stuck.h (A := Chk _ _) ?_) | (with_reducible refine Stuck.h (A := False) ?_))
      first
        | exact ⟨ret_e (numR_eq (hb true true (decide_eq_true (by omega)).symm (decide_eq_true (by omega)).symm))⟩
        | exact ⟨ret_e (numR_eq (hb true false (decide_eq_true (by omega)).symm (decide_eq_false (by omega)).symm))⟩
        | exact ⟨ret_e (numR_eq (hb false true (decide_eq_false (by omega)).symm (decide_eq_true (by omega)).symm))⟩
        | exact ⟨ret_e (numR_eq (hb false false (decide_eq_false (by omega)).symm (decide_eq_false (by omega)).symm))⟩
def mulS (n e m f : Int) : PV := if 8192 < L64 (n * m).natAbs then dyE 5 else toldS (n * m) (e + f)
theorem mul_form (n e m f : Int) : ∃ x y c, mulS n e m f = .tup [DY x y, .val (.int .i64 c)] ∧ Good x y ∧ (c = 0 ∨ c = 5) := by
  unfold mulS
  split
  · exact ⟨0, 0, 5, rfl, Good.zero, .inr rfl⟩
  · exact told_form _ _
theorem y_mul {g : List (Nat × List Value)} (hD : (0, debT.map (Value.int .u8)) ∈ g) {n e m f : Int} (h : Good n e) (k : Good m f) : FC Tryz.prog g 17 [DY n e, DY m f] (· = mulS n e m f) := by
  have f1 := y_form (G := g) h
  have f2 := y_form (G := g) k
  have e1 := h.2.1
  have e2 := h.2.2.1
  have e3 := k.2.1
  have e4 := k.2.2.1
  have f3 := n_nmul (G := g) n m h.1 k.1
  unfold nmulS at f3
  unfold mulS
  obtain ⟨v, hv⟩ : ∃ v, v = n * m := ⟨_, rfl⟩
  rw [← hv] at f3 ⊢
  by_cases hL : 8192 < L64 v.natAbs
  · rw [if_pos hL] at f3 ⊢
    refine FC.intro (X := XX) tok Tryz.func17 rfl Tryz.ntmps17 (by rw [Tryz.results17]) (by kernel_rfl) rfl ?_; intro F hG hO
    rw [← hG] at f1 f2 f3
    repeat' ((try (conv => whnf)); first
  | ((with_reducible refine cg ?_); refine call_eq (f1) (LpL.refl _) rfl ?_)
  | ((with_reducible refine cg ?_); refine call_eq (f2) (LpL.refl _) rfl ?_)
  | ((with_reducible refine cg ?_); refine call_eq (f3) (LpL.refl _) rfl ?_)
  
  | (with_reducible refine Chk.mk' (by first | omega | exact trivial | (simp only [List.length_append, List.length_set, List.length_replicate, List.length_take, List.length_drop, List.length_cons, List.length_nil, List.length_map]; omega)) ?_)
  | (with_reducible refine wrap_g (by dsimp only [inR]; omega) ?_)
  | (with_reducible refine idx_g (by omega) ?_)
  | (with_reducible refine idx_l _ rfl (by decide) ?_)
  | (with_reducible refine BothG.mk ?_ ?_)
  | (with_reducible refine fork_tt ?_) | (with_reducible refine fork_ff ?_)
  | (with_reducible refine fork_e (c := true) (by decide) ?_; with_reducible refine fork_tt ?_) | (with_reducible refine fork_e (c := false) (by decide) ?_; with_reducible refine fork_ff ?_)
  | (with_reducible refine fork_t (by omega) ?_) | (with_reducible refine fork_f (by omega) ?_)
  | (with_reducible refine fork_d ?_ ?_ <;> intro hc)
  | (with_reducible refine fork_n ?_)
  | (with_reducible refine fork_b ?_ ?_ <;> intro hc)
  | (with_reducible refine SlcG.mk (by omega) ?_)
  | (with_reducible refine MakG.mk (by dsimp only; omega) ?_)
  | (with_reducible refine AppG.mk (by first | omega | (simp only [List.length_append, List.length_set, List.length_replicate, List.length_take, List.length_drop, List.length_cons, List.length_nil, List.length_map]; omega)) (by dsimp only [List.length_cons, List.length_nil]; omega) (by omega) ?_)
  | (with_reducible refine div_g (by omega) (by omega) (by dsimp only [inR]; omega) ?_)
  | (with_reducible refine mod_g (by omega) (by omega) ?_)
  | (with_reducible refine mask_g (m := 4294967296) 32 rfl rfl (by decide) (by omega) ?_)
  | (with_reducible refine shr_g (m := 4294967296) 32 rfl (by decide) (by omega) rfl ?_)
  | (with_reducible refine fz_all (by omega) ?_)
  | (with_reducible refine Stuck.h (A := RetE _ _) ?_) | (with_reducible refine Stuck.h (A := RetM _ _ _ _) ?_) | (with_reducible refine Stuck.h (A := Again _ _ _ _ _ _ _ _) ?_) | (with_reducible refine Stuck.h (A := CallF _ _ _ _ _ _ _) ?_) | (with_reducible refine Stuck.h (A := LoopG _ _ _ _ _ _ _ _) ?_) | (with_reducible refine Stuck.h (A := DrawG _ _ _ _ _ _ _ _) ?_)
  | (with_reducible refine Stuck.h (A := WrapG _ _ _) ?_) | (with_reducible refine Stuck.h (A := DivG _ _ _ _) ?_) | (with_reducible refine Stuck.h (A := ModG _ _ _) ?_) | (with_reducible refine Stuck.h (A := ShlG _ _ _ _) ?_) | (with_reducible refine Stuck.h (A := ShrG _ _ _ _) ?_) | (with_reducible refine Stuck.h (A := BitG _ _ _ _ _) ?_)
  | (with_reducible refine Stuck.h (A := IdxG _ _ _) ?_) | (with_reducible refine Stuck.h (A := IdxL _ _ _) ?_) | (with_reducible refine Stuck.h (A := SlcG _ _ _ _ _) ?_) | (with_reducible refine Stuck.h (A := MakG _ _ _ _) ?_) | (with_reducible refine Stuck.h (A := AppG _ _ _ _ _ _ _) ?_) | (with_reducible refine Stuck.h (A := FzG _ _ _ _) ?_)
  | (with_reducible refine Stuck.h (A := RawG _) ?_) | (with_reducible refine Stuck.h (A := TabG _ _ _ _ _) ?_) | (with_reducible refine Stuck.h (A := ExtF _ _ _ _) ?_) | (with_reducible refine Stuck.h (A := Chk _ _) ?_) | (with_reducible refine Stuck.h (A := False) ?_))
    exact ⟨ret_l _ (lp_dyE 5) rfl⟩
  · rw [if_neg hL] at f3 ⊢
    have f4 := y_make hD v (e + f) (by omega) (by dsimp only [inR]; omega)
    obtain ⟨x, y, c, hr, hgd, hcc⟩ := told_form v (e + f)
    rw [hr] at f4 ⊢
    refine FC.intro (X := XX) tok Tryz.func17 rfl Tryz.ntmps17 (by rw [Tryz.results17]) (by kernel_rfl) rfl ?_; intro F hG hO
    rw [← hG] at f1 f2 f3 f4
    repeat' ((try (conv => whnf)); first
  | ((with_reducible refine cg ?_); refine call_eq (f1) (LpL.refl _) rfl ?_)
  | ((with_reducible refine cg ?_); refine call_eq (f2) (LpL.refl _) rfl ?_)
  | ((with_reducible refine cg ?_); refine call_eq (f3) (LpL.refl _) rfl ?_)
  | ((with_reducible refine cg ?_); refine call_eq (f4) (LpL.refl _) rfl ?_)
  
  | (with_reducible refine Chk.mk' (by first | omega | exact trivial | (simp only [List.length_append, List.length_set, List.length_replicate, List.length_take, List.length_drop, List.length_cons, List.length_nil, List.length_map]; omega)) ?_)
  | (with_reducible refine wrap_g (by dsimp only [inR]; omega) ?_)
  | (with_reducible refine idx_g (by omega) ?_)
  | (with_reducible refine idx_l _ rfl (by decide) ?_)
  | (with_reducible refine BothG.mk ?_ ?_)
  | (with_reducible refine fork_tt ?_) | (with_reducible refine fork_ff ?_)
  | (with_reducible refine fork_e (c := true) (by decide) ?_; with_reducible refine fork_tt ?_) | (with_reducible refine fork_e (c := false) (by decide) ?_; with_reducible refine fork_ff ?_)
  | (with_reducible refine fork_t (by omega) ?_) | (with_reducible refine fork_f (by omega) ?_)
  | (with_reducible refine fork_d ?_ ?_ <;> intro hc)
  | (with_reducible refine fork_n ?_)
  | (with_reducible refine fork_b ?_ ?_ <;> intro hc)
  | (with_reducible refine SlcG.mk (by omega) ?_)
  | (with_reducible refine MakG.mk (by dsimp only; omega) ?_)
  | (with_reducible refine AppG.mk (by first | omega | (simp only [List.length_append, List.length_set, List.length_replicate, List.length_take, List.length_drop, List.length_cons, List.length_nil, List.length_map]; omega)) (by dsimp only [List.length_cons, List.length_nil]; omega) (by omega) ?_)
  | (with_reducible refine div_g (by omega) (by omega) (by dsimp only [inR]; omega) ?_)
  | (with_reducible refine mod_g (by omega) (by omega) ?_)
  | (with_reducible refine mask_g (m := 4294967296) 32 rfl rfl (by decide) (by omega) ?_)
  | (with_reducible refine shr_g (m := 4294967296) 32 rfl (by decide) (by omega) rfl ?_)
  | (with_reducible refine fz_all (by omega) ?_)
  | (with_reducible refine Stuck.h (A := RetE _ _) ?_) | (with_reducible refine Stuck.h (A := RetM _ _ _ _) ?_) | (with_reducible refine Stuck.h (A := Again _ _ _ _ _ _ _ _) ?_) | (with_reducible refine Stuck.h (A := CallF _ _ _ _ _ _ _) ?_) | (with_reducible refine Stuck.h (A := LoopG _ _ _ _ _ _ _ _) ?_) | (with_reducible refine Stuck.h (A := DrawG _ _ _ _ _ _ _ _) ?_)
  | (with_reducible refine Stuck.h (A := WrapG _ _ _) ?_) | (with_reducible refine Stuck.h (A := DivG _ _ _ _) ?_) | (with_reducible refine Stuck.h (A := ModG _ _ _) ?_) | (with_reducible refine Stuck.h (A := ShlG _ _ _ _) ?_) | (with_reducible refine Stuck.h (A := ShrG _ _ _ _) ?_) | (with_reducible refine Stuck.h (A := BitG _ _ _ _ _) ?_)
  | (with_reducible refine Stuck.h (A := IdxG _ _ _) ?_) | (with_reducible refine Stuck.h (A := IdxL _ _ _) ?_) | (with_reducible refine Stuck.h (A := SlcG _ _ _ _ _) ?_) | (with_reducible refine Stuck.h (A := MakG _ _ _ _) ?_) | (with_reducible refine Stuck.h (A := AppG _ _ _ _ _ _ _) ?_) | (with_reducible refine Stuck.h (A := FzG _ _ _ _) ?_)
  | (with_reducible refine Stuck.h (A := RawG _) ?_) | (with_reducible refine Stuck.h (A := TabG _ _ _ _ _) ?_) | (with_reducible refine Stuck.h (A := ExtF _ _ _ _) ?_) | (with_reducible refine Stuck.h (A := Chk _ _) ?_) | (with_reducible refine Stuck.h (A := False) ?_))
    exact ⟨ret_e rfl⟩
theorem L64_prod {x y : Nat} (hx : x ≠ 0) (hy : y ≠ 0) : L64 x + L64 y ≤ L64 (x * y) + 1 := by
  have h1 := ((dgs_len (B := 18446744073709551616) (by decide) x).2 hx)
  have h2 := ((dgs_len (B := 18446744073709551616) (by decide) y).2 hy)
  have p1 := (L64_pos x).2 (by omega)
  have p2 := (L64_pos y).2 (by omega)
  have h3 : 18446744073709551616 ^ (L64 x - 1) * 18446744073709551616 ^ (L64 y - 1) ≤ x * y := Nat.mul_le_mul h1.2 h2.2
  rw [← Nat.pow_add] at h3
  have h4 : L64 x - 1 + (L64 y - 1) < L64 (x * y) := lenB_ge (by decide) h3
  omega
theorem r_docmul {n e m f : Int} (h : Good n e) (k : Good m f) : FC Tryz.prog G 98 [DY n e, DY m f] (· = mulS n e m f) := by
  have f1 := r_formg (G := G) h
  have f2 := r_formg (G := G) k
  have f3 := r_noughtg (G := G) n e
  have f4 := r_noughtg (G := G) m f
  have e1 := h.2.1
  have e2 := h.2.2.1
  have e3 := k.2.1
  have e4 := k.2.2.1
  have l1 := h.lz
  have l2 := k.lz
  have f5 := r_zfromN (G := G) n (Nat.le_trans h.1 (by decide))
  have f6 := r_zfromN (G := G) m (Nat.le_trans k.1 (by decide))
  have f7 := r_zmul (G := G) n m (by omega) (by omega)
  have hl1 : (d64 n.natAbs).length = L64 n.natAbs := rfl
  have hg1 := h.1
  have hg2 := k.1
  have hl2 : (d64 m.natAbs).length = L64 m.natAbs := rfl
  have hzl : LZ (n * m) ≤ LZ n + LZ m := by unfold LZ; rw [Int.natAbs_mul]; exact L32_mul _ _
  have f8 := r_told (G := G) (n * m) (e + f) (by omega) (by dsimp only [inR]; omega)
  have hz : n = 0 ∨ m = 0 → mulS n e m f = dyE 0 := fun hz => by
    have : n * m = 0 := by rcases hz with h | h <;> rw [h] <;> simp
    unfold mulS
    rw [this, if_neg (by rw [show Int.natAbs 0 = 0 from rfl, L64, lenB_zero]; omega)]
    unfold toldS
    rw [if_pos rfl]
  by_cases h0 : n = 0
  · rw [hz (.inl h0)]
    clear f8 hz
    refine FC.intro (X := XX) tok Tryz.func98 rfl Tryz.ntmps98 (by rw [Tryz.results98]) (by kernel_rfl) rfl ?_; intro F hG hO
    rw [← hG] at f1 f2 f3 f4
    repeat' ((try (conv => whnf)); first
  | ((with_reducible refine cg ?_); refine call_eq (f1) (LpL.refl _) rfl ?_)
  | ((with_reducible refine cg ?_); refine call_eq (f2) (LpL.refl _) rfl ?_)
  | ((with_reducible refine cg ?_); refine call_eq (f3) (LpL.refl _) rfl ?_)
  | ((with_reducible refine cg ?_); refine call_eq (f4) (LpL.refl _) rfl ?_)
  
  | (with_reducible refine draw_g (id := 7) [[0, 1, 3, 4, 7, 8, 9, 10, 11, 2, 5, 6, 12, 13, 14], [15, 16]] tok mixed (by kernel_rfl) ?_)
  | (with_reducible refine Chk.mk' (by first | omega | exact trivial | (simp only [List.length_append, List.length_set, List.length_replicate, List.length_take, List.length_drop, List.length_cons, List.length_nil, List.length_map]; omega)) ?_)
  | (with_reducible refine wrap_g (by dsimp only [inR]; omega) ?_)
  | (with_reducible refine idx_g (by omega) ?_)
  | (with_reducible refine idx_l _ rfl (by decide) ?_)
  | (with_reducible refine BothG.mk ?_ ?_)
  | (with_reducible refine fork_tt ?_) | (with_reducible refine fork_ff ?_)
  | (with_reducible refine fork_e (c := true) (by decide) ?_; with_reducible refine fork_tt ?_) | (with_reducible refine fork_e (c := false) (by decide) ?_; with_reducible refine fork_ff ?_)
  | (with_reducible refine fork_t (by omega) ?_) | (with_reducible refine fork_f (by omega) ?_)
  | (with_reducible refine fork_d ?_ ?_ <;> intro hc)
  | (with_reducible refine fork_n ?_)
  | (with_reducible refine fork_b ?_ ?_ <;> intro hc)
  | (with_reducible refine SlcG.mk (by omega) ?_)
  | (with_reducible refine MakG.mk (by dsimp only; omega) ?_)
  | (with_reducible refine AppG.mk (by first | omega | (simp only [List.length_append, List.length_set, List.length_replicate, List.length_take, List.length_drop, List.length_cons, List.length_nil, List.length_map]; omega)) (by dsimp only [List.length_cons, List.length_nil]; omega) (by omega) ?_)
  | (with_reducible refine div_g (by omega) (by omega) (by dsimp only [inR]; omega) ?_)
  | (with_reducible refine mod_g (by omega) (by omega) ?_)
  | (with_reducible refine mask_g (m := 4294967296) 32 rfl rfl (by decide) (by omega) ?_)
  | (with_reducible refine shr_g (m := 4294967296) 32 rfl (by decide) (by omega) rfl ?_)
  | (with_reducible refine fz_all (by omega) ?_)
  | (with_reducible refine Stuck.h (A := RetE _ _) ?_) | (with_reducible refine Stuck.h (A := RetM _ _ _ _) ?_) | (with_reducible refine Stuck.h (A := Again _ _ _ _ _ _ _ _) ?_) | (with_reducible refine Stuck.h (A := CallF _ _ _ _ _ _ _) ?_) | (with_reducible refine Stuck.h (A := LoopG _ _ _ _ _ _ _ _) ?_) | (with_reducible refine Stuck.h (A := DrawG _ _ _ _ _ _ _ _) ?_)
  | (with_reducible refine Stuck.h (A := WrapG _ _ _) ?_) | (with_reducible refine Stuck.h (A := DivG _ _ _ _) ?_) | (with_reducible refine Stuck.h (A := ModG _ _ _) ?_) | (with_reducible refine Stuck.h (A := ShlG _ _ _ _) ?_) | (with_reducible refine Stuck.h (A := ShrG _ _ _ _) ?_) | (with_reducible refine Stuck.h (A := BitG _ _ _ _ _) ?_)
  | (with_reducible refine Stuck.h (A := IdxG _ _ _) ?_) | (with_reducible refine Stuck.h (A := IdxL _ _ _) ?_) | (with_reducible refine Stuck.h (A := SlcG _ _ _ _ _) ?_) | (with_reducible refine Stuck.h (A := MakG _ _ _ _) ?_) | (with_reducible refine Stuck.h (A := AppG _ _ _ _ _ _ _) ?_) | (with_reducible refine Stuck.h (A := FzG _ _ _ _) ?_)
  | (with_reducible refine Stuck.h (A := RawG _) ?_) | (with_reducible refine Stuck.h (A := TabG _ _ _ _ _) ?_) | (with_reducible refine Stuck.h (A := ExtF _ _ _ _) ?_) | (with_reducible refine Stuck.h (A := Chk _ _) ?_) | (with_reducible refine Stuck.h (A := False) ?_))
    all_goals exact ⟨ret_l _ (lp_dyE 0) rfl⟩
  by_cases h1 : m = 0
  · rw [hz (.inr h1)]
    clear f8 hz
    refine FC.intro (X := XX) tok Tryz.func98 rfl Tryz.ntmps98 (by rw [Tryz.results98]) (by kernel_rfl) rfl ?_; intro F hG hO
    rw [← hG] at f1 f2 f3 f4
    repeat' ((try (conv => whnf)); first
  | ((with_reducible refine cg ?_); refine call_eq (f1) (LpL.refl _) rfl ?_)
  | ((with_reducible refine cg ?_); refine call_eq (f2) (LpL.refl _) rfl ?_)
  | ((with_reducible refine cg ?_); refine call_eq (f3) (LpL.refl _) rfl ?_)
  | ((with_reducible refine cg ?_); refine call_eq (f4) (LpL.refl _) rfl ?_)
  
  | (with_reducible refine draw_g (id := 7) [[0, 1, 3, 4, 7, 8, 9, 10, 11, 2, 5, 6, 12, 13, 14], [15, 16]] tok mixed (by kernel_rfl) ?_)
  | (with_reducible refine Chk.mk' (by first | omega | exact trivial | (simp only [List.length_append, List.length_set, List.length_replicate, List.length_take, List.length_drop, List.length_cons, List.length_nil, List.length_map]; omega)) ?_)
  | (with_reducible refine wrap_g (by dsimp only [inR]; omega) ?_)
  | (with_reducible refine idx_g (by omega) ?_)
  | (with_reducible refine idx_l _ rfl (by decide) ?_)
  | (with_reducible refine BothG.mk ?_ ?_)
  | (with_reducible refine fork_tt ?_) | (with_reducible refine fork_ff ?_)
  | (with_reducible refine fork_e (c := true) (by decide) ?_; with_reducible refine fork_tt ?_) | (with_reducible refine fork_e (c := false) (by decide) ?_; with_reducible refine fork_ff ?_)
  | (with_reducible refine fork_t (by omega) ?_) | (with_reducible refine fork_f (by omega) ?_)
  | (with_reducible refine fork_d ?_ ?_ <;> intro hc)
  | (with_reducible refine fork_n ?_)
  | (with_reducible refine fork_b ?_ ?_ <;> intro hc)
  | (with_reducible refine SlcG.mk (by omega) ?_)
  | (with_reducible refine MakG.mk (by dsimp only; omega) ?_)
  | (with_reducible refine AppG.mk (by first | omega | (simp only [List.length_append, List.length_set, List.length_replicate, List.length_take, List.length_drop, List.length_cons, List.length_nil, List.length_map]; omega)) (by dsimp only [List.length_cons, List.length_nil]; omega) (by omega) ?_)
  | (with_reducible refine div_g (by omega) (by omega) (by dsimp only [inR]; omega) ?_)
  | (with_reducible refine mod_g (by omega) (by omega) ?_)
  | (with_reducible refine mask_g (m := 4294967296) 32 rfl rfl (by decide) (by omega) ?_)
  | (with_reducible refine shr_g (m := 4294967296) 32 rfl (by decide) (by omega) rfl ?_)
  | (with_reducible refine fz_all (by omega) ?_)
  | (with_reducible refine Stuck.h (A := RetE _ _) ?_) | (with_reducible refine Stuck.h (A := RetM _ _ _ _) ?_) | (with_reducible refine Stuck.h (A := Again _ _ _ _ _ _ _ _) ?_) | (with_reducible refine Stuck.h (A := CallF _ _ _ _ _ _ _) ?_) | (with_reducible refine Stuck.h (A := LoopG _ _ _ _ _ _ _ _) ?_) | (with_reducible refine Stuck.h (A := DrawG _ _ _ _ _ _ _ _) ?_)
  | (with_reducible refine Stuck.h (A := WrapG _ _ _) ?_) | (with_reducible refine Stuck.h (A := DivG _ _ _ _) ?_) | (with_reducible refine Stuck.h (A := ModG _ _ _) ?_) | (with_reducible refine Stuck.h (A := ShlG _ _ _ _) ?_) | (with_reducible refine Stuck.h (A := ShrG _ _ _ _) ?_) | (with_reducible refine Stuck.h (A := BitG _ _ _ _ _) ?_)
  | (with_reducible refine Stuck.h (A := IdxG _ _ _) ?_) | (with_reducible refine Stuck.h (A := IdxL _ _ _) ?_) | (with_reducible refine Stuck.h (A := SlcG _ _ _ _ _) ?_) | (with_reducible refine Stuck.h (A := MakG _ _ _ _) ?_) | (with_reducible refine Stuck.h (A := AppG _ _ _ _ _ _ _) ?_) | (with_reducible refine Stuck.h (A := FzG _ _ _ _) ?_)
  | (with_reducible refine Stuck.h (A := RawG _) ?_) | (with_reducible refine Stuck.h (A := TabG _ _ _ _ _) ?_) | (with_reducible refine Stuck.h (A := ExtF _ _ _ _) ?_) | (with_reducible refine Stuck.h (A := Chk _ _) ?_) | (with_reducible refine Stuck.h (A := False) ?_))
    all_goals exact ⟨ret_l _ (lp_dyE 0) rfl⟩
  clear hz
  have hp := L64_prod (x := n.natAbs) (y := m.natAbs) (by omega) (by omega)
  have hq := L64_mul n.natAbs m.natAbs
  rw [← Int.natAbs_mul] at hp hq
  by_cases hbig : 8192 < L64 n.natAbs + L64 m.natAbs - 1
  · unfold mulS
    rw [if_pos (by omega)]
    clear f8
    refine FC.intro (X := XX) tok Tryz.func98 rfl Tryz.ntmps98 (by rw [Tryz.results98]) (by kernel_rfl) rfl ?_; intro F hG hO
    rw [← hG] at f1 f2 f3 f4
    repeat' ((try (conv => whnf)); first
  | ((with_reducible refine cg ?_); refine call_eq (f1) (LpL.refl _) rfl ?_)
  | ((with_reducible refine cg ?_); refine call_eq (f2) (LpL.refl _) rfl ?_)
  | ((with_reducible refine cg ?_); refine call_eq (f3) (LpL.refl _) rfl ?_)
  | ((with_reducible refine cg ?_); refine call_eq (f4) (LpL.refl _) rfl ?_)
  
  | (with_reducible refine draw_g (id := 7) [[0, 1, 3, 4, 7, 8, 9, 10, 11, 2, 5, 6, 12, 13, 14], [15, 16]] tok mixed (by kernel_rfl) ?_)
  | (with_reducible refine Chk.mk' (by first | omega | exact trivial | (simp only [List.length_append, List.length_set, List.length_replicate, List.length_take, List.length_drop, List.length_cons, List.length_nil, List.length_map]; omega)) ?_)
  | (with_reducible refine wrap_g (by dsimp only [inR]; omega) ?_)
  | (with_reducible refine idx_g (by omega) ?_)
  | (with_reducible refine idx_l _ rfl (by decide) ?_)
  | (with_reducible refine BothG.mk ?_ ?_)
  | (with_reducible refine fork_tt ?_) | (with_reducible refine fork_ff ?_)
  | (with_reducible refine fork_e (c := true) (by decide) ?_; with_reducible refine fork_tt ?_) | (with_reducible refine fork_e (c := false) (by decide) ?_; with_reducible refine fork_ff ?_)
  | (with_reducible refine fork_t (by omega) ?_) | (with_reducible refine fork_f (by omega) ?_)
  | (with_reducible refine fork_d ?_ ?_ <;> intro hc)
  | (with_reducible refine fork_n ?_)
  | (with_reducible refine fork_b ?_ ?_ <;> intro hc)
  | (with_reducible refine SlcG.mk (by omega) ?_)
  | (with_reducible refine MakG.mk (by dsimp only; omega) ?_)
  | (with_reducible refine AppG.mk (by first | omega | (simp only [List.length_append, List.length_set, List.length_replicate, List.length_take, List.length_drop, List.length_cons, List.length_nil, List.length_map]; omega)) (by dsimp only [List.length_cons, List.length_nil]; omega) (by omega) ?_)
  | (with_reducible refine div_g (by omega) (by omega) (by dsimp only [inR]; omega) ?_)
  | (with_reducible refine mod_g (by omega) (by omega) ?_)
  | (with_reducible refine mask_g (m := 4294967296) 32 rfl rfl (by decide) (by omega) ?_)
  | (with_reducible refine shr_g (m := 4294967296) 32 rfl (by decide) (by omega) rfl ?_)
  | (with_reducible refine fz_all (by omega) ?_)
  | (with_reducible refine Stuck.h (A := RetE _ _) ?_) | (with_reducible refine Stuck.h (A := RetM _ _ _ _) ?_) | (with_reducible refine Stuck.h (A := Again _ _ _ _ _ _ _ _) ?_) | (with_reducible refine Stuck.h (A := CallF _ _ _ _ _ _ _) ?_) | (with_reducible refine Stuck.h (A := LoopG _ _ _ _ _ _ _ _) ?_) | (with_reducible refine Stuck.h (A := DrawG _ _ _ _ _ _ _ _) ?_)
  | (with_reducible refine Stuck.h (A := WrapG _ _ _) ?_) | (with_reducible refine Stuck.h (A := DivG _ _ _ _) ?_) | (with_reducible refine Stuck.h (A := ModG _ _ _) ?_) | (with_reducible refine Stuck.h (A := ShlG _ _ _ _) ?_) | (with_reducible refine Stuck.h (A := ShrG _ _ _ _) ?_) | (with_reducible refine Stuck.h (A := BitG _ _ _ _ _) ?_)
  | (with_reducible refine Stuck.h (A := IdxG _ _ _) ?_) | (with_reducible refine Stuck.h (A := IdxL _ _ _) ?_) | (with_reducible refine Stuck.h (A := SlcG _ _ _ _ _) ?_) | (with_reducible refine Stuck.h (A := MakG _ _ _ _) ?_) | (with_reducible refine Stuck.h (A := AppG _ _ _ _ _ _ _) ?_) | (with_reducible refine Stuck.h (A := FzG _ _ _ _) ?_)
  | (with_reducible refine Stuck.h (A := RawG _) ?_) | (with_reducible refine Stuck.h (A := TabG _ _ _ _ _) ?_) | (with_reducible refine Stuck.h (A := ExtF _ _ _ _) ?_) | (with_reducible refine Stuck.h (A := Chk _ _) ?_) | (with_reducible refine Stuck.h (A := False) ?_))
    all_goals exact ⟨ret_l _ (lp_dyE 5) rfl⟩
  · have hR : mulS n e m f = toldS (n * m) (e + f) := by
      unfold mulS
      by_cases hL : 8192 < L64 (n * m).natAbs
      · rw [if_pos hL]
        have ho : (n * m).natAbs % 2 = 1 := by
          have a1 := h.2.2.2.2 h0
          have a2 := k.2.2.2.2 h1
          rw [Int.natAbs_mul, Nat.mul_mod, show n.natAbs % 2 = 1 by omega, show m.natAbs % 2 = 1 by omega]
        have hne : n * m ≠ 0 := fun hh => by rw [hh] at ho; cases ho
        have h32 := L64_L32 (n * m).natAbs
        unfold toldS
        rw [if_neg hne, tz_odd ho, Nat.pow_zero, Nat.div_one]
        by_cases c1 : 1048576 < e + f
        · rw [if_pos c1]
        · rw [if_neg c1]
          by_cases c2 : e + f < -1099511627776
          · rw [if_pos c2]
          · rw [if_neg c2, if_pos (by omega)]
      · rw [if_neg hL]
    rw [hR]
    obtain ⟨x, y, c, hr, hgd, hcc⟩ := told_form (n * m) (e + f)
    rw [hr] at f8 ⊢
    obtain ⟨v, hv⟩ : ∃ v, v = n * m := ⟨_, rfl⟩
    rw [← hv] at f7 f8
    clear hR hr
    refine FC.intro (X := XX) tok Tryz.func98 rfl Tryz.ntmps98 (by rw [Tryz.results98]) (by kernel_rfl) rfl ?_; intro F hG hO
    rw [← hG] at f1 f2 f3 f4 f5 f6 f7 f8
    repeat' ((try (conv => whnf)); first
  | ((with_reducible refine cg ?_); refine call_eq (f1) (LpL.refl _) rfl ?_)
  | ((with_reducible refine cg ?_); refine call_eq (f2) (LpL.refl _) rfl ?_)
  | ((with_reducible refine cg ?_); refine call_eq (f3) (LpL.refl _) rfl ?_)
  | ((with_reducible refine cg ?_); refine call_eq (f4) (LpL.refl _) rfl ?_)
  | ((with_reducible refine cg ?_); refine call_eq (f5) (LpL.refl _) rfl ?_)
  | ((with_reducible refine cg ?_); refine call_eq (f6) (LpL.refl _) rfl ?_)
  | ((with_reducible refine cg ?_); refine call_eq (f7) (LpL.refl _) rfl ?_)
  | ((with_reducible refine cg ?_); refine call_eq (f8) (LpL.refl _) rfl ?_)
  
  | (with_reducible refine draw_g (id := 7) [[0, 1, 3, 4, 7, 8, 9, 10, 11, 2, 5, 6, 12, 13, 14], [15, 16]] tok mixed (by kernel_rfl) ?_)
  | (with_reducible refine Chk.mk' (by first | omega | exact trivial | (simp only [List.length_append, List.length_set, List.length_replicate, List.length_take, List.length_drop, List.length_cons, List.length_nil, List.length_map]; omega)) ?_)
  | (with_reducible refine wrap_g (by dsimp only [inR]; omega) ?_)
  | (with_reducible refine idx_g (by omega) ?_)
  | (with_reducible refine idx_l _ rfl (by decide) ?_)
  | (with_reducible refine BothG.mk ?_ ?_)
  | (with_reducible refine fork_tt ?_) | (with_reducible refine fork_ff ?_)
  | (with_reducible refine fork_e (c := true) (by decide) ?_; with_reducible refine fork_tt ?_) | (with_reducible refine fork_e (c := false) (by decide) ?_; with_reducible refine fork_ff ?_)
  | (with_reducible refine fork_t (by omega) ?_) | (with_reducible refine fork_f (by omega) ?_)
  | (with_reducible refine fork_d ?_ ?_ <;> intro hc)
  | (with_reducible refine fork_n ?_)
  | (with_reducible refine fork_b ?_ ?_ <;> intro hc)
  | (with_reducible refine SlcG.mk (by omega) ?_)
  | (with_reducible refine MakG.mk (by dsimp only; omega) ?_)
  | (with_reducible refine AppG.mk (by first | omega | (simp only [List.length_append, List.length_set, List.length_replicate, List.length_take, List.length_drop, List.length_cons, List.length_nil, List.length_map]; omega)) (by dsimp only [List.length_cons, List.length_nil]; omega) (by omega) ?_)
  | (with_reducible refine div_g (by omega) (by omega) (by dsimp only [inR]; omega) ?_)
  | (with_reducible refine mod_g (by omega) (by omega) ?_)
  | (with_reducible refine mask_g (m := 4294967296) 32 rfl rfl (by decide) (by omega) ?_)
  | (with_reducible refine shr_g (m := 4294967296) 32 rfl (by decide) (by omega) rfl ?_)
  | (with_reducible refine fz_all (by omega) ?_)
  | (with_reducible refine Stuck.h (A := RetE _ _) ?_) | (with_reducible refine Stuck.h (A := RetM _ _ _ _) ?_) | (with_reducible refine Stuck.h (A := Again _ _ _ _ _ _ _ _) ?_) | (with_reducible refine Stuck.h (A := CallF _ _ _ _ _ _ _) ?_) | (with_reducible refine Stuck.h (A := LoopG _ _ _ _ _ _ _ _) ?_) | (with_reducible refine Stuck.h (A := DrawG _ _ _ _ _ _ _ _) ?_)
  | (with_reducible refine Stuck.h (A := WrapG _ _ _) ?_) | (with_reducible refine Stuck.h (A := DivG _ _ _ _) ?_) | (with_reducible refine Stuck.h (A := ModG _ _ _) ?_) | (with_reducible refine Stuck.h (A := ShlG _ _ _ _) ?_) | (with_reducible refine Stuck.h (A := ShrG _ _ _ _) ?_) | (with_reducible refine Stuck.h (A := BitG _ _ _ _ _) ?_)
  | (with_reducible refine Stuck.h (A := IdxG _ _ _) ?_) | (with_reducible refine Stuck.h (A := IdxL _ _ _) ?_) | (with_reducible refine Stuck.h (A := SlcG _ _ _ _ _) ?_) | (with_reducible refine Stuck.h (A := MakG _ _ _ _) ?_) | (with_reducible refine Stuck.h (A := AppG _ _ _ _ _ _ _) ?_) | (with_reducible refine Stuck.h (A := FzG _ _ _ _) ?_)
  | (with_reducible refine Stuck.h (A := RawG _) ?_) | (with_reducible refine Stuck.h (A := TabG _ _ _ _ _) ?_) | (with_reducible refine Stuck.h (A := ExtF _ _ _ _) ?_) | (with_reducible refine Stuck.h (A := Chk _ _) ?_) | (with_reducible refine Stuck.h (A := False) ?_))
    all_goals exact ⟨ret_e rfl⟩
end Go.Proofs.YtbeocnjlepcglaaGreatDoor.Sim
namespace Go.Proofs.YtbeocnjlepcglaaGreatDoor.Sim
open Go.RowKit
set_option linter.unusedVariables false
set_option linter.unusedSimpArgs false
set_option maxRecDepth 10000
set_option maxHeartbeats 8000000
variable {G : List (Nat × List Value)}
theorem agree_mul {g : List (Nat × List Value)} (hD : (0, debT.map (Value.int .u8)) ∈ g) (b1 : Bool) (l1 : List Int) (e1 : Int) (b2 : Bool) (l2 : List Int) (e2 : Int) (o1 : okD 18446744073709551616 l1) (o2 : okD 18446744073709551616 l2) : Agree g 17 98 [Dy b1 l1 e1, Dy b2 l2 e2] := by
  cases h1 : dyF b1 l1 e1 with
  | false => exact agree_E 2 (y_mulX b1 l1 e1 o1 h1 b2 l2 e2) (r_docmulX b1 l1 e1 o1 h1 b2 l2 e2)
  | true =>
    obtain ⟨n, h, hd⟩ := dyF_ex o1 h1
    rw [hd]
    cases h2 : dyF b2 l2 e2 with
    | false => exact agree_E 2 (y_mulY h b2 l2 e2 o2 h2) (r_docmulY h b2 l2 e2 o2 h2)
    | true =>
      obtain ⟨m, k, hd2⟩ := dyF_ex o2 h2
      rw [hd2]
      exact agree_of (form5 (mul_form n _ m _)) (y_mul hD h k) (r_docmul h k)
theorem l_answerMul (b1 : Bool) (l1 : List Int) (e1 : Int) (b2 : Bool) (l2 : List Int) (e2 : Int) (b3 : Bool) (l3 : List Int) (m : Int) (x y c : Int) (h : FC Tryz.prog G 17 [Dy b1 l1 e1, Dy b2 l2 e2] (· = .tup [DY x y, .val (.int .i64 c)])) : FC Tryz.prog G 58 [OpV 9 b1 l1 e1 b2 l2 e2 b3 l3 m] (· = .tup [DY x y, .val (.int .i64 c)]) := by
  refine FC.intro (X := XX) tok Tryz.func58 rfl Tryz.ntmps58 (by rw [Tryz.results58]) (by kernel_rfl) rfl ?_; intro F hG hO
  rw [← hG] at h
  repeat' ((try (conv => whnf)); first
  | ((with_reducible refine cg ?_); refine call_eq (h) (LpL.refl _) rfl ?_)
  
  | (with_reducible refine Chk.mk' (by first | omega | exact trivial | (simp only [List.length_append, List.length_set, List.length_replicate, List.length_take, List.length_drop, List.length_cons, List.length_nil, List.length_map]; omega)) ?_)
  | (with_reducible refine wrap_g (by dsimp only [inR]; omega) ?_)
  | (with_reducible refine idx_g (by omega) ?_)
  | (with_reducible refine idx_l _ rfl (by decide) ?_)
  | (with_reducible refine BothG.mk ?_ ?_)
  | (with_reducible refine fork_tt ?_) | (with_reducible refine fork_ff ?_)
  | (with_reducible refine fork_e (c := true) (by decide) ?_; with_reducible refine fork_tt ?_) | (with_reducible refine fork_e (c := false) (by decide) ?_; with_reducible refine fork_ff ?_)
  | (with_reducible refine fork_t (by omega) ?_) | (with_reducible refine fork_f (by omega) ?_)
  | (with_reducible refine fork_d ?_ ?_ <;> intro hc)
  | (with_reducible refine fork_n ?_)
  | (with_reducible refine fork_b ?_ ?_ <;> intro hc)
  | (with_reducible refine SlcG.mk (by omega) ?_)
  | (with_reducible refine MakG.mk (by dsimp only; omega) ?_)
  | (with_reducible refine AppG.mk (by first | omega | (simp only [List.length_append, List.length_set, List.length_replicate, List.length_take, List.length_drop, List.length_cons, List.length_nil, List.length_map]; omega)) (by dsimp only [List.length_cons, List.length_nil]; omega) (by omega) ?_)
  | (with_reducible refine div_g (by omega) (by omega) (by dsimp only [inR]; omega) ?_)
  | (with_reducible refine mod_g (by omega) (by omega) ?_)
  | (with_reducible refine mask_g (m := 4294967296) 32 rfl rfl (by decide) (by omega) ?_)
  | (with_reducible refine shr_g (m := 4294967296) 32 rfl (by decide) (by omega) rfl ?_)
  | (with_reducible refine fz_all (by omega) ?_)
  | (with_reducible refine Stuck.h (A := RetE _ _) ?_) | (with_reducible refine Stuck.h (A := RetM _ _ _ _) ?_) | (with_reducible refine Stuck.h (A := Again _ _ _ _ _ _ _ _) ?_) | (with_reducible refine Stuck.h (A := CallF _ _ _ _ _ _ _) ?_) | (with_reducible refine Stuck.h (A := LoopG _ _ _ _ _ _ _ _) ?_) | (with_reducible refine Stuck.h (A := DrawG _ _ _ _ _ _ _ _) ?_)
  | (with_reducible refine Stuck.h (A := WrapG _ _ _) ?_) | (with_reducible refine Stuck.h (A := DivG _ _ _ _) ?_) | (with_reducible refine Stuck.h (A := ModG _ _ _) ?_) | (with_reducible refine Stuck.h (A := ShlG _ _ _ _) ?_) | (with_reducible refine Stuck.h (A := ShrG _ _ _ _) ?_) | (with_reducible refine Stuck.h (A := BitG _ _ _ _ _) ?_)
  | (with_reducible refine Stuck.h (A := IdxG _ _ _) ?_) | (with_reducible refine Stuck.h (A := IdxL _ _ _) ?_) | (with_reducible refine Stuck.h (A := SlcG _ _ _ _ _) ?_) | (with_reducible refine Stuck.h (A := MakG _ _ _ _) ?_) | (with_reducible refine Stuck.h (A := AppG _ _ _ _ _ _ _) ?_) | (with_reducible refine Stuck.h (A := FzG _ _ _ _) ?_)
  | (with_reducible refine Stuck.h (A := RawG _) ?_) | (with_reducible refine Stuck.h (A := TabG _ _ _ _ _) ?_) | (with_reducible refine Stuck.h (A := ExtF _ _ _ _) ?_) | (with_reducible refine Stuck.h (A := Chk _ _) ?_) | (with_reducible refine Stuck.h (A := False) ?_))
  exact ⟨ret_e rfl⟩
theorem l_docDocMul (b1 : Bool) (l1 : List Int) (e1 : Int) (b2 : Bool) (l2 : List Int) (e2 : Int) (b3 : Bool) (l3 : List Int) (m : Int) (x y c : Int) (h : FC Tryz.prog G 98 [Dy b1 l1 e1, Dy b2 l2 e2] (· = .tup [DY x y, .val (.int .i64 c)])) : FC Tryz.prog G 55 [OpV 9 b1 l1 e1 b2 l2 e2 b3 l3 m] (· = .tup [DY x y, .val (.int .i64 c)]) := by
  refine FC.intro (X := XX) tok Tryz.func55 rfl Tryz.ntmps55 (by rw [Tryz.results55]) (by kernel_rfl) rfl ?_; intro F hG hO
  rw [← hG] at h
  repeat' ((try (conv => whnf)); first
  | ((with_reducible refine cg ?_); refine call_eq (h) (LpL.refl _) rfl ?_)
  
  | (with_reducible refine Chk.mk' (by first | omega | exact trivial | (simp only [List.length_append, List.length_set, List.length_replicate, List.length_take, List.length_drop, List.length_cons, List.length_nil, List.length_map]; omega)) ?_)
  | (with_reducible refine wrap_g (by dsimp only [inR]; omega) ?_)
  | (with_reducible refine idx_g (by omega) ?_)
  | (with_reducible refine idx_l _ rfl (by decide) ?_)
  | (with_reducible refine BothG.mk ?_ ?_)
  | (with_reducible refine fork_tt ?_) | (with_reducible refine fork_ff ?_)
  | (with_reducible refine fork_e (c := true) (by decide) ?_; with_reducible refine fork_tt ?_) | (with_reducible refine fork_e (c := false) (by decide) ?_; with_reducible refine fork_ff ?_)
  | (with_reducible refine fork_t (by omega) ?_) | (with_reducible refine fork_f (by omega) ?_)
  | (with_reducible refine fork_d ?_ ?_ <;> intro hc)
  | (with_reducible refine fork_n ?_)
  | (with_reducible refine fork_b ?_ ?_ <;> intro hc)
  | (with_reducible refine SlcG.mk (by omega) ?_)
  | (with_reducible refine MakG.mk (by dsimp only; omega) ?_)
  | (with_reducible refine AppG.mk (by first | omega | (simp only [List.length_append, List.length_set, List.length_replicate, List.length_take, List.length_drop, List.length_cons, List.length_nil, List.length_map]; omega)) (by dsimp only [List.length_cons, List.length_nil]; omega) (by omega) ?_)
  | (with_reducible refine div_g (by omega) (by omega) (by dsimp only [inR]; omega) ?_)
  | (with_reducible refine mod_g (by omega) (by omega) ?_)
  | (with_reducible refine mask_g (m := 4294967296) 32 rfl rfl (by decide) (by omega) ?_)
  | (with_reducible refine shr_g (m := 4294967296) 32 rfl (by decide) (by omega) rfl ?_)
  | (with_reducible refine fz_all (by omega) ?_)
  | (with_reducible refine Stuck.h (A := RetE _ _) ?_) | (with_reducible refine Stuck.h (A := RetM _ _ _ _) ?_) | (with_reducible refine Stuck.h (A := Again _ _ _ _ _ _ _ _) ?_) | (with_reducible refine Stuck.h (A := CallF _ _ _ _ _ _ _) ?_) | (with_reducible refine Stuck.h (A := LoopG _ _ _ _ _ _ _ _) ?_) | (with_reducible refine Stuck.h (A := DrawG _ _ _ _ _ _ _ _) ?_)
  | (with_reducible refine Stuck.h (A := WrapG _ _ _) ?_) | (with_reducible refine Stuck.h (A := DivG _ _ _ _) ?_) | (with_reducible refine Stuck.h (A := ModG _ _ _) ?_) | (with_reducible refine Stuck.h (A := ShlG _ _ _ _) ?_) | (with_reducible refine Stuck.h (A := ShrG _ _ _ _) ?_) | (with_reducible refine Stuck.h (A := BitG _ _ _ _ _) ?_)
  | (with_reducible refine Stuck.h (A := IdxG _ _ _) ?_) | (with_reducible refine Stuck.h (A := IdxL _ _ _) ?_) | (with_reducible refine Stuck.h (A := SlcG _ _ _ _ _) ?_) | (with_reducible refine Stuck.h (A := MakG _ _ _ _) ?_) | (with_reducible refine Stuck.h (A := AppG _ _ _ _ _ _ _) ?_) | (with_reducible refine Stuck.h (A := FzG _ _ _ _) ?_)
  | (with_reducible refine Stuck.h (A := RawG _) ?_) | (with_reducible refine Stuck.h (A := TabG _ _ _ _ _) ?_) | (with_reducible refine Stuck.h (A := ExtF _ _ _ _) ?_) | (with_reducible refine Stuck.h (A := Chk _ _) ?_) | (with_reducible refine Stuck.h (A := False) ?_))
  exact ⟨ret_e rfl⟩
theorem l_playsMul {g : List (Nat × List Value)} (hD : (0, debT.map (Value.int .u8)) ∈ g) (b1 : Bool) (l1 : List Int) (e1 : Int) (b2 : Bool) (l2 : List Int) (e2 : Int) (b3 : Bool) (l3 : List Int) (m : Int) (o1 : OKL l1) (o2 : OKL l2) (o3 : OKL l3) (hm : inR .i64 m) : FC Tryz.prog g 49 [OpV 9 b1 l1 e1 b2 l2 e2 b3 l3 m] (· = .val (.bool true)) := by
  obtain ⟨x, y, c, hg, h1, h2⟩ := agree_mul hD b1 l1 e1 b2 l2 e2 o1.1 o2.1
  have f1 := l_twin (G := g) 9 b1 l1 e1 b2 l2 e2 b3 l3 m o1.2 o2.2 o3.2
  have f2 := l_answerMul b1 l1 e1 b2 l2 e2 b3 l3 m x y c h1
  have f3 := l_docDocMul b1 l1 e1 b2 l2 e2 b3 l3 m x y c h2
  have f4 := l_told (G := g) c hg
  refine FC.intro (X := XX) tok Tryz.func49 rfl Tryz.ntmps49 (by rw [Tryz.results49]) (by kernel_rfl) rfl ?_; intro F hG hO
  rw [← hG] at f1 f2 f3 f4
  repeat' ((try (conv => whnf)); first
  | ((with_reducible refine cg ?_); refine call_eq (f1) (LpL.refl _) rfl ?_)
  | ((with_reducible refine cg ?_); refine call_eq (f2) (LpL.refl _) rfl ?_)
  | ((with_reducible refine cg ?_); refine call_eq (f3) (LpL.refl _) rfl ?_)
  | ((with_reducible refine cg ?_); refine call_eq (f4) (LpL.refl _) rfl ?_)
  
  | (with_reducible refine draw_g (id := 4) [[0, 1, 3, 4, 2, 5, 6, 7]] tok mixed (by kernel_rfl) ?_)
  | (with_reducible refine Chk.mk' (by first | omega | exact trivial | (simp only [List.length_append, List.length_set, List.length_replicate, List.length_take, List.length_drop, List.length_cons, List.length_nil, List.length_map]; omega)) ?_)
  | (with_reducible refine wrap_g (by dsimp only [inR]; omega) ?_)
  | (with_reducible refine idx_g (by omega) ?_)
  | (with_reducible refine idx_l _ rfl (by decide) ?_)
  | (with_reducible refine BothG.mk ?_ ?_)
  | (with_reducible refine fork_tt ?_) | (with_reducible refine fork_ff ?_)
  | (with_reducible refine fork_e (c := true) (by decide) ?_; with_reducible refine fork_tt ?_) | (with_reducible refine fork_e (c := false) (by decide) ?_; with_reducible refine fork_ff ?_)
  | (with_reducible refine fork_t (by omega) ?_) | (with_reducible refine fork_f (by omega) ?_)
  | (with_reducible refine fork_d ?_ ?_ <;> intro hc)
  | (with_reducible refine fork_n ?_)
  | (with_reducible refine fork_b ?_ ?_ <;> intro hc)
  | (with_reducible refine SlcG.mk (by omega) ?_)
  | (with_reducible refine MakG.mk (by dsimp only; omega) ?_)
  | (with_reducible refine AppG.mk (by first | omega | (simp only [List.length_append, List.length_set, List.length_replicate, List.length_take, List.length_drop, List.length_cons, List.length_nil, List.length_map]; omega)) (by dsimp only [List.length_cons, List.length_nil]; omega) (by omega) ?_)
  | (with_reducible refine div_g (by omega) (by omega) (by dsimp only [inR]; omega) ?_)
  | (with_reducible refine mod_g (by omega) (by omega) ?_)
  | (with_reducible refine mask_g (m := 4294967296) 32 rfl rfl (by decide) (by omega) ?_)
  | (with_reducible refine shr_g (m := 4294967296) 32 rfl (by decide) (by omega) rfl ?_)
  | (with_reducible refine fz_all (by omega) ?_)
  | (with_reducible refine Stuck.h (A := RetE _ _) ?_) | (with_reducible refine Stuck.h (A := RetM _ _ _ _) ?_) | (with_reducible refine Stuck.h (A := Again _ _ _ _ _ _ _ _) ?_) | (with_reducible refine Stuck.h (A := CallF _ _ _ _ _ _ _) ?_) | (with_reducible refine Stuck.h (A := LoopG _ _ _ _ _ _ _ _) ?_) | (with_reducible refine Stuck.h (A := DrawG _ _ _ _ _ _ _ _) ?_)
  | (with_reducible refine Stuck.h (A := WrapG _ _ _) ?_) | (with_reducible refine Stuck.h (A := DivG _ _ _ _) ?_) | (with_reducible refine Stuck.h (A := ModG _ _ _) ?_) | (with_reducible refine Stuck.h (A := ShlG _ _ _ _) ?_) | (with_reducible refine Stuck.h (A := ShrG _ _ _ _) ?_) | (with_reducible refine Stuck.h (A := BitG _ _ _ _ _) ?_)
  | (with_reducible refine Stuck.h (A := IdxG _ _ _) ?_) | (with_reducible refine Stuck.h (A := IdxL _ _ _) ?_) | (with_reducible refine Stuck.h (A := SlcG _ _ _ _ _) ?_) | (with_reducible refine Stuck.h (A := MakG _ _ _ _) ?_) | (with_reducible refine Stuck.h (A := AppG _ _ _ _ _ _ _) ?_) | (with_reducible refine Stuck.h (A := FzG _ _ _ _) ?_)
  | (with_reducible refine Stuck.h (A := RawG _) ?_) | (with_reducible refine Stuck.h (A := TabG _ _ _ _ _) ?_) | (with_reducible refine Stuck.h (A := ExtF _ _ _ _) ?_) | (with_reducible refine Stuck.h (A := Chk _ _) ?_) | (with_reducible refine Stuck.h (A := False) ?_))
  exact ⟨ret_e rfl⟩
theorem muls_law1 : mulS 3 (-1) (-5) 3 = dyR (-15) 2 := by
  unfold mulS
  rw [if_neg (by have := L64_le (x := Int.natAbs (3 * -5)) (n := 1) (by decide); omega)]
  exact told_good (Good.small (by decide) (by decide) (by decide))
theorem scale_law1 : scaleS 3 4 (-4) = dyR 3 0 := by
  unfold scaleS
  rw [if_neg (by decide), if_neg (by decide), if_neg (by decide)]
  exact told_good (Good.small (by decide) (by decide) (by decide))
theorem l_dyadicMuls {g : List (Nat × List Value)} (hD : (0, debT.map (Value.int .u8)) ∈ g) (n : Nat) (ops : Nat → OpR) (hn : n ≤ 9223372036854775807) (ho : ∀ i, i < n → (ops i).ok) : FC Tryz.prog g 6 [.fs 10 n (opsF ops)] (· = .val (.bool true)) := by
  have hp : ∀ i, i < n → 9 ≤ (ops i).k → (ops i).k ≤ 10 → FC Tryz.prog g 49 [(ops i).pv] (· = .val (.bool true)) := by
    intro i hi h1 h2
    obtain ⟨_, o1, o2, o3, hm⟩ := ho i hi
    rcases (show (ops i).k = 9 ∨ (ops i).k = 10 by omega) with h | h
    · rw [pv_kind h]; exact l_playsMul hD _ _ _ _ _ _ _ _ _ o1 o2 o3 hm
    · rw [pv_kind h]; exact l_playsScale hD _ _ _ _ _ _ _ _ _ o1 o2 o3 hm
  have f2 := l_all (G := g) n ops 9 10 hn hp
  have n1 := l_num (G := g) 3 (-1) (by decide) (by decide) (by decide)
  have n2 := l_num (G := g) (-5) 3 (by decide) (by decide) (by decide)
  have n3 := l_num (G := g) 3 4 (by decide) (by decide) (by decide)
  have n4 := l_num (G := g) (-15) 2 (by decide) (by decide) (by decide)
  have n5 := l_num (G := g) 3 0 (by decide) (by decide) (by decide)
  have c1 := y_mul hD (Good.small (m := 3) (e := -1) (by decide) (by decide) (by decide)) (Good.small (m := -5) (e := 3) (by decide) (by decide) (by decide))
  rw [muls_law1] at c1
  have c2 := y_scale (G := g) (-4) (Good.small (m := 3) (e := 4) (by decide) (by decide) (by decide)) (by dsimp only [inR]; omega)
  rw [scale_law1] at c2
  have c3 := l_told (G := g) 0 (Good.small (m := -15) (e := 2) (by decide) (by decide) (by decide))
  have c4 := l_told (G := g) 0 (Good.small (m := 3) (e := 0) (by decide) (by decide) (by decide))
  obtain ⟨f, hf⟩ : ∃ f, f = opsF ops := ⟨_, rfl⟩
  rw [← hf] at f2 ⊢
  clear hf
  refine FC.intro (X := XX) tok Tryz.func6 rfl Tryz.ntmps6 (by rw [Tryz.results6]) (by kernel_rfl) rfl ?_; intro F hG hO
  rw [← hG] at f2 n1 n2 n3 n4 n5 c1 c2 c3 c4
  repeat' ((try (conv => whnf)); first
  | ((with_reducible refine cg ?_); refine call_eq (f2) (LpL.refl _) rfl ?_)
  | ((with_reducible refine cg ?_); refine call_eq (n1) (LpL.refl _) rfl ?_)
  | ((with_reducible refine cg ?_); refine call_eq (n2) (LpL.refl _) rfl ?_)
  | ((with_reducible refine cg ?_); refine call_eq (n3) (LpL.refl _) rfl ?_)
  | ((with_reducible refine cg ?_); refine call_eq (n4) (LpL.refl _) rfl ?_)
  | ((with_reducible refine cg ?_); refine call_eq (n5) (LpL.refl _) rfl ?_)
  | ((with_reducible refine cg ?_); refine call_eq (c1) (LpL.refl _) rfl ?_)
  | ((with_reducible refine cg ?_); refine call_eq (c2) (LpL.refl _) rfl ?_)
  | ((with_reducible refine cg ?_); refine call_eq (c3) (LpL.refl _) rfl ?_)
  | ((with_reducible refine cg ?_); refine call_eq (c4) (LpL.refl _) rfl ?_)
  
  | (with_reducible refine draw_g (id := 3) [[0, 1, 2, 3, 4, 5, 6, 7, 8, 9, 10, 11, 12, 13, 14]] tok mixed (by kernel_rfl) ?_)
  | (with_reducible refine Chk.mk' (by first | omega | exact trivial | (simp only [List.length_append, List.length_set, List.length_replicate, List.length_take, List.length_drop, List.length_cons, List.length_nil, List.length_map]; omega)) ?_)
  | (with_reducible refine wrap_g (by dsimp only [inR]; omega) ?_)
  | (with_reducible refine idx_g (by omega) ?_)
  | (with_reducible refine idx_l _ rfl (by decide) ?_)
  | (with_reducible refine BothG.mk ?_ ?_)
  | (with_reducible refine fork_tt ?_) | (with_reducible refine fork_ff ?_)
  | (with_reducible refine fork_e (c := true) (by decide) ?_; with_reducible refine fork_tt ?_) | (with_reducible refine fork_e (c := false) (by decide) ?_; with_reducible refine fork_ff ?_)
  | (with_reducible refine fork_t (by omega) ?_) | (with_reducible refine fork_f (by omega) ?_)
  | (with_reducible refine fork_d ?_ ?_ <;> intro hc)
  | (with_reducible refine fork_n ?_)
  | (with_reducible refine fork_b ?_ ?_ <;> intro hc)
  | (with_reducible refine SlcG.mk (by omega) ?_)
  | (with_reducible refine MakG.mk (by dsimp only; omega) ?_)
  | (with_reducible refine AppG.mk (by first | omega | (simp only [List.length_append, List.length_set, List.length_replicate, List.length_take, List.length_drop, List.length_cons, List.length_nil, List.length_map]; omega)) (by dsimp only [List.length_cons, List.length_nil]; omega) (by omega) ?_)
  | (with_reducible refine div_g (by omega) (by omega) (by dsimp only [inR]; omega) ?_)
  | (with_reducible refine mod_g (by omega) (by omega) ?_)
  | (with_reducible refine mask_g (m := 4294967296) 32 rfl rfl (by decide) (by omega) ?_)
  | (with_reducible refine shr_g (m := 4294967296) 32 rfl (by decide) (by omega) rfl ?_)
  | (with_reducible refine fz_all (by omega) ?_)
  | (with_reducible refine Stuck.h (A := RetE _ _) ?_) | (with_reducible refine Stuck.h (A := RetM _ _ _ _) ?_) | (with_reducible refine Stuck.h (A := Again _ _ _ _ _ _ _ _) ?_) | (with_reducible refine Stuck.h (A := CallF _ _ _ _ _ _ _) ?_) | (with_reducible refine Stuck.h (A := LoopG _ _ _ _ _ _ _ _) ?_) | (with_reducible refine Stuck.h (A := DrawG _ _ _ _ _ _ _ _) ?_)
  | (with_reducible refine Stuck.h (A := WrapG _ _ _) ?_) | (with_reducible refine Stuck.h (A := DivG _ _ _ _) ?_) | (with_reducible refine Stuck.h (A := ModG _ _ _) ?_) | (with_reducible refine Stuck.h (A := ShlG _ _ _ _) ?_) | (with_reducible refine Stuck.h (A := ShrG _ _ _ _) ?_) | (with_reducible refine Stuck.h (A := BitG _ _ _ _ _) ?_)
  | (with_reducible refine Stuck.h (A := IdxG _ _ _) ?_) | (with_reducible refine Stuck.h (A := IdxL _ _ _) ?_) | (with_reducible refine Stuck.h (A := SlcG _ _ _ _ _) ?_) | (with_reducible refine Stuck.h (A := MakG _ _ _ _) ?_) | (with_reducible refine Stuck.h (A := AppG _ _ _ _ _ _ _) ?_) | (with_reducible refine Stuck.h (A := FzG _ _ _ _) ?_)
  | (with_reducible refine Stuck.h (A := RawG _) ?_) | (with_reducible refine Stuck.h (A := TabG _ _ _ _ _) ?_) | (with_reducible refine Stuck.h (A := ExtF _ _ _ _) ?_) | (with_reducible refine Stuck.h (A := Chk _ _) ?_) | (with_reducible refine Stuck.h (A := False) ?_))
  all_goals exact ⟨ret_e rfl⟩
end Go.Proofs.YtbeocnjlepcglaaGreatDoor.Sim
namespace Go.Proofs.YtbeocnjlepcglaaGreatDoor.Sim
open Go.RowKit Go.ChangeShapes Go.WideShapes
section
variable {H : Type} {enc : TypeId × Value → H} {P : Program}
/-- 'post' where nothing has turned below. -/
theorem post_below2 {f : Func} {s : ChangeSpec} {apart fresh handsOn again : Bool} {W W' : World} {args : Array Value} {v : Value} {ds gs : List (DataW H)} {before pa pv : List MemPlace}
    (hW : DataW.Whole enc P f.params.toList s.vars apart W args.toList ds gs before)
    (hres : ∀ (b : Nat) (sp : Nat → Bool) (hd : Bool), DataW.TrodAll enc P W' b sp hd f.resultTypes.toList (v.resultList f.resultTypes.size) (s.fn H (ds ++ gs)).results [])
    (hargs : ∀ sp : Nat → Bool, (∀ p ∈ before, sp p.block = true) → DataW.TrodAll enc P W' 0 sp true f.params.toList args.toList (s.fn H (ds ++ gs)).args pa)
    (hvars : ∀ sp : Nat → Bool, (∀ p ∈ before, sp p.block = true) → DataW.TrodVars enc P W' sp s.vars (s.fn H (ds ++ gs)).vars pv)
    (hps : before = pa ++ pv) (hb : Below W.heap.size W W')
    (hok : ∀ (j : Nat) (t : TypeId) (r : Value), f.resultTypes[j]? = some t → (v.resultList f.resultTypes.size)[j]? = some r → Value.okWide P W' .any 0 t r) :
    s.post enc P f apart fresh handsOn again W args v W' := by
  have hold : ∀ p ∈ before, (fun b => decide (b < W.heap.size)) p.block = true := fun p hp => by simpa using hW.lt p hp
  have hlt := hW.lt
  refine ⟨ds, gs, before, [], pa, pv, hW, hres _ _ _, hargs _ hold, hvars _ hold, hb.frame _, fun _ => ?_⟩
  obtain ⟨_, _, _, _, _, hz, hn⟩ := hW
  refine ⟨hok, _, _, ([] ++ pa) ++ pv, ⟨[] ++ pa, pv, trodAll_append (hargs _ (fun _ _ => rfl)) (hres _ _ _), hvars _ (fun _ _ => rfl), rfl, ?_, ?_⟩, ?_⟩
  · intro b off hp
    have hm : MemPlace.cell b off ∈ before := by rw [hps]; simpa using hp
    rw [hb.frozen (p := ⟨b, off, none⟩) (hlt _ hm)]
    exact hz b off hm
  · intro ha
    have := hn ha
    rw [hps] at this
    simpa using this
  · intro p hp _
    rw [hps]
    simpa using hp
end
end Go.Proofs.YtbeocnjlepcglaaGreatDoor.Sim
