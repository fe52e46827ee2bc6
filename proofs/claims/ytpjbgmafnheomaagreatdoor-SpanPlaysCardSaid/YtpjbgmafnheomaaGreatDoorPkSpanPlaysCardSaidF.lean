/-
  Lemmas of SpanPlaysCardSaid, part 6.
-/
import Derived.Test.YtpjbgmafnheomaaGreatDoorPkSpanPlaysCardSaidE
import Derived.Laws.Tables
import Derived.DeepKeys
namespace Go.Proofs.YtpjbgmafnheomaaGreatDoor.Sim
open Go.RowKit
set_option linter.unusedVariables false
set_option linter.unusedSimpArgs false
section
variable {P : Program} {F : Fr} {s : St} {o : Oper} {p q : PV}
def arT (P : Program) (t : TypeId) : Option (Nat × TypeId × Nat) := match P.underlying t with
  | some (.array n e) => (szT P e).map fun z => (n, e, z)
  | _ => none
theorem arT_ok {t e : TypeId} {n z : Nat} (h : arT P t = some (n, e, z)) : P.underlying t = some (.array n e) ∧ szT P e = some z := by
  unfold arT at h
  split at h
  · rename_i m e' hu
    cases hz : szT P e' with
    | none => simp [hz] at h
    | some m => simp [hz] at h; obtain ⟨rfl, rfl, rfl⟩ := h; exact ⟨hu, hz⟩
  · cases h
theorem run_arr {t e : TypeId} {n z : Nat} (h : arT P t = some (n, e, z)) {i : Int} (hi : 0 ≤ i ∧ i < n) (k : IntKind) (ad : Addr) (w : World) :
    (Instr.indexAt t (.pointer (some ad)) (.int k i)).run P w = .ok (.pointer (some (ad.add (i.toNat * z)))) w := by
  obtain ⟨hu, hz⟩ := arT_ok h
  simp [Instr.indexAt, run_underlying hu, Instr.sureAddr, asIntOf, hi, run_szT hz]
theorem still_idxA {t e : TypeId} {n z : Nat} {x y : Operand} {k : IntKind} {i : Int} (ho : o.op = .indexAddr t x y) (hy : pev s y = .val (.int k i)) (ht : arT P t = some (n, e, z)) (h : 0 ≤ i ∧ i < n) (hq : shift (pev s x) (i.toNat * z) = some q) : Still P F o s q := by
  intro c A w hi
  obtain ⟨ad, hv, hr⟩ := shift_ok (pev_rep hi x) hq
  exact ⟨_, hr, fun w' _ => by simp [execOp, ho, hv, pev_val hi hy, run_arr ht h]⟩
def setsP (cs : List PV) (n : Nat) : List PV → List PV
  | [] => cs
  | p :: ps => setsP (cs.set n p) (n + 1) ps
theorem setsP_len (ps : List PV) : ∀ (cs : List PV) (n : Nat), (setsP cs n ps).length = cs.length := by
  induction ps with
  | nil => intro cs n; rfl
  | cons p ps ih => intro cs n; simp [setsP, ih]
theorem sets_rep {c : Cx} : ∀ {ps : List PV} {vs : List Value}, RepL c ps vs → ∀ {cs : List PV} {A : Array Value} (n m : Nat), RepL c cs A.toList →
    RepL c (setsP cs (n + m) ps) ((vs.zipIdx m).foldl (fun cs (x : Value × Nat) => cs.setIfInBounds (n + x.2) x.1) A).toList
  | _, _, .nil, cs, A, n, m, h => h
  | _, _, .cons hr ht, cs, A, n, m, h => by
    simp only [setsP, List.zipIdx_cons, List.foldl_cons]
    have := sets_rep ht n (m + 1) (A := A.setIfInBounds (n + m) _) (by rw [Array.toList_setIfInBounds]; exact h.set (n + m) hr)
    rwa [← Nat.add_assoc] at this
def pfill (place : Nat → Option (Nat × Nat)) (cs : List PV) : List (Nat × PV) → Option (List PV)
  | [] => some cs
  | (i, p) :: rest => match place i with
    | none => none
    | some (off, size) => match okBox p, Nat.beq (pcells p).length size, Nat.ble (off + (pcells p).length) cs.length with
      | true, true, true => pfill place (setsP cs off (pcells p)) rest
      | _, _, _ => none
theorem fill_rep {c : Cx} {place : Nat → Option (Nat × Nat)} : ∀ {ps : List (Nat × PV)} {vs : List (Nat × Value)} {cs out : List PV} {A : Array Value}, ps.map Prod.fst = vs.map Prod.fst → RepL c (ps.map Prod.snd) (vs.map Prod.snd) →
    (∀ i v, (i, PV.val v) ∈ ps → v.cells.toList = [v]) → RepL c cs A.toList → pfill place cs ps = some out → ∃ B, Instr.fill place A vs = some B ∧ RepL c out B.toList
  | [], [], cs, out, A, _, _, _, h, hf => by
    simp only [pfill, Option.some.injEq] at hf; subst hf
    exact ⟨A, rfl, h⟩
  | [], _ :: _, _, _, _, h, _, _, _, _ => by simp at h
  | _ :: _, [], _, _, _, h, _, _, _, _ => by simp at h
  | (i, p) :: ps, (j, v) :: vs, cs, out, A, h1, h2, hv, h, hf => by
    simp only [List.map_cons, List.cons.injEq] at h1
    obtain ⟨rfl, h1⟩ := h1
    cases h2 with
    | cons hr ht =>
    simp only [pfill] at hf
    cases hp : place i with
    | none => simp [hp] at hf
    | some os =>
      obtain ⟨off, size⟩ := os
      simp only [hp] at hf
      split at hf
      · rename_i b1 b2 b3
        have hc := pcells_rep hr b1 (fun z hz => hv i z (by have hz' : p = .val z := hz; rw [hz']; simp))
        have e1 : v.cells.size = (pcells p).length := by rw [← Array.length_toList, hc.len]
        have e2 := Nat.eq_of_beq_eq_true b2
        have e3 := Nat.le_of_ble_eq_true b3
        have e4 : A.size = cs.length := by rw [← Array.length_toList, h.len]
        have h3 := sets_rep hc off 0 h
        have e5 : v.cells.zipIdx.foldl (fun cs (x : Value × Nat) => cs.setIfInBounds (off + x.2) x.1) A = (v.cells.toList.zipIdx 0).foldl (fun cs (x : Value × Nat) => cs.setIfInBounds (off + x.2) x.1) A := by
          rw [← Array.foldl_toList, Array.toList_zipIdx]
        obtain ⟨B, hB, hR⟩ := fill_rep h1 ht (fun i v hm => hv i v (List.mem_cons_of_mem _ hm)) (A := v.cells.zipIdx.foldl (fun cs (x : Value × Nat) => cs.setIfInBounds (off + x.2) x.1) A) (by rw [e5]; exact h3) hf
        refine ⟨B, ?_, hR⟩
        simp only [Instr.fill, hp]
        rw [if_neg (by simp [e1, e2]; omega)]
        exact hB
      · cases hf
def placeT (P : Program) (t : TypeId) : Option (Nat → Option (Nat × Nat)) := match P.underlying t with
  | some (.struct fs) => (fs.toList.mapM fun f => (P.info? f.type).map fun i => (f.offset, i.size)).map fun l i => l[i]?
  | some (.array _ e) => (szT P e).map fun z i => some (i * z, z)
  | _ => none
theorem run_buildP {t : TypeId} {place : Nat → Option (Nat × Nat)} {zs : List PV} (hp : placeT P t = some place) (hz : zeroT P t = some zs) {c : Cx} {ps : List (Nat × PV)} {vs : Array (Nat × Value)} {out : List PV} (h1 : ps.map Prod.fst = vs.toList.map Prod.fst)
    (h2 : RepL c (ps.map Prod.snd) (vs.toList.map Prod.snd)) (hv : ∀ i v, (i, PV.val v) ∈ ps → v.cells.toList = [v]) (hf : pfill place zs ps = some out) : ∃ B : Array Value, (∀ w, (Instr.build t vs).run P w = .ok (.agg B) w) ∧ RepL c out B.toList := by
  unfold zeroT at hz
  cases hit : P.info? t with
  | none => simp [hit] at hz
  | some it =>
    cases hv0 : it.zero with
    | none => simp [hit, hv0] at hz
    | some z =>
      simp only [hit, hv0, Option.bind_some, Option.map_some, Option.some.injEq] at hz
      subst hz
      obtain ⟨B, hB, hR⟩ := fill_rep h1 h2 hv (pcon_repL c z.cells.toList) (A := z.cells) hf
      refine ⟨B, fun w => run_build w t vs B ?_, hR⟩
      unfold placeT at hp
      cases hu : P.underlying t with
      | none => simp [hu] at hp
      | some d =>
        cases d <;> simp only [hu, reduceCtorEq] at hp
        case array n e =>
          cases hie : P.info? e with
          | none => simp [szT, hie] at hp
          | some ie =>
            simp only [szT, hie, Option.map_some, Option.some.injEq] at hp
            subst hp
            simpa [Program.built, hit, hu, hv0, hie] using hB
        case struct fields =>
          cases hm : fields.toList.mapM (fun f => (P.info? f.type).map fun i => (f.offset, i.size)) with
          | none => simp [hm] at hp
          | some places =>
            simp only [hm, Option.map_some, Option.some.injEq] at hp
            subst hp
            simpa [Program.built, hit, hu, hv0, hm] using hB
theorem still_build {t : TypeId} {parts : List (Nat × Operand)} {place : Nat → Option (Nat × Nat)} {zs out : List PV} (ho : o.op = .build t parts.toArray) (hp : placeT P t = some place) (hz : zeroT P t = some zs) (hv : ∀ i v, (i, PV.val v) ∈ parts.map (fun x => (x.1, pev s x.2)) → v.cells.toList = [v])
    (hf : pfill place zs (parts.map fun x => (x.1, pev s x.2)) = some out) : Still P F o s (.agg out) := by
  intro c A w hi
  obtain ⟨B, hB, hR⟩ := run_buildP hp hz (c := c) (ps := parts.map fun x => (x.1, pev s x.2)) (vs := (parts.map fun x => (x.1, A.eval x.2)).toArray) (by simp) (by
    simp only [List.map_map]
    have : ∀ l : List (Nat × Operand), RepL c (l.map (Prod.snd ∘ fun x => (x.1, pev s x.2))) (l.map (Prod.snd ∘ fun x => (x.1, A.eval x.2))) := fun l => by
      induction l with
      | nil => exact .nil
      | cons x l ih => exact .cons (pev_rep hi x.2) ih
    exact this parts) hv hf
  refine ⟨_, by simpa using Rep.agg (us := B.toList) hR, fun w' _ => ?_⟩
  simp [execOp, ho, hB]
def okv : PV → Bool
  | .val (.int _ _) => true
  | .val (.bool _) => true
  | .val (.float _ _) => true
  | .val _ => false
  | _ => true
def fbin : BinOp → FloatKind → Nat → Nat → Option Value
  | .add, k, a, b => (k.format.add a b).map (.float k)
  | .sub, k, a, b => (k.format.sub a b).map (.float k)
  | .mul, k, a, b => (k.format.mul a b).map (.float k)
  | .quo, k, a, b => (k.format.div a b).map (.float k)
  | .eql, k, a, b => some (.bool (k.format.order a b == some .eq))
  | .neq, k, a, b => some (.bool (k.format.order a b != some .eq))
  | .lss, k, a, b => some (.bool (k.format.order a b == some .lt))
  | .leq, k, a, b => some (.bool (k.format.order a b == some .lt || k.format.order a b == some .eq))
  | .gtr, k, a, b => some (.bool (k.format.order a b == some .gt))
  | .geq, k, a, b => some (.bool (k.format.order a b == some .gt || k.format.order a b == some .eq))
  | _, _, _, _ => none
theorem run_eqGuard_float (op : BinOp) (t : TypeId) (x y : Operand) (k k' : FloatKind) (a b : Nat) (w : World) : (eqGuard op t x y (.float k a) (.float k' b)).run P w = .ok () w := by
  unfold eqGuard; cases op <;> rfl
theorem still_fbin {op : BinOp} {t t' : TypeId} {x y : Operand} {k : FloatKind} {a b : Nat} {v : Value} (ho : o.op = .binOp op t x y t') (hx : pev s x = .val (.float k a)) (hy : pev s y = .val (.float k b)) (hv : fbin op k a b = some v) : Still P F o s (.val v) := by
  intro c A w hi
  refine ⟨v, .val _, fun w' _ => ?_⟩
  simp only [execOp, ho, pev_val hi hx, pev_val hi hy, Sem.run_bind, run_eqGuard_float, Result.andThen_ok]
  cases op <;> simp only [fbin, Option.map_eq_some_iff, Option.some.injEq, reduceCtorEq] at hv
  case add => obtain ⟨r, hr, rfl⟩ := hv; simp [binOp, Op.floatArith, hr]
  case sub => obtain ⟨r, hr, rfl⟩ := hv; simp [binOp, Op.floatArith, hr]
  case mul => obtain ⟨r, hr, rfl⟩ := hv; simp [binOp, Op.floatArith, hr]
  case quo => obtain ⟨r, hr, rfl⟩ := hv; simp [binOp, Op.floatArith, hr]
  all_goals (subst hv; simp [binOp, Op.floatCmp])
theorem still_fneg {t : TypeId} {x : Operand} {k : FloatKind} {b : Nat} (ho : o.op = .unOp .neg t x) (hx : pev s x = .val (.float k b)) : Still P F o s (.val (.float k (Op.negFloat k b))) := by
  intro c A w hi
  exact ⟨_, .val _, fun w' _ => by simp [execOp, ho, pev_val hi hx, Op.unary]⟩
theorem still_i2f {t t' : TypeId} {x : Operand} {d : TypeDesc} {k : IntKind} {k' : FloatKind} {n : Int} (ho : o.op = .convert t t' x) (hx : pev s x = .val (.int k n)) (ht : P.underlying t = some d) (ht' : P.underlying t' = some (.float k')) : Still P F o s (.val (.float k' (k'.nearest n))) := by
  intro c A w hi
  refine ⟨_, .val _, fun w' _ => ?_⟩
  simp only [execOp, ho, pev_val hi hx, convert, Sem.run_bind, run_underlying ht, run_underlying ht', Result.andThen_ok]
  cases d <;> rfl
theorem still_f2i {t t' : TypeId} {x : Operand} {d : TypeDesc} {k : FloatKind} {k' : IntKind} {b : Nat} {n : Int} (ho : o.op = .convert t t' x) (hx : pev s x = .val (.float k b)) (ht : P.underlying t = some d) (ht' : P.underlying t' = some (.int k')) (hn : (k.decode b).toInt .zero = some n) (h : k'.min ≤ n ∧ n ≤ k'.max) :
    Still P F o s (.val (.int k' n)) := by
  intro c A w hi
  refine ⟨_, .val _, fun w' _ => ?_⟩
  simp only [execOp, ho, pev_val hi hx, convert, Sem.run_bind, run_underlying ht, run_underlying ht', Result.andThen_ok]
  cases d <;> simp [Conv.floatToInt, hn, h]
theorem still_f2f {t t' : TypeId} {x : Operand} {d : TypeDesc} {k : FloatKind} {b : Nat} (ho : o.op = .convert t t' x) (hx : pev s x = .val (.float k b)) (ht : P.underlying t = some d) (ht' : P.underlying t' = some (.float k)) : Still P F o s (.val (.float k b)) := by
  intro c A w hi
  refine ⟨_, .val _, fun w' _ => ?_⟩
  simp only [execOp, ho, pev_val hi hx, convert, Sem.run_bind, run_underlying ht, run_underlying ht', Result.andThen_ok]
  cases d <;> simp [Conv.floatToFloat]
def ppart (P : Program) (t : TypeId) (l : List PV) (off : Nat) : Option PV := match aggT P t with
  | some true => match szT P t with
    | some n => match Nat.ble (off + n) l.length with
      | true => some (.agg ((l.drop off).take n))
      | false => none
    | none => none
  | some false => l[off]?
  | none => none
theorem part_ok {c : Cx} {t : TypeId} {l : List PV} {us : List Value} {off : Nat} (hl : RepL c l us) (h : ppart P t l off = some p) : ∃ v, Rep c p v ∧ ∀ w, (part t us.toArray off).run P w = .ok v w := by
  unfold ppart at h
  split at h
  · rename_i hb
    split at h
    · rename_i n hn
      split at h
      · rename_i hle
        cases h
        refine ⟨_, .agg ((hl.drop off).take n), fun w => ?_⟩
        have := Nat.le_of_ble_eq_true hle
        rw [hl.len] at this
        simp [part, run_isAgg hb, run_szT hn]
      · cases h
    · cases h
  · rename_i hb
    obtain ⟨u, hu, hr⟩ := hl.get h
    refine ⟨u, hr, fun w => ?_⟩
    simp [part, run_isAgg hb, hu]
  · cases h
def fldP (P : Program) (t : TypeId) (i : Nat) : Option (TypeId × Nat) := match P.underlying t with
  | some (.struct fs) => (fs[i]?).map fun f => (f.type, f.offset)
  | _ => none
theorem still_field {t ty : TypeId} {x : Operand} {i off : Nat} {l : List PV} (ho : o.op = .field t x i) (hx : pev s x = .agg l) (ht : fldP P t i = some (ty, off)) (h : ppart P ty l off = some p) : Still P F o s p := by
  intro c A w hi
  have hr := pev_rep hi x
  rw [hx] at hr
  generalize hq : A.eval x = z at hr
  cases hr with
  | agg hl =>
    obtain ⟨v, hv, hrun⟩ := part_ok hl h
    refine ⟨v, hv, fun w' _ => ?_⟩
    unfold fldP at ht
    split at ht
    · rename_i fs hu
      cases hf : fs[i]? with
      | none => simp [hf] at ht
      | some f =>
        simp only [hf, Option.map_some, Option.some.injEq, Prod.mk.injEq] at ht
        obtain ⟨rfl, rfl⟩ := ht
        simp [execOp, ho, hq, Instr.field, run_underlying hu, hf, asAgg, hrun]
    · cases ht
theorem run_ext {f : FuncId} {fn : Func} {e : Array Value → Sem Value} {as : Array Value} {v : Value} (hf : P.funcs[f]? = some fn) (h1 : (fn.name == "runtime.NumGoroutine") = false) (h2 : fn.body.isNone = true) (h3 : Extern.findNext fn = none) (h4 : Extern.find fn = some e) (he : ∀ w, (e as).run P w = .ok v w) (w : World) :
    (callFunc f as).run P w = .ok (.value v) w := by
  simp only [callFunc, Sem.run_bind, run_program, Result.andThen_ok, hf, h1, h2, h3, h4, Bool.false_eq_true, if_false, if_true]
  simp [he]
theorem SimW.newρ {c : Cx} {bx : List (List PV)} {ob : List (Option Row)} {w : World} (h : SimW c bx ob w) {us : List Value} {T : TypeId} (ρ' : Addr → Option Value)
    (hρ : ∀ ad, ρ' ad = if ad.block = w.heap.size ∧ ad.spot = none then us[ad.off]? else c.ρ ad) : c.le { c with ρ := ρ' } ∧ SimW { c with ρ := ρ' } bx ob (w.alloc (.cells us.toArray T)) := by
  have hnew : ∀ ad u, ρ' ad = some u → c.ρ ad = some u ∨ (ad.block = w.heap.size ∧ ad.spot = none ∧ us[ad.off]? = some u) := by
    intro ad u hu
    rw [hρ] at hu
    split at hu
    · rename_i hh; exact .inr ⟨hh.1, hh.2, hu⟩
    · exact .inl hu
  have k : c.le { c with ρ := ρ' } := by
    refine ⟨fun ad u hu => ?_, fun _ _ h => h, fun _ _ h => h⟩
    show ρ' ad = some u
    rw [hρ, if_neg (fun hh => by have := h.ρ_lt hu; omega)]
    exact hu
  have hg := h.grow (w' := w.alloc (.cells us.toArray T)) fun i hi => heap_alloc_old w _ _ hi
  refine ⟨k, ⟨fun ad u hu => ?_, hg.bl, hg.ol, fun i l hi => ?_, fun i l hl => ?_, hg.nb, hg.no, hg.nbo, fun ad u hu => ?_, fun ad u i y l hu hl hy => ?_⟩⟩
  · rcases hnew ad u hu with hu | ⟨h1, h2, h3⟩
    · exact hg.mem ad u hu
    · have := heap_alloc_new w (.cells us.toArray T)
      rw [← h1] at this
      simp [World.cell?, this, h2, h3]
  · obtain ⟨g, us', T, a1, a2, a3⟩ := hg.box i l hi
    exact ⟨g, us', T, a1, a2, a3.up k⟩
  · obtain ⟨y, us', a1, a2, a3, a4, a5, a6, a7⟩ := hg.obj i l hl
    exact ⟨y, us', a1, a2, a3, a4, a5, a6, a7.up k.strip⟩
  · rcases hnew ad u hu with hu | ⟨h1, _⟩
    · exact hg.sb ad u hu
    · intro hm
      obtain ⟨i, hgi⟩ := List.getElem?_of_mem hm
      have := h.bb_lt hgi
      omega
  · rcases hnew ad u hu with hu | ⟨h1, _⟩
    · exact hg.so ad u i y l hu hl hy
    · have := h.ob_lt hl hy
      omega
theorem Inv.newρ {c : Cx} {a : Act} {w : World} (hi : Inv F c s a w) {us : List Value} {T : TypeId} {z n : Nat} {out : List PV} (hz : 0 < z) (hn : n * z = out.length) (hR : RepL c out us) (hno : noHL out = true) :
    ∃ c' : Cx, Inv F c' s a (w.alloc (.cells us.toArray T)) ∧ Rep c' (.sl z out) (.slice (some ⟨w.heap.size, 0, none⟩) n n) := by
  obtain ⟨ρ', hρ⟩ : ∃ ρ' : Addr → Option Value, ∀ ad, ρ' ad = if ad.block = w.heap.size ∧ ad.spot = none then us[ad.off]? else c.ρ ad := ⟨_, fun _ => rfl⟩
  obtain ⟨k, hW⟩ := hi.W.newρ (T := T) ρ' hρ
  refine ⟨{ c with ρ := ρ' }, ⟨hW, hi.nd, hi.sz, fun t => (hi.tm t).up k, hi.kp.alloc hi.kp.size _, fun ad u hu => k.ρ _ _ (hi.rho ad u hu), fun ad u hu => ?_, hi.obp, hi.obB, hi.bbB⟩, .sl hz hn (Nat.le_refl _) ((hR.bare hno).up k.strip) fun j u hu => ⟨_, rfl, ?_⟩⟩
  · have hu' : ρ' ad = some u := hu
    rw [hρ] at hu'
    split at hu'
    · rename_i hh; exact .inr (by rw [hh.1]; exact hi.kp.size)
    · exact hi.new ad u hu'
  · show ρ' _ = some u
    rw [addr_add, hρ, if_pos ⟨rfl, rfl⟩]
    simpa using hu
def zrow (zs : List PV) (n : Nat) : List PV := (List.range n).map fun j => zs.getD (j % zs.length) .any
theorem Does.lit {K : St → Prop} {t e : TypeId} {z n : Nat} {parts : List (Nat × Operand)} {zs out : List PV} (ho : o.op = .buildSlice t n parts.toArray) (ht : elT P t = some (e, z)) (hz0 : 0 < z) (hz : zeroT P e = some zs) (hzl : zs.length = z) (hle : n * z ≤ 16777216)
    (hv : ∀ i v, (i, PV.val v) ∈ parts.map (fun x => (x.1, pev s x.2)) → v.cells.toList = [v]) (hf : pfill (fun i => some (i * z, z)) (zrow zs (n * z)) (parts.map fun x => (x.1, pev s x.2)) = some out) (hno : noHL out = true) (hl : out.length = n * z) (hd : s.fits o.dst = true)
    (k : K (s.put o.dst (.sl z out))) : Does P F o true s K := by
  intro R c A w hi
  obtain ⟨hu, hs⟩ := elT_ok ht
  unfold zeroT at hz
  cases hit : P.info? e with
  | none => simp [hit] at hz
  | some it =>
    cases hv0 : it.zero with
    | none => simp [hit, hv0] at hz
    | some zv =>
      simp only [hit, hv0, Option.bind_some, Option.map_some, Option.some.injEq] at hz
      have hzsz : zv.cells.size = z := by rw [← hzl, ← hz]; simp
      have hit' : it.size = z := by simpa [szT, hit] using hs
      have hbase : RepL c (zrow zs (n * z)) ((Array.range (n * z)).map (zv.cells[· % zv.cells.size]!)).toList := by
        refine .of (by simp [zrow]) fun j p u hp hu => ?_
        have hj : j < n * z := by
          have := (List.getElem?_eq_some_iff.1 hp).1
          simpa [zrow] using this
        have hm : j % z < z := Nat.mod_lt _ hz0
        have hm2 : j % zv.cells.size < zv.cells.toList.length := by rw [hzsz]; simpa [hzsz] using hm
        simp [zrow, hj, hzl] at hp
        simp [hj] at hu
        subst hp
        rw [← hz]
        have e1 : zv.cells[j % zv.cells.size]! = zv.cells.toList[j % zv.cells.size] := by
          rw [getElem!_pos zv.cells _ (by simpa using hm2)]; simp
        rw [e1] at hu
        subst hu
        have e2 : (List.map pcon zv.cells.toList)[j % z]? = some (pcon zv.cells.toList[j % zv.cells.size]) := by
          have : j % z = j % zv.cells.size := by rw [hzsz]
          rw [this, List.getElem?_map, List.getElem?_eq_getElem hm2]; rfl
        rw [e2]
        exact pcon_rep c _
      obtain ⟨B, hB, hR⟩ := fill_rep (c := c) (place := fun i => some (i * z, z)) (ps := parts.map fun x => (x.1, pev s x.2)) (vs := parts.map fun x => (x.1, A.eval x.2)) (by simp) (by
        simp only [List.map_map]
        have : ∀ l : List (Nat × Operand), RepL c (l.map (Prod.snd ∘ fun x => (x.1, pev s x.2))) (l.map (Prod.snd ∘ fun x => (x.1, A.eval x.2))) := fun l => by
          induction l with
          | nil => exact .nil
          | cons x l ih => exact .cons (pev_rep hi x.2) ih
        exact this parts) hv hbase hf
      have hrun : (execOp A.eval o).run P w = .ok (.value (.slice (some ⟨w.heap.size, 0, none⟩) n n)) (w.alloc (.cells B e)) := by
        have h24 : ¬ n * z > 16777216 := by omega
        by_cases h0 : n * z = 0
        · have hn0 : n = 0 := by
            rcases Nat.mul_eq_zero.1 h0 with h | h
            · exact h
            · omega
          subst hn0
          have hB' := hB
          simp only [Nat.zero_mul] at hB'
          simp [execOp, ho, Instr.buildSlice, run_underlying hu, sizeOf, typeInfo, hit, hit', newRow]
          have e0 : ∀ f : Nat → Value, Array.map f (Array.range 0) = #[] := fun f => by simp
          rw [e0] at hB'
          rw [e0, hB']
          simp [newRow]
        · simp [execOp, ho, Instr.buildSlice, run_underlying hu, sizeOf, typeInfo, hit, hit', h24, h0, zeroValue, hv0, hB, newRow]
      unfold Oper.wp
      rw [hrun]
      obtain ⟨c', hI, hr⟩ := hi.newρ (T := e) hz0 hl.symm hR hno
      simp only [Array.toArray_toList] at hI
      exact ⟨c', _, hI.put hd hr, k, fun _ => cell_grow fun j h => heap_alloc_old w _ _ h⟩
def bldT (P : Program) (t : TypeId) : Option (List PV × List (Nat × Nat)) := match zeroT P t, P.underlying t with
  | some zs, some (.struct fs) => (fs.toList.mapM fun f => (P.info? f.type).map fun i => (f.offset, i.size)).map fun l => (zs, l)
  | some zs, some (.array n e) => (szT P e).map fun z => (zs, (List.range n).map fun i => (i * z, z))
  | _, _ => none
theorem pfill_mono {pl pl' : Nat → Option (Nat × Nat)} (h : ∀ i x, pl i = some x → pl' i = some x) : ∀ {ps : List (Nat × PV)} {cs out : List PV}, pfill pl cs ps = some out → pfill pl' cs ps = some out
  | [], cs, out, hf => hf
  | (i, p) :: ps, cs, out, hf => by
    simp only [pfill] at hf ⊢
    cases hp : pl i with
    | none => simp [hp] at hf
    | some x =>
      obtain ⟨off, size⟩ := x
      rw [h i _ hp]
      simp only [hp] at hf ⊢
      split at hf
      · exact pfill_mono h hf
      · cases hf
theorem still_bld {t : TypeId} {parts : List (Nat × Operand)} {zs out : List PV} {l : List (Nat × Nat)} (ho : o.op = .build t parts.toArray) (hb : bldT P t = some (zs, l)) (hv : (parts.map fun x => (x.1, pev s x.2)).all (fun x => okv x.2) = true)
    (hf : pfill (fun i => l[i]?) zs (parts.map fun x => (x.1, pev s x.2)) = some out) : Still P F o s (.agg out) := by
  have hv' : ∀ i v, (i, PV.val v) ∈ parts.map (fun x => (x.1, pev s x.2)) → v.cells.toList = [v] := by
    intro i v hm
    have := List.all_eq_true.1 hv _ hm
    cases v <;> first | rfl | simp [okv] at this
  unfold bldT at hb
  split at hb
  · rename_i zs' fs hz hu
    cases hm : fs.toList.mapM (fun f => (P.info? f.type).map fun i => (f.offset, i.size)) with
    | none => simp [hm] at hb
    | some places =>
      simp only [hm, Option.map_some, Option.some.injEq, Prod.mk.injEq] at hb
      obtain ⟨rfl, rfl⟩ := hb
      exact still_build ho (place := fun i => places[i]?) (by simp [placeT, hu, hm]) hz hv' hf
  · rename_i zs' n e hz hu
    cases hs : szT P e with
    | none => simp [hs] at hb
    | some z =>
      simp only [hs, Option.map_some, Option.some.injEq, Prod.mk.injEq] at hb
      obtain ⟨rfl, rfl⟩ := hb
      refine still_build ho (place := fun i => some (i * z, z)) (by simp [placeT, hu, hs]) hz hv' (pfill_mono ?_ hf)
      intro i x hx
      simp only [List.getElem?_map, Option.map_eq_some_iff] at hx
      obtain ⟨j, hj, rfl⟩ := hx
      rw [List.getElem?_range (by have := (List.getElem?_eq_some_iff.1 hj).1; simpa using this)] at hj
      cases hj; rfl
  · cases hb
end
end Go.Proofs.YtpjbgmafnheomaaGreatDoor.Sim
