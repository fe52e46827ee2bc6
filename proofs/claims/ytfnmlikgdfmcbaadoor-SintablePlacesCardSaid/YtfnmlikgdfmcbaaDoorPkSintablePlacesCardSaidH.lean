/-
  Lemmas of SintablePlacesCardSaid, part 8.
-/
import Derived.Test.YtfnmlikgdfmcbaaDoorPkSintablePlacesCardSaidG
namespace Go.Proofs.YtfnmlikgdfmcbaaDoor.Sim
open Go.RowKit
set_option linter.unusedVariables false
set_option linter.unusedSimpArgs false
inductive Kd where
  | S | E | L
section
variable (P : Program) (G : List (Nat × List Value)) (X : List (FuncId × (List Value → Option PV)))
def putK (es : ES) (d : Option Nat) (p : PV) (k : ES → Option PV) : Option PV := match d with
  | none => k es
  | some d => fPV p fun p => setK none es.l d p fun l => k ⟨l, es.bx⟩
theorem putK_ok {es : ES} {d : Option Nat} {p : PV} {k : ES → Option PV} {r : PV} (h : putK es d p k = some r) : ∃ es', k es' = some r ∧ es'.st = es.st.put d p ∧ es.st.fits d = true := by
  unfold putK at h
  cases d with
  | none => exact ⟨es, h, rfl, rfl⟩
  | some d =>
    simp only [fPV_eq, setK_eq] at h
    split at h
    · rename_i hlt
      refine ⟨_, h, ?_, by simp [St.fits, ES.st, hlt]⟩
      simp [ES.st, St.put, argT_set _ _ _ hlt]
    · cases h
def cls (o : Oper) : Nat := match o.op with
  | .store .. => 2
  | .call { callee := .builtin .append, args := _, argTypes := _ } => 2
  | .call { callee := .builtin .copy, args := _, argTypes := _ } => 2
  | .call { callee := .builtin .clear, args := _, argTypes := _ } => 2
  | .call { callee := .value _, args := _, argTypes := _ } => 1
  | .alloc _ => 1
  | .box _ _ => 1
  | .makeSlice .. => 1
  | .buildSlice .. => 1
  | _ => 0
def evOp (cf : FuncId → List PV → (PV → Option PV) → Option PV) (es : ES) (o : Oper) (k : Kd → ES → Option PV) : Option PV := match evS P G X es.st o with
  | some p => putK es o.dst p fun es => k .S es
  | none => match o.op with
    | .alloc t => match zeroT P t with
      | some l => fList l fun l => snocK es.bx l fun bx => putK ⟨es.l, bx⟩ o.dst (.ptr es.bx.length 0) fun es => k .E es
      | none => none
    | .box t x => match okBox (pev es.st x) && okV (pev es.st x) with
      | true => snocK es.bx (pcells (pev es.st x)) fun bx => putK ⟨es.l, bx⟩ o.dst (.ptr es.bx.length 0) fun es => k .E es
      | false => none
    | .store t a x => match pev es.st a, szT P t with
      | .ptr b i, some n => match es.bx[b]? with
        | some l => match okBox (pev es.st x) && okV (pev es.st x) && (pcells (pev es.st x)).all (fun p => oneP p && okV p) && Nat.beq (pcells (pev es.st x)).length n && Nat.ble (i + n) l.length with
          | true => fList (over l i (pcells (pev es.st x))) fun m => setLK none es.bx b m fun bx => putK ⟨es.l, bx⟩ o.dst (.val undef) fun es => k .L es
          | false => none
        | none => none
      | _, _ => none
    | .buildSlice t n parts => match elT P t with
      | some (e, z) => match zeroT P e with
        | some zs => match Nat.blt 0 z && Nat.beq zs.length z && Nat.ble (n * z) 16777216 && (parts.toList.map fun x => (x.1, pev es.st x.2)).all (fun x => okV x.2) with
          | true => match pfill (fun i => some (i * z, z)) (zrow zs (n * z)) (parts.toList.map fun x => (x.1, pev es.st x.2)) with
            | some out => fList out fun out => match noHL out && Nat.beq out.length (n * z) with
              | true => putK es o.dst (.sl z out) fun es => k .E es
              | false => none
            | none => none
          | false => none
        | none => none
      | none => none
    | .call { callee := .value x, args := as, argTypes := _ } => match funOf (pev es.st x) with
      | some f => match callable P f && noHL (as.toList.map (pev es.st)) with
        | true => cf f (as.toList.map (pev es.st)) fun r => putK es o.dst r fun es => k .E es
        | false => none
      | none => none
    | _ => none
variable {P G X}
theorem evOp_ok {cf : FuncId → List PV → (PV → Option PV) → Option PV} (hX : XOk P X) (hcf : ∀ f args k r, cf f args k = some r → ∃ v, k v = some r ∧ PC P G f args (· = v)) {es : ES} {o : Oper} {k : Kd → ES → Option PV} {r : PV} (h : evOp P G X cf es o k = some r) :
    ∃ kd es', k kd es' = some r ∧ ∀ F : Fr, F.G = G → match kd with
      | .S => ∃ p, Still P F o es.st p ∧ es.st.fits o.dst = true ∧ es'.st = es.st.put o.dst p
      | .E => Does P F o true es.st (· = es'.st)
      | .L => Does P F o false es.st (· = es'.st) := by
  unfold evOp at h
  split at h
  · rename_i p hp
    obtain ⟨es', h1, h2, h3⟩ := putK_ok h
    exact ⟨.S, es', h1, fun F hF => ⟨p, evS_ok hF hX hp, h3, h2⟩⟩
  · split at h
    · rename_i t ho
      split at h
      · rename_i l hl
        rw [fList_eq, snocK_eq] at h
        obtain ⟨es', h1, h2, h3⟩ := putK_ok h
        exact ⟨.E, es', h1, fun F hF => Does.alloc ho hl h3 h2.symm⟩
      · cases h
    · rename_i t x ho
      split at h
      · rename_i hb
        simp only [Bool.and_eq_true] at hb
        rw [snocK_eq] at h
        obtain ⟨es', h1, h2, h3⟩ := putK_ok h
        exact ⟨.E, es', h1, fun F hF => Does.box ho rfl hb.1 (okV_cells hb.2) h3 h2.symm⟩
      · cases h
    · rename_i t a x ho
      split at h
      · rename_i b i n ha hn
        split at h
        · rename_i l hl
          split at h
          · rename_i hb
            simp only [Bool.and_eq_true] at hb
            obtain ⟨⟨⟨⟨b1, b2⟩, b3⟩, b4⟩, b5⟩ := hb
            rw [fList_eq, setLK_eq] at h
            split at h
            · obtain ⟨es', h1, h2, h3⟩ := putK_ok h
              refine ⟨.L, es', h1, fun F hF => Does.storeB ho ha hl rfl b1 (okV_cells b2) ?_ hn (Nat.eq_of_beq_eq_true b4) (Nat.le_of_ble_eq_true b5) h3 h2.symm⟩
              intro p hp
              have := List.all_eq_true.1 b3 p hp
              simp only [Bool.and_eq_true] at this
              exact ⟨this.1, okV_one this.2⟩
            · cases h
          · cases h
        · cases h
      · cases h
    · rename_i t n parts ho
      split at h
      · rename_i e z ht
        split at h
        · rename_i zs hz
          split at h
          · rename_i hb
            simp only [Bool.and_eq_true] at hb
            obtain ⟨⟨⟨b1, b2⟩, b3⟩, b4⟩ := hb
            split at h
            · rename_i out hf
              rw [fList_eq] at h
              split at h
              · rename_i hb2
                simp only [Bool.and_eq_true] at hb2
                obtain ⟨es', h1, h2, h3⟩ := putK_ok h
                refine ⟨.E, es', h1, fun F hF => Does.lit (parts := parts.toList) (by simpa using ho) ht (Nat.blt_eq.mp b1) hz (Nat.eq_of_beq_eq_true b2) (Nat.le_of_ble_eq_true b3) (fun i v hm => ?_) hf hb2.1 (Nat.eq_of_beq_eq_true hb2.2) h3 h2.symm⟩
                exact okV_cells (List.all_eq_true.1 b4 _ hm) v rfl
              · cases h
            · cases h
          · cases h
        · cases h
      · cases h
    · rename_i x as ts ho
      split at h
      · rename_i f hf
        split at h
        · rename_i hb
          simp only [Bool.and_eq_true] at hb
          obtain ⟨v, h1, h2⟩ := hcf _ _ _ _ h
          obtain ⟨es', h3, h4, h5⟩ := putK_ok h1
          refine ⟨.E, es', h3, fun F hF => Does.call (as := as.toList) (by simpa using ho) (funOf_eq hf) hb.1 hb.2 h5 ?_⟩
          rw [hF]
          exact h2.mono fun r hr => by subst hr; exact h4.symm
        · cases h
      · cases h
    · cases h
variable (P G X)
def evOps (cf : FuncId → List PV → (PV → Option PV) → Option PV) (ops : Array Oper) : List Oper → ES → (ES → Option PV) → Option PV
  | [], es, k => k es
  | o :: l, es, k => match pwant ops es.st o with
    | some true => evOp P G X cf es o fun _ es => evOps cf ops l es k
    | some false => putK es o.dst (.val undef) fun es => evOps cf ops l es k
    | none => none
def planG (ops : Array Oper) : Nat → Array Bool → List Nat × List (List Nat)
  | 0, _ => ([], [])
  | n + 1, listed =>
    let rs := Region.ready .any ops listed
    let c := fun i => match ops[i]? with
      | some o => cls o
      | none => 3
    match (rs.filter fun i => Nat.beq (c i) 0) ++ (rs.filter fun i => Nat.beq (c i) 1) ++ rs with
    | [] => ([], [])
    | i :: _ => match planG ops n (listed.setIfInBounds i true), Nat.beq (c i) 2 with
      | (a, b), true => ([], (i :: a) :: b)
      | (a, b), false => (i :: a, b)
def evStage (cf : FuncId → List PV → (PV → Option PV) → Option PV) (ops : Array Oper) : List Nat → Array Bool → ES → (Array Bool → ES → Option PV) → Option PV
  | [], listed, es, k => k listed es
  | i :: is, listed, es, k => match ops[i]? with
    | none => none
    | some o => match pwant ops es.st o with
      | some true => evOp P G X cf es o fun kd es => match kd with
        | .S => match chkS ops listed i is || sole ops listed i with
          | true => evStage cf ops is (listed.setIfInBounds i true) es k
          | false => none
        | .E => match sole ops listed i with
          | true => evStage cf ops is (listed.setIfInBounds i true) es k
          | false => none
        | .L => none
      | some false => match chkS ops listed i is with
        | true => putK es o.dst (.val undef) fun es => evStage cf ops is (listed.setIfInBounds i true) es k
        | false => none
      | none => none
def evLater (cf : FuncId → List PV → (PV → Option PV) → Option PV) (ops : Array Oper) : List (List Nat) → Array Bool → ES → (ES → Option PV) → Option PV
  | [], listed, es, k => match (Region.ready .any ops listed).isEmpty with
    | true => k es
    | false => none
  | [] :: _, _, _, _ => none
  | (i :: is) :: r, listed, es, k => match ops[i]? with
    | none => none
    | some o => match pwant ops es.st o, sole ops listed i with
      | some true, true => evOp P G X cf es o fun kd es => match kd with
        | .L => evStage P G X cf ops is (listed.setIfInBounds i true) es fun listed es => evLater cf ops r listed es k
        | _ => none
      | _, _ => none
def evStep (ec : Code → ES → (Exit → ES → Option PV) → Option PV) (cf : FuncId → List PV → (PV → Option PV) → Option PV) (c : Code) (es : ES) (k : Exit → ES → Option PV) : Option PV := match c with
  | .seq x y => ec x es fun e es => match e with
    | .normal => ec y es k
    | e => k e es
  | .region id ops false => evOps P G X cf ops ops.toList es fun es => k .normal es
  | .region id ops true => match planG ops ops.size (Array.replicate ops.size false) with
    | (a, b) => match Nat.ble ((a :: b).map List.length).sum ops.size with
      | true => evStage P G X cf ops a (Array.replicate ops.size false) es fun listed es => evLater P G X cf ops b listed es fun es => k .normal es
      | false => none
  | .cond c x y => match pev es.st c with
    | .val (.bool true) => ec x es k
    | .val (.bool false) => ec y es k
    | _ => none
  | .block id c => ec c es fun e es => match e with
    | .exit i => match Nat.beq i id with
      | true => k .normal es
      | false => k (.exit i) es
    | e => k e es
  | .loop c => ec c es fun e es => match e with
    | .normal => ec (.loop c) es k
    | e => k e es
  | .skip => k .normal es
  | .ret => k .ret es
  | .exit i => k (.exit i) es
  | _ => none
def padK (n : Nat) (l : List PV) (k : List PV → Option PV) : Option PV := match n with
  | 0 => k l
  | n + 1 => match l with
    | [] => padK n [] fun l => k (.val undef :: l)
    | p :: r => padK n r fun l => k (p :: l)
def evCall (ec : Code → ES → (Exit → ES → Option PV) → Option PV) (f : FuncId) (args : List PV) (k : PV → Option PV) : Option PV := match P.funcs[f]? with
  | none => none
  | some fn => match fn.body with
    | none => none
    | some cd => match Nat.ble args.length fn.ntmps with
      | false => none
      | true => padK fn.ntmps args fun l => ec cd ⟨l, []⟩ fun e es => match e with
        | .normal => match resPV P fn.results.toList es.st with
          | some r => match noH r with
            | true => fPV r k
            | false => none
          | none => none
        | .ret => match resPV P fn.results.toList es.st with
          | some r => match noH r with
            | true => fPV r k
            | false => none
          | none => none
        | _ => none
def evC : Nat → Code → ES → (Exit → ES → Option PV) → Option PV
  | 0 => fun _ _ _ => none
  | n + 1 => evStep P G X (evC n) (evCall P (evC n))
variable {P G X}
theorem Does.mono {F : Fr} {o : Oper} {e : Bool} {s : St} {K K' : St → Prop} (h : Does P F o e s K) (k : ∀ s, K s → K' s) : Does P F o e s K' :=
  fun Q c a w hi => Oper.wp_mono (fun a' w' ⟨c', s', h1, h2, h3⟩ => ⟨c', s', h1, k s' h2, h3⟩) (h Q c a w hi)
variable {cf : FuncId → List PV → (PV → Option PV) → Option PV} {ops : Array Oper}
section
variable (hX : XOk P X) (hcf : ∀ f args k r, cf f args k = some r → ∃ v, k v = some r ∧ PC P G f args (· = v))
include hX hcf
theorem evOps_ok : ∀ {l : List Oper} {es : ES} {k : ES → Option PV} {r : PV}, evOps P G X cf ops l es k = some r → ∃ es', k es' = some r ∧ ∀ F : Fr, F.G = G → Ops P F ⟨ops, none⟩ l es.st (· = es'.st)
  | [], es, k, r, h => ⟨es, h, fun F hF => Ops.nil rfl trivial⟩
  | o :: l, es, k, r, h => by
    simp only [evOps] at h
    split at h
    · rename_i hw
      obtain ⟨kd, es1, h1, h2⟩ := evOp_ok hX hcf h
      obtain ⟨es2, h3, h4⟩ := evOps_ok h1
      refine ⟨es2, h3, fun F hF => ?_⟩
      have h5 := h4 F hF
      have h6 := h2 F hF
      cases kd with
      | S =>
        obtain ⟨p, hp, hd, he⟩ := h6
        exact Ops.stillS hp hw hd trivial (he ▸ h5)
      | E => exact Ops.step (Does.mono h6 fun s hs => hs ▸ h5) hw trivial
      | L => exact Ops.step (Does.mono h6 fun s hs => hs ▸ h5) hw trivial
    · rename_i hw
      obtain ⟨es1, h1, h2, h3⟩ := putK_ok h
      obtain ⟨es2, h4, h5⟩ := evOps_ok h1
      exact ⟨es2, h4, fun F hF => Ops.off hw h3 trivial (h2 ▸ h5 F hF)⟩
    · cases h
theorem evStage_ok : ∀ {is : List Nat} {listed : Array Bool} {es : ES} {k : Array Bool → ES → Option PV} {r : PV}, evStage P G X cf ops is listed es k = some r →
    ∃ li es', k li es' = some r ∧ ∀ F : Fr, F.G = G → ∀ later K, Ops P F ⟨ops, some ⟨[] :: later, li⟩⟩ [] es'.st K → Ops P F ⟨ops, some ⟨is :: later, listed⟩⟩ [] es.st K
  | [], listed, es, k, r, h => ⟨listed, es, h, fun F hF later K hk => hk⟩
  | i :: is, listed, es, k, r, h => by
    simp only [evStage] at h
    split at h
    · cases h
    · rename_i o ho
      split at h
      · rename_i hw
        obtain ⟨kd, es1, h1, h2⟩ := evOp_ok hX hcf h
        cases kd with
        | S =>
          simp only at h1
          split at h1
          · rename_i hb
            obtain ⟨li, es2, h3, h4⟩ := evStage_ok h1
            refine ⟨li, es2, h3, fun F hF later K hk => ?_⟩
            obtain ⟨p, hp, hd, he⟩ := h2 F hF
            have h5 := h4 F hF later K hk
            simp only [Bool.or_eq_true] at hb
            rcases hb with hb | hb
            · exact Ops.stillS (ops := ⟨ops, some ⟨(i :: is) :: later, listed⟩⟩) (rest := []) hp hw hd ⟨ho, hb⟩ (he ▸ h5)
            · exact Ops.step (e := true) (ops := ⟨ops, some ⟨(i :: is) :: later, listed⟩⟩) (rest := []) (hp.does hd (he ▸ h5)) hw ⟨ho, hb⟩
          · cases h1
        | E =>
          simp only at h1
          split at h1
          · rename_i hb
            obtain ⟨li, es2, h3, h4⟩ := evStage_ok h1
            refine ⟨li, es2, h3, fun F hF later K hk => ?_⟩
            have h5 := h4 F hF later K hk
            exact Ops.step (e := true) (ops := ⟨ops, some ⟨(i :: is) :: later, listed⟩⟩) (rest := []) (Does.mono (h2 F hF) fun s hs => hs ▸ h5) hw ⟨ho, hb⟩
          · cases h1
        | L => cases h1
      · rename_i hw
        split at h
        · rename_i hb
          obtain ⟨es1, h1, h2, h3⟩ := putK_ok h
          obtain ⟨li, es2, h4, h5⟩ := evStage_ok h1
          exact ⟨li, es2, h4, fun F hF later K hk => Ops.off (ops := ⟨ops, some ⟨(i :: is) :: later, listed⟩⟩) (rest := []) hw h3 ⟨ho, hb⟩ (h2 ▸ h5 F hF later K hk)⟩
        · cases h
      · cases h
theorem evLater_ok : ∀ {r : List (List Nat)} {listed : Array Bool} {es : ES} {k : ES → Option PV} {v : PV}, evLater P G X cf ops r listed es k = some v →
    ∃ es', k es' = some v ∧ ∀ F : Fr, F.G = G → Ops P F ⟨ops, some ⟨[] :: r, listed⟩⟩ [] es.st (· = es'.st)
  | [], listed, es, k, v, h => by
    simp only [evLater] at h
    split at h
    · rename_i hb
      exact ⟨es, h, fun F hF => Ops.nil rfl ⟨rfl, List.isEmpty_iff.1 hb⟩⟩
    · cases h
  | [] :: _, _, _, _, _, h => by simp [evLater] at h
  | (i :: is) :: r, listed, es, k, v, h => by
    simp only [evLater] at h
    split at h
    · cases h
    · rename_i o ho
      split at h
      · rename_i hw hb
        obtain ⟨kd, es1, h1, h2⟩ := evOp_ok hX hcf h
        cases kd with
        | S => cases h1
        | E => cases h1
        | L =>
          obtain ⟨li, es2, h3, h4⟩ := evStage_ok hX hcf h1
          obtain ⟨es3, h5, h6⟩ := evLater_ok h3
          exact ⟨es3, h5, fun F hF => Ops.step (e := false) (ops := ⟨ops, some ⟨[] :: (i :: is) :: r, listed⟩⟩) (rest := []) (Does.mono (h2 F hF) fun s hs => hs ▸ h4 F hF r _ (h6 F hF)) hw ⟨ho, hb⟩⟩
      · cases h
end
theorem padK_eq : ∀ (n : Nat) (l : List PV) (k : List PV → Option PV), l.length ≤ n → padK n l k = k (l ++ List.replicate (n - l.length) (.val undef))
  | 0, [], k, h => rfl
  | 0, _ :: _, k, h => by simp at h
  | n + 1, [], k, h => by simp [padK, padK_eq n [], List.replicate_succ]
  | n + 1, p :: l, k, h => by simp [padK, padK_eq n l _ (by simpa using h)]
theorem argT_pad : ∀ (l : List PV) (n : Nat), argT (l ++ List.replicate n (.val undef)) = argT l
  | [], n => by
    funext x
    induction n generalizing x with
    | zero => rfl
    | succ n ih => cases x with
      | zero => rfl
      | succ x => simpa [List.replicate_succ, argT] using ih x
  | p :: l, n => by
    funext x
    cases x with
    | zero => rfl
    | succ x => simpa [argT] using congrFun (argT_pad l n) x
def CdX (P : Program) (F : Fr) (c : Code) (s : St) (Q : Exit → St → Prop) : Prop := match c with
  | .loop c => ∃ n, Rounds P F c Q n s
  | c => Cd P F c s Q
theorem CdX.cd {F : Fr} {c : Code} {s : St} {Q : Exit → St → Prop} (h : CdX P F c s Q) : Cd P F c s Q := by
  unfold CdX at h
  split at h
  · obtain ⟨n, h⟩ := h; exact Cd.rounds n h
  · exact h
def Snd (P : Program) (G : List (Nat × List Value)) (ec : Code → ES → (Exit → ES → Option PV) → Option PV) : Prop :=
  ∀ c es k r, ec c es k = some r → ∃ e es', k e es' = some r ∧ ∀ F : Fr, F.G = G → CdX P F c es.st (fun e' s' => e' = e ∧ s' = es'.st)
theorem evCall_ok {ec : Code → ES → (Exit → ES → Option PV) → Option PV} (hec : Snd P G ec) {f : FuncId} {args : List PV} {k : PV → Option PV} {r : PV} (h : evCall P ec f args k = some r) : ∃ v, k v = some r ∧ PC P G f args (· = v) := by
  unfold evCall at h
  split at h
  · cases h
  · rename_i fn hf
    split at h
    · cases h
    · rename_i cd hb
      split at h
      · cases h
      · rename_i hle
        have hle := Nat.le_of_ble_eq_true hle
        rw [padK_eq _ _ _ hle] at h
        obtain ⟨e, es', h1, h2⟩ := hec _ _ _ _ h
        have key : ∀ v, resPV P fn.results.toList es'.st = some v → noH v = true → (∀ s : St, s = es'.st → ends P fn.results.toList (· = v) .normal s ∧ ends P fn.results.toList (· = v) .ret s) := by
          rintro v h3 h4 s rfl
          exact ⟨⟨v, h3, h4, rfl⟩, ⟨v, h3, h4, rfl⟩⟩
        have fin : ∀ v, resPV P fn.results.toList es'.st = some v → noH v = true → (e = .normal ∨ e = .ret) → PC P G f args (· = v) := by
          intro v h3 h4 he
          refine PC.intro hf hb rfl rfl hle fun F hF _ => ?_
          have h5 := (h2 F hF).cd
          have h6 : (ES.st ⟨args ++ List.replicate (fn.ntmps - args.length) (.val undef), []⟩) = ⟨fn.ntmps, argT args, [], []⟩ := by
            simp [ES.st, argT_pad]; omega
          rw [h6] at h5
          refine h5.mono ?_
          rintro e' s' ⟨rfl, rfl⟩
          rcases he with rfl | rfl
          · exact (key v h3 h4 _ rfl).1
          · exact (key v h3 h4 _ rfl).2
        split at h1
        · split at h1
          · rename_i v hv
            split at h1
            · rename_i hn
              rw [fPV_eq] at h1
              exact ⟨v, h1, fin v hv hn (.inl rfl)⟩
            · cases h1
          · cases h1
        · split at h1
          · rename_i v hv
            split at h1
            · rename_i hn
              rw [fPV_eq] at h1
              exact ⟨v, h1, fin v hv hn (.inr rfl)⟩
            · cases h1
          · cases h1
        · cases h1
theorem evStep_ok (hX : XOk P X) (hm : P.follows .mixedOrders = true) {ec : Code → ES → (Exit → ES → Option PV) → Option PV} (hec : Snd P G ec) : Snd P G (evStep P G X ec (evCall P ec)) := by
  intro c es k r h
  have hcf : ∀ f args k r, evCall P ec f args k = some r → ∃ v, k v = some r ∧ PC P G f args (· = v) := fun f args k r h => evCall_ok hec h
  unfold evStep at h
  split at h
  · rename_i x y
    obtain ⟨e, es1, h1, h2⟩ := hec _ _ _ _ h
    split at h1
    · obtain ⟨e2, es2, h3, h4⟩ := hec _ _ _ _ h1
      refine ⟨e2, es2, h3, fun F hF => Cd.seq ((h2 F hF).cd.mono ?_)⟩
      rintro e' s' ⟨rfl, rfl⟩
      exact (h4 F hF).cd
    · rename_i hne
      refine ⟨e, es1, h1, fun F hF => Cd.seq ((h2 F hF).cd.mono ?_)⟩
      rintro e' s' ⟨rfl, rfl⟩
      cases e' <;> first | exact ⟨rfl, rfl⟩ | exact absurd rfl hne
  · rename_i id ops
    obtain ⟨es', h1, h2⟩ := evOps_ok hX hcf h
    refine ⟨.normal, es', h1, fun F hF => ?_⟩
    have := Cd.region (id := id) (l := ops.toList) (s := es.st) (Q := fun e' s' => e' = Exit.normal ∧ s' = es'.st) (F := F) (P := P) (by
      have := h2 F hF
      simp only [Array.toArray_toList, true_and]
      exact this)
    rw [Array.toArray_toList] at this
    exact this
  · rename_i id ops
    split at h
    rename_i a b hp
    split at h
    · rename_i hle
      obtain ⟨li, es1, h1, h2⟩ := evStage_ok hX hcf h
      obtain ⟨es2, h3, h4⟩ := evLater_ok hX hcf h1
      refine ⟨.normal, es2, h3, fun F hF => ?_⟩
      have h5 := h2 F hF b _ (h4 F hF)
      have := Cd.draw (id := id) (l := ops.toList) (s := es.st) (Q := fun e' s' => e' = Exit.normal ∧ s' = es2.st) (F := F) (P := P) (a :: b) hm (by simpa using hle) (by
        simp only [Array.toArray_toList, true_and]
        exact h5)
      rw [Array.toArray_toList] at this
      exact this
    · cases h
  · rename_i c x y
    split at h
    · rename_i hc
      obtain ⟨e, es1, h1, h2⟩ := hec _ _ _ _ h
      exact ⟨e, es1, h1, fun F hF => Cd.cond hc (fun _ => (h2 F hF).cd) (fun h => by cases h)⟩
    · rename_i hc
      obtain ⟨e, es1, h1, h2⟩ := hec _ _ _ _ h
      exact ⟨e, es1, h1, fun F hF => Cd.cond hc (fun h => by cases h) (fun _ => (h2 F hF).cd)⟩
    · cases h
  · rename_i id c
    obtain ⟨e, es1, h1, h2⟩ := hec _ _ _ _ h
    split at h1
    · rename_i i
      split at h1
      · rename_i hi
        have := Nat.eq_of_beq_eq_true hi
        subst this
        refine ⟨.normal, es1, h1, fun F hF => Cd.block ((h2 F hF).cd.mono ?_)⟩
        rintro e' s' ⟨rfl, rfl⟩
        simp [blk]
      · rename_i hi
        refine ⟨.exit i, es1, h1, fun F hF => Cd.block ((h2 F hF).cd.mono ?_)⟩
        rintro e' s' ⟨rfl, rfl⟩
        have : i ≠ id := fun e => by subst e; simp at hi
        simp [blk, this]
    · rename_i hne
      refine ⟨e, es1, h1, fun F hF => Cd.block ((h2 F hF).cd.mono ?_)⟩
      rintro e' s' ⟨rfl, rfl⟩
      cases e' <;> first | exact ⟨rfl, rfl⟩ | exact absurd rfl (hne _)
  · rename_i c
    obtain ⟨e, es1, h1, h2⟩ := hec _ _ _ _ h
    split at h1
    · obtain ⟨e2, es2, h3, h4⟩ := hec _ _ _ _ h1
      refine ⟨e2, es2, h3, fun F hF => ?_⟩
      obtain ⟨n, hn⟩ := h4 F hF
      refine ⟨n + 1, (h2 F hF).cd.mono ?_⟩
      rintro e' s' ⟨rfl, rfl⟩
      exact hn
    · rename_i hne
      refine ⟨e, es1, h1, fun F hF => ⟨1, (h2 F hF).cd.mono ?_⟩⟩
      rintro e' s' ⟨rfl, rfl⟩
      cases e' <;> first | exact ⟨rfl, rfl⟩ | exact absurd rfl hne
  · exact ⟨_, _, h, fun F hF => Cd.skip ⟨rfl, rfl⟩⟩
  · exact ⟨_, _, h, fun F hF => Cd.ret ⟨rfl, rfl⟩⟩
  · exact ⟨_, _, h, fun F hF => Cd.exit ⟨rfl, rfl⟩⟩
  · cases h
theorem evC_ok (hX : XOk P X) (hm : P.follows .mixedOrders = true) : ∀ n, Snd P G (evC P G X n)
  | 0 => fun _ _ _ _ h => by cases h
  | n + 1 => evStep_ok hX hm (evC_ok hX hm n)
theorem reckon (hX : XOk P X) (hm : P.follows .mixedOrders = true) (n : Nat) {f : FuncId} {args : List PV} {v : PV} (h : evCall P (evC P G X n) f args some = some v) : PC P G f args (· = v) := by
  obtain ⟨v', h1, h2⟩ := evCall_ok (evC_ok hX hm n) h
  cases h1
  exact h2
end
end Go.Proofs.YtfnmlikgdfmcbaaDoor.Sim
