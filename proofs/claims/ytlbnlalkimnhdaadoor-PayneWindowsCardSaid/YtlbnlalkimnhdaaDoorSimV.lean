/-
  Sim, part V: a reckoner for closed calls: what it answers, the call answers. No condition.
-/
import Derived.Test.YtlbnlalkimnhdaaDoorSimG
namespace Go.Proofs.YtlbnlalkimnhdaaDoor.Sim
open Go.RowKit
set_option linter.unusedVariables false
set_option linter.unusedSimpArgs false

/-! ### forcing: each is the identity -/
section
variable {R : Type}
def fNat (n : Nat) (k : Nat → R) : R := match n with
  | 0 => k 0
  | m + 1 => k (m + 1)
theorem fNat_eq (n : Nat) (k : Nat → R) : fNat n k = k n := by cases n <;> rfl
def fInt (n : Int) (k : Int → R) : R := match n with
  | .ofNat m => fNat m fun m => k (.ofNat m)
  | .negSucc m => fNat m fun m => k (.negSucc m)
theorem fInt_eq (n : Int) (k : Int → R) : fInt n k = k n := by cases n <;> simp [fInt, fNat_eq]
def fBool (b : Bool) (k : Bool → R) : R := match b with
  | true => k true
  | false => k false
theorem fBool_eq (b : Bool) (k : Bool → R) : fBool b k = k b := by cases b <;> rfl
def fVal (v : Value) (k : Value → R) : R := match v with
  | .int i n => fInt n fun n => k (.int i n)
  | .bool b => fBool b fun b => k (.bool b)
  | .float f n => fNat n fun n => k (.float f n)
  | v => k v
theorem fVal_eq (v : Value) (k : Value → R) : fVal v k = k v := by cases v <;> simp [fVal, fInt_eq, fBool_eq, fNat_eq]
def fHd (p : PV) (k : PV → R) : R := match p with
  | .val v => fVal v fun v => k (.val v)
  | .ptr b o => fNat b fun b => fNat o fun o => k (.ptr b o)
  | .arr q l n => fNat q fun q => fNat l fun l => fNat n fun n => k (.arr q l n)
  | .ead q i => fNat q fun q => fNat i fun i => k (.ead q i)
  | p => k p
theorem fHd_eq (p : PV) (k : PV → R) : fHd p k = k p := by cases p <;> simp [fHd, fVal_eq, fNat_eq]
def fList (l : List PV) (k : List PV → R) : R := match l with
  | [] => k []
  | p :: l => fHd p fun p => fList l fun l => k (p :: l)
theorem fList_eq (l : List PV) (k : List PV → R) : fList l k = k l := by
  induction l generalizing k with
  | nil => rfl
  | cons p l ih => simp [fList, fHd_eq, ih]
def fPV (p : PV) (k : PV → R) : R := match p with
  | .agg l => fList l fun l => k (.agg l)
  | .tup l => fList l fun l => k (.tup l)
  | p => fHd p k
theorem fPV_eq (p : PV) (k : PV → R) : fPV p k = k p := by cases p <;> simp [fPV, fList_eq, fHd_eq]
def setK (fail : R) (l : List PV) (n : Nat) (p : PV) (k : List PV → R) : R := match l, n with
  | [], _ => fail
  | _ :: l, 0 => k (p :: l)
  | q :: l, n + 1 => setK fail l n p fun l => k (q :: l)
theorem setK_eq (fail : R) : ∀ (l : List PV) (n : Nat) (p : PV) (k : List PV → R), setK fail l n p k = if n < l.length then k (l.set n p) else fail
  | [], n, p, k => by simp [setK]
  | _ :: l, 0, p, k => by simp [setK]
  | q :: l, n + 1, p, k => by simp [setK, setK_eq fail l n p]
def setLK (fail : R) (l : List (List PV)) (n : Nat) (p : List PV) (k : List (List PV) → R) : R := match l, n with
  | [], _ => fail
  | _ :: l, 0 => k (p :: l)
  | q :: l, n + 1 => setLK fail l n p fun l => k (q :: l)
theorem setLK_eq (fail : R) : ∀ (l : List (List PV)) (n : Nat) (p : List PV) (k : List (List PV) → R), setLK fail l n p k = if n < l.length then k (l.set n p) else fail
  | [], n, p, k => by simp [setLK]
  | _ :: l, 0, p, k => by simp [setLK]
  | q :: l, n + 1, p, k => by simp [setLK, setLK_eq fail l n p]
def snocK (l : List (List PV)) (p : List PV) (k : List (List PV) → R) : R := match l with
  | [] => k [p]
  | q :: l => snocK l p fun l => k (q :: l)
theorem snocK_eq : ∀ (l : List (List PV)) (p : List PV) (k : List (List PV) → R), snocK l p k = k (l ++ [p])
  | [], _, _ => rfl
  | q :: l, p, k => by simp [snocK, snocK_eq l p]
end
theorem argT_set : ∀ (l : List PV) (d : Nat) (p : PV), d < l.length → argT (l.set d p) = upd (argT l) d p
  | [], d, p, h => by simp at h
  | q :: l, 0, p, h => by
    funext x
    cases x with
    | zero => rfl
    | succ x => simp [argT, upd, Nat.beq]
  | q :: l, d + 1, p, h => by
    have ih := argT_set l d p (by simpa using h)
    funext x
    cases x with
    | zero => simp [argT, upd, Nat.beq]
    | succ x =>
      have := congrFun ih x
      simp only [List.set_cons_succ, argT, this]
      by_cases hx : x = d
      · subst hx; rw [upd_same, upd_same]
      · rw [upd_ne _ _ _ hx, upd_ne _ _ _ (by omega)]; rfl

/-- A frame's state as lists. -/
structure ES where
  l : List PV
  bx : List (List PV)
def ES.st (e : ES) : St := ⟨e.l.length, argT e.l, e.bx, []⟩

section
variable (P : Program) (G : List (Nat × List Value))
def tabOf : List (Nat × List Value) → Nat → Option (List Value)
  | [], _ => none
  | (g, cs) :: r, b => match Nat.beq g b with
    | true => some cs
    | false => tabOf r b
def isBool (t : TypeId) : Bool := match P.underlying t with
  | some .bool => true
  | _ => false
def isStr (t : TypeId) : Bool := match P.underlying t with
  | some .string => true
  | _ => false
def evBin (op : BinOp) (t : TypeId) (x y : PV) : Option PV := match x, y with
  | .val (.int k a), .val (.int k' b) => match op with
    | .shl => match decide (0 ≤ b) with
      | true => some (.val (.int k (k.wrap (a * 2 ^ min b.toNat k.bits))))
      | false => none
    | .shr => match decide (0 ≤ b) with
      | true => some (.val (.int k (a.fdiv (2 ^ min b.toNat k.bits))))
      | false => none
    | .quo => match decide (k = k' ∧ b ≠ 0) with
      | true => some (.val (.int k (k.wrap (a.tdiv b))))
      | false => none
    | .rem => match decide (k = k' ∧ b ≠ 0) with
      | true => some (.val (.int k (a.tmod b)))
      | false => none
    | op => match decide (k = k') with
      | true => (pbin op k a b).map .val
      | false => none
  | .val (.bool a), .val (.bool b) => match op, isBool P t with
    | .eql, true => some (.val (.bool (a == b)))
    | .neq, true => some (.val (.bool (a != b)))
    | _, _ => none
  | .val (.float k a), .val (.float k' b) => match decide (k = k') with
    | true => (fbin op k a b).map .val
    | false => none
  | _, _ => none
def evCon (t' : TypeId) (x : PV) : Option PV := match x, P.underlying t' with
  | .val (.int _ n), some (.int k') => some (.val (.int k' (k'.wrap n)))
  | .val (.int _ n), some (.float k') => some (.val (.float k' (k'.nearest n)))
  | .val (.float k b), some (.int k') => match (k.decode b).toInt .zero with
    | some n => match decide (k'.min ≤ n ∧ n ≤ k'.max) with
      | true => some (.val (.int k' n))
      | false => none
    | none => none
  | .val (.float k b), some (.float k') => match decide (k = k') with
    | true => some (.val (.float k b))
    | false => none
  | _, _ => none
def evIdx (s : St) (t : TypeId) (x y : PV) : Option PV := match y with
  | .val (.int _ i) => match decide (0 ≤ i) with
    | true => match x with
      | .sl sz l => match elT P t with
        | some (_, z) => match Nat.beq z sz && Nat.ble ((i.toNat + 1) * sz) l.length with
          | true => some (.cel (l.drop (i.toNat * sz)))
          | false => none
        | none => none
      | x => match arT P t with
        | some (n, _, z) => match Nat.blt i.toNat n with
          | true => match x with
            | .val (.pointer (some ⟨g, 0, none⟩)) => match Nat.beq z 1, tabOf G g with
              | true, some cs => some (.cel ((cs.drop i.toNat).map .val))
              | _, _ => none
            | x => shift x (i.toNat * z)
          | false => none
        | none => none
    | false => none
  | _ => none
def okV : PV → Bool
  | .val (.int _ _) => true
  | .val (.bool _) => true
  | .val (.float _ _) => true
  | .val _ => false
  | _ => true
theorem okV_cells {p : PV} (h : okV p = true) (z : Value) (e : p = .val z) : z.cells.toList = [z] := by
  subst e
  cases z <;> first | rfl | simp [okV] at h
theorem okV_one {p : PV} (h : okV p = true) (z : Value) (e : p = .val z) : z.oneCell' = true := by
  subst e
  cases z <;> first | rfl | simp [okV] at h
def valsOf : List PV → Option (List Value)
  | [] => some []
  | .val v :: l => (valsOf l).map (v :: ·)
  | _ => none
theorem valsOf_eq : ∀ {l : List PV} {vs : List Value}, valsOf l = some vs → l = vs.map .val
  | [], vs, h => by simp [valsOf] at h; subst h; rfl
  | .val v :: l, vs, h => by
    simp only [valsOf, Option.map_eq_some_iff] at h
    obtain ⟨us, h1, rfl⟩ := h
    rw [valsOf_eq h1]; rfl
  | .nil :: _, _, h => by simp [valsOf] at h
  | .sl _ _ :: _, _, h => by simp [valsOf] at h
  | .agg _ :: _, _, h => by simp [valsOf] at h
  | .tup _ :: _, _, h => by simp [valsOf] at h
  | .ptr _ _ :: _, _, h => by simp [valsOf] at h
  | .cel _ :: _, _, h => by simp [valsOf] at h
  | .arr _ _ _ :: _, _, h => by simp [valsOf] at h
  | .ead _ _ :: _, _, h => by simp [valsOf] at h
  | .any :: _, _, h => by simp [valsOf] at h
def extOf : List (FuncId × (List Value → Option PV)) → FuncId → Option (List Value → Option PV)
  | [], _ => none
  | (g, e) :: r, f => match Nat.beq g f with
    | true => some e
    | false => extOf r f
def funOf (p : PV) : Option FuncId := match p with
  | .val (.func (.func f) a b) => match a.toList, b.toList with
    | [], [] => some f
    | _, _ => none
  | _ => none
theorem funOf_eq {p : PV} {f : FuncId} (h : funOf p = some f) : p = .val (.func (.func f) #[] #[]) := by
  unfold funOf at h
  split at h
  · rename_i g a b
    split at h
    · rename_i ha hb
      cases h
      rw [← Array.toArray_toList (xs := a), ← Array.toArray_toList (xs := b), ha, hb]
    · cases h
  · cases h
variable (X : List (FuncId × (List Value → Option PV)))
def evS (s : St) (o : Oper) : Option PV := match o.op with
  | .move x => some (pev s x)
  | .assign x => some (pev s x)
  | .pick c x y => match pev s c with
    | .val (.bool true) => some (pev s x)
    | .val (.bool false) => some (pev s y)
    | _ => none
  | .binOp op t x y _ => evBin P op t (pev s x) (pev s y)
  | .unOp op _ x => match op, pev s x with
    | .not, .val (.bool b) => some (.val (.bool (!b)))
    | .neg, .val (.int k n) => some (.val (.int k (k.wrap (0 - n))))
    | .neg, .val (.float k b) => some (.val (.float k (Op.negFloat k b)))
    | _, _ => none
  | .convert t t' x => match P.underlying t with
    | some _ => evCon P t' (pev s x)
    | none => none
  | .extract x i => match pev s x with
    | .tup l => l[i]?
    | _ => none
  | .load t x => match cells s (pev s x), aggT P t with
    | some l, some false => l[0]?
    | some l, some true => match szT P t with
      | some n => match Nat.ble n l.length with
        | true => some (.agg (l.take n))
        | false => none
      | none => none
    | _, _ => none
  | .fieldAddr t x i => match fldT P t i with
    | some n => shift (pev s x) n
    | none => none
  | .indexAddr t x y => evIdx P G s t (pev s x) (pev s y)
  | .field t x i => match pev s x, fldP P t i with
    | .agg l, some (ty, off) => ppart P ty l off
    | _, _ => none
  | .index t x y => match pev s y with
    | .val (.int _ i) => match decide (0 ≤ i) with
      | true => match pev s x with
        | .agg l => match arT P t with
          | some (n, e, z) => match decide (i < n) with
            | true => ppart P e l (i.toNat * z)
            | false => none
          | none => none
        | .val (.string str) => match isStr P t, str[i.toNat]? with
          | true, some b => some (.val (.int .u8 b.toNat))
          | _, _ => none
        | _ => none
      | false => none
    | _ => none
  | .build t parts => match placeT P t, zeroT P t, (parts.toList.map fun x => (x.1, pev s x.2)).all (fun x => okV x.2) with
    | some pl, some zs, true => (pfill pl zs (parts.toList.map fun x => (x.1, pev s x.2))).map .agg
    | _, _, _ => none
  | .call { callee := .builtin .min, args := as, argTypes := _ } => match as.toList with
    | [x, y] => match pev s x, pev s y with
      | .val (.int k a), .val (.int k' b) => match decide (k = k') with
        | true => some (.val (.int k (min a b)))
        | false => none
      | _, _ => none
    | _ => none
  | .call { callee := .builtin .max, args := as, argTypes := _ } => match as.toList with
    | [x, y] => match pev s x, pev s y with
      | .val (.int k a), .val (.int k' b) => match decide (k = k') with
        | true => some (.val (.int k (max a b)))
        | false => none
      | _, _ => none
    | _ => none
  | .call { callee := .value x, args := as, argTypes := _ } => match funOf (pev s x) with
    | some f => match extOf X f, valsOf (as.toList.map (pev s)) with
      | some e, some vs => e vs
      | _, _ => none
    | none => none
  | _ => none
end
section
variable {P : Program} {G : List (Nat × List Value)} {F : Fr} {X : List (FuncId × (List Value → Option PV))} {s : St} {o : Oper} {p : PV}
theorem tabOf_mem : ∀ {G : List (Nat × List Value)} {b : Nat} {cs : List Value}, tabOf G b = some cs → (b, cs) ∈ G
  | [], _, _, h => by simp [tabOf] at h
  | (g, c) :: r, b, cs, h => by
    simp only [tabOf] at h
    split at h
    · rename_i hb
      cases h
      rw [Nat.eq_of_beq_eq_true hb]; simp
    · exact List.mem_cons_of_mem _ (tabOf_mem h)
theorem evBin_ok {op : BinOp} {t t' : TypeId} {x y : Operand} (ho : o.op = .binOp op t x y t') (h : evBin P op t (pev s x) (pev s y) = some p) : Still P F o s p := by
  unfold evBin at h
  split at h
  · rename_i k a k' b hx hy
    split at h
    · split at h
      · rename_i hb; cases h; exact still_shl ho hx hy (of_decide_eq_true hb)
      · cases h
    · split at h
      · rename_i hb; cases h; exact still_shr ho hx hy (of_decide_eq_true hb)
      · cases h
    · split at h
      · rename_i hb
        obtain ⟨hk, hne⟩ := of_decide_eq_true hb
        subst hk
        cases h; exact still_quo ho hx hy hne
      · cases h
    · split at h
      · rename_i hb
        obtain ⟨hk, hne⟩ := of_decide_eq_true hb
        subst hk
        cases h; exact still_rem ho hx hy hne
      · cases h
    · split at h
      · rename_i hb
        obtain rfl := of_decide_eq_true hb
        obtain ⟨v, hv, rfl⟩ := Option.map_eq_some_iff.1 h
        exact still_bin ho hx hy hv
      · cases h
  · rename_i a b hx hy
    split at h
    · rename_i ht
      cases h
      unfold isBool at ht
      split at ht
      · rename_i hu; exact still_eqb ho hx hy hu
      · cases ht
    · rename_i ht
      cases h
      unfold isBool at ht
      split at ht
      · rename_i hu; exact still_neb ho hx hy hu
      · cases ht
    · cases h
  · rename_i k a k' b hx hy
    split at h
    · rename_i hb
      obtain rfl := of_decide_eq_true hb
      obtain ⟨v, hv, rfl⟩ := Option.map_eq_some_iff.1 h
      exact still_fbin ho hx hy hv
    · cases h
  · cases h
theorem evCon_ok {t t' : TypeId} {x : Operand} {d : TypeDesc} (ho : o.op = .convert t t' x) (ht : P.underlying t = some d) (h : evCon P t' (pev s x) = some p) : Still P F o s p := by
  unfold evCon at h
  split at h
  · rename_i hx hu; cases h; exact still_conv ho hx ht hu
  · rename_i hx hu; cases h; exact still_i2f ho hx ht hu
  · rename_i hx hu
    split at h
    · rename_i n hn
      split at h
      · rename_i hb; cases h; exact still_f2i ho hx ht hu hn (of_decide_eq_true hb)
      · cases h
    · cases h
  · rename_i hx hu
    split at h
    · rename_i hb
      obtain rfl := of_decide_eq_true hb
      cases h; exact still_f2f ho hx ht hu
    · cases h
  · cases h
theorem evIdx_ok {t : TypeId} {x y : Operand} (hG : F.G = G) (ho : o.op = .indexAddr t x y) (h : evIdx P G s t (pev s x) (pev s y) = some p) : Still P F o s p := by
  unfold evIdx at h
  split at h
  · rename_i k i hy
    split at h
    · rename_i h0
      have h0 := of_decide_eq_true h0
      split at h
      · rename_i sz l hx
        split at h
        · rename_i e z ht
          split at h
          · rename_i hb
            simp only [Bool.and_eq_true] at hb
            have e1 := Nat.eq_of_beq_eq_true hb.1
            subst e1
            cases h
            exact still_idx ho hx hy ht h0 (Nat.le_of_ble_eq_true hb.2)
          · cases h
        · cases h
      · split at h
        · rename_i n e z ht
          split at h
          · rename_i hlt
            have hlt' : i < n := by have := Nat.blt_eq.mp hlt; omega
            split at h
            · rename_i g hx
              split at h
              · rename_i cs hz hg
                cases h
                have := Nat.eq_of_beq_eq_true hz
                subst this
                exact still_idxT ho hx (hG ▸ tabOf_mem hg) hy ht ⟨h0, hlt'⟩
              · cases h
            · exact still_idxA ho hy ht ⟨h0, hlt'⟩ h
          · cases h
        · cases h
    · cases h
  · cases h
/-- The functions without a body are as told. -/
def XOk (P : Program) (X : List (FuncId × (List Value → Option PV))) : Prop := ∀ f e, extOf X f = some e → ∀ vs r, e vs = some r → ExtOk P f vs r
theorem evS_ok (hG : F.G = G) (hX : XOk P X) (h : evS P G X s o = some p) : Still P F o s p := by
  unfold evS at h
  split at h
  · rename_i x ho; cases h; exact still_move ho
  · rename_i x ho; cases h; exact still_assign ho
  · rename_i c x y ho
    split at h
    · rename_i hc; cases h; exact still_pick ho hc
    · rename_i hc; cases h; exact still_pick ho hc
    · cases h
  · rename_i op t x y t' ho; exact evBin_ok ho h
  · rename_i op t x ho
    split at h
    · rename_i hx; cases h; exact still_not ho hx
    · rename_i hx; cases h; exact still_neg ho hx
    · rename_i hx; cases h; exact still_fneg ho hx
    · cases h
  · rename_i t t' x ho
    split at h
    · rename_i d hd; exact evCon_ok ho hd h
    · cases h
  · rename_i x i ho
    split at h
    · rename_i l hx; exact still_extract ho hx h
    · cases h
  · rename_i t x ho
    split at h
    · rename_i l hx ha; exact still_load1 ho hx ha h
    · rename_i l hx ha
      split at h
      · rename_i n hn
        split at h
        · rename_i hle; cases h; exact still_loadA ho hx ha hn (Nat.le_of_ble_eq_true hle)
        · cases h
      · cases h
    · cases h
  · rename_i t x i ho
    split at h
    · rename_i n hn; exact still_fieldAddr ho hn h
    · cases h
  · rename_i t x y ho; exact evIdx_ok hG ho h
  · rename_i t x i ho
    split at h
    · rename_i l ty off hx hf; exact still_field ho hx hf h
    · cases h
  · rename_i t x y ho
    split at h
    · rename_i k i hy
      split at h
      · rename_i h0
        have h0 := of_decide_eq_true h0
        split at h
        · rename_i l hx
          split at h
          · rename_i n e z ht
            split at h
            · rename_i hb; exact still_indexV ho hx hy ht ⟨h0, of_decide_eq_true hb⟩ h
            · cases h
          · cases h
        · rename_i str hx
          split at h
          · rename_i b hs hb
            cases h
            unfold isStr at hs
            split at hs
            · rename_i hu; exact still_indexS ho hx hy hu h0 hb
            · cases hs
          · cases h
        · cases h
      · cases h
    · cases h
  · rename_i t parts ho
    split at h
    · rename_i pl zs hp hz hv
      obtain ⟨out, hf, rfl⟩ := Option.map_eq_some_iff.1 h
      refine still_build (parts := parts.toList) (by simpa using ho) hp hz (fun i v hm => ?_) hf
      have := List.all_eq_true.1 hv _ hm
      exact okV_cells this v rfl
    · cases h
  · rename_i as ts ho
    split at h
    · rename_i x y has
      split at h
      · rename_i k a k' b hx hy
        split at h
        · rename_i hb
          obtain rfl := of_decide_eq_true hb
          cases h
          have : as = #[x, y] := by rw [← Array.toArray_toList (xs := as), has]
          subst this
          exact still_min ho hx hy
        · cases h
      · cases h
    · cases h
  · rename_i as ts ho
    split at h
    · rename_i x y has
      split at h
      · rename_i k a k' b hx hy
        split at h
        · rename_i hb
          obtain rfl := of_decide_eq_true hb
          cases h
          have : as = #[x, y] := by rw [← Array.toArray_toList (xs := as), has]
          subst this
          exact still_max ho hx hy
        · cases h
      · cases h
    · cases h
  · rename_i x as ts ho
    split at h
    · rename_i f hx
      split at h
      · rename_i e vs he hvs
        have := hX f e he vs p h
        exact still_ext (as := as.toList) (by simpa using ho) (funOf_eq hx) (valsOf_eq hvs) this
      · cases h
    · cases h
  · cases h
end
end Go.Proofs.YtlbnlalkimnhdaaDoor.Sim
