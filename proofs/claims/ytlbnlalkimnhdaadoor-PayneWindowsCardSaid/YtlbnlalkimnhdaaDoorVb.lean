/-
  Sim, part Vb: what each operation asks, and that it is enough. No condition.
-/
import Derived.Test.YtlbnlalkimnhdaaDoorVa
namespace Go.Proofs.YtlbnlalkimnhdaaDoor.Sim
open Go.RowKit
set_option linter.unusedVariables false
set_option linter.unusedSimpArgs false

inductive Md where
  | S
  | E
  | L
def Md.mem : Md → Bool
  | .S => false
  | _ => true
def Md.wr : Md → Bool
  | .L => true
  | _ => false
/-- An operation, as a region may take it: S at any time, E alone, L alone and last. -/
def Sem (P : Program) (F : Fr) (m : Md) (o : Oper) (s : St) (K : St → Prop) : Prop := match m with
  | .S => ∃ p, Still P F o s p ∧ s.fits o.dst = true ∧ K (s.put o.dst p)
  | .E => Does P F o true s K
  | .L => Does P F o false s K
section
variable {P : Program} {F : Fr} {TT : List TI} {m : Md} {o : Oper} {s : St} {K : St → Prop} {p q : PV}
theorem Does.weak (h : Does P F o true s K) : Does P F o false s K :=
  fun Q c a w hi => Oper.wp_mono (fun a' w' ⟨c', s', h1, h2, _⟩ => ⟨c', s', h1, h2, fun h => by cases h⟩) (h Q c a w hi)
theorem Sem.still (h : Still P F o s p) (hd : s.fits o.dst = true) (k : K (s.put o.dst p)) : Sem P F m o s K := by
  cases m with
  | S => exact ⟨p, h, hd, k⟩
  | E => exact h.does hd k
  | L => exact (h.does hd k).weak
theorem Sem.does (hm : m.mem = true) (h : Does P F o true s K) : Sem P F m o s K := by
  cases m with
  | S => cases hm
  | E => exact h
  | L => exact h.weak
theorem Sem.wr (hm : m.wr = true) (h : Does P F o false s K) : Sem P F m o s K := by
  cases m with
  | S => cases hm
  | E => cases hm
  | L => exact h

def vPut (d : Option Tmp) (s : St) (p : PV) (K : St → Prop) : Prop := match s with
  | ⟨N, t, bx, ob⟩ => match d with
    | none => K ⟨N, t, bx, ob⟩
    | some d => match Nat.blt d N with
      | true => K ⟨N, upd t d p, bx, ob⟩
      | false => False
theorem vPut_ok {d : Option Tmp} (h : vPut d s p K) : s.fits d = true ∧ K (s.put d p) := by
  unfold vPut at h
  split at h
  rename_i N t bx ob
  cases d with
  | none => exact ⟨rfl, h⟩
  | some d =>
    simp only at h
    split at h
    · rename_i hb; exact ⟨by simpa [St.fits] using hb, by simpa [St.put] using h⟩
    · cases h
theorem vPut_still (h : Still P F o s p) (k : vPut o.dst s p K) : Sem P F m o s K := Sem.still h (vPut_ok k).1 (vPut_ok k).2
/-- A value that stands still. -/
def Sv (P : Program) (F : Fr) (o : Oper) (s : St) (k : PV → Prop) : Prop := ∃ p, Still P F o s p ∧ k p
theorem Sv.sem (h : Sv P F o s fun p => vPut o.dst s p K) : Sem P F m o s K := let ⟨_, h1, h2⟩ := h; vPut_still h1 h2

/-! ### values -/
def vBin (isB : Bool) (op : BinOp) (x y : PV) (k : PV → Prop) (raw : Prop) : Prop := match x with
  | .val (.int ka a) => match y with
    | .val (.int kb b) => match op with
      | .shl => ShlG ka a b fun n => k (.val (.int ka n))
      | .shr => ShrG ka a b fun n => k (.val (.int ka n))
      | op => match ikEq ka kb with
        | false => raw
        | true => match op with
          | .add => WrapG ka (a + b) fun n => k (.val (.int ka n))
          | .sub => WrapG ka (a - b) fun n => k (.val (.int ka n))
          | .mul => WrapG ka (a * b) fun n => k (.val (.int ka n))
          | .quo => DivG ka a b fun n => k (.val (.int ka n))
          | .rem => ModG a b fun n => k (.val (.int ka n))
          | .and => BitG .and ka a b fun n => k (.val (.int ka n))
          | .or => BitG .or ka a b fun n => k (.val (.int ka n))
          | .xor => BitG .xor ka a b fun n => k (.val (.int ka n))
          | .andNot => BitG .andNot ka a b fun n => k (.val (.int ka n))
          | .eql => k (.val (.bool (decide (a = b))))
          | .neq => k (.val (.bool (decide (a ≠ b))))
          | .lss => k (.val (.bool (decide (a < b))))
          | .leq => k (.val (.bool (decide (a ≤ b))))
          | .gtr => k (.val (.bool (decide (b < a))))
          | .geq => k (.val (.bool (decide (b ≤ a))))
          | _ => raw
    | _ => raw
  | .val (.bool a) => match y with
    | .val (.bool b) => match isB with
      | true => match op with
        | .eql => k (.val (.bool (a == b)))
        | .neq => k (.val (.bool (a != b)))
        | _ => raw
      | false => raw
    | _ => raw
  | .val (.float ka a) => match y with
    | .val (.float kb b) => match fkEq ka kb with
      | true => FltG op ka a b fun v => k (.val v)
      | false => raw
    | _ => raw
  | _ => raw
theorem vBin_ok {op : BinOp} {t t' : TypeId} {x y : Operand} {isB : Bool} {k : PV → Prop} {raw : Prop} (ho : o.op = .binOp op t x y t') (hB : isB = true → P.underlying t = some .bool) (h : vBin isB op (pev s x) (pev s y) k raw) : Sv P F o s k ∨ raw := by
  generalize hX : pev s x = X at h
  generalize hY : pev s y = Y at h
  unfold vBin at h
  split at h
  · rename_i ka a
    split at h
    · rename_i kb b
      split at h
      · exact .inl ⟨_, still_shl ho hX hY h.b0, h.h⟩
      · exact .inl ⟨_, still_shr ho hX hY h.b0, h.h⟩
      · split at h
        · exact .inr h
        · rename_i hk
          have hk := ikEq_ok hk
          subst hk
          have bit : ∀ {v : Value}, pbin op ka a b = some v → k (.val v) → Sv P F o s k ∨ raw := fun hv hk => .inl ⟨_, still_bin ho hX hY hv, hk⟩
          split at h
          · exact bit rfl h.h
          · exact bit rfl h.h
          · exact bit rfl h.h
          · exact .inl ⟨_, still_quo ho hX hY h.b0, h.h⟩
          · exact .inl ⟨_, still_rem ho hX hY h.b0, h.h⟩
          · exact bit rfl h.h
          · exact bit rfl h.h
          · exact bit rfl h.h
          · exact bit rfl h.h
          · exact bit rfl h
          · exact bit rfl h
          · exact bit rfl h
          · exact bit rfl h
          · exact bit rfl h
          · exact bit rfl h
          · exact .inr h
    · exact .inr h
  · rename_i a
    split at h
    · rename_i b
      split at h
      · split at h
        · exact .inl ⟨_, still_eqb ho hX hY (hB rfl), h⟩
        · exact .inl ⟨_, still_neb ho hX hY (hB rfl), h⟩
        · exact .inr h
      · exact .inr h
    · exact .inr h
  · rename_i ka a
    split at h
    · rename_i kb b
      split at h
      · rename_i hk
        have hk := fkEq_ok hk
        subst hk
        obtain ⟨v, hv, hk⟩ := h.h
        exact .inl ⟨_, still_fbin ho hX hY hv, hk⟩
      · exact .inr h
    · exact .inr h
  · exact .inr h
def vUn (op : UnOp) (x : PV) (k : PV → Prop) (raw : Prop) : Prop := match op with
  | .not => match x with
    | .val (.bool b) => k (.val (.bool (!b)))
    | _ => raw
  | .neg => match x with
    | .val (.int kk n) => WrapG kk (0 - n) fun n => k (.val (.int kk n))
    | .val (.float kk b) => FnegG kk b fun b => k (.val (.float kk b))
    | _ => raw
  | _ => raw
theorem vUn_ok {op : UnOp} {t : TypeId} {x : Operand} {k : PV → Prop} {raw : Prop} (ho : o.op = .unOp op t x) (h : vUn op (pev s x) k raw) : Sv P F o s k ∨ raw := by
  generalize hX : pev s x = X at h
  unfold vUn at h
  split at h
  · split at h
    · exact .inl ⟨_, still_not ho hX, h⟩
    · exact .inr h
  · split at h
    · exact .inl ⟨_, still_neg ho hX, h.h⟩
    · exact .inl ⟨_, still_fneg ho hX, h.h⟩
    · exact .inr h
  · exact .inr h
def vCon (a b : TI) (x : PV) (k : PV → Prop) (raw : Prop) : Prop := match x with
  | .val (.int _ n) => match b.k with
    | .int kk => WrapG kk n fun n => k (.val (.int kk n))
    | .flt kk => I2fG kk n fun n => k (.val (.float kk n))
    | _ => raw
  | .val (.float kf n) => match b.k with
    | .int kk => F2iG kf kk n fun n => k (.val (.int kk n))
    | .flt kk => match fkEq kf kk with
      | true => k (.val (.float kf n))
      | false => raw
    | _ => raw
  | _ => raw
theorem TI.und {i : TI} (h : i.ok P) : ∃ d, P.underlying i.t = some d := by
  have h2 := h.k
  unfold TK.ok at h2
  split at h2
  · exact ⟨_, h2⟩
  · exact ⟨_, h2⟩
  · exact ⟨_, h2⟩
  · exact ⟨_, (elT_ok h2).1⟩
  · exact ⟨_, (arT_ok h2).1⟩
  · unfold strT at h2
    split at h2
    · rename_i hu; exact ⟨_, hu⟩
    · cases h2
  · unfold undT at h2
    exact Option.isSome_iff_exists.1 h2
theorem vCon_ok {a b : TI} {x : Operand} {k : PV → Prop} {raw : Prop} (ha : a.ok P) (hb : b.ok P) (ho : o.op = .convert a.t b.t x) (h : vCon a b (pev s x) k raw) : Sv P F o s k ∨ raw := by
  obtain ⟨d, hd⟩ := TI.und ha
  have hb2 := hb.k
  generalize hX : pev s x = X at h
  unfold vCon at h
  split at h
  · split at h
    · rename_i hk; rw [hk] at hb2; exact .inl ⟨_, still_conv ho hX hd hb2, h.h⟩
    · rename_i hk; rw [hk] at hb2; exact .inl ⟨_, still_i2f ho hX hd hb2, h.h⟩
    · exact .inr h
  · split at h
    · rename_i hk; rw [hk] at hb2
      obtain ⟨n, h1, h2, h3⟩ := h.h
      exact .inl ⟨_, still_f2i ho hX hd hb2 h1 h2, h3⟩
    · rename_i hk; rw [hk] at hb2
      split at h
      · rename_i he
        have he := fkEq_ok he
        subst he
        exact .inl ⟨_, still_f2f ho hX hd hb2, h⟩
      · exact .inr h
    · exact .inr h
  · exact .inr h

/-! ### loads -/
def vCells (ti : TI) (l : List PV) (n : Nat) (k : PV → Prop) : Prop := match ti.k.agg with
  | false => match lget l n with
    | some p => fo p k
    | none => False
  | true => takeG ti.sz (l.drop n) fun l => k (.agg l)
def cfG (f : Nat → PV) (i n : Nat) (k : List PV → Prop) : Prop := match n with
  | 0 => k []
  | n + 1 => fo (f i) fun p => cfG f (i + 1) n fun l => k (p :: l)
theorem cfG_eq : ∀ {n : Nat} {f : Nat → PV} {i : Nat} {k : List PV → Prop}, cfG f i n k → k ((List.range n).map fun j => f (i + j))
  | 0, f, i, k, h => by simpa [cfG] using h
  | n + 1, f, i, k, h => by
    simp only [cfG] at h
    have := cfG_eq (n := n) (f := f) (i := i + 1) (k := fun l => k (f i :: l)) (fo_eq h)
    have e : (List.range (n + 1)).map (fun j => f (i + j)) = f i :: (List.range n).map fun j => f (i + 1 + j) := by
      rw [List.range_succ_eq_map]
      simp [Function.comp_def, Nat.add_assoc, Nat.add_comm 1]
    rw [e]; exact this
def vLoad (ti : TI) (s : St) (p : PV) (k : PV → Prop) : Prop := match p with
  | .ptr b n => match lget s.bx b with
    | some l => vCells ti l n k
    | none => False
  | .cel l => vCells ti l 0 k
  | .cw kk a i => match ti.k.agg with
    | false => k (.val (.int kk (rd a i)))
    | true => False
  | .cf f i n => match Nat.ble ti.sz n with
    | true => match ti.k.agg with
      | false => match Nat.blt 0 n with
        | true => fo (f i) k
        | false => False
      | true => cfG f i ti.sz fun l => k (.agg l)
    | false => False
  | .ead q i => match lget s.ob q with
    | some (some ⟨z, T, c⟩) => match c with
      | .w kk a => match ti.k.agg with
        | false => Chk (i < a.length) (k (.val (.int kk (a.getD i 0))))
        | true => False
      | .g l => vCells ti l i k
    | _ => False
  | _ => False
theorem still_loadF {t : TypeId} {x : Operand} {f : Nat → PV} {i n : Nat} (ho : o.op = .load t x) (hx : pev s x = .cf f i n) (ha : aggT P t = some false) (hn : 0 < n) : Still P F o s (f i) := by
  intro c A w hi
  have hr := pev_rep hi x
  rw [hx] at hr
  generalize hq : A.eval x = z at hr
  cases hr with
  | @cf _ _ _ _ ad us h1 h3 h4 =>
    have hlt : 0 < us.length := by omega
    have hu := List.getElem?_eq_getElem hlt
    have h0 := hi.W.mem _ _ (h4 0 _ hu)
    refine ⟨us[0], by simpa using (h3 0 _ hu).up c.strip_le, fun w' he => ?_⟩
    have h5 := he _ _ h0
    simp only [Addr.add, if_pos] at h5
    simp [execOp, ho, hq, Instr.loadAt, Instr.sureAddr, loadVar, run_isAgg ha, run_load, h5]
theorem still_loadFA {t : TypeId} {x : Operand} {f : Nat → PV} {i n z : Nat} (ho : o.op = .load t x) (hx : pev s x = .cf f i n) (ha : aggT P t = some true) (hz : szT P t = some z) (hn : z ≤ n) : Still P F o s (.agg ((List.range z).map fun j => f (i + j))) := by
  intro c A w hi
  have hr := pev_rep hi x
  rw [hx] at hr
  generalize hq : A.eval x = y at hr
  cases hr with
  | @cf _ _ _ _ ad us h1 h3 h4 =>
    have hlen : (us.take z).length = z := by rw [List.length_take]; omega
    refine ⟨.agg (us.take z).toArray, .agg (.of (by simp [hlen]) fun j p u hp hu => ?_), fun w' he => ?_⟩
    · have hj : j < z := by have := (List.getElem?_eq_some_iff.1 hu).1; omega
      rw [List.getElem?_take, if_pos hj] at hu
      rw [List.getElem?_map, List.getElem?_range hj] at hp
      cases hp
      exact (h3 j u hu).up c.strip_le
    · have := run_loadCells_list (P := P) w' ad (us.take z) (fun j v hj => he _ _ (hi.W.mem _ _ (h4 j v (by rw [List.getElem?_take] at hj; split at hj; exact hj; cases hj))))
      rw [hlen] at this
      simp [execOp, ho, hq, Instr.loadAt, Instr.sureAddr, loadVar, run_isAgg ha, run_szT hz, this]
theorem vCells_ok {ti : TI} {x : Operand} {l l' : List PV} {n : Nat} {k : PV → Prop} (hT : ti.ok P) (ho : o.op = .load ti.t x) (hx : cells s (pev s x) = some l') (hl : l' = l.drop n) (h : vCells ti l n k) : Sv P F o s k := by
  subst hl
  unfold vCells at h
  split at h
  · rename_i ha
    split at h
    · rename_i p hp
      rw [lget_eq] at hp
      exact ⟨p, still_load1 ho hx (by rw [hT.agg, ha]) (by rw [List.getElem?_drop]; simpa using hp), fo_eq h⟩
    · cases h
  · rename_i ha
    obtain ⟨h1, h2⟩ := takeG_eq h
    exact ⟨_, still_loadA ho hx (by rw [hT.agg, ha]) hT.sz h1, h2⟩
theorem vLoad_ok {ti : TI} {x : Operand} {k : PV → Prop} (hT : ti.ok P) (ho : o.op = .load ti.t x) (h : vLoad ti s (pev s x) k) : Sv P F o s k := by
  generalize hX : pev s x = X at h
  unfold vLoad at h
  split at h
  · split at h
    · rename_i b n _ l hl
      rw [lget_eq] at hl
      exact vCells_ok hT ho (by rw [hX]; simp [cells, hl]) rfl h
    · cases h
  · exact vCells_ok hT ho (by rw [hX]; rfl) rfl h
  · split at h
    · rename_i ha; exact ⟨_, still_loadW ho hX (by rw [hT.agg, ha]), h⟩
    · cases h
  · split at h
    · rename_i hle
      have hle := Nat.le_of_ble_eq_true hle
      split at h
      · rename_i ha
        split at h
        · rename_i hn
          exact ⟨_, still_loadF ho hX (by rw [hT.agg, ha]) (by simpa using hn), fo_eq h⟩
        · cases h
      · rename_i ha
        exact ⟨_, still_loadFA ho hX (by rw [hT.agg, ha]) hT.sz hle, cfG_eq h⟩
    · cases h
  · split at h
    · rename_i q i xx z T c hl
      rw [lget_eq] at hl
      have hc : cells s (pev s x) = some ((Row.mk z T c).cs.drop i) := by rw [hX]; simp [cells, hl]
      cases c with
      | w kk a =>
        simp only at h
        split at h
        · rename_i ha
          have hlt := h.c.h
          refine ⟨_, still_load1 ho hc (by rw [hT.agg, ha]) ?_, h.k⟩
          rw [cs_w, List.getElem?_drop, List.getElem?_map]
          simp [wv, List.getD_eq_getElem?_getD, hlt]
        · cases h
      | g l => exact vCells_ok (l := l) (n := i) hT ho hc rfl h
    · cases h
  · cases h

/-! ### addresses -/
def vFa (fs : List (TypeId × Nat × Nat)) (i : Nat) (p : PV) (k : PV → Prop) : Prop := match lget fs i with
  | some (_, off, z) => match Nat.beq z 0 with
    | false => match p with
      | .ptr b n => k (.ptr b (n + off))
      | .cel l => k (.cel (l.drop off))
      | .ead q n => k (.ead q (n + off))
      | .cf f n m => match Nat.ble off m with
        | true => k (.cf f (n + off) (m - off))
        | false => False
      | _ => False
    | true => False
  | none => False
theorem run_fa {t : TypeId} {i n : Nat} (hn : fldT P t i = some n) (ad : Addr) (w : World) : (Instr.fieldAt t (.pointer (some ad)) i).run P w = .ok (.pointer (some (ad.add n))) w := by
  unfold fldT at hn
  split at hn
  · rename_i fs hu
    split at hn
    · rename_i f hf
      split at hn
      · rename_i j hj
        split at hn
        · cases hn
        · rename_i h0
          cases hn
          simp [Instr.fieldAt, run_underlying hu, hf, Instr.sureAddr, fieldPlace, sizeOf, typeInfo, hj, h0]
      · cases hn
    · cases hn
  · cases hn
theorem vFa_ok {t : TypeId} {fs : List (TypeId × Nat × Nat)} {x : Operand} {i : Nat} {k : PV → Prop} (hS : strT P t = some fs) (ho : o.op = .fieldAddr t x i) (h : vFa fs i (pev s x) k) : Sv P F o s k := by
  generalize hX : pev s x = X at h
  unfold vFa at h
  split at h
  · rename_i ty off z hl
    rw [lget_eq] at hl
    split at h
    · rename_i hz
      have hf := (strT_ok hS hl).2.2 (fun e => by subst e; simp at hz)
      split at h
      · exact ⟨_, still_fieldAddr ho hf (by rw [hX]; rfl), h⟩
      · exact ⟨_, still_fieldAddr ho hf (by rw [hX]; rfl), h⟩
      · exact ⟨_, still_fieldAddr ho hf (by rw [hX]; rfl), h⟩
      · rename_i f n m
        split at h
        · rename_i hle
          have hle := Nat.le_of_ble_eq_true hle
          refine ⟨_, fun c A w hi => ?_, h⟩
          have hr := pev_rep hi x
          rw [hX] at hr
          generalize hq : A.eval x = y at hr
          cases hr with
          | @cf _ _ _ _ ad us h1 h3 h4 =>
            refine ⟨_, .cf (ad := ad.add off) (us := us.drop off) (by simp [h1]) (fun j u hu => ?_) (fun j u hu => ?_), fun w' _ => by simp [execOp, ho, hq, run_fa hf]⟩
            · rw [List.getElem?_drop] at hu
              have := h3 _ _ hu
              rwa [← Nat.add_assoc] at this
            · rw [List.getElem?_drop] at hu
              rw [add_zero_off]; exact h4 _ _ hu
        · cases h
      · cases h
    · cases h
  · cases h
/-- The element's address of a slice or an array. -/
def vIdx (F : Fr) (ti : TI) (s : St) (p : PV) (i : Int) (k : PV → Prop) : Prop := match ti.k with
  | .slice _ z => match p with
    | .ws kk a => match Nat.beq z 1 with
      | true => IdxG i a.length fun i => k (.cw kk a i)
      | false => False
    | .arr q lo n => match lget s.ob q with
      | some (some ⟨z', _, _⟩) => match Nat.beq z' z with
        | true => IdxG i n fun i => match Nat.beq z 1 with
          | true => k (.ead q (lo + i.toNat))
          | false => k (.ead q ((lo + i.toNat) * z))
        | false => False
      | _ => False
    | .sl sz l => match Nat.beq z sz with
      | true => IdxL i (l.length / sz) fun m => k (.cel (l.drop (m * sz)))
      | false => False
    | .fs sz n f => match Nat.beq z sz with
      | true => IdxG i n fun i => k (.cf f (i.toNat * sz) sz)
      | false => False
    | _ => False
  | .arr n _ z => match p with
    | .ptr b d => IdxL i n fun m => k (.ptr b (d + m * z))
    | .cel l => IdxL i n fun m => k (.cel (l.drop (m * z)))
    | .ead q d => IdxL i n fun m => k (.ead q (d + m * z))
    | .val (.pointer (some ⟨g, 0, none⟩)) => match Nat.beq z 1 with
      | true => TabG F g n i k
      | false => False
    | _ => False
  | _ => False
theorem still_idxF {t e : TypeId} {x y : Operand} {sz n : Nat} {f : Nat → PV} {k : IntKind} {i : Int} (ho : o.op = .indexAddr t x y) (hx : pev s x = .fs sz n f) (hy : pev s y = .val (.int k i)) (ht : elT P t = some (e, sz)) (h : 0 ≤ i ∧ i < n) : Still P F o s (.cf f (i.toNat * sz) sz) := by
  intro c A w hi
  obtain ⟨hu, hz⟩ := elT_ok ht
  have hr := pev_rep hi x
  rw [hx] at hr
  generalize hq : A.eval x = z at hr
  cases hr with
  | @fs _ _ _ cap B _ us h0 h1 h2 h3 h4 =>
    have hfit : i.toNat * sz + sz ≤ us.length := by
      rw [h1]
      have : (i.toNat + 1) * sz ≤ n * sz := Nat.mul_le_mul_right _ (by omega)
      rw [Nat.add_mul] at this
      omega
    obtain ⟨ad, rfl, _⟩ := h4 (i.toNat * sz) _ (List.getElem?_eq_getElem (by omega))
    have hsub : ∀ j u, ((us.drop (i.toNat * sz)).take sz)[j]? = some u → us[i.toNat * sz + j]? = some u := by
      intro j u hj
      rw [List.getElem?_take] at hj
      split at hj
      · rwa [List.getElem?_drop] at hj
      · cases hj
    refine ⟨_, .cf (ad := ad.add (i.toNat * sz)) (us := (us.drop (i.toNat * sz)).take sz) (by simp; omega) (fun j u hj => h3 _ _ (hsub j u hj)) (fun j u hj => ?_), fun w' _ => ?_⟩
    · obtain ⟨ad', e', hρ⟩ := h4 _ _ (hsub j u hj)
      cases e'
      rw [add_zero_off]; exact hρ
    · simp [execOp, ho, hq, pev_val hi hy, Instr.indexAt, asIntOf, run_underlying hu, h.1, h.2, run_szT hz]
theorem still_idxTG {t e : TypeId} {n : Nat} {x y : Operand} {k kk : IntKind} {i : Int} {g : Nat} {a : List Int} (ho : o.op = .indexAddr t x y) (hx : pev s x = .val (.pointer (some ⟨g, 0, none⟩))) (hG : (g, a.map (Value.int k)) ∈ F.G) (hy : pev s y = .val (.int kk i)) (ht : arT P t = some (n, e, 1)) (hn : a.length = n) (h : 0 ≤ i ∧ i < n) : Still P F o s (.cw k a i) := by
  intro c A w hi
  refine ⟨_, .cw (ad := (⟨g, 0, none⟩ : Addr).add (i.toNat * 1)) ⟨h.1, by omega⟩ fun j x hj => ?_, fun w' _ => by simp only [execOp, ho, pev_val hi hx, pev_val hi hy, Sem.run_bind, run_arr ht h, Result.andThen_ok, Sem.run_pure]⟩
  rw [addr_add, addr_add]
  refine hi.rho _ _ (F.hG g _ hG _ _ ?_)
  simp [hj]
theorem vIdx_ok {ti : TI} {x y : Operand} {kk : IntKind} {i : Int} {k : PV → Prop} (hT : ti.ok P) (ho : o.op = .indexAddr ti.t x y) (hy : pev s y = .val (.int kk i)) (h : vIdx F ti s (pev s x) i k) : Sv P F o s k := by
  have hk := hT.k
  generalize hX : pev s x = X at h
  unfold vIdx at h
  split at h
  · rename_i e z hz
    rw [hz] at hk
    split at h
    · split at h
      · rename_i hb
        obtain rfl := Nat.eq_of_beq_eq_true hb
        exact ⟨_, still_idxW ho hX hy hk h.c, h.h⟩
      · cases h
    · rename_i q lo n
      split at h
      · rename_i z' T cc hl
        rw [lget_eq] at hl
        split at h
        · rename_i hb
          obtain rfl := Nat.eq_of_beq_eq_true hb
          refine ⟨_, still_idxO ho hX hy hk hl rfl h.c.1 h.c.2, ?_⟩
          have h2 := h.h
          split at h2
          · rename_i h1
            have h1 := Nat.eq_of_beq_eq_true h1
            subst h1
            simpa using h2
          · exact h2
        · cases h
      · cases h
    · rename_i sz l
      split at h
      · rename_i hb
        obtain rfl := Nat.eq_of_beq_eq_true hb
        refine ⟨_, still_idx ho hX hy hk h.c.1 ?_, h.h⟩
        have h2 : i.toNat + 1 ≤ l.length / z := by have := h.c; omega
        exact Nat.le_trans (Nat.mul_le_mul_right _ h2) (Nat.div_mul_le_self _ _)
      · cases h
    · rename_i sz n f
      split at h
      · rename_i hb
        obtain rfl := Nat.eq_of_beq_eq_true hb
        exact ⟨_, still_idxF ho hX hy hk h.c, h.h⟩
      · cases h
    · cases h
  · rename_i n e z hz
    rw [hz] at hk
    split at h
    · exact ⟨_, still_idxA ho hy hk h.c (by rw [hX]; rfl), h.h⟩
    · exact ⟨_, still_idxA ho hy hk h.c (by rw [hX]; rfl), h.h⟩
    · exact ⟨_, still_idxA ho hy hk h.c (by rw [hX]; rfl), h.h⟩
    · rename_i g
      split at h
      · rename_i hb
        obtain rfl := Nat.eq_of_beq_eq_true hb
        obtain ⟨k', a, h1, h2, h3, h4⟩ := h.h
        exact ⟨_, still_idxTG ho hX h1 hy hk h2 h3, h4⟩
      · cases h
    · cases h
  · cases h
/-- A part of a struct or an array that is a value. -/
def vPart (ti : TI) (l : List PV) (off : Nat) (k : PV → Prop) : Prop := match ti.k.agg with
  | false => match lget l off with
    | some p => fo p k
    | none => False
  | true => match Nat.ble (off + ti.sz) l.length with
    | true => takeG ti.sz (l.drop off) fun l => k (.agg l)
    | false => False
theorem vPart_ok {ti : TI} {l : List PV} {off : Nat} {k : PV → Prop} (hT : ti.ok P) (h : vPart ti l off k) : ∃ p, ppart P ti.t l off = some p ∧ k p := by
  unfold vPart at h
  unfold ppart
  rw [hT.agg, hT.sz]
  split at h
  · rename_i ha
    rw [ha]
    split at h
    · rename_i p hp
      rw [lget_eq] at hp
      exact ⟨p, hp, fo_eq h⟩
    · cases h
  · rename_i ha
    rw [ha]
    split at h
    · rename_i hle
      obtain ⟨h1, h2⟩ := takeG_eq h
      exact ⟨_, by simp only [hle], h2⟩
    · cases h
def vField (TT : List TI) (fs : List (TypeId × Nat × Nat)) (i : Nat) (p : PV) (k : PV → Prop) : Prop := match p with
  | .agg l => match lget fs i with
    | some (ty, off, _) => match tlook TT ty with
      | some ti => vPart ti l off k
      | none => False
    | none => False
  | _ => False
theorem vField_ok {t : TypeId} {fs : List (TypeId × Nat × Nat)} {x : Operand} {i : Nat} {k : PV → Prop} (hTT : TOk P TT) (hS : strT P t = some fs) (ho : o.op = .field t x i) (h : vField TT fs i (pev s x) k) : Sv P F o s k := by
  generalize hX : pev s x = X at h
  unfold vField at h
  split at h
  · split at h
    · rename_i l xx ty off z hl
      rw [lget_eq] at hl
      split at h
      · rename_i ti ht
        obtain ⟨h1, h2⟩ := tlook_ok hTT ht
        obtain ⟨p, hp, hk⟩ := vPart_ok h1 h
        rw [h2] at hp
        exact ⟨_, still_field ho hX (strT_ok hS hl).1 hp, hk⟩
      · cases h
    · cases h
  · cases h
def vIndex (TT : List TI) (ti : TI) (p : PV) (i : Int) (k : PV → Prop) (raw : Prop) : Prop := match ti.k with
  | .arr n e z => match p with
    | .agg l => match tlook TT e with
      | some te => IdxL i n fun m => vPart te l (m * z) k
      | none => False
    | _ => False
  | _ => raw
theorem still_indexA {t e : TypeId} {x y : Operand} {n z : Nat} {l : List PV} {kk : IntKind} {i : Int} (ho : o.op = .index t x y) (hx : pev s x = .agg l) (hy : pev s y = .val (.int kk i)) (ht : arT P t = some (n, e, z)) (hi' : 0 ≤ i ∧ i < n) (h : ppart P e l (i.toNat * z) = some p) : Still P F o s p := by
  intro c A w hi
  obtain ⟨hu, hz⟩ := arT_ok ht
  have hr := pev_rep hi x
  rw [hx] at hr
  generalize hq : A.eval x = y' at hr
  cases hr with
  | agg hl =>
    obtain ⟨v, hv, hrun⟩ := part_ok hl h
    refine ⟨v, hv, fun w' _ => ?_⟩
    simp [execOp, ho, hq, pev_val hi hy, Instr.index, run_underlying hu, asIntOf, hi'.1, hi'.2, asAgg, run_szT hz, hrun]
theorem vIndex_ok {ti : TI} {x y : Operand} {kk : IntKind} {i : Int} {k : PV → Prop} {raw : Prop} (hTT : TOk P TT) (hT : ti.ok P) (ho : o.op = .index ti.t x y) (hy : pev s y = .val (.int kk i)) (h : vIndex TT ti (pev s x) i k raw) : Sv P F o s k ∨ raw := by
  have hk := hT.k
  generalize hX : pev s x = X at h
  unfold vIndex at h
  split at h
  · rename_i n e z hz
    rw [hz] at hk
    split at h
    · split at h
      · rename_i te ht
        obtain ⟨h1, h2⟩ := tlook_ok hTT ht
        obtain ⟨p, hp, hkp⟩ := vPart_ok h1 h.h
        rw [h2] at hp
        exact .inl ⟨_, still_indexA ho hX hy hk h.c hp, hkp⟩
      · cases h
    · cases h
  · exact .inr h

/-! ### whole values -/
theorem setsP_over : ∀ (m l : List PV) (n : Nat), n + m.length ≤ l.length → setsP l n m = over l n m
  | [], l, n, h => by simp [setsP, over]
  | p :: m, l, n, h => by
    simp only [setsP]
    rw [setsP_over m (l.set n p) (n + 1) (by simp at h ⊢; omega)]
    simp only [over, List.length_cons]
    have hlt : n < l.length := by simp at h; omega
    have e1 : (l.set n p).take (n + 1) = l.take n ++ [p] := by
      rw [List.take_succ_eq_append_getElem (by simpa using hlt), List.take_set, List.set_eq_of_length_le (by simp; omega)]
      simp
    have e2 : (l.set n p).drop (n + 1 + m.length) = l.drop (n + (m.length + 1)) := by
      rw [List.drop_set_of_lt (by omega)]
      congr 1; omega
    rw [e1, e2]; simp
def vFill (place : Nat → Option (Nat × Nat)) (s : St) (cs : List PV) (ps : List (Nat × Operand)) (k : List PV → Prop) : Prop := match ps with
  | [] => k cs
  | (i, x) :: ps => match place i with
    | some (off, z) => fo (pev s x) fun p => match okBox p && okv p && Nat.beq (pcells p).length z with
      | true => overG cs off (pcells p) fun cs => vFill place s cs ps k
      | false => False
    | none => False
theorem vFill_ok {place : Nat → Option (Nat × Nat)} : ∀ {ps : List (Nat × Operand)} {cs : List PV} {k : List PV → Prop}, vFill place s cs ps k →
    ∃ out, pfill place cs (ps.map fun x => (x.1, pev s x.2)) = some out ∧ k out ∧ (ps.map fun x => (x.1, pev s x.2)).all (fun x => okv x.2) = true
  | [], cs, k, h => ⟨cs, rfl, h, rfl⟩
  | (i, x) :: ps, cs, k, h => by
    simp only [vFill] at h
    split at h
    · rename_i off z hp
      have h := fo_eq h
      split at h
      · rename_i hb
        simp only [Bool.and_eq_true] at hb
        obtain ⟨⟨b1, b2⟩, b3⟩ := hb
        obtain ⟨hle, h⟩ := overG_eq h
        obtain ⟨out, h1, h2, h3⟩ := vFill_ok h
        refine ⟨out, ?_, h2, ?_⟩
        · simp only [List.map_cons, pfill, hp]
          rw [setsP_over _ _ _ hle, b1, b3, Nat.ble_eq.mpr hle]
          exact h1
        · simp only [List.map_cons, List.all_cons, b2, h3, Bool.and_self]
      · cases h
    · cases h
def vBuild (ti : TI) (s : St) (ps : List (Nat × Operand)) (k : PV → Prop) : Prop := match ti.k with
  | .str fs => vFill (fun i => match lget fs i with
      | some (_, off, z) => some (off, z)
      | none => none) s ti.zero ps fun l => k (.agg l)
  | .arr n _ z => vFill (fun i => match Nat.blt i n with
      | true => some (i * z, z)
      | false => none) s ti.zero ps fun l => k (.agg l)
  | _ => False
theorem vBuild_ok {ti : TI} {ps : Array (Nat × Operand)} {k : PV → Prop} (hT : ti.ok P) (ho : o.op = .build ti.t ps) (h : vBuild ti s ps.toList k) : Sv P F o s k := by
  have hk := hT.k
  have ho' : o.op = .build ti.t ps.toList.toArray := by simpa using ho
  unfold vBuild at h
  split at h
  · rename_i fs hz
    rw [hz] at hk
    obtain ⟨out, h1, h2, h3⟩ := vFill_ok h
    refine ⟨_, still_bld ho' (strT_bld hk hT.zero) h3 (pfill_mono (fun i x hx => ?_) h1), h2⟩
    simp only [lget_eq] at hx
    rw [List.getElem?_map]
    split at hx
    · rename_i hl; rw [hl]; exact hx
    · cases hx
  · rename_i n e z hz
    rw [hz] at hk
    obtain ⟨out, h1, h2, h3⟩ := vFill_ok h
    refine ⟨_, still_bld ho' (arT_bld hk hT.zero) h3 (pfill_mono (fun i x hx => ?_) h1), h2⟩
    split at hx
    · rename_i hb
      rw [List.getElem?_map, List.getElem?_range (by simpa using hb)]
      exact hx
    · cases hx
  · cases h
end
end Go.Proofs.YtlbnlalkimnhdaaDoor.Sim
