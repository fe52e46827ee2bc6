/-
  Sim, part Va: facts on types as a table; forcing; the marks that stand for what a step asks. No condition.
-/
import Derived.Test.YtlbnlalkimnhdaaDoorSimP
namespace Go.Proofs.YtlbnlalkimnhdaaDoor.Sim
open Go.RowKit
set_option linter.unusedVariables false
set_option linter.unusedSimpArgs false

/-! ### types -/
inductive TK where
  | int (k : IntKind)
  | bool
  | flt (k : FloatKind)
  | slice (e : TypeId) (z : Nat)
  | arr (n : Nat) (e : TypeId) (z : Nat)
  | str (fs : List (TypeId × Nat × Nat))
  | oth
structure TI where
  t : TypeId
  k : TK
  sz : Nat
  byt : Nat
  zero : List PV
def TK.agg : TK → Bool
  | .arr _ _ _ => true
  | .str _ => true
  | _ => false
def strT (P : Program) (t : TypeId) : Option (List (TypeId × Nat × Nat)) := match P.underlying t with
  | some (.struct fs) => fs.toList.mapM fun (f : Field) => (P.info? f.type).map fun i => (f.type, f.offset, i.size)
  | _ => none
def undT (P : Program) (t : TypeId) : Bool := (P.underlying t).isSome
def TK.ok (P : Program) (t : TypeId) : TK → Prop
  | .int k => P.underlying t = some (.int k)
  | .bool => P.underlying t = some .bool
  | .flt k => P.underlying t = some (.float k)
  | .slice e z => elT P t = some (e, z)
  | .arr n e z => arT P t = some (n, e, z)
  | .str fs => strT P t = some fs
  | .oth => undT P t = true
structure TI.ok (P : Program) (i : TI) : Prop where
  sz : szT P i.t = some i.sz
  byt : byT P i.t = some i.byt
  zero : zeroT P i.t = some i.zero
  agg : aggT P i.t = some i.k.agg
  k : i.k.ok P i.t
def tlook : List TI → TypeId → Option TI
  | [], _ => none
  | i :: l, t => match Nat.beq i.t t with
    | true => some i
    | false => tlook l t
def TOk (P : Program) : List TI → Prop
  | [] => True
  | i :: l => i.ok P ∧ TOk P l
theorem tlook_ok {P : Program} : ∀ {l : List TI} {t : TypeId} {i : TI}, TOk P l → tlook l t = some i → i.ok P ∧ i.t = t
  | [], _, _, _, h => by simp [tlook] at h
  | j :: l, t, i, hk, h => by
    simp only [tlook] at h
    split at h
    · rename_i hb; cases h; exact ⟨hk.1, Nat.eq_of_beq_eq_true hb⟩
    · exact tlook_ok hk.2 h
theorem strT_ok {P : Program} {t : TypeId} {fs : List (TypeId × Nat × Nat)} (h : strT P t = some fs) {i : Nat} {ty off z : Nat} (hi : fs[i]? = some (ty, off, z)) :
    fldP P t i = some (ty, off) ∧ szT P ty = some z ∧ (z ≠ 0 → fldT P t i = some off) := by
  unfold strT at h
  split at h
  · rename_i a hu
    have key : ∀ (l : List Field) (fs : List (TypeId × Nat × Nat)), l.mapM (fun (f : Field) => (P.info? f.type).map fun i => (f.type, f.offset, i.size)) = some fs → ∀ (i : Nat), fs[i]? = some (ty, off, z) → ∃ (f : Field) (j : TypeInfo), l[i]? = some f ∧ f.type = ty ∧ f.offset = off ∧ P.info? f.type = some j ∧ j.size = z := by
      intro l
      induction l with
      | nil => intro fs h i hi; simp at h; subst h; simp at hi
      | cons f l ih =>
        intro fs h i hi
        rw [List.mapM_cons] at h
        cases hf : P.info? f.type with
        | none => simp [hf] at h
        | some j =>
          cases hl : l.mapM (fun (f : Field) => (P.info? f.type).map fun i => (f.type, f.offset, i.size)) with
          | none => simp [hf, hl] at h
          | some l' =>
            simp [hf, hl] at h
            subst h
            cases i with
            | zero =>
              simp at hi
              exact ⟨f, j, rfl, hi.1, hi.2.1, hf, hi.2.2⟩
            | succ i => simpa using ih l' hl i (by simpa using hi)
    obtain ⟨f, j, h1, h2, h3, h4, h5⟩ := key _ _ h i hi
    have h1' : a[i]? = some f := by simpa using h1
    subst h2 h3
    refine ⟨by simp [fldP, hu, h1'], by simp [szT, h4, h5], fun hz => ?_⟩
    subst h5
    simp [fldT, hu, h1', h4, hz]
  · cases h
theorem strT_bld {P : Program} {t : TypeId} {fs : List (TypeId × Nat × Nat)} {zs : List PV} (h : strT P t = some fs) (hz : zeroT P t = some zs) : bldT P t = some (zs, fs.map fun f => (f.2.1, f.2.2)) := by
  unfold strT at h
  split at h
  · rename_i a hu
    have key : ∀ (l : List Field) (fs : List (TypeId × Nat × Nat)), l.mapM (fun (f : Field) => (P.info? f.type).map fun i => (f.type, f.offset, i.size)) = some fs → l.mapM (fun (f : Field) => (P.info? f.type).map fun i => (f.offset, i.size)) = some (fs.map fun f => (f.2.1, f.2.2)) := by
      intro l
      induction l with
      | nil => intro fs h; simp at h; subst h; rfl
      | cons f l ih =>
        intro fs h
        rw [List.mapM_cons] at h ⊢
        cases hf : P.info? f.type with
        | none => simp [hf] at h
        | some j =>
          cases hl : l.mapM (fun (f : Field) => (P.info? f.type).map fun i => (f.type, f.offset, i.size)) with
          | none => simp [hf, hl] at h
          | some l' =>
            simp [hf, hl] at h
            subst h
            simp [hf, ih l' hl]
    simp only [bldT, hz, hu, key _ _ h, Option.map_some]
  · cases h
theorem arT_bld {P : Program} {t e : TypeId} {n z : Nat} {zs : List PV} (h : arT P t = some (n, e, z)) (hz : zeroT P t = some zs) : bldT P t = some (zs, (List.range n).map fun i => (i * z, z)) := by
  obtain ⟨hu, hs⟩ := arT_ok h
  simp only [bldT, hz, hu, hs, Option.map_some]

/-! ### forcing: each is what it looks like -/
def lget {α : Type} : List α → Nat → Option α
  | [], _ => none
  | x :: _, 0 => some x
  | _ :: l, n + 1 => lget l n
theorem lget_eq {α : Type} : ∀ (l : List α) (n : Nat), lget l n = l[n]?
  | [], n => by simp [lget]
  | x :: _, 0 => rfl
  | _ :: l, n + 1 => by simpa [lget] using lget_eq l n
def fo (p : PV) (k : PV → Prop) : Prop := match p with
  | .val v => k (.val v)
  | .nil => k .nil
  | .ws a b => k (.ws a b)
  | .sl a b => k (.sl a b)
  | .fs a b c => k (.fs a b c)
  | .agg l => k (.agg l)
  | .tup l => k (.tup l)
  | .ptr a b => k (.ptr a b)
  | .cel l => k (.cel l)
  | .cw a b c => k (.cw a b c)
  | .cf a b c => k (.cf a b c)
  | .arr a b c => k (.arr a b c)
  | .ead a b => k (.ead a b)
  | .emp => k .emp
  | .any => k .any
theorem fo_eq {p : PV} {k : PV → Prop} (h : fo p k) : k p := by cases p <;> exact h
def foL (l : List PV) (k : List PV → Prop) : Prop := match l with
  | [] => k []
  | p :: l => fo p fun p => foL l fun l => k (p :: l)
theorem foL_eq : ∀ {l : List PV} {k : List PV → Prop}, foL l k → k l
  | [], _, h => (by simpa [foL] using h)
  | p :: l, k, h => foL_eq (l := l) (k := fun l => k (p :: l)) (fo_eq (by simpa only [foL] using h))
def takeG (n : Nat) (l : List PV) (k : List PV → Prop) : Prop := match n with
  | 0 => k []
  | n + 1 => match l with
    | [] => False
    | p :: l => fo p fun p => takeG n l fun l => k (p :: l)
theorem takeG_eq : ∀ {n : Nat} {l : List PV} {k : List PV → Prop}, takeG n l k → n ≤ l.length ∧ k (l.take n)
  | 0, l, k, h => ⟨Nat.zero_le _, by simpa [takeG] using h⟩
  | n + 1, [], k, h => (by simp [takeG] at h)
  | n + 1, p :: l, k, h => by
    simp only [takeG] at h
    obtain ⟨h1, h2⟩ := takeG_eq (n := n) (l := l) (k := fun l => k (p :: l)) (fo_eq h)
    exact ⟨by simpa using h1, by simpa using h2⟩
def setG {α : Type} (l : List α) (n : Nat) (p : α) (k : List α → Prop) : Prop := match l with
  | [] => False
  | q :: l => match n with
    | 0 => k (p :: l)
    | n + 1 => setG l n p fun l => k (q :: l)
theorem setG_eq {α : Type} : ∀ {l : List α} {n : Nat} {p : α} {k : List α → Prop}, setG l n p k → n < l.length ∧ k (l.set n p)
  | [], n, p, k, h => (by simp [setG] at h)
  | q :: l, 0, p, k, h => ⟨by simp, (by simpa [setG] using h)⟩
  | q :: l, n + 1, p, k, h => by
    simp only [setG] at h
    obtain ⟨h1, h2⟩ := setG_eq (l := l) (n := n) (k := fun l => k (q :: l)) h
    exact ⟨by simpa using h1, h2⟩
def overH (l m : List PV) (k : List PV → Prop) : Prop := match m with
  | [] => k l
  | p :: m => match l with
    | [] => False
    | _ :: l => overH l m fun l => k (p :: l)
def overG (l : List PV) (n : Nat) (m : List PV) (k : List PV → Prop) : Prop := match n with
  | 0 => overH l m k
  | n + 1 => match l with
    | [] => False
    | q :: l => overG l n m fun l => k (q :: l)
theorem overH_eq : ∀ {m l : List PV} {k : List PV → Prop}, overH l m k → m.length ≤ l.length ∧ k (m ++ l.drop m.length)
  | [], l, k, h => ⟨by simp, by simpa [overH] using h⟩
  | p :: m, [], k, h => (by simp [overH] at h)
  | p :: m, _ :: l, k, h => by
    simp only [overH] at h
    obtain ⟨h1, h2⟩ := overH_eq (m := m) (l := l) (k := fun l => k (p :: l)) h
    exact ⟨by simpa using h1, by simpa using h2⟩
theorem overG_eq : ∀ {n : Nat} {l m : List PV} {k : List PV → Prop}, overG l n m k → n + m.length ≤ l.length ∧ k (over l n m)
  | 0, l, m, k, h => by
    simp only [overG] at h
    obtain ⟨h1, h2⟩ := overH_eq h
    exact ⟨by simpa using h1, by simpa [over] using h2⟩
  | n + 1, [], m, k, h => (by simp [overG] at h)
  | n + 1, q :: l, m, k, h => by
    simp only [overG] at h
    obtain ⟨h1, h2⟩ := overG_eq (n := n) (l := l) (m := m) (k := fun l => k (q :: l)) h
    refine ⟨by simp; omega, ?_⟩
    have : over (q :: l) (n + 1) m = q :: over l n m := by simp [over, Nat.add_right_comm n 1 m.length]
    rw [this]; exact h2
def snocG {α : Type} (l : List α) (p : α) (k : List α → Prop) : Prop := match l with
  | [] => k [p]
  | q :: l => snocG l p fun l => k (q :: l)
theorem snocG_eq {α : Type} : ∀ {l : List α} {p : α} {k : List α → Prop}, snocG l p k → k (l ++ [p])
  | [], _, _, h => (by simpa [snocG] using h)
  | q :: l, p, k, h => snocG_eq (l := l) (k := fun l => k (q :: l)) (by simpa only [snocG] using h)
def lits : List Nat := [0, 1, 2, 3, 4, 5, 6, 7, 8, 9, 10, 11, 12, 13, 14, 15, 16, 17, 18, 19, 20, 21, 22, 23, 24, 25, 26, 27, 28, 29, 30, 31, 32, 33, 34, 35, 36, 37, 38, 39, 40, 41, 42, 43, 44, 45, 46, 47, 48]
def lenH {α : Type} (l : List α) (ds : List Nat) (k : Nat → Prop) : Prop := match ds with
  | [] => False
  | d :: ds => match l with
    | [] => k d
    | _ :: l => lenH l ds k
theorem lenH_eq {α : Type} : ∀ {l : List α} {ds : List Nat} {j : Nat} {k : Nat → Prop}, (∀ i d, ds[i]? = some d → d = j + i) → lenH l ds k → k (j + l.length)
  | l, [], j, k, _, h => by cases l <;> simp [lenH] at h
  | [], d :: ds, j, k, hd, h => by
    simp only [lenH] at h
    have := hd 0 d rfl
    subst this; exact h
  | _ :: l, d :: ds, j, k, hd, h => by
    simp only [lenH] at h
    have := lenH_eq (l := l) (ds := ds) (j := j + 1) (k := k) (fun i d hi => by have := hd (i + 1) d (by simpa using hi); omega) h
    simpa [Nat.add_assoc, Nat.add_comm 1] using this
def lenG {α : Type} (l : List α) (k : Nat → Prop) : Prop := lenH l lits k
theorem lits_ok : ∀ i d, lits[i]? = some d → d = 0 + i := by
  intro i d h
  have hl : lits = List.range 49 := by decide
  rw [hl] at h
  have hi := (List.getElem?_eq_some_iff.1 h).1
  simp at hi
  rw [List.getElem?_range hi] at h
  cases h; omega
theorem lenG_eq {α : Type} {l : List α} {k : Nat → Prop} (h : lenG l k) : k l.length := by simpa using lenH_eq lits_ok h
def ikEq : IntKind → IntKind → Bool
  | .i8, .i8 => true
  | .i16, .i16 => true
  | .i32, .i32 => true
  | .i64, .i64 => true
  | .u8, .u8 => true
  | .u16, .u16 => true
  | .u32, .u32 => true
  | .u64, .u64 => true
  | _, _ => false
theorem ikEq_ok {a b : IntKind} (h : ikEq a b = true) : a = b := by cases a <;> cases b <;> first | rfl | cases h
def fkEq : FloatKind → FloatKind → Bool
  | .f32, .f32 => true
  | .f64, .f64 => true
  | _, _ => false
theorem fkEq_ok {a b : FloatKind} (h : fkEq a b = true) : a = b := by cases a <;> cases b <;> first | rfl | cases h

/-! ### marks -/
structure Cond (c : Prop) : Prop where
  h : c
/-- A condition, then the rest. -/
structure Chk (c K : Prop) : Prop where
  c : Cond c
  k : K
structure WrapG (k : IntKind) (n : Int) (K : Int → Prop) : Prop where
  h : K (k.wrap n)
structure DivG (k : IntKind) (a b : Int) (K : Int → Prop) : Prop where
  b0 : b ≠ 0
  h : K (k.wrap (a.tdiv b))
structure ModG (a b : Int) (K : Int → Prop) : Prop where
  b0 : b ≠ 0
  h : K (a.tmod b)
structure ShlG (k : IntKind) (a b : Int) (K : Int → Prop) : Prop where
  b0 : 0 ≤ b
  h : K (k.wrap (a * 2 ^ min b.toNat k.bits))
structure ShrG (k : IntKind) (a b : Int) (K : Int → Prop) : Prop where
  b0 : 0 ≤ b
  h : K (a.fdiv (2 ^ min b.toNat k.bits))
def bitI (op : BinOp) (k : IntKind) (a b : Int) : Int := match op with
  | .and => k.wrap (BitVec.ofInt k.bits a &&& BitVec.ofInt k.bits b).toNat
  | .or => k.wrap (BitVec.ofInt k.bits a ||| BitVec.ofInt k.bits b).toNat
  | .xor => k.wrap (BitVec.ofInt k.bits a ^^^ BitVec.ofInt k.bits b).toNat
  | .andNot => k.wrap (BitVec.ofInt k.bits a &&& ~~~BitVec.ofInt k.bits b).toNat
  | _ => 0
structure BitG (op : BinOp) (k : IntKind) (a b : Int) (K : Int → Prop) : Prop where
  h : K (bitI op k a b)
structure FltG (op : BinOp) (k : FloatKind) (a b : Nat) (K : Value → Prop) : Prop where
  h : ∃ v, fbin op k a b = some v ∧ K v
structure I2fG (k : FloatKind) (n : Int) (K : Nat → Prop) : Prop where
  h : K (k.nearest n)
structure F2iG (f : FloatKind) (k : IntKind) (b : Nat) (K : Int → Prop) : Prop where
  h : ∃ n, (f.decode b).toInt .zero = some n ∧ (k.min ≤ n ∧ n ≤ k.max) ∧ K n
structure FnegG (k : FloatKind) (b : Nat) (K : Nat → Prop) : Prop where
  h : K (Op.negFloat k b)
/-- Two ways. -/
structure ForkG (b : Bool) (A B : Prop) : Prop where
  t : b = true → A
  f : b = false → B
/-- An index, any. -/
structure IdxG (i n : Int) (K : Int → Prop) : Prop where
  c : 0 ≤ i ∧ i < n
  h : K i
/-- An index that wants to be known. -/
structure IdxL (i : Int) (n : Nat) (K : Nat → Prop) : Prop where
  c : 0 ≤ i ∧ i < n
  h : K i.toNat
structure SlcG (l h m n : Int) (K : Prop) : Prop where
  c : 0 ≤ l ∧ l ≤ h ∧ h ≤ n ∧ m = h
  h : K
/-- A table's word. -/
structure TabG (F : Fr) (g n : Nat) (i : Int) (K : PV → Prop) : Prop where
  h : ∃ k a, (g, a.map (Value.int k)) ∈ F.G ∧ a.length = n ∧ (0 ≤ i ∧ i < n) ∧ K (.cw k a i)
/-- A call of a function with a body. -/
structure CallG (P : Program) (F : Fr) (e : Bool) (f : FuncId) (args : List PV) (s : St) (K : St → PV → Prop) : Prop where
  h : ∀ c a w (vs : List Value), Inv F c s a w → RepL c args vs → Calls P f vs.toArray w fun en w' => ∃ v r c' s', en = .returned v ∧ s'.n = s.n ∧ Inv F c' s' a w' ∧ Rep c' r v ∧ K s' r ∧ (e = true → Ext w w')
/-- A call of a function without a body. -/
structure ExtG (P : Program) (f : FuncId) (vs : List Value) (K : PV → Prop) : Prop where
  h : ∃ r, ExtOk P f vs r ∧ K r
/-- Whatever has no rule: the operation itself. -/
structure RawG (A : Prop) : Prop where
  h : A
/-- A goal that waits for its own words. -/
structure Stuck (A : Prop) : Prop where
  h : A

theorem Chk.mk' {c K : Prop} (h : c) (k : K) : Chk c K := ⟨⟨h⟩, k⟩
section
variable {k : IntKind} {a b n : Int} {K : Int → Prop}
theorem wrap_g (h : inR k n) (x : K n) : WrapG k n K := ⟨by rw [wrap_in h]; exact x⟩
theorem wrap_r (x : K (k.wrap n)) : WrapG k n K := ⟨x⟩
theorem wrap_e {m : Int} (h : k.wrap n = m) (x : K m) : WrapG k n K := ⟨by rw [h]; exact x⟩
theorem inR_div {k : IntKind} {a b : Int} (h : inR k a) (h0 : 0 ≤ a) (hb : 0 < b) : inR k (a / b) := by
  have h1 := Int.ediv_nonneg h0 (Int.le_of_lt hb)
  have h2 := Int.ediv_le_self b h0
  cases k <;> simp only [inR] at h ⊢ <;> omega
theorem div_g (h : 0 ≤ a) (hb : 0 < b) (hr : inR k a) (x : K (a / b)) : DivG k a b K := ⟨by omega, by rw [Int.tdiv_eq_ediv_of_nonneg h, wrap_in (inR_div hr h hb)]; exact x⟩
theorem mod_g (h : 0 ≤ a) (hb : 0 < b) (x : K (a % b)) : ModG a b K := ⟨by omega, by rw [Int.tmod_eq_emod_of_nonneg h]; exact x⟩
theorem idx_g {i : Int} (c : 0 ≤ i ∧ i < n) (h : K i) : IdxG i n K := ⟨c, h⟩
theorem idx_l {i : Int} {n : Nat} {K : Nat → Prop} (m : Nat) (e : i = (m : Int)) (c : m < n) (h : K m) : IdxL i n K := ⟨by omega, by subst e; simpa using h⟩
theorem fork_d {p : Prop} [Decidable p] {A B : Prop} (t : p → A) (f : ¬ p → B) : ForkG (decide p) A B := ⟨fun h => t (of_decide_eq_true h), fun h => f (of_decide_eq_false h)⟩
theorem fork_t {p : Prop} [Decidable p] {A B : Prop} (h : p) (t : A) : ForkG (decide p) A B := ⟨fun _ => t, fun e => absurd h (of_decide_eq_false e)⟩
theorem fork_f {p : Prop} [Decidable p] {A B : Prop} (h : ¬ p) (f : B) : ForkG (decide p) A B := ⟨fun e => absurd (of_decide_eq_true e) h, fun _ => f⟩
theorem fork_tt {A B : Prop} (t : A) : ForkG true A B := ⟨fun _ => t, fun e => by cases e⟩
theorem fork_ff {A B : Prop} (f : B) : ForkG false A B := ⟨fun e => (by cases e), fun _ => f⟩
theorem fork_n {b : Bool} {A B : Prop} (h : ForkG b B A) : ForkG (!b) A B := ⟨fun e => h.f (by simpa using e), fun e => h.t (by simpa using e)⟩
theorem fork_b {b : Bool} {A B : Prop} (t : b = true → A) (f : b = false → B) : ForkG b A B := ⟨t, f⟩
theorem fork_e {b c : Bool} {A B : Prop} (e : b = c) (h : ForkG c A B) : ForkG b A B := e ▸ h
theorem mask_g {b m : Int} (j : Nat) (hm : (2 : Int) ^ j = m) (e : b = m - 1) (hj : j ≤ 64) (h : 0 ≤ a ∧ a < 18446744073709551616) (x : K (a % m)) : BitG .and .u64 a b K := by
  subst hm
  subst e
  refine ⟨?_⟩
  have e2 : bitI .and .u64 a (2 ^ j - 1) = a % 2 ^ j := by
    obtain ⟨n, rfl⟩ : ∃ n : Nat, a = n := ⟨a.toNat, by omega⟩
    have hpos : 0 < 2 ^ j := Nat.pow_pos (by decide)
    have hp : (2 : Int) ^ j - 1 = ((2 ^ j - 1 : Nat) : Int) := by
      rw [Int.natCast_sub hpos]; simp
    have hle : 2 ^ j ≤ 2 ^ 64 := Nat.pow_le_pow_right (by decide) hj
    have e0 : bitI .and .u64 (n : Int) (2 ^ j - 1) = IntKind.u64.wrap (BitVec.ofInt 64 n &&& BitVec.ofInt 64 (2 ^ j - 1)).toNat := rfl
    rw [e0, hp, BitVec.toNat_and, BitVec.ofInt_natCast, BitVec.ofInt_natCast, BitVec.toNat_ofNat, BitVec.toNat_ofNat, Nat.mod_eq_of_lt (a := n) (by omega), Nat.mod_eq_of_lt (a := 2 ^ j - 1) (by omega), Nat.and_two_pow_sub_one_eq_mod]
    have hlt : n % 2 ^ j < 2 ^ j := Nat.mod_lt _ hpos
    rw [wrap_in (by simp only [inR]; omega)]
    simp
  rw [e2]; exact x
theorem mask32_g {b m : Int} (j : Nat) (hm : (2 : Int) ^ j = m) (e : b = m - 1) (hj : j ≤ 32) (h : 0 ≤ a ∧ a < 4294967296) (x : K (a % m)) : BitG .and .u32 a b K := by
  subst hm
  subst e
  refine ⟨?_⟩
  have e2 : bitI .and .u32 a (2 ^ j - 1) = a % 2 ^ j := by
    obtain ⟨n, rfl⟩ : ∃ n : Nat, a = n := ⟨a.toNat, by omega⟩
    have hpos : 0 < 2 ^ j := Nat.pow_pos (by decide)
    have hp : (2 : Int) ^ j - 1 = ((2 ^ j - 1 : Nat) : Int) := by
      rw [Int.natCast_sub hpos]; simp
    have hle : 2 ^ j ≤ 2 ^ 32 := Nat.pow_le_pow_right (by decide) hj
    have e0 : bitI .and .u32 (n : Int) (2 ^ j - 1) = IntKind.u32.wrap (BitVec.ofInt 32 n &&& BitVec.ofInt 32 (2 ^ j - 1)).toNat := rfl
    rw [e0, hp, BitVec.toNat_and, BitVec.ofInt_natCast, BitVec.ofInt_natCast, BitVec.toNat_ofNat, BitVec.toNat_ofNat, Nat.mod_eq_of_lt (a := n) (by omega), Nat.mod_eq_of_lt (a := 2 ^ j - 1) (by omega), Nat.and_two_pow_sub_one_eq_mod]
    have hlt : n % 2 ^ j < 2 ^ j := Nat.mod_lt _ hpos
    rw [wrap_in (by simp only [inR]; omega)]
    simp
  rw [e2]; exact x
theorem shl1_g {k : IntKind} (hk : k = .u32 ∨ k = .u64) (hb : 0 ≤ b ∧ b < k.bits) (x : K (2 ^ b.toNat)) : ShlG k 1 b K := by
  refine ⟨hb.1, ?_⟩
  have h1 : min b.toNat k.bits = b.toNat := by omega
  have h2 : (2 : Nat) ^ b.toNat < 2 ^ k.bits := Nat.pow_lt_pow_right (by decide) (by omega)
  have h3 : ((2 : Int) ^ b.toNat) = ((2 ^ b.toNat : Nat) : Int) := by simp
  have h4 : inR k (2 ^ b.toNat) := by
    rw [h3]
    obtain ⟨m, hm⟩ : ∃ m : Nat, m = 2 ^ b.toNat := ⟨_, rfl⟩
    rw [← hm] at h2 ⊢
    rcases hk with rfl | rfl
    · have : m < 4294967296 := h2
      simp only [inR]; omega
    · have : m < 18446744073709551616 := h2
      simp only [inR]; omega
  rw [h1, Int.one_mul, wrap_in h4]; exact x
theorem shr_p {k : IntKind} (h : 0 ≤ a) (hb : 0 ≤ b ∧ b ≤ k.bits) (x : K (a / 2 ^ b.toNat)) : ShrG k a b K := by
  refine ⟨hb.1, ?_⟩
  rw [show min b.toNat k.bits = b.toNat by omega, Int.fdiv_eq_ediv_of_nonneg _ (by exact_mod_cast Nat.zero_le _)]
  exact x
theorem shr_g {m : Int} (j : Nat) (e : b = j) (hj : j ≤ k.bits) (h : 0 ≤ a) (hm : (2 : Int) ^ j = m) (x : K (a / m)) : ShrG k a b K := by
  subst e hm
  refine ⟨by omega, ?_⟩
  rw [show min (j : Int).toNat k.bits = j by simp; omega, Int.fdiv_eq_ediv_of_nonneg _ (by exact_mod_cast Nat.zero_le _)]
  exact x
theorem shl_g {m : Int} (j : Nat) (e : b = j) (hj : j ≤ k.bits) (hm : (2 : Int) ^ j = m) (h : inR k (a * m)) (x : K (a * m)) : ShlG k a b K := by
  subst e hm
  refine ⟨by omega, ?_⟩
  rw [show min (j : Int).toNat k.bits = j by simp; omega, wrap_in h]
  exact x
end
end Go.Proofs.YtlbnlalkimnhdaaDoor.Sim
