/-
  Sim, part Vc: cuts, memory, literals, append, copy, calls; every operation. No condition.
-/
import Derived.Test.YtlbnlalkimnhdaaDoorVb
namespace Go.Proofs.YtlbnlalkimnhdaaDoor.Sim
open Go.RowKit
set_option linter.unusedVariables false
set_option linter.unusedSimpArgs false
section
variable {P : Program} {F : Fr} {TT : List TI} {m : Md} {o : Oper} {s : St} {K : St → Prop} {p q : PV}

/-! ### cuts -/
def iv (s : St) (x : Operand) (k : Int → Prop) (raw : Prop) : Prop := match pev s x with
  | .val (.int _ i) => k i
  | _ => raw
def mv (s : St) (x : Option Operand) (h : Int) (k : Int → Prop) (raw : Prop) : Prop := match x with
  | none => k h
  | some x => iv s x k raw
theorem iv_ok {x : Operand} {k : Int → Prop} {raw : Prop} (h : iv s x k raw) : (∃ i, evI s (some x) 0 = some i ∧ k i) ∨ raw := by
  unfold iv at h
  split at h
  · rename_i kk i hx; exact .inl ⟨i, by simp [evI, hx], h⟩
  · exact .inr h
theorem evI_any {x : Operand} {i z z' : Int} (h : evI s (some x) z = some i) : evI s (some x) z' = some i := by simpa [evI] using h
theorem mv_ok {x : Option Operand} {h : Int} {k : Int → Prop} {raw : Prop} (hk : mv s x h k raw) : (∃ i, evI s x h = some i ∧ k i) ∨ raw := by
  cases x with
  | none => exact .inl ⟨h, rfl, hk⟩
  | some x =>
    rcases iv_ok hk with ⟨i, h1, h2⟩ | h
    · exact .inl ⟨i, evI_any h1, h2⟩
    · exact .inr h
def isZ : Option Operand → Bool
  | some (.const (.int _ (.ofNat 0))) => true
  | _ => false
theorem isZ_ok {x : Option Operand} (h : isZ x = true) (z : Int) : evI s x z = some 0 ∧ x.isSome = true := by
  unfold isZ at h
  split at h
  · exact ⟨rfl, rfl⟩
  · cases h
/-- What a cut of n elements asks; what is left is told by its ends (none: as it was). -/
def vCut (s : St) (n : Int) (lo hi mx : Option Operand) (k : Option Int → Option Int → Prop) (raw : Prop) : Prop := match lo with
  | none => match hi with
    | none => match mx with
      | none => k none none
      | some _ => raw
    | some hi => iv s hi (fun h => mv s mx h (fun m => SlcG 0 h m n (k none (some h))) raw) raw
  | some lo => iv s lo (fun l => match hi with
    | none => match mx with
      | none => SlcG l n n n (k (some l) none)
      | some _ => raw
    | some hi => iv s hi (fun h => mv s mx h (fun m => SlcG l h m n (k (some l) (some h))) raw) raw) raw
theorem vCut_ok {n : Int} {lo hi mx : Option Operand} {k : Option Int → Option Int → Prop} {raw : Prop} (hn : 0 ≤ n) (hk : vCut s n lo hi mx k raw) :
    (∃ l h, evI s lo 0 = some (l.getD 0) ∧ evI s hi n = some (h.getD n) ∧ evI s mx (h.getD n) = some (h.getD n) ∧ (mx.isSome = true → hi.isSome = true) ∧ (0 ≤ l.getD 0 ∧ l.getD 0 ≤ h.getD n ∧ h.getD n ≤ n) ∧ k l h) ∨ raw := by
  unfold vCut at hk
  split at hk
  · split at hk
    · split at hk
      · exact .inl ⟨none, none, rfl, rfl, rfl, by simp, ⟨by simp, by simpa using hn, by simp⟩, hk⟩
      · exact .inr hk
    · rcases iv_ok hk with ⟨h, h1, hk⟩ | h
      · rcases mv_ok hk with ⟨m, h2, hk⟩ | h
        · have hc := hk.c
          refine .inl ⟨none, some h, rfl, evI_any h1, by simp; rw [h2, hc.2.2.2], by simp, ⟨by simp, by simp; omega, by simp; omega⟩, hk.h⟩
        · exact .inr h
      · exact .inr h
  · rcases iv_ok hk with ⟨l, h0, hk⟩ | h
    · split at hk
      · split at hk
        · have hc := hk.c
          exact .inl ⟨some l, none, h0, rfl, rfl, by simp, ⟨by simp; omega, by simp; omega, by simp⟩, hk.h⟩
        · exact .inr hk
      · rcases iv_ok hk with ⟨h, h1, hk⟩ | h
        · rcases mv_ok hk with ⟨m, h2, hk⟩ | h
          · have hc := hk.c
            exact .inl ⟨some l, some h, h0, evI_any h1, by simp; rw [h2, hc.2.2.2], by simp, ⟨by simp; omega, by simp; omega, by simp; omega⟩, hk.h⟩
          · exact .inr h
        · exact .inr h
    · exact .inr h
def cutW (a : List Int) (l h : Option Int) : List Int := match h with
  | none => match l with
    | none => a
    | some l => a.drop l.toNat
  | some h => match l with
    | none => a.take h.toNat
    | some l => (a.take h.toNat).drop l.toNat
theorem cutW_eq {a : List Int} {l h : Option Int} : cutW a l h = (a.take (h.getD a.length).toNat).drop (l.getD 0).toNat := by
  cases l <;> cases h <;> simp [cutW]
def vSlc (ti : TI) (s : St) (p : PV) (lo hi mx : Option Operand) (k : PV → Prop) (raw : Prop) : Prop := match ti.k with
  | .slice _ z => match isZ hi && isZ mx && lo.isNone with
    | true => match p with
      | .ws _ _ => k .emp
      | .nil => k .emp
      | .sl _ _ => k .emp
      | _ => raw
    | false => match p with
      | .ws kk a => match Nat.beq z 1 with
        | true => vCut s a.length lo hi mx (fun l h => match h with
          | none => match l with
            | none => k (.ws kk a)
            | some l => k (.ws kk (a.drop l.toNat))
          | some h => match l with
            | none => k (.ws kk (a.take h.toNat))
            | some l => k (.ws kk ((a.take h.toNat).drop l.toNat))) raw
        | false => raw
      | .arr q b n => match lget s.ob q with
        | some (some ⟨z', _, _⟩) => match Nat.beq z' z with
          | true => vCut s n lo hi mx (fun l h => match h with
            | none => match l with
              | none => k (.arr q b n)
              | some l => k (.arr q (b + l.toNat) (n - l.toNat))
            | some h => match l with
              | none => k (.arr q b h.toNat)
              | some l => k (.arr q (b + l.toNat) (h.toNat - l.toNat))) raw
          | false => raw
        | _ => raw
      | .sl sz l => match lo, hi, mx with
        | some lo, none, none => match Nat.beq z sz && Nat.blt 0 sz with
          | true => iv s lo (fun i => IdxL i (l.length / sz + 1) fun m => Chk (l.length / sz * sz = l.length) (k (.sl sz (l.drop (m * sz))))) raw
          | false => raw
        | _, _, _ => raw
      | _ => raw
  | _ => raw
theorem still_emp {ty e : TypeId} {z : Nat} {x : Operand} {lo hi mx : Option Operand} (ho : o.op = .slice ty x lo hi mx) (ht : elT P ty = some (e, z)) (h1 : isZ hi = true) (h2 : isZ mx = true) (h3 : lo.isNone = true) (hx : ∀ c v, Rep c (pev s x) v → ∃ B n cap, v = .slice B n cap ∧ n ≤ cap) : Still P F o s .emp := by
  intro c A w hi'
  obtain ⟨B, n, cap, hv, hle⟩ := hx c _ (pev_rep hi' x)
  have hlo : lo = none := by simpa using h3
  subst hlo
  refine ⟨_, .emp, fun w' _ => run_cut hi' ht ho hv hle (l := 0) (h := 0) (m := 0) rfl (isZ_ok h1 _).1 (isZ_ok h2 _).1 (fun _ => (isZ_ok (s := s) h1 0).2) ⟨by omega, by omega, by omega, by omega, by omega⟩ w'⟩
theorem still_cutS {ty e : TypeId} {z : Nat} {x lo : Operand} {l : List PV} {i : Int} (ho : o.op = .slice ty x (some lo) none none) (hx : pev s x = .sl z l) (ht : elT P ty = some (e, z)) (h1 : evI s (some lo) 0 = some i) (h0 : 0 ≤ i ∧ i < (l.length / z + 1 : Nat)) (hd : l.length / z * z = l.length) : Still P F o s (.sl z (l.drop (i.toNat * z))) := by
  intro c A w hi
  have hr := pev_rep hi x
  rw [hx] at hr
  generalize hq : A.eval x = v at hr
  have hr0 := hr
  cases hr with
  | @sl _ _ n cap B _ us k0 k1 k2 k3 k4 =>
    have hn : n = l.length / z := by rw [← k1, Nat.mul_div_cancel _ k0]
    have hrep := rep_cut (l := i.toNat) (h := n) (m := cap) hr0 (by omega) (Nat.le_refl _) k2 (Nat.le_refl _)
    rw [k1, List.take_length] at hrep
    refine ⟨_, hrep, fun w' _ => ?_⟩
    have := run_cut hi ht ho hq k2 (l := i) (h := n) (m := cap) h1 rfl rfl (by simp) ⟨h0.1, by omega, by omega, by omega, by omega⟩ w'
    simpa using this
theorem vSlc_ok {ti : TI} {x : Operand} {lo hi mx : Option Operand} {k : PV → Prop} {raw : Prop} (hT : ti.ok P) (ho : o.op = .slice ti.t x lo hi mx) (h : vSlc ti s (pev s x) lo hi mx k raw) : Sv P F o s k ∨ raw := by
  have hk := hT.k
  generalize hX : pev s x = X at h
  unfold vSlc at h
  split at h
  · rename_i e z hz
    rw [hz] at hk
    split at h
    · rename_i hb
      simp only [Bool.and_eq_true] at hb
      obtain ⟨⟨b1, b2⟩, b3⟩ := hb
      split at h
      · refine .inl ⟨_, still_emp ho hk b1 b2 b3 (fun c v hr => ?_), h⟩
        rw [hX] at hr; cases hr with | ws h1 h2 h4 => exact ⟨_, _, _, rfl, h2⟩
      · refine .inl ⟨_, still_emp ho hk b1 b2 b3 (fun c v hr => ?_), h⟩
        rw [hX] at hr; cases hr; exact ⟨_, _, _, rfl, Nat.le_refl _⟩
      · refine .inl ⟨_, still_emp ho hk b1 b2 b3 (fun c v hr => ?_), h⟩
        rw [hX] at hr; cases hr with | sl h0 h1 h2 h3 h4 => exact ⟨_, _, _, rfl, h2⟩
      · exact .inr h
    · split at h
      · split at h
        · rename_i kk a _ hb
          obtain rfl := Nat.eq_of_beq_eq_true hb
          rcases vCut_ok (by omega) h with ⟨l, u, h1, h2, h3, h4, h5, h6⟩ | h
          · refine .inl ⟨_, still_cutW ho hX hk h1 h2 h3 h4 h5, ?_⟩
            cases l <;> cases u <;> simpa using h6
          · exact .inr h
        · exact .inr h
      · split at h
        · rename_i q b n _ z' T cc hl
          rw [lget_eq] at hl
          split at h
          · rename_i hb
            obtain rfl := Nat.eq_of_beq_eq_true hb
            rcases vCut_ok (by omega) h with ⟨l, u, h1, h2, h3, h4, h5, h6⟩ | h
            · refine .inl ⟨_, still_cutR ho hX hl rfl hk h1 h2 h3 h4 h5, ?_⟩
              cases l <;> cases u <;> simpa using h6
            · exact .inr h
          · exact .inr h
        · exact .inr h
      · split at h
        · split at h
          · rename_i hb
            simp only [Bool.and_eq_true] at hb
            obtain ⟨b1, b2⟩ := hb
            obtain rfl := Nat.eq_of_beq_eq_true b1
            rcases iv_ok h with ⟨i, h1, h⟩ | h
            · exact .inl ⟨_, still_cutS ho hX hk h1 h.c h.h.c.h, h.h.k⟩
            · exact .inr h
          · exact .inr h
        · exact .inr h
      · exact .inr h
  · exact .inr h

/-! ### memory -/
theorem TI.int_zero {ti : TI} {kk k2 : IntKind} (hT : ti.ok P) (hz : ti.zero = [.val (.int k2 0)]) (hk : ikEq k2 kk = true) : zeroT P ti.t = some [.val (.int kk 0)] := by
  have := ikEq_ok hk
  subst this
  rw [hT.zero, hz]
/-- What make asks. -/
structure MakG (n m : Int) (nb : Nat) (K : Prop) : Prop where
  c : 0 ≤ n ∧ n ≤ m ∧ (nb : Int) * m ≤ 281474976710656 ∧ m ≤ 9223372036854775807
  h : K
def zeroI (zs : List PV) : Option IntKind := match zs with
  | [.val (.int k (.ofNat 0))] => some k
  | _ => none
theorem zeroI_ok {zs : List PV} {k : IntKind} (h : zeroI zs = some k) : zs = [.val (.int k 0)] := by
  unfold zeroI at h
  split at h
  · cases h; rfl
  · cases h
def vMake (TT : List TI) (ti : TI) (md : Md) (d : Option Tmp) (s : St) (x y : PV) (K : St → Prop) (raw : Prop) : Prop := match ti.k with
  | .slice e z => match tlook TT e with
    | some te => match zeroI te.zero with
      | some kk => match Nat.beq z 1 && md.mem with
        | true => match x with
          | .val (.int _ n) => match y with
            | .val (.int _ c) => MakG n c te.byt (match s with
              | ⟨N, t, bx, ob⟩ => snocG ob (some ⟨1, e, .w kk (List.replicate n.toNat 0)⟩) fun ob' => lenG ob fun q => vPut d ⟨N, t, bx, ob'⟩ (.arr q 0 n.toNat) K)
            | _ => raw
          | _ => raw
        | false => raw
      | none => raw
    | none => raw
  | _ => raw
theorem vMake_ok {ti : TI} {x y : Operand} {raw : Prop} (hTT : TOk P TT) (hT : ti.ok P) (ho : o.op = .makeSlice ti.t x y) (hd : o.dst.isSome = true) (h : vMake TT ti m o.dst s (pev s x) (pev s y) K raw) : Sem P F m o s K ∨ raw := by
  have hk := hT.k
  generalize hX : pev s x = X at h
  generalize hY : pev s y = Y at h
  unfold vMake at h
  split at h
  · rename_i e z hz
    rw [hz] at hk
    split at h
    · rename_i te hte
      obtain ⟨t1, t2⟩ := tlook_ok hTT hte
      split at h
      · rename_i kk hzi
        have hzi := zeroI_ok hzi
        split at h
        · rename_i hb
          simp only [Bool.and_eq_true] at hb
          obtain ⟨b1, b2⟩ := hb
          obtain rfl := Nat.eq_of_beq_eq_true b1
          split at h
          · split at h
            · rename_i k1 n _ k2 c
              obtain ⟨N, t, bx, ob⟩ := s
              obtain ⟨d, hd⟩ := Option.isSome_iff_exists.1 hd
              have h2 := lenG_eq (snocG_eq h.h)
              subst t2
              rw [hd] at h2
              unfold vPut at h2
              simp only at h2
              split at h2
              · rename_i hbl
                refine .inl (Sem.does b2 (Does.make (n := n) (m := c) ho hX hY hk (by rw [t1.zero, hzi]) t1.byt h.c hd hbl ?_))
                intro q c hq hc
                subst hq hc
                exact h2
              · cases h2
            · exact .inr h
          · exact .inr h
        · exact .inr h
      · exact .inr h
    · exact .inr h
  · exact .inr h
def vAlloc (ti : TI) (d : Option Tmp) (s : St) (K : St → Prop) : Prop := match s with
  | ⟨N, t, bx, ob⟩ => snocG bx ti.zero fun bx' => lenG bx fun b => vPut d ⟨N, t, bx', ob⟩ (.ptr b 0) K
theorem vAlloc_ok {ti : TI} (hm : m.mem = true) (hT : ti.ok P) (ho : o.op = .alloc ti.t) (h : vAlloc ti o.dst s K) : Sem P F m o s K := by
  obtain ⟨N, t, bx, ob⟩ := s
  have h2 := vPut_ok (lenG_eq (snocG_eq h))
  exact Sem.does hm (Does.alloc ho hT.zero h2.1 h2.2)
def vBox (d : Option Tmp) (s : St) (p : PV) (K : St → Prop) (raw : Prop) : Prop := match s with
  | ⟨N, t, bx, ob⟩ => match p with
    | .agg l => snocG bx l fun bx' => lenG bx fun b => vPut d ⟨N, t, bx', ob⟩ (.ptr b 0) K
    | p => match okOne p with
      | true => fo p fun p => snocG bx [p] fun bx' => lenG bx fun b => vPut d ⟨N, t, bx', ob⟩ (.ptr b 0) K
      | false => raw
theorem vBox_ok {ty : TypeId} {x : Operand} {raw : Prop} (hm : m.mem = true) (ho : o.op = .box ty x) (h : vBox o.dst s (pev s x) K raw) : Sem P F m o s K ∨ raw := by
  generalize hX : pev s x = X at h
  obtain ⟨N, t, bx, ob⟩ := s
  unfold vBox at h
  simp only at h
  split at h
  · have h2 := vPut_ok (lenG_eq (snocG_eq h))
    exact .inl (Sem.does hm (Does.box ho hX.symm rfl (fun z hz => by cases hz) h2.1 h2.2))
  · split at h
    · rename_i hk
      obtain ⟨k1, k2, k3, k4, k5⟩ := okOne_ok hk
      have h2 := vPut_ok (lenG_eq (snocG_eq (fo_eq h)))
      refine .inl (Sem.does hm (Does.box ho hX.symm k1 k4 h2.1 ?_))
      rw [k2]; exact h2.2
    · exact .inr h
def vStore (ti : TI) (md : Md) (d : Option Tmp) (s : St) (p q : PV) (K : St → Prop) (raw : Prop) : Prop := match s with
  | ⟨N, t, bx, ob⟩ => match md.wr with
    | false => raw
    | true => match p with
      | .ptr b n => match lget bx b with
        | some l => match q with
          | .agg c => match c.all okOne && Nat.beq c.length ti.sz with
            | true => overG l n c fun l' => setG bx b l' fun bx' => vPut d ⟨N, t, bx', ob⟩ (.val undef) K
            | false => raw
          | q => match okOne q && Nat.beq ti.sz 1 with
            | true => fo q fun q => setG l n q fun l' => setG bx b l' fun bx' => vPut d ⟨N, t, bx', ob⟩ (.val undef) K
            | false => raw
        | none => raw
      | .ead r i => match lget ob r with
        | some (some ⟨z, T, .w kk a⟩) => match q with
          | .val (.int k2 v) => match ikEq kk k2 && Nat.beq ti.sz 1 && Nat.beq z 1 && d.isNone with
            | true => Chk (i < a.length) (setG ob r (some ⟨1, T, .w kk (a.set i v)⟩) fun ob' => K ⟨N, t, bx, ob'⟩)
            | false => raw
          | _ => raw
        | _ => raw
      | _ => raw
theorem vStore_ok {ti : TI} {x y : Operand} {raw : Prop} (hT : ti.ok P) (ho : o.op = .store ti.t x y) (h : vStore ti m o.dst s (pev s x) (pev s y) K raw) : Sem P F m o s K ∨ raw := by
  generalize hX : pev s x = X at h
  generalize hY : pev s y = Y at h
  obtain ⟨N, t, bx, ob⟩ := s
  unfold vStore at h
  simp only at h
  split at h
  · exact .inr h
  · rename_i hm
    split at h
    · split at h
      · rename_i b n _ l hl
        rw [lget_eq] at hl
        split at h
        · rename_i c
          split at h
          · rename_i hb
            simp only [Bool.and_eq_true] at hb
            obtain ⟨b1, b2⟩ := hb
            obtain ⟨h1, h⟩ := overG_eq h
            obtain ⟨h2, h⟩ := setG_eq h
            have h3 := vPut_ok h
            refine .inl (Sem.wr hm (Does.storeB ho hX hl (m := c) (by rw [hY]; rfl) (by rw [hY]; rfl) (by rw [hY]; intro z hz; cases hz) (fun p hp => ?_) hT.sz (Nat.eq_of_beq_eq_true b2) (by have := Nat.eq_of_beq_eq_true b2; omega) h3.1 h3.2))
            obtain ⟨k1, k2, k3, k4, k5⟩ := okOne_ok (List.all_eq_true.1 b1 p hp)
            exact ⟨k3, k5⟩
          · exact .inr h
        · split at h
          · rename_i hb
            simp only [Bool.and_eq_true] at hb
            obtain ⟨b1, b2⟩ := hb
            obtain ⟨k1, k2, k3, k4, k5⟩ := okOne_ok b1
            obtain ⟨h1, h⟩ := setG_eq (fo_eq h)
            obtain ⟨h2, h⟩ := setG_eq h
            have h3 := vPut_ok h
            have e1 := Nat.eq_of_beq_eq_true b2
            refine .inl (Sem.wr hm (Does.storeB ho hX hl rfl (by rw [hY]; exact k1) (by rw [hY]; exact k4) (by rw [hY, k2]; intro p hp; simp at hp; subst hp; exact ⟨k3, k5⟩) hT.sz (by rw [hY, k2, e1]; rfl) (by omega) h3.1 ?_))
            rw [hY, k2]
            have e2 : over l n [Y] = l.set n Y := by simp [over, List.set_eq_take_append_cons_drop, h1]
            rw [e2]; exact h3.2
          · exact .inr h
      · exact .inr h
    · split at h
      · rename_i r i _ z T kk a hl
        rw [lget_eq] at hl
        split at h
        · split at h
          · rename_i hb
            simp only [Bool.and_eq_true] at hb
            obtain ⟨⟨⟨b1, b2⟩, b3⟩, b4⟩ := hb
            have b1 := ikEq_ok b1
            subst b1
            obtain rfl := Nat.eq_of_beq_eq_true b3
            obtain ⟨h1, h2⟩ := setG_eq h.k
            refine .inl (Sem.wr hm (Does.storeR ho hX hY hl (by rw [hT.sz, Nat.eq_of_beq_eq_true b2]) h.c.h (by simpa using b4) fun c hc => ?_))
            subst hc
            exact h2
          · exact .inr h
        · exact .inr h
      · exact .inr h
    · exact .inr h

/-! ### literals -/
theorem pfill_len {place : Nat → Option (Nat × Nat)} : ∀ {ps : List (Nat × PV)} {cs out : List PV}, pfill place cs ps = some out → out.length = cs.length
  | [], cs, out, h => by simp only [pfill, Option.some.injEq] at h; rw [h]
  | (i, p) :: ps, cs, out, h => by
    simp only [pfill] at h
    cases hp : place i with
    | none => simp [hp] at h
    | some x =>
      simp only [hp] at h
      split at h
      · rw [pfill_len h, setsP_len]
      · cases h
def repZ (n : Nat) (zs : List PV) : List PV := match n with
  | 0 => []
  | n + 1 => zs ++ repZ n zs
theorem repZ_len (zs : List PV) : ∀ n, (repZ n zs).length = n * zs.length
  | 0 => by simp [repZ]
  | n + 1 => by simp [repZ, repZ_len zs n, Nat.add_mul, Nat.add_comm]
theorem repZ_get {zs : List PV} : ∀ {n j : Nat}, j < n * zs.length → (repZ n zs)[j]? = zs[j % zs.length]?
  | 0, j, h => by simp at h
  | n + 1, j, h => by
    simp only [repZ]
    by_cases hj : j < zs.length
    · rw [List.getElem?_append_left hj, Nat.mod_eq_of_lt hj]
    · rw [List.getElem?_append_right (by omega), repZ_get (by rw [Nat.add_mul] at h; omega)]
      congr 1
      exact (Nat.mod_eq_sub_mod (by omega)).symm
theorem zrow_eq {zs : List PV} {n : Nat} (h0 : 0 < zs.length) : zrow zs (n * zs.length) = repZ n zs := by
  apply List.ext_getElem?
  intro j
  by_cases hj : j < n * zs.length
  · rw [repZ_get hj]
    simp only [zrow, List.getElem?_map, List.getElem?_range hj, Option.map_some]
    have := Nat.mod_lt j h0
    rw [List.getD_eq_getElem?_getD, List.getElem?_eq_getElem this]; rfl
  · rw [List.getElem?_eq_none (by simp [zrow]; omega), List.getElem?_eq_none (by rw [repZ_len]; omega)]
def intsG (kk : IntKind) (l : List PV) (k : List Int → Prop) (raw : Prop) : Prop := match l with
  | [] => k []
  | p :: l => match p with
    | .val (.int k2 n) => match ikEq k2 kk with
      | true => intsG kk l (fun l => k (n :: l)) raw
      | false => raw
    | _ => raw
theorem intsG_ok {kk : IntKind} : ∀ {l : List PV} {k : List Int → Prop} {raw : Prop}, intsG kk l k raw → (∃ a, l = a.map (wv kk) ∧ k a) ∨ raw
  | [], k, raw, h => .inl ⟨[], rfl, h⟩
  | p :: l, k, raw, h => by
    simp only [intsG] at h
    split at h
    · split at h
      · rename_i hk
        have hk := ikEq_ok hk
        subst hk
        rcases intsG_ok h with ⟨a, rfl, h'⟩ | h'
        · exact .inl ⟨_ :: a, rfl, h'⟩
        · exact .inr h'
      · exact .inr h
    · exact .inr h
def vLit (TT : List TI) (ti : TI) (md : Md) (d : Option Tmp) (s : St) (n : Nat) (ps : List (Nat × Operand)) (K : St → Prop) (raw : Prop) : Prop := match ti.k with
  | .slice e z => match tlook TT e with
    | some te => match md.mem && Nat.blt 0 z && Nat.ble (n * z) 16777216 && Nat.beq te.zero.length z && d.isSome with
      | true => vFill (fun i => some (i * z, z)) s (repZ n te.zero) ps fun out => match te.k with
        | .int kk => match Nat.beq z 1 with
          | true => intsG kk out (fun l => vPut d s (.ws kk l) K) raw
          | false => raw
        | _ => match noHL out with
          | true => vPut d s (.sl z out) K
          | false => raw
      | false => raw
    | none => raw
  | _ => raw
theorem vLit_ok {ti : TI} {n : Nat} {ps : Array (Nat × Operand)} {raw : Prop} (hTT : TOk P TT) (hT : ti.ok P) (ho : o.op = .buildSlice ti.t n ps) (h : vLit TT ti m o.dst s n ps.toList K raw) : Sem P F m o s K ∨ raw := by
  have hk := hT.k
  have ho' : o.op = .buildSlice ti.t n ps.toList.toArray := by simpa using ho
  unfold vLit at h
  split at h
  · rename_i e z hz
    rw [hz] at hk
    split at h
    · rename_i te hte
      obtain ⟨t1, t2⟩ := tlook_ok hTT hte
      subst t2
      split at h
      · rename_i hb
        simp only [Bool.and_eq_true] at hb
        obtain ⟨⟨⟨⟨b1, b2⟩, b3⟩, b4⟩, b5⟩ := hb
        have b2 : 0 < z := by simpa using b2
        have b4 := Nat.eq_of_beq_eq_true b4
        obtain ⟨out, h1, h2, h3⟩ := vFill_ok h
        rw [← zrow_eq (by omega), b4] at h1
        have hlen : out.length = n * z := by rw [pfill_len h1]; simp [zrow]
        split at h2
        · rename_i kk _
          split at h2
          · rename_i hb
            obtain rfl := Nat.eq_of_beq_eq_true hb
            rcases intsG_ok h2 with ⟨l, rfl, h3'⟩ | h2
            · clear h2
              obtain ⟨N, t, bx, ob⟩ := s
              obtain ⟨d, hd⟩ := Option.isSome_iff_exists.1 b5
              rw [hd] at h3'
              unfold vPut at h3'
              simp only at h3'
              split at h3'
              · rename_i hbl
                exact .inl (Sem.does b1 (Does.litW ho' hk t1.zero b4 b3 h3 h1 (by simpa using hlen) hd hbl h3'))
              · cases h3'
            · exact .inr h2
          · exact .inr h2
        · split at h2
          · rename_i hno
            have h5 := vPut_ok h2
            refine .inl (Sem.does b1 (Does.lit ho' hk b2 t1.zero b4 (Nat.le_of_ble_eq_true b3) (fun i v hm => ?_) h1 hno hlen h5.1 h5.2))
            have := List.all_eq_true.1 h3 _ hm
            cases v <;> first | rfl | simp [okv] at this
          · exact .inr h2
      · exact .inr h
    · exact .inr h
  · exact .inr h

/-! ### append, copy -/
structure AppG (F : Fr) (q n la lb nb : Nat) (K : Prop) : Prop where
  e : n = la
  c : (n + lb) * nb ≤ 140737488355328 ∧ n + lb ≤ 9223372036854775807
  own : F.c0.ob.length ≤ q
  h : K
def vApp (F : Fr) (TT : List TI) (ti : TI) (md : Md) (d : Option Tmp) (s : St) (x y : PV) (K : St → Prop) (raw : Prop) : Prop := match ti.k with
  | .slice e z => match tlook TT e with
    | some te => match zeroI te.zero with
      | some kz => match md.wr && Nat.beq z 1 && d.isSome with
        | true => match s with
          | ⟨N, t, bx, ob⟩ => match x with
            | .arr q 0 n => match lget ob q with
              | some (some ⟨z', T, .w kk a⟩) => match y with
                | .ws k2 b => match Nat.beq z' 1 && Nat.beq T e && ikEq kk k2 && ikEq kz kk with
                  | true => AppG F q n a.length b.length te.byt (setG ob q (some ⟨1, T, .w kk (a ++ b)⟩) fun ob' => vPut d ⟨N, fun x => forg q (t x), bx.map (forgL q), ob'⟩ (.arr q 0 (n + b.length)) K)
                  | false => raw
                | _ => raw
              | _ => raw
            | _ => raw
        | false => raw
      | none => raw
    | none => raw
  | _ => raw
theorem vApp_ok {ti : TI} {x y : Operand} {raw : Prop} (hTT : TOk P TT) (hT : ti.ok P) (ho : o.op = .call { callee := .builtin .append, args := #[x, y], argTypes := #[ti.t, ti.t] }) (h : vApp F TT ti m o.dst s (pev s x) (pev s y) K raw) : Sem P F m o s K ∨ raw := by
  have hk := hT.k
  generalize hX : pev s x = X at h
  generalize hY : pev s y = Y at h
  unfold vApp at h
  split at h
  · rename_i e z hz
    rw [hz] at hk
    split at h
    · rename_i te hte
      obtain ⟨t1, t2⟩ := tlook_ok hTT hte
      subst t2
      split at h
      · rename_i kz hzi
        have hzi := zeroI_ok hzi
        split at h
        · rename_i hb
          simp only [Bool.and_eq_true] at hb
          obtain ⟨⟨b1, b2⟩, b3⟩ := hb
          obtain rfl := Nat.eq_of_beq_eq_true b2
          obtain ⟨d, hd⟩ := Option.isSome_iff_exists.1 b3
          split at h
          rename_i N t bx ob
          split at h
          · split at h
            · rename_i q n _ z' T kk a hl
              rw [lget_eq] at hl
              split at h
              · split at h
                · rename_i hb
                  simp only [Bool.and_eq_true] at hb
                  obtain ⟨⟨⟨c1, c2⟩, c3⟩, c4⟩ := hb
                  obtain rfl := Nat.eq_of_beq_eq_true c1
                  obtain rfl := Nat.eq_of_beq_eq_true c2
                  have c3 := ikEq_ok c3
                  subst c3
                  have c4 := ikEq_ok c4
                  subst c4
                  obtain ⟨h1, h2⟩ := setG_eq h.h
                  rw [hd] at h2
                  unfold vPut at h2
                  simp only at h2
                  split at h2
                  · rename_i hbl
                    exact .inl (Sem.wr b1 (Does.append ho hX hl hY hk rfl (by rw [t1.zero, hzi]) t1.byt h.e h.c h.own hd hbl h2))
                  · cases h2
                · exact .inr h
              · exact .inr h
            · exact .inr h
          · exact .inr h
        · exact .inr h
      · exact .inr h
    · exact .inr h
  · exact .inr h
def vCopy (ti : TI) (md : Md) (d : Option Tmp) (s : St) (x y : PV) (K : St → Prop) (raw : Prop) : Prop := match ti.k with
  | .slice e z => match md.wr && Nat.beq z 1 && d.isSome with
    | true => match s with
      | ⟨N, t, bx, ob⟩ => match x with
        | .arr q lo n => match lget ob q with
          | some (some ⟨z', T, .w kk a⟩) => match y with
            | .ws k2 b => match Nat.beq z' 1 && ikEq kk k2 with
              | true => Chk (lo + n ≤ a.length) (setG ob q (some ⟨1, T, .w kk (a.take lo ++ b.take n ++ a.drop (lo + min n b.length))⟩) fun ob' => vPut d ⟨N, t, bx, ob'⟩ (.val (.int .i64 (min n b.length : Nat))) K)
              | false => raw
            | _ => raw
          | _ => raw
        | _ => raw
    | false => raw
  | _ => raw
theorem vCopy_ok {ti : TI} {x y : Operand} {raw : Prop} (hT : ti.ok P) (ho : o.op = .call { callee := .builtin .copy, args := #[x, y], argTypes := #[ti.t, ti.t] }) (h : vCopy ti m o.dst s (pev s x) (pev s y) K raw) : Sem P F m o s K ∨ raw := by
  have hk := hT.k
  generalize hX : pev s x = X at h
  generalize hY : pev s y = Y at h
  unfold vCopy at h
  split at h
  · rename_i e z hz
    rw [hz] at hk
    split at h
    · rename_i hb
      simp only [Bool.and_eq_true] at hb
      obtain ⟨⟨b1, b2⟩, b3⟩ := hb
      obtain rfl := Nat.eq_of_beq_eq_true b2
      obtain ⟨d, hd⟩ := Option.isSome_iff_exists.1 b3
      split at h
      rename_i N t bx ob
      split at h
      · split at h
        · rename_i q lo n _ z' T kk a hl
          rw [lget_eq] at hl
          split at h
          · split at h
            · rename_i hb
              simp only [Bool.and_eq_true] at hb
              obtain ⟨c1, c3⟩ := hb
              obtain rfl := Nat.eq_of_beq_eq_true c1
              have c3 := ikEq_ok c3
              subst c3
              obtain ⟨h1, h2⟩ := setG_eq h.k
              rw [hd] at h2
              unfold vPut at h2
              simp only at h2
              split at h2
              · rename_i hbl
                refine .inl (Sem.wr b1 (Does.copy ho hX hl hY hk h.c.h hd hbl fun c hc => ?_))
                subst hc; exact h2
              · cases h2
            · exact .inr h
          · exact .inr h
        · exact .inr h
      · exact .inr h
    · exact .inr h
  · exact .inr h
end
end Go.Proofs.YtlbnlalkimnhdaaDoor.Sim
