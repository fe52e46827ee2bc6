/-
  Sim, part E: rules in the form in which a walk takes them: words in slices, sums that fit, ends of parts of code.
-/
import Derived.Test.YtlbnlalkimnhdaaDoorSimC
namespace Go.Proofs.YtlbnlalkimnhdaaDoor.Sim
open Go.RowKit
set_option linter.unusedVariables false
set_option linter.unusedSimpArgs false

def rd (a : List Int) (i : Int) : Int := a.getD i.toNat 0
/-- Does a number fit a kind? -/
def inR : IntKind → Int → Prop
  | .i8, n => -128 ≤ n ∧ n < 128
  | .i16, n => -32768 ≤ n ∧ n < 32768
  | .i32, n => -2147483648 ≤ n ∧ n < 2147483648
  | .i64, n => -9223372036854775808 ≤ n ∧ n < 9223372036854775808
  | .u8, n => 0 ≤ n ∧ n < 256
  | .u16, n => 0 ≤ n ∧ n < 65536
  | .u32, n => 0 ≤ n ∧ n < 4294967296
  | .u64, n => 0 ≤ n ∧ n < 18446744073709551616
theorem wrap_in {k : IntKind} {n : Int} (h : inR k n) : k.wrap n = n := by
  cases k <;> simp only [inR] at h <;> simp only [IntKind.wrap, IntKind.bits, IntKind.signed] <;> simp <;> omega
/-- What a loop's invariant tells of the temporaries. -/
def keep (l : List (Nat × PV)) (f : Nat → PV) : Nat → PV := match l with
  | [] => f
  | (d, p) :: l => upd (keep l f) d p
def hold (l : List (Nat × PV)) (f : Nat → PV) : Prop := match l with
  | [] => True
  | (d, p) :: l => f d = p ∧ hold l f
theorem keep_self : ∀ {l : List (Nat × PV)} {f : Nat → PV}, hold l f → keep l f = f
  | [], f, _ => rfl
  | (d, p) :: l, f, ⟨h1, h2⟩ => by
    simp only [keep, keep_self h2]
    funext x
    by_cases hx : x = d
    · subst hx; rw [upd_same, h1]
    · rw [upd_ne _ _ _ hx]
section
variable {P : Program} {F : Fr} {s : St} {Q : Exit → St → Prop} {I : Nat → St → Prop} {n id i : Nat} {y : Code}
theorem thn_n (h : Cd P F y s Q) : thn P F y Q .normal s := h
theorem thn_r (h : Q .ret s) : thn P F y Q .ret s := h
theorem thn_x (h : Q (.exit i) s) : thn P F y Q (.exit i) s := h
theorem blk_n (h : Q .normal s) : blk id Q .normal s := h
theorem blk_r (h : Q .ret s) : blk id Q .ret s := h
theorem blk_x (h : Q .normal s) : blk id Q (.exit id) s := by simp only [blk, if_true]; exact h
theorem blk_y (hi : Nat.beq i id = false) (h : Q (.exit i) s) : blk id Q (.exit i) s := by
  have : i ≠ id := fun e => by subst e; simp at hi
  simp only [blk, this, if_false]; exact h
theorem rnd_r (h : Q .ret s) : rnd I n Q .ret s := h
theorem rnd_x (h : Q (.exit i) s) : rnd I n Q (.exit i) s := h
theorem rnd_n {m : Nat} (h : m < n) (k : I m s) : rnd I n Q .normal s := ⟨m, h, k⟩
theorem Cd.condD {c : Operand} {x y : Code} {p : Prop} [Decidable p] (hc : pev s c = .val (.bool (decide p))) (ht : p → Cd P F x s Q) (hf : ¬ p → Cd P F y s Q) : Cd P F (.cond c x y) s Q :=
  Cd.cond hc (fun h => ht (of_decide_eq_true h)) (fun h => hf (of_decide_eq_false h))
theorem Cd.condDT {c : Operand} {x y : Code} {p : Prop} [Decidable p] (hc : pev s c = .val (.bool (decide p))) (hp : p) (ht : Cd P F x s Q) : Cd P F (.cond c x y) s Q :=
  Cd.cond hc (fun _ => ht) (fun h => absurd hp (of_decide_eq_false h))
theorem Cd.condDF {c : Operand} {x y : Code} {p : Prop} [Decidable p] (hc : pev s c = .val (.bool (decide p))) (hp : ¬ p) (hf : Cd P F y s Q) : Cd P F (.cond c x y) s Q :=
  Cd.cond hc (fun h => absurd (of_decide_eq_true h) hp) (fun _ => hf)
theorem Cd.condT {c : Operand} {x y : Code} (hc : pev s c = .val (.bool true)) (ht : Cd P F x s Q) : Cd P F (.cond c x y) s Q := Cd.cond hc (fun _ => ht) (fun h => by cases h)
theorem Cd.condF {c : Operand} {x y : Code} (hc : pev s c = .val (.bool false)) (hf : Cd P F y s Q) : Cd P F (.cond c x y) s Q := Cd.cond hc (fun h => by cases h) (fun _ => hf)
/-- A round's end, where a loop is walked round by round. -/
def rds (P : Program) (F : Fr) (c : Code) (Q : Exit → St → Prop) (n : Nat) : Exit → St → Prop
  | .normal, s => Rounds P F c Q n s
  | e, s => Q e s
theorem Rounds.go {c : Code} (h : Cd P F c s (rds P F c Q n)) : Rounds P F c Q (n + 1) s := h.mono fun e s h => by cases e <;> exact h
theorem rds_n {c : Code} (h : Rounds P F c Q n s) : rds P F c Q n .normal s := h
theorem rds_r {c : Code} (h : Q .ret s) : rds P F c Q n .ret s := h
theorem rds_x {c : Code} (h : Q (.exit i) s) : rds P F c Q n (.exit i) s := h
variable {ops : Rg} {o : Oper} {rest : List Oper} {K : St → Prop} {p : PV}
variable {N d : Nat} {t : Nat → PV} {bx : List (List PV)} {ob : List (Option Row)}
theorem Ops.now (h : Still P F o ⟨N, t, bx, ob⟩ p) (hw : pwant ops.ops ⟨N, t, bx, ob⟩ o = some true) (hm : ops.okS o) (hd : o.dst = some d) (hn : Nat.blt d N = true) (k : Ops P F ops.next rest ⟨N, upd t d p, bx, ob⟩ K) : Ops P F ops (o :: rest) ⟨N, t, bx, ob⟩ K :=
  Ops.stillS h hw (by simpa [St.fits, hd] using hn) hm (by simpa [St.put, hd] using k)
theorem Ops.nowE (h : Still P F o ⟨N, t, bx, ob⟩ p) (hw : pwant ops.ops ⟨N, t, bx, ob⟩ o = some true) (hm : ops.okE o) (hd : o.dst = some d) (hn : Nat.blt d N = true) (k : Ops P F ops.next rest ⟨N, upd t d p, bx, ob⟩ K) : Ops P F ops (o :: rest) ⟨N, t, bx, ob⟩ K :=
  Ops.step (h.does (by simpa [St.fits, hd] using hn) (by simpa [St.put, hd] using k)) hw hm
theorem Ops.nowq (h : Still P F o ⟨N, t, bx, ob⟩ p) (hw : pwant ops.ops ⟨N, t, bx, ob⟩ o = some true) (hm : ops.okS o) (hd : o.dst = some d) (hn : Nat.blt d N = true) (k : ∀ q, q = p → Ops P F ops.next rest ⟨N, upd t d q, bx, ob⟩ K) : Ops P F ops (o :: rest) ⟨N, t, bx, ob⟩ K :=
  Ops.now h hw hm hd hn (k p rfl)
theorem Ops.skip (hw : pwant ops.ops ⟨N, t, bx, ob⟩ o = some false) (hm : ops.okS o) (hd : o.dst = some d) (hn : Nat.blt d N = true) (k : Ops P F ops.next rest ⟨N, upd t d (.val undef), bx, ob⟩ K) : Ops P F ops (o :: rest) ⟨N, t, bx, ob⟩ K :=
  Ops.off hw (by simpa [St.fits, hd] using hn) hm (by simpa [St.put, hd] using k)
theorem Ops.skip0 (hw : pwant ops.ops ⟨N, t, bx, ob⟩ o = some false) (hm : ops.okS o) (hd : o.dst = none) (k : Ops P F ops.next rest ⟨N, t, bx, ob⟩ K) : Ops P F ops (o :: rest) ⟨N, t, bx, ob⟩ K :=
  Ops.off hw (by simp [St.fits, hd]) hm (by simpa [St.put, hd] using k)
theorem Ops.guardB {j d : Nat} {want b : Bool} (hg : o.guard = some (j, want)) (hj : (ops.ops[j]?).bind (·.dst) = some d) (hb : t d = .val (.bool b)) (ht : b = true → Ops P F ops (o :: rest) ⟨N, upd t d (.val (.bool true)), bx, ob⟩ K) (hf : b = false → Ops P F ops (o :: rest) ⟨N, upd t d (.val (.bool false)), bx, ob⟩ K) : Ops P F ops (o :: rest) ⟨N, t, bx, ob⟩ K :=
  Ops.guard (s := ⟨N, t, bx, ob⟩) hg hj hb ht hf
theorem Ops.guardD {j d : Nat} {want : Bool} {p : Prop} [Decidable p] (hg : o.guard = some (j, want)) (hj : (ops.ops[j]?).bind (·.dst) = some d) (hb : t d = .val (.bool (decide p))) (ht : p → Ops P F ops (o :: rest) ⟨N, upd t d (.val (.bool true)), bx, ob⟩ K) (hf : ¬ p → Ops P F ops (o :: rest) ⟨N, upd t d (.val (.bool false)), bx, ob⟩ K) : Ops P F ops (o :: rest) ⟨N, t, bx, ob⟩ K :=
  Ops.guardB hg hj hb (fun h => ht (of_decide_eq_true h)) (fun h => hf (of_decide_eq_false h))
theorem Ops.guardDT {j d : Nat} {want : Bool} {p : Prop} [Decidable p] (hg : o.guard = some (j, want)) (hj : (ops.ops[j]?).bind (·.dst) = some d) (hb : t d = .val (.bool (decide p))) (hp : p) (ht : Ops P F ops (o :: rest) ⟨N, upd t d (.val (.bool true)), bx, ob⟩ K) : Ops P F ops (o :: rest) ⟨N, t, bx, ob⟩ K :=
  Ops.guardD hg hj hb (fun _ => ht) (fun h => absurd hp h)
theorem Ops.guardDF {j d : Nat} {want : Bool} {p : Prop} [Decidable p] (hg : o.guard = some (j, want)) (hj : (ops.ops[j]?).bind (·.dst) = some d) (hb : t d = .val (.bool (decide p))) (hp : ¬ p) (hf : Ops P F ops (o :: rest) ⟨N, upd t d (.val (.bool false)), bx, ob⟩ K) : Ops P F ops (o :: rest) ⟨N, t, bx, ob⟩ K :=
  Ops.guardD hg hj hb (fun h => absurd h hp) (fun _ => hf)
theorem Ops.alloc {ty : TypeId} {l : List PV} (ho : o.op = .alloc ty) (hz : zeroT P ty = some l) (hw : pwant ops.ops ⟨N, t, bx, ob⟩ o = some true) (hm : ops.okE o) (hd : o.dst = some d) (hn : Nat.blt d N = true) (k : ∀ b c, b = bx.length → c = bx ++ [l] → Ops P F ops.next rest ⟨N, upd t d (.ptr b 0), c, ob⟩ K) : Ops P F ops (o :: rest) ⟨N, t, bx, ob⟩ K :=
  Ops.step (Does.alloc ho hz (by simpa [St.fits, hd] using hn) (by simpa [St.put, hd] using k _ _ rfl rfl)) hw hm
theorem Ops.box {ty : TypeId} {x : Operand} {l : List PV} (ho : o.op = .box ty x) (hp : pev ⟨N, t, bx, ob⟩ x = .agg l) (hw : pwant ops.ops ⟨N, t, bx, ob⟩ o = some true) (hm : ops.okE o) (hd : o.dst = some d) (hn : Nat.blt d N = true) (k : ∀ b c, b = bx.length → c = bx ++ [l] → Ops P F ops.next rest ⟨N, upd t d (.ptr b 0), c, ob⟩ K) : Ops P F ops (o :: rest) ⟨N, t, bx, ob⟩ K :=
  Ops.step (Does.box ho rfl (by rw [hp]; rfl) (by rw [hp]; intro z hz; cases hz) (by simpa [St.fits, hd] using hn) (by simpa [St.put, hd, hp, pcells] using k _ _ rfl rfl)) hw hm
theorem Ops.store {ty : TypeId} {x y : Operand} {b i n : Nat} {l m : List PV} (ho : o.op = .store ty x y) (hx : pev ⟨N, t, bx, ob⟩ x = .ptr b i) (hb : bx[b]? = some l) (hm : pcells (pev ⟨N, t, bx, ob⟩ y) = m) (hk : okBox (pev ⟨N, t, bx, ob⟩ y) = true) (hv : ∀ z, pev ⟨N, t, bx, ob⟩ y = .val z → z.cells.toList = [z]) (h1 : oneL m)
    (hn : szT P ty = some n) (hml : m.length = n) (hl : i + n ≤ l.length) (hw : pwant ops.ops ⟨N, t, bx, ob⟩ o = some true) (hmd : ops.okL o) (hd : o.dst = none) (k : ∀ c, c = bx.set b (over l i m) → Ops P F ops.next rest ⟨N, t, c, ob⟩ K) : Ops P F ops (o :: rest) ⟨N, t, bx, ob⟩ K :=
  Ops.step (Does.storeB ho hx hb hm hk hv h1 hn hml hl (by simp [St.fits, hd]) (by simpa [St.put, hd] using k _ rfl)) hw hmd
def okOne : PV → Bool
  | .val (.int _ _) => true
  | .val (.bool _) => true
  | .val (.float _ _) => true
  | .nil => true
  | .ws _ _ => true
  | .sl _ _ => true
  | .fs _ _ _ => true
  | .cw _ _ _ => true
  | .cf _ _ _ => true
  | .emp => true
  | .ptr _ _ => true
  | .cel _ => true
  | .arr _ _ _ => true
  | .ead _ _ => true
  | _ => false
theorem okOne_ok {p : PV} (h : okOne p = true) : okBox p = true ∧ pcells p = [p] ∧ oneP p = true ∧ (∀ z, p = .val z → z.cells.toList = [z]) ∧ ∀ z, p = .val z → z.oneCell' = true := by
  cases p <;> simp [okOne] at h <;> refine ⟨rfl, rfl, rfl, ?_, ?_⟩ <;> intro z hz <;> cases hz
  all_goals (rename_i v; cases v <;> first | rfl | simp [okOne] at h)
theorem Ops.store1 {ty : TypeId} {x y : Operand} {b i : Nat} {l : List PV} (ho : o.op = .store ty x y) (hx : pev ⟨N, t, bx, ob⟩ x = .ptr b i) (hb : bx[b]? = some l) (hk : okOne (pev ⟨N, t, bx, ob⟩ y) = true) (hn : szT P ty = some 1) (hl : i < l.length)
    (hw : pwant ops.ops ⟨N, t, bx, ob⟩ o = some true) (hmd : ops.okL o) (hd : o.dst = none) (k : ∀ q c, q = pev ⟨N, t, bx, ob⟩ y → c = bx.set b (l.set i q) → Ops P F ops.next rest ⟨N, t, c, ob⟩ K) : Ops P F ops (o :: rest) ⟨N, t, bx, ob⟩ K := by
  obtain ⟨k1, k2, k3, k4, k5⟩ := okOne_ok hk
  refine Ops.store ho hx hb rfl k1 k4 (by rw [k2]; intro p hp; simp at hp; subst hp; exact ⟨k3, k5⟩) hn (by rw [k2]; rfl) (by omega) hw hmd hd ?_
  intro c hc
  refine k _ c rfl ?_
  rw [hc, k2]
  simp [over, List.set_eq_take_append_cons_drop, hl]
theorem Ops.storeA {ty : TypeId} {x y : Operand} {b i n : Nat} {l m : List PV} (ho : o.op = .store ty x y) (hx : pev ⟨N, t, bx, ob⟩ x = .ptr b i) (hb : bx[b]? = some l) (hy : pev ⟨N, t, bx, ob⟩ y = .agg m) (hk : m.all okOne = true) (hn : szT P ty = some n) (hml : m.length = n) (hl : i + n ≤ l.length)
    (hw : pwant ops.ops ⟨N, t, bx, ob⟩ o = some true) (hmd : ops.okL o) (hd : o.dst = none) (k : ∀ c, c = bx.set b (over l i m) → Ops P F ops.next rest ⟨N, t, c, ob⟩ K) : Ops P F ops (o :: rest) ⟨N, t, bx, ob⟩ K := by
  refine Ops.store ho hx hb (m := m) (by rw [hy]; rfl) (by rw [hy]; rfl) (by rw [hy]; intro z hz; cases hz) (fun p hp => ?_) hn hml hl hw hmd hd k
  have := List.all_eq_true.1 hk p hp
  obtain ⟨k1, k2, k3, k4, k5⟩ := okOne_ok this
  exact ⟨k3, k5⟩
theorem Ops.call {f : FuncId} {x : Operand} {as : List Operand} {ts : Array TypeId} {args : List PV} (ho : o.op = .call { callee := .value x, args := as.toArray, argTypes := ts }) (hx : pev ⟨N, t, bx, ob⟩ x = .val (.func (.func f) #[] #[])) (hf : callable P f = true)
    (ha : as.map (pev ⟨N, t, bx, ob⟩) = args) (hno : noHL args = true) (hw : pwant ops.ops ⟨N, t, bx, ob⟩ o = some true) (hm : ops.okE o) (hd : o.dst = some d) (hn : Nat.blt d N = true) (h : PC P F.G f args fun r => Ops P F ops.next rest ⟨N, upd t d r, bx, ob⟩ K) : Ops P F ops (o :: rest) ⟨N, t, bx, ob⟩ K := by
  subst ha
  exact Ops.step (Does.call ho hx hf hno (by simpa [St.fits, hd] using hn) (h.mono fun r hr => by simpa [St.put, hd] using hr)) hw hm
theorem still_add {t t' : TypeId} {x y : Operand} {k : IntKind} {a b : Int} (ho : o.op = .binOp .add t x y t') (hx : pev s x = .val (.int k a)) (hy : pev s y = .val (.int k b)) (h : inR k (a + b)) : Still P F o s (.val (.int k (a + b))) :=
  still_bin ho hx hy (by simp [pbin, wrap_in h])
theorem still_sub {t t' : TypeId} {x y : Operand} {k : IntKind} {a b : Int} (ho : o.op = .binOp .sub t x y t') (hx : pev s x = .val (.int k a)) (hy : pev s y = .val (.int k b)) (h : inR k (a - b)) : Still P F o s (.val (.int k (a - b))) :=
  still_bin ho hx hy (by simp [pbin, wrap_in h])
theorem still_mul {t t' : TypeId} {x y : Operand} {k : IntKind} {a b : Int} (ho : o.op = .binOp .mul t x y t') (hx : pev s x = .val (.int k a)) (hy : pev s y = .val (.int k b)) (h : inR k (a * b)) : Still P F o s (.val (.int k (a * b))) :=
  still_bin ho hx hy (by simp [pbin, wrap_in h])
theorem still_cv {t t' : TypeId} {x : Operand} {d : TypeDesc} {k k' : IntKind} {n : Int} (ho : o.op = .convert t t' x) (hx : pev s x = .val (.int k n)) (ht : P.underlying t = some d) (ht' : P.underlying t' = some (.int k')) (h : inR k' n) : Still P F o s (.val (.int k' n)) := by
  have := still_conv (F := F) ho hx ht ht'
  rwa [wrap_in h] at this
theorem still_lenW {t e : TypeId} {x : Operand} {k : IntKind} {a : List Int} (ho : o.op = .call { callee := .builtin .len, args := #[x], argTypes := #[t] }) (hx : pev s x = ws k a) (ht : elT P t = some (e, 1)) : Still P F o s (.val (.int .i64 (a.length : Int))) := by
  intro c A w hi
  have hr := pev_rep hi x
  rw [hx] at hr
  generalize hq : A.eval x = z at hr
  cases hr with
  | ws h1 h2 h4 =>
    subst h1
    exact ⟨_, .val _, fun w' _ => by simp [execOp, ho, resolve, invoke, builtin, hq, Builtin.len_, run_underlying (elT_ok ht).1, goInt]⟩
theorem still_idxW {t e : TypeId} {x y : Operand} {k kk : IntKind} {a : List Int} {i : Int} (ho : o.op = .indexAddr t x y) (hx : pev s x = ws k a) (hy : pev s y = .val (.int kk i)) (ht : elT P t = some (e, 1)) (h : 0 ≤ i ∧ i < (a.length : Int)) : Still P F o s (.cw k a i) := by
  intro c A w hi
  obtain ⟨hu, hz⟩ := elT_ok ht
  have hr := pev_rep hi x
  rw [hx] at hr
  generalize hq : A.eval x = z at hr
  cases hr with
  | @ws _ _ _ n cap B h1 h2 h4 =>
    subst h1
    have hlt : i.toNat < a.length := by omega
    obtain ⟨ad, rfl, _⟩ := h4 i.toNat _ (List.getElem?_eq_getElem hlt)
    refine ⟨_, .cw (ad := ad.add (i.toNat * 1)) h fun j x hx => ?_, fun w' _ => ?_⟩
    · obtain ⟨ad', e', hρ⟩ := h4 _ _ hx
      cases e'
      rw [add_zero_off, Nat.mul_one]; exact hρ
    · simp [execOp, ho, hq, pev_val hi hy, Instr.indexAt, asIntOf, run_underlying hu, h.1, h.2, run_szT hz]
theorem still_loadW {t : TypeId} {x : Operand} {k : IntKind} {a : List Int} {i : Int} (ho : o.op = .load t x) (hx : pev s x = .cw k a i) (ha : aggT P t = some false) : Still P F o s (.val (.int k (rd a i))) := by
  intro c A w hi
  have hr := pev_rep hi x
  rw [hx] at hr
  generalize hq : A.eval x = z at hr
  cases hr with
  | @cw _ _ _ _ ad h0 h4 =>
    have hlt : i.toNat < a.length := by omega
    have hc := h4 0 a[i.toNat] (by simp [hlt])
    have h0 := hi.W.mem _ _ hc
    have e1 : a[i.toNat] = rd a i := by simp [rd, List.getD_eq_getElem?_getD, hlt]
    rw [e1] at h0
    refine ⟨_, .val _, fun w' he => ?_⟩
    have h5 := he _ _ h0
    simp only [Addr.add, if_pos] at h5
    simp [execOp, ho, hq, Instr.loadAt, Instr.sureAddr, loadVar, run_isAgg ha, run_load, h5]
end
end Go.Proofs.YtlbnlalkimnhdaaDoor.Sim
