/-
  Lemmas of SpanPlaysCardSaid, part 1.
-/
import Derived.Below
import Derived.Deep.LoopGhost
import Derived.Orders
import Derived.KernelRfl
import Derived.OwnWalk
import Derived.Laws.NewBlocks
namespace Go.Proofs.YtpjbgmafnheomaaGreatDoor.Sim
open Go.RowKit
set_option linter.unusedVariables false
set_option linter.unusedSimpArgs false
inductive PV where
  | val (v : Value)
  | nil
  | ws (k : IntKind) (a : List Int)
  | sl (sz : Nat) (l : List PV)
  | fs (sz n : Nat) (f : Nat → PV)
  | agg (l : List PV)
  | tup (l : List PV)
  | ptr (b o : Nat)
  | cel (l : List PV)
  | cw (k : IntKind) (a : List Int) (i : Int)
  | cf (f : Nat → PV) (i m : Nat)
  | arr (o lo n : Nat)
  | ead (o i : Nat)
  | emp
  | any
  deriving Inhabited
structure Ob where
  g : Nat
  size : Nat
  sz : Nat
  T : TypeId
structure Cx where
  ρ : Addr → Option Value
  bb : List Nat
  ob : List Ob
def Cx.strip (c : Cx) : Cx := ⟨c.ρ, [], []⟩
inductive RC where
  | w (k : IntKind) (a : List Int)
  | g (l : List PV)
def RC.cells : RC → List PV
  | .w k a => a.map fun n => .val (.int k n)
  | .g l => l
structure Row where
  sz : Nat
  T : TypeId
  c : RC
def Row.cs (r : Row) : List PV := r.c.cells
mutual
inductive Rep : Cx → PV → Value → Prop
  | val {c : Cx} (v : Value) : Rep c (.val v) v
  | nil {c : Cx} : Rep c .nil (.slice none 0 0)
  | sl {c : Cx} {sz n cap : Nat} {A : Option Addr} {l : List PV} {us : List Value} (h0 : 0 < sz) (h1 : n * sz = l.length) (h2 : n ≤ cap) (h3 : RepL c.strip l us)
      (h4 : ∀ j u, us[j]? = some u → ∃ ad, A = some ad ∧ c.ρ (ad.add j) = some u) : Rep c (.sl sz l) (.slice A n cap)
  | ws {c : Cx} {k : IntKind} {a : List Int} {n cap : Nat} {A : Option Addr} (h1 : n = a.length) (h2 : n ≤ cap) (h4 : ∀ j x, a[j]? = some x → ∃ ad, A = some ad ∧ c.ρ (ad.add j) = some (.int k x)) : Rep c (.ws k a) (.slice A n cap)
  | fs {c : Cx} {sz n cap : Nat} {A : Option Addr} {f : Nat → PV} {us : List Value} (h0 : 0 < sz) (h1 : us.length = n * sz) (h2 : n ≤ cap) (h3 : ∀ j u, us[j]? = some u → Rep c.strip (f j) u)
      (h4 : ∀ j u, us[j]? = some u → ∃ ad, A = some ad ∧ c.ρ (ad.add j) = some u) : Rep c (.fs sz n f) (.slice A n cap)
  | cw {c : Cx} {k : IntKind} {a : List Int} {i : Int} {ad : Addr} (h0 : 0 ≤ i ∧ i < a.length) (h4 : ∀ j x, a[i.toNat + j]? = some x → c.ρ (ad.add j) = some (.int k x)) : Rep c (.cw k a i) (.pointer (some ad))
  | cf {c : Cx} {f : Nat → PV} {i m : Nat} {ad : Addr} {us : List Value} (h1 : us.length = m) (h3 : ∀ j u, us[j]? = some u → Rep c.strip (f (i + j)) u) (h4 : ∀ j u, us[j]? = some u → c.ρ (ad.add j) = some u) : Rep c (.cf f i m) (.pointer (some ad))
  | emp {c : Cx} {A : Option Addr} : Rep c .emp (.slice A 0 0)
  | agg {c : Cx} {l : List PV} {us : List Value} (h : RepL c l us) : Rep c (.agg l) (.agg us.toArray)
  | tup {c : Cx} {l : List PV} {us : List Value} (h : RepL c l us) : Rep c (.tup l) (.tuple us.toArray)
  | ptr {c : Cx} {b o g : Nat} (h : c.bb[b]? = some g) : Rep c (.ptr b o) (.pointer (some ⟨g, o, none⟩))
  | cel {c : Cx} {ad : Addr} {l : List PV} {us : List Value} (h3 : RepL c.strip l us) (h4 : ∀ j u, us[j]? = some u → c.ρ (ad.add j) = some u) : Rep c (.cel l) (.pointer (some ad))
  | arr {c : Cx} {o lo n cap : Nat} {x : Ob} {ad : Addr} (h : c.ob[o]? = some x) (h0 : 0 < x.sz) (h2 : n ≤ cap) (h3 : 0 < cap → ad = ⟨x.g, lo * x.sz, none⟩) (h4 : 0 < cap → (lo + cap) * x.sz ≤ x.size) :
      Rep c (.arr o lo n) (.slice (some ad) n cap)
  | ead {c : Cx} {o i : Nat} {x : Ob} (h : c.ob[o]? = some x) : Rep c (.ead o i) (.pointer (some ⟨x.g, i, none⟩))
  | any {c : Cx} (v : Value) : Rep c .any v
inductive RepL : Cx → List PV → List Value → Prop
  | nil {c : Cx} : RepL c [] []
  | cons {c : Cx} {p : PV} {u : Value} {l : List PV} {us : List Value} (h : Rep c p u) (t : RepL c l us) : RepL c (p :: l) (u :: us)
end
theorem RepL.len {c : Cx} : ∀ {l : List PV} {us : List Value}, RepL c l us → l.length = us.length
  | _, _, .nil => rfl
  | _, _, .cons _ t => by simp [t.len]
theorem RepL.get {c : Cx} : ∀ {l : List PV} {us : List Value}, RepL c l us → ∀ {j : Nat} {p : PV}, l[j]? = some p → ∃ u, us[j]? = some u ∧ Rep c p u
  | _, _, .nil, j, p, h => by simp at h
  | _, _, .cons h t, 0, p, hj => by
    simp at hj; subst hj; exact ⟨_, rfl, h⟩
  | _, _, .cons h t, j + 1, p, hj => by
    simp at hj; obtain ⟨u, hu, hr⟩ := t.get hj; exact ⟨u, by simpa using hu, hr⟩
theorem RepL.of {c : Cx} : ∀ {l : List PV} {us : List Value}, l.length = us.length → (∀ (j : Nat) (p : PV) (u : Value), l[j]? = some p → us[j]? = some u → Rep c p u) → RepL c l us
  | [], [], _, _ => .nil
  | [], _ :: _, h, _ => by simp at h
  | _ :: _, [], h, _ => by simp at h
  | p :: l, u :: us, h, k => .cons (k 0 p u rfl rfl) (RepL.of (by simpa using h) fun j p u hp hu => k (j + 1) p u (by simpa using hp) (by simpa using hu))
theorem RepL.both {c : Cx} {l : List PV} {us : List Value} (h : RepL c l us) {j : Nat} {p : PV} {u : Value} (hp : l[j]? = some p) (hu : us[j]? = some u) : Rep c p u := by
  obtain ⟨u', hu', hr⟩ := h.get hp
  rw [hu] at hu'; cases hu'; exact hr
theorem RepL.append {c : Cx} : ∀ {l : List PV} {us : List Value} {l' : List PV} {us' : List Value}, RepL c l us → RepL c l' us' → RepL c (l ++ l') (us ++ us')
  | _, _, _, _, .nil, h => h
  | _, _, _, _, .cons h t, k => .cons h (t.append k)
theorem RepL.take {c : Cx} {l : List PV} {us : List Value} (h : RepL c l us) (n : Nat) : RepL c (l.take n) (us.take n) := by
  refine .of (by simp [h.len]) fun j p u hp hu => ?_
  rw [List.getElem?_take] at hp hu
  split at hp
  · rename_i hj; rw [if_pos hj] at hu; exact h.both hp hu
  · cases hp
theorem RepL.drop {c : Cx} {l : List PV} {us : List Value} (h : RepL c l us) (n : Nat) : RepL c (l.drop n) (us.drop n) := by
  refine .of (by simp [h.len]) fun j p u hp hu => ?_
  rw [List.getElem?_drop] at hp hu
  exact h.both hp hu
theorem RepL.set {c : Cx} {l : List PV} {us : List Value} (h : RepL c l us) (i : Nat) {p : PV} {u : Value} (hr : Rep c p u) : RepL c (l.set i p) (us.set i u) := by
  refine .of (by simp [h.len]) fun j p' u' hp hu => ?_
  rw [List.getElem?_set] at hp hu
  split at hp
  · rename_i hj; rw [if_pos hj] at hu
    split at hp
    · rename_i h1; rw [if_pos (by rw [← h.len]; exact h1)] at hu; cases hp; cases hu; exact hr
    · cases hp
  · rename_i hj; rw [if_neg hj] at hu; exact h.both hp hu
structure Cx.le (c c' : Cx) : Prop where
  ρ : ∀ ad u, c.ρ ad = some u → c'.ρ ad = some u
  bb : ∀ (i : Nat) (g : Nat), c.bb[i]? = some g → c'.bb[i]? = some g
  ob : ∀ (i : Nat) (x : Ob), c.ob[i]? = some x → c'.ob[i]? = some x
theorem Cx.le.refl (c : Cx) : c.le c := ⟨fun _ _ h => h, fun _ _ h => h, fun _ _ h => h⟩
theorem Cx.strip_le (c : Cx) : c.strip.le c := ⟨fun _ _ h => h, fun _ _ h => by simp [Cx.strip] at h, fun _ _ h => by simp [Cx.strip] at h⟩
theorem Cx.le.strip {c c' : Cx} (h : c.le c') : c.strip.le c'.strip := ⟨h.ρ, fun _ _ h => by simp [Cx.strip] at h, fun _ _ h => by simp [Cx.strip] at h⟩
theorem Cx.le.trans {a b c : Cx} (h : a.le b) (k : b.le c) : a.le c := ⟨fun _ _ x => k.ρ _ _ (h.ρ _ _ x), fun _ _ x => k.bb _ _ (h.bb _ _ x), fun _ _ x => k.ob _ _ (h.ob _ _ x)⟩
mutual
theorem Rep.up : ∀ {c c' : Cx} {p : PV} {v : Value}, c.le c' → Rep c p v → Rep c' p v
  | _, _, _, _, k, .val v => .val v
  | _, _, _, _, k, .nil => .nil
  | _, _, _, _, k, .sl h0 h1 h2 h3 h4 => .sl h0 h1 h2 (RepL.up k.strip h3) fun j u hu => let ⟨ad, e, hr⟩ := h4 j u hu; ⟨ad, e, k.ρ _ _ hr⟩
  | _, _, _, _, k, .ws h1 h2 h4 => .ws h1 h2 fun j x hx => let ⟨ad, e, hr⟩ := h4 j x hx; ⟨ad, e, k.ρ _ _ hr⟩
  | _, _, _, _, k, .fs h0 h1 h2 h3 h4 => .fs h0 h1 h2 (fun j u hu => Rep.up k.strip (h3 j u hu)) fun j u hu => let ⟨ad, e, hr⟩ := h4 j u hu; ⟨ad, e, k.ρ _ _ hr⟩
  | _, _, _, _, k, .cw h0 h4 => .cw h0 fun j x hx => k.ρ _ _ (h4 j x hx)
  | _, _, _, _, k, .cf h1 h3 h4 => .cf h1 (fun j u hu => Rep.up k.strip (h3 j u hu)) fun j u hu => k.ρ _ _ (h4 j u hu)
  | _, _, _, _, k, .emp => .emp
  | _, _, _, _, k, .agg h => .agg (RepL.up k h)
  | _, _, _, _, k, .tup h => .tup (RepL.up k h)
  | _, _, _, _, k, .ptr h => .ptr (k.bb _ _ h)
  | _, _, _, _, k, .cel h3 h4 => .cel (RepL.up k.strip h3) fun j u hu => k.ρ _ _ (h4 j u hu)
  | _, _, _, _, k, .arr h h0 h2 h3 h4 => .arr (k.ob _ _ h) h0 h2 h3 h4
  | _, _, _, _, k, .ead h => .ead (k.ob _ _ h)
  | _, _, _, _, k, .any v => .any v
theorem RepL.up : ∀ {c c' : Cx} {l : List PV} {us : List Value}, c.le c' → RepL c l us → RepL c' l us
  | _, _, _, _, k, .nil => .nil
  | _, _, _, _, k, .cons h t => .cons (Rep.up k h) (RepL.up k t)
end
mutual
def noH : PV → Bool
  | .val _ => true
  | .nil => true
  | .ws _ _ => true
  | .sl _ _ => true
  | .fs _ _ _ => true
  | .cel _ => true
  | .cw _ _ _ => true
  | .cf _ _ _ => true
  | .emp => true
  | .agg l => noHL l
  | .tup l => noHL l
  | .ptr _ _ => false
  | .arr _ _ _ => false
  | .ead _ _ => false
  | .any => true
def noHL : List PV → Bool
  | [] => true
  | p :: l => noH p && noHL l
end
mutual
theorem Rep.bare {c : Cx} : ∀ {p : PV} {v : Value}, Rep c p v → noH p = true → Rep c.strip p v
  | _, _, .val v, _ => .val v
  | _, _, .nil, _ => .nil
  | _, _, .sl h0 h1 h2 h3 h4, _ => .sl h0 h1 h2 h3 h4
  | _, _, .ws h1 h2 h4, _ => .ws h1 h2 h4
  | _, _, .fs h0 h1 h2 h3 h4, _ => .fs h0 h1 h2 h3 h4
  | _, _, .cw h0 h4, _ => .cw h0 h4
  | _, _, .cf h1 h3 h4, _ => .cf h1 h3 h4
  | _, _, .emp, _ => .emp
  | _, _, .agg h, k => .agg (RepL.bare h (by simpa [noH] using k))
  | _, _, .tup h, k => .tup (RepL.bare h (by simpa [noH] using k))
  | _, _, .cel h3 h4, _ => .cel h3 h4
  | _, _, .ptr h, k => by simp [noH] at k
  | _, _, .arr h h0 h2 h3 h4, k => by simp [noH] at k
  | _, _, .ead h, k => by simp [noH] at k
  | _, _, .any v, _ => .any v
theorem RepL.bare {c : Cx} : ∀ {l : List PV} {us : List Value}, RepL c l us → noHL l = true → RepL c.strip l us
  | _, _, .nil, _ => .nil
  | _, _, .cons h t, k => .cons (h.bare (by simp [noHL] at k; exact k.1)) (t.bare (by simp [noHL] at k; exact k.2))
end
def wv (k : IntKind) (n : Int) : PV := .val (.int k n)
abbrev ws (k : IntKind) (a : List Int) : PV := .ws k a
theorem rep_ws {c : Cx} {k : IntKind} {a : List Int} {v : Value} : Rep c (.ws k a) v ↔ Rep c (.sl 1 (a.map (wv k))) v := by
  have key : ∀ a : List Int, RepL c.strip (a.map (wv k)) (a.map (Value.int k)) := fun a => by
    induction a with
    | nil => exact .nil
    | cons x a ih => exact .cons (.val _) ih
  constructor
  · intro h
    cases h with
    | ws h1 h2 h4 =>
      refine .sl (us := a.map (Value.int k)) Nat.one_pos (by simp [h1]) h2 (key a) fun j u hu => ?_
      rw [List.getElem?_map, Option.map_eq_some_iff] at hu
      obtain ⟨x, hx, rfl⟩ := hu
      exact h4 j x hx
  · intro h
    cases h with
    | sl h0 h1 h2 h3 h4 =>
      rename_i us
      have e : us = a.map (Value.int k) := by
        clear h1 h4 key
        induction a generalizing us with
        | nil => cases h3; rfl
        | cons x a ih => cases h3 with | cons h t => cases h; rw [ih t]; rfl
      subst e
      refine .ws (by simpa using h1) h2 fun j x hx => h4 j _ (by rw [List.getElem?_map, hx]; rfl)
structure Kp (S : List Nat) (B : Nat) (w w' : World) : Prop where
  os : w'.os = w.os
  tape : w'.tape = w.tape
  output : w'.output = w.output
  size : w.heap.size ≤ w'.heap.size
  block : ∀ k, k < B → k ∉ S → w'.heap[k]? = w.heap[k]?
theorem Kp.refl (S : List Nat) (B : Nat) (w : World) : Kp S B w w := ⟨rfl, rfl, rfl, Nat.le_refl _, fun _ _ _ => rfl⟩
theorem Kp.trans {S : List Nat} {B : Nat} {a b c : World} (h : Kp S B a b) (k : Kp S B b c) : Kp S B a c :=
  ⟨k.os.trans h.os, k.tape.trans h.tape, k.output.trans h.output, Nat.le_trans h.size k.size, fun i hi hs => (k.block i hi hs).trans (h.block i hi hs)⟩
theorem Kp.mono {S S' : List Nat} {B B' : Nat} {w w' : World} (h : Kp S' B' w w') (hB : B ≤ B') (hS : ∀ k, k < B → k ∈ S' → k ∈ S) : Kp S B w w' :=
  ⟨h.os, h.tape, h.output, h.size, fun k hk hs => h.block k (Nat.lt_of_lt_of_le hk hB) fun hm => hs (hS k hk hm)⟩
theorem Kp.below {B : Nat} {w w' : World} (h : Kp [] B w w') : Below B w w' := ⟨h.os, h.tape, h.output, h.size, fun k hk => h.block k hk (by simp)⟩
theorem Kp.of_below {S : List Nat} {B : Nat} {w w' : World} (h : Below B w w') : Kp S B w w' := ⟨h.os, h.tape, h.output, h.size, fun k hk _ => h.block k hk⟩
theorem Kp.alloc {S : List Nat} {B : Nat} {a w : World} (h : Kp S B a w) (hB : B ≤ w.heap.size) (o : Obj) : Kp S B a (w.alloc o) :=
  h.trans (.of_below ((Below.refl _ _).alloc hB o))
theorem Kp.drew {S : List Nat} {B : Nat} {a w : World} (h : Kp S B a w) : Kp S B a w.drew := ⟨h.os, h.tape, h.output, h.size, h.block⟩
def Ext (w w' : World) : Prop := ∀ ad u, w.cell? ad = some u → w'.cell? ad = some u
theorem Ext.refl (w : World) : Ext w w := fun _ _ h => h
theorem Ext.trans {a b c : World} (h : Ext a b) (k : Ext b c) : Ext a c := fun _ _ x => k _ _ (h _ _ x)
theorem Ext.below {w w' : World} (h : Below w.heap.size w w') : Ext w w' := fun ad u hu => (h.cell (World.block_lt_of_cell? w ad hu)).trans hu
structure SimW (c : Cx) (bx : List (List PV)) (ob : List (Option Row)) (w : World) : Prop where
  mem : ∀ ad u, c.ρ ad = some u → w.cell? ad = some u
  bl : c.bb.length = bx.length
  ol : c.ob.length = ob.length
  box : ∀ (i : Nat) (l : List PV), bx[i]? = some l → ∃ (g : Nat) (us : List Value) (T : TypeId), c.bb[i]? = some g ∧ w.heap[g]? = some (.cells us.toArray T (0, 0)) ∧ RepL c l us
  obj : ∀ (i : Nat) (r : Row), ob[i]? = some (some r) → ∃ (x : Ob) (us : List Value), c.ob[i]? = some x ∧ x.sz = r.sz ∧ x.T = r.T ∧ us.length = x.size ∧ w.heap[x.g]? = some (.cells us.toArray x.T (0, 0)) ∧ r.cs.length ≤ x.size ∧ RepL c.strip r.cs (us.take r.cs.length)
  nb : ∀ (i j g : Nat), c.bb[i]? = some g → c.bb[j]? = some g → i = j
  no : ∀ (i j : Nat) (x y : Ob) (l m : Row), ob[i]? = some (some l) → ob[j]? = some (some m) → c.ob[i]? = some x → c.ob[j]? = some y → x.g = y.g → i = j
  nbo : ∀ (i : Nat) (x : Ob) (l : Row), ob[i]? = some (some l) → c.ob[i]? = some x → x.g ∉ c.bb
  sb : ∀ ad u, c.ρ ad = some u → ad.block ∉ c.bb
  so : ∀ (ad : Addr) (u : Value) (i : Nat) (x : Ob) (l : Row), c.ρ ad = some u → ob[i]? = some (some l) → c.ob[i]? = some x → ad.block ≠ x.g
theorem SimW.bb_lt {c : Cx} {bx : List (List PV)} {ob : List (Option Row)} {w : World} (h : SimW c bx ob w) {i g : Nat} (hg : c.bb[i]? = some g) : g < w.heap.size := by
  have hi : i < bx.length := by rw [← h.bl]; exact (List.getElem?_eq_some_iff.1 hg).1
  obtain ⟨g', us, T, h1, h2, _⟩ := h.box i _ (List.getElem?_eq_getElem hi)
  rw [hg] at h1; cases h1
  exact (Array.getElem?_eq_some_iff.1 h2).1
theorem SimW.ob_lt {c : Cx} {bx : List (List PV)} {ob : List (Option Row)} {w : World} (h : SimW c bx ob w) {i : Nat} {l : Row} {x : Ob} (hl : ob[i]? = some (some l)) (hx : c.ob[i]? = some x) : x.g < w.heap.size := by
  obtain ⟨x', us, h1, _, _, _, h2, _⟩ := h.obj i l hl
  rw [hx] at h1; cases h1
  exact (Array.getElem?_eq_some_iff.1 h2).1
theorem SimW.ρ_lt {c : Cx} {bx : List (List PV)} {ob : List (Option Row)} {w : World} (h : SimW c bx ob w) {ad : Addr} {u : Value} (hr : c.ρ ad = some u) : ad.block < w.heap.size :=
  World.block_lt_of_cell? w ad (h.mem ad u hr)
theorem SimW.grow {c : Cx} {bx : List (List PV)} {ob : List (Option Row)} {w w' : World} (h : SimW c bx ob w) (k : ∀ i, i < w.heap.size → w'.heap[i]? = w.heap[i]?) : SimW c bx ob w' := by
  refine ⟨fun ad u hr => ?_, h.bl, h.ol, fun i l hi => ?_, fun i l hi => ?_, h.nb, h.no, h.nbo, h.sb, h.so⟩
  · have := h.mem ad u hr
    rw [World.cell?_of_block (w := w) (k _ (World.block_lt_of_cell? w ad this))]; exact this
  · obtain ⟨g, us, T, h1, h2, h3⟩ := h.box i l hi
    exact ⟨g, us, T, h1, by rw [k _ (h.bb_lt h1)]; exact h2, h3⟩
  · obtain ⟨x, us, h1, ha, hb, h1', h2, h3, h4⟩ := h.obj i l hi
    exact ⟨x, us, h1, ha, hb, h1', by rw [k x.g (h.ob_lt hi h1)]; exact h2, h3, h4⟩
structure St where
  n : Nat
  t : Nat → PV
  bx : List (List PV)
  ob : List (Option Row)
def upd (f : Nat → PV) (d : Nat) (p : PV) : Nat → PV := fun x => match Nat.beq x d with | true => p | false => f x
theorem upd_same (f : Nat → PV) (d : Nat) (p : PV) : upd f d p d = p := by simp [upd]
theorem upd_ne (f : Nat → PV) (d : Nat) (p : PV) {x : Nat} (h : x ≠ d) : upd f d p x = f x := by
  unfold upd
  split
  · rename_i hb; exact absurd (Nat.eq_of_beq_eq_true hb) h
  · rfl
def St.put (s : St) (d : Option Nat) (p : PV) : St := match d with | some d => { s with t := upd s.t d p } | none => s
def St.fits (s : St) (d : Option Nat) : Bool := match d with | some d => Nat.blt d s.n | none => true
def GOk (G : List (Nat × List Value)) (ρ : Addr → Option Value) : Prop := ∀ g cs, (g, cs) ∈ G → ∀ j u, cs[j]? = some u → ρ ⟨g, j, none⟩ = some u
structure Fr where
  G : List (Nat × List Value)
  c0 : Cx
  w0 : World
  hG : GOk G c0.ρ
structure Inv (F : Fr) (c : Cx) (s : St) (a : Act) (w : World) : Prop where
  W : SimW c s.bx s.ob w
  nd : a.defers = []
  sz : a.tmps.size = s.n
  tm : ∀ t, Rep c (s.t t) (a.tmps.getD t undef)
  kp : Kp (F.c0.ob.map (·.g)) F.w0.heap.size F.w0 w
  rho : ∀ ad u, F.c0.ρ ad = some u → c.ρ ad = some u
  new : ∀ ad u, c.ρ ad = some u → F.c0.ρ ad = some u ∨ F.w0.heap.size ≤ ad.block
  obp : ∀ (i : Nat) (x : Ob), F.c0.ob[i]? = some x → c.ob[i]? = some x
  obB : ∀ (i : Nat) (x : Ob), F.c0.ob.length ≤ i → c.ob[i]? = some x → F.w0.heap.size ≤ x.g
  bbB : ∀ g ∈ c.bb, F.w0.heap.size ≤ g
theorem put_tm {c : Cx} {t : Nat → PV} {a : Act} {n : Nat} (hs : a.tmps.size = n) (h : ∀ x, Rep c (t x) (a.tmps.getD x undef)) {d : Nat} (hd : d < n) {p : PV} {v : Value} (hr : Rep c p v) (x : Nat) :
    Rep c (upd t d p x) ((a.put (some d) v).tmps.getD x undef) := by
  by_cases hx : x = d
  · subst hx
    rw [upd_same]
    have : (a.tmps.setIfInBounds x v).getD x undef = v := by simp [hs, hd]
    simp only [Act.put, this]; exact hr
  · rw [upd_ne _ _ _ hx]
    have : (a.tmps.setIfInBounds d v).getD x undef = a.tmps.getD x undef := by simp [Array.getElem?_setIfInBounds_ne (Ne.symm hx)]
    simp only [Act.put, this]; exact h x
theorem Inv.put {F : Fr} {c : Cx} {s : St} {a : Act} {w : World} (h : Inv F c s a w) {d : Option Nat} (hd : s.fits d = true) {p : PV} {v : Value} (hr : Rep c p v) : Inv F c (s.put d p) (a.put d v) w := by
  cases d with
  | none => exact h
  | some d =>
    have hd' : d < s.n := by simpa [St.fits, Nat.blt_eq] using hd
    exact ⟨h.W, h.nd, by simp [Act.put, St.put, h.sz], fun x => put_tm h.sz h.tm hd' hr x, h.kp, h.rho, h.new, h.obp, h.obB, h.bbB⟩
end Go.Proofs.YtpjbgmafnheomaaGreatDoor.Sim
