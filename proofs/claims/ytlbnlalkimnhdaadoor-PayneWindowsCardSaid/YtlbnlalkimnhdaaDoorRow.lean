/-
  Plain lists: digits written over one by one from a place on. No condition.
-/
import Derived.Test.YtlbnlalkimnhdaaDoorNum
namespace Go.Proofs.YtlbnlalkimnhdaaDoor.Sim
set_option linter.unusedVariables false
set_option linter.unusedSimpArgs false
/-- p, of whose digits from lo on so many are s. -/
def ins (p : List Int) (lo : Nat) (s : List Int) : List Int := p.take lo ++ s ++ p.drop (lo + s.length)
theorem ins_len {p s : List Int} {lo : Nat} (h : lo + s.length ≤ p.length) : (ins p lo s).length = p.length := by
  simp [ins]; omega
theorem ins_nil (p : List Int) (lo : Nat) : ins p lo [] = p := by simp [ins]
theorem ins_get {p s : List Int} {lo : Nat} (h : lo + s.length ≤ p.length) : (ins p lo s).getD (lo + s.length) 0 = rd p ((lo + s.length : Nat) : Int) := by
  have e : (p.take lo ++ s).length = lo + s.length := by simp; omega
  unfold ins
  simp only [List.getD_eq_getElem?_getD, rd, Int.toNat_natCast]
  rw [List.getElem?_append_right (by omega), e, List.getElem?_drop]
  simp
theorem ins_set {p s : List Int} {lo : Nat} (d : Int) (h : lo + s.length < p.length) : (ins p lo s).set (lo + s.length) d = ins p lo (s ++ [d]) := by
  have e : (p.take lo ++ s).length = lo + s.length := by simp; omega
  unfold ins
  rw [List.set_append_right _ _ (by omega), e, Nat.sub_self, List.drop_eq_getElem_cons h]
  simp [Nat.add_assoc]
theorem ins_take {p s : List Int} {lo : Nat} (h : lo + s.length ≤ p.length) : (ins p lo s).take lo = p.take lo := by
  have e : (p.take lo).length = lo := by simp; omega
  unfold ins
  rw [List.append_assoc, List.take_append_of_le_length (by omega), List.take_take, Nat.min_self]
theorem ins_drop {p s : List Int} {lo : Nat} (h : lo + s.length ≤ p.length) : (ins p lo s).drop (lo + s.length) = p.drop (lo + s.length) := by
  have e : (p.take lo ++ s).length = lo + s.length := by simp; omega
  unfold ins
  rw [← e, List.drop_left]
theorem ins_mid {p s : List Int} {lo : Nat} (h : lo + s.length ≤ p.length) : ((ins p lo s).drop lo).take s.length = s := by
  have e : (p.take lo).length = lo := by simp; omega
  unfold ins
  rw [List.append_assoc]
  have : (p.take lo ++ (s ++ p.drop (lo + s.length))).drop lo = s ++ p.drop (lo + s.length) := by
    conv => lhs; rw [← e]
    rw [e, List.drop_left' e]
  rw [this, List.take_left]
theorem ins_ins {p s r : List Int} {lo : Nat} (h : lo + s.length ≤ p.length) (hr : r.length = s.length) : ins (ins p lo s) lo r = ins p lo r := by
  have h1 := ins_take h
  have h2 := ins_drop h
  rw [← hr] at h2
  unfold ins at h1 h2 ⊢
  rw [h1, h2]
theorem ins_okD {B : Int} {p s : List Int} {lo : Nat} (hp : okD B p) (hs : okD B s) : okD B (ins p lo s) := okD_append.2 ⟨okD_append.2 ⟨hp.take _, hs⟩, hp.drop _⟩
theorem rd_drop (p : List Int) (lo i : Nat) : rd (p.drop lo) (i : Int) = rd p ((lo + i : Nat) : Int) := by
  simp only [rd, List.getD_eq_getElem?_getD, Int.toNat_natCast, List.getElem?_drop]
theorem gd_bd {B : Int} (hB : 0 < B) {a : List Int} (ok : okD B a) (j : Nat) : 0 ≤ a.getD j 0 ∧ a.getD j 0 < B := by
  have := rd_bd hB ok (j : Int)
  simpa only [rd, Int.toNat_natCast] using this
theorem gd_rd (a : List Int) (j : Nat) : a.getD j 0 = rd a (j : Int) := by simp only [rd, Int.toNat_natCast]
/-- A row's value by its parts. -/
theorem ins_vl (B : Int) {p s : List Int} {lo : Nat} (h : lo + s.length ≤ p.length) : vl B (ins p lo s) = vl B (p.take lo) + B ^ lo * (vl B s + B ^ s.length * vl B (p.drop (lo + s.length))) := by
  have e : (p.take lo).length = lo := by simp; omega
  unfold ins
  rw [List.append_assoc, vl_append, vl_append, e]
end Go.Proofs.YtlbnlalkimnhdaaDoor.Sim
