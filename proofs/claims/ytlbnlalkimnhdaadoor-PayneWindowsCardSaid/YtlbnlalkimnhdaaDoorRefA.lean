/-
  gnomonref01: Norm. Condition: the list is no longer than 2^40.
-/
import Derived.Test.YtlbnlalkimnhdaaDoorTy
import Derived.Test.YtlbnlalkimnhdaaDoorDig
namespace Go.Proofs.YtlbnlalkimnhdaaDoor.Sim
open Go.RowKit
set_option linter.unusedVariables false
set_option linter.unusedSimpArgs false
set_option maxRecDepth 10000
set_option maxHeartbeats 2000000
theorem trim_take : ∀ (a : List Int) (m : Nat), m ≤ a.length → (∀ j, m ≤ j → a.getD j 0 = 0) → (m = 0 ∨ a.getD (m - 1) 0 ≠ 0) → trim a = a.take m
  | [], m, _, _, _ => by simp [trim]
  | x :: l, 0, h1, h2, h3 => by
    have := trim_take l 0 (Nat.zero_le _) (fun j _ => by simpa using h2 (j + 1) (Nat.zero_le _)) (.inl rfl)
    have hx : x = 0 := by simpa using h2 0 (Nat.le_refl _)
    simp [trim, this, hx]
  | x :: l, 1, h1, h2, h3 => by
    have := trim_take l 0 (Nat.zero_le _) (fun j _ => by simpa using h2 (j + 1) (by omega)) (.inl rfl)
    have hx : x ≠ 0 := by simpa using h3
    simp [trim, this, hx]
  | x :: l, m + 2, h1, h2, h3 => by
    have := trim_take l (m + 1) (by simpa using h1) (fun j hj => by simpa using h2 (j + 1) (by omega)) (.inr (by simpa using h3))
    cases l with
    | nil => simp at h1
    | cons y l =>
      have e : trim (x :: y :: l) = (match trim (y :: l) with | [] => if x = 0 then [] else [x] | l => x :: l) := rfl
      rw [e, this]; rfl
theorem copied (a : List Int) (m : Nat) (h : m ≤ a.length) : List.take 0 (List.replicate (m : Int).toNat (0 : Int)) ++ List.take (m : Int).toNat (List.take (m : Int).toNat a) ++ List.drop (0 + min (m : Int).toNat (List.take (m : Int).toNat a).length) (List.replicate (m : Int).toNat 0) = a.take m := by
  have : min m (min m a.length) = m := by omega
  simp [this, List.take_take]
/-- A natural, as gnomonref01 holds it. -/
def D (n : Nat) : PV := .ws .u32 (d32 n)
theorem iv_eq {k : IntKind} {a b : Int} (h : a = b) : PV.val (.int k a) = .val (.int k b) := by rw [h]
variable {G : List (Nat × List Value)}
theorem m_norm (a : List Int) (h : a.length ≤ 1099511627776) : PM Tryd.prog G 68 [.ws .u32 a] [] (Own 111 .u32 (trim a)) := by
  refine PM.intro (X := XX) tok Tryd.func68 rfl Tryd.ntmps68 (by rw [Tryd.results68]) (by kernel_rfl) rfl ?_; intro F hG hO; simp only [List.length_cons, List.length_nil, Nat.zero_add, Nat.reduceAdd] at hO
  repeat' ((try (conv => whnf)); first
  | ((with_reducible refine lg ?_); refine loop_g (A := Nat) (fun m => m ≤ a.length ∧ ∀ j : Nat, m ≤ j → rd a j = 0) id (fun m => [(0, .ws .u32 a), (3, .val (.int .i64 (m : Int)))]) (fun _ => []) (fun _ => []) a.length tok (fun _ => ⟨⟨trivial, trivial, trivial⟩, trivial, by simp only [List.length_nil]; omega⟩) ?_ ⟨rfl, rfl, trivial⟩ ⟨[], rfl⟩ ⟨[], rfl⟩ ?_; rotate_left; rintro m ⟨h1, h2⟩)
  
  | (with_reducible refine Chk.mk' (by first | omega | exact trivial | (simp only [List.length_append, List.length_set, List.length_replicate, List.length_take, List.length_drop, List.length_cons, List.length_nil, List.length_map]; omega)) ?_)
  | (with_reducible refine wrap_g (by dsimp only [inR]; omega) ?_)
  | (with_reducible refine idx_g (by omega) ?_)
  | (with_reducible refine idx_l _ rfl (by decide) ?_)
  | (with_reducible refine fork_tt ?_) | (with_reducible refine fork_ff ?_)
  | (with_reducible refine fork_t (by omega) ?_) | (with_reducible refine fork_f (by omega) ?_)
  | (with_reducible refine fork_d ?_ ?_ <;> intro hc)
  | (with_reducible refine fork_n ?_)
  | (with_reducible refine fork_b ?_ ?_ <;> intro hc)
  | (with_reducible refine SlcG.mk (by omega) ?_)
  | (with_reducible refine MakG.mk (by dsimp only; omega) ?_)
  | (with_reducible refine AppG.mk (by first | omega | (simp only [List.length_append, List.length_set, List.length_replicate, List.length_take, List.length_drop, List.length_cons, List.length_nil, List.length_map]; omega)) (by dsimp only [List.length_cons, List.length_nil]; omega) (by omega) ?_)
  | (with_reducible refine div_g (by omega) (by omega) (by dsimp only [inR]; omega) ?_)
  | (with_reducible refine mod_g (by omega) (by omega) ?_)
  | (with_reducible refine mask_g (m := 4294967296) 32 rfl rfl (by decide) (by omega) ?_)
  | (with_reducible refine shr_g (m := 4294967296) 32 rfl (by decide) (by omega) rfl ?_)
  | (with_reducible refine fz_all (by omega) ?_)
  | (with_reducible refine Stuck.h (A := RetE _ _) ?_) | (with_reducible refine Stuck.h (A := RetM _ _ _ _) ?_) | (with_reducible refine Stuck.h (A := Again _ _ _ _ _ _ _ _) ?_) | (with_reducible refine Stuck.h (A := CallF _ _ _ _ _ _ _) ?_) | (with_reducible refine Stuck.h (A := LoopG _ _ _ _ _ _ _ _) ?_) | (with_reducible refine Stuck.h (A := DrawG _ _ _ _ _ _ _ _) ?_)
  | (with_reducible refine Stuck.h (A := WrapG _ _ _) ?_) | (with_reducible refine Stuck.h (A := DivG _ _ _ _) ?_) | (with_reducible refine Stuck.h (A := ModG _ _ _) ?_) | (with_reducible refine Stuck.h (A := ShlG _ _ _ _) ?_) | (with_reducible refine Stuck.h (A := ShrG _ _ _ _) ?_) | (with_reducible refine Stuck.h (A := BitG _ _ _ _ _) ?_)
  | (with_reducible refine Stuck.h (A := IdxG _ _ _) ?_) | (with_reducible refine Stuck.h (A := IdxL _ _ _) ?_) | (with_reducible refine Stuck.h (A := SlcG _ _ _ _ _) ?_) | (with_reducible refine Stuck.h (A := MakG _ _ _ _) ?_) | (with_reducible refine Stuck.h (A := AppG _ _ _ _ _ _ _) ?_) | (with_reducible refine Stuck.h (A := FzG _ _ _ _) ?_)
  | (with_reducible refine Stuck.h (A := RawG _) ?_) | (with_reducible refine Stuck.h (A := TabG _ _ _ _ _) ?_) | (with_reducible refine Stuck.h (A := ExtF _ _ _ _) ?_) | (with_reducible refine Stuck.h (A := Chk _ _) ?_) | (with_reducible refine Stuck.h (A := False) ?_))
  · exact ⟨again (m - 1) ⟨by omega, fun j hj => by
      rcases Nat.lt_or_ge j m with hjm | hjm
      · rw [show (j : Int) = m - 1 by omega]; assumption
      · exact h2 j hjm⟩ (by simp only [id]; omega) ⟨rfl, iv_eq (by omega), trivial⟩ ⟨[], rfl⟩ ⟨[], rfl⟩⟩
  · have e : trim a = a.take m := trim_take a m h1 (fun j hj => by simpa [rd] using h2 j hj) (.inr (by
      have : ((m : Int) - 1).toNat = m - 1 := by omega
      simpa [rd, this] using hc))
    rw [e]
    exact ⟨ret_own (by simp; omega) (by rw [← copied a m h1]; rfl)⟩
  · have e : trim a = a.take m := trim_take a m h1 (fun j hj => by simpa [rd] using h2 j hj) (.inl (by omega))
    rw [e]
    exact ⟨ret_own (by simp; omega) (by rw [← copied a m h1]; rfl)⟩
  · exact ⟨Nat.le_refl _, fun j hj => by simp [rd, List.getD_eq_getElem?_getD, hj]⟩
theorem r_norm (a : List Int) (h : a.length ≤ 1099511627776) : FC Tryd.prog G 68 [.ws .u32 a] (· = .ws .u32 (trim a)) := Own.fc (m_norm a h)
theorem r_normD (a : List Int) (h : a.length ≤ 1099511627776) (ok : okD 4294967296 a) : FC Tryd.prog G 68 [.ws .u32 a] (· = D (vl 4294967296 a).toNat) :=
  (r_norm a h).mono fun r hr => by rw [hr, D, d32, trim_dgs (B := 4294967296) (by decide) ok]; rfl
end Go.Proofs.YtlbnlalkimnhdaaDoor.Sim
