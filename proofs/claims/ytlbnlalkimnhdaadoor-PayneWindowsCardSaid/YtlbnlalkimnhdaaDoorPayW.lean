/-
  The words and windows of 2/pi are those of the table: closed facts.
-/
import Derived.Test.YtlbnlalkimnhdaaDoorRefI
import Derived.Test.YtlbnlalkimnhdaaDoorPayA
namespace Go.Proofs.YtlbnlalkimnhdaaDoor.Sim
set_option maxRecDepth 100000
def wordOk (i : Nat) : Bool := Nat.beq (invU (64 * (i + 1))) (invO (64 * (i + 1))) && decide (rd wordsT (i : Int) = ((invU (64 * (i + 1)) % 18446744073709551616 : Nat) : Int))
theorem words_all : (List.range 20).all wordOk = true := by decide +kernel
theorem words_ok (i : Nat) (h : i < 20) : invU (64 * (i + 1)) = invO (64 * (i + 1)) ∧ rd wordsT (i : Int) = ((invU (64 * (i + 1)) % 18446744073709551616 : Nat) : Int) := by
  have := List.all_eq_true.1 words_all i (List.mem_range.2 h)
  simp only [wordOk, Bool.and_eq_true, decide_eq_true_eq] at this
  exact ⟨Nat.eq_of_beq_eq_true this.1, this.2⟩
def winOk (a : Nat) : Bool := Nat.beq (invU (a + 256)) (invO (a + 256)) && [0, 1, 2, 3].all fun j => decide (win ((a : Int) / 64) ((a : Int) % 64) (j : Nat) = ((invU (a + 256) / 2 ^ (64 * (3 - j)) % 18446744073709551616 : Nat) : Int))
theorem wins_all : (List.range 1025).all winOk = true := by decide +kernel
theorem wins_ok (a : Nat) (h : a ≤ 1024) : invU (a + 256) = invO (a + 256) ∧ ∀ j : Nat, j < 4 → win ((a : Int) / 64) ((a : Int) % 64) (j : Int) = ((invU (a + 256) / 2 ^ (64 * (3 - j)) % 18446744073709551616 : Nat) : Int) := by
  have := List.all_eq_true.1 wins_all a (List.mem_range.2 (by omega))
  simp only [winOk, Bool.and_eq_true] at this
  refine ⟨Nat.eq_of_beq_eq_true this.1, fun j hj => ?_⟩
  have h2 := List.all_eq_true.1 this.2 j (by simp; omega)
  simpa using h2
end Go.Proofs.YtlbnlalkimnhdaaDoor.Sim
