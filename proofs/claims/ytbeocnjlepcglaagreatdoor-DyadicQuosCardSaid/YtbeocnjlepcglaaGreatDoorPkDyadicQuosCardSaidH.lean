/-
  What the statement DyadicQuosCardSaid leans on, part 8: the logic of walks, digits, contracts of the functions, the plain law. Conditions stand in each theorem.
-/
import Derived.Test.YtbeocnjlepcglaaGreatDoorPkDyadicQuosCardSaidG
import Derived.Test.YtbeocnjlepcglaaGreatDoorProg
namespace Go.Proofs.YtbeocnjlepcglaaGreatDoor.Sim
set_option maxRecDepth 100000
def TT : List TI := [⟨2, .int .i64, 1, 8, [.val (.int .i64 0)]⟩, ⟨3, .int .i64, 1, 8, [.val (.int .i64 0)]⟩, ⟨4, .bool, 1, 1, [.val (.bool false)]⟩, ⟨5, .int .u8, 1, 1, [.val (.int .u8 0)]⟩, ⟨12, .int .u64, 1, 8, [.val (.int .u64 0)]⟩, ⟨21, .int .i32, 1, 4, [.val (.int .i32 0)]⟩, ⟨22, .slice 44 1, 1, 24, [.nil]⟩, ⟨23, .str [(4, 0, 1), (22, 1, 1)], 2, 32, [.val (.bool false), .nil]⟩, ⟨24, .str [(4, 0, 1), (22, 1, 1)], 2, 32, [.val (.bool false), .nil]⟩, ⟨25, .str [(24, 0, 2), (3, 2, 1)], 3, 40, [.val (.bool false), .nil, .val (.int .i64 0)]⟩, ⟨26, .str [(24, 0, 2), (3, 2, 1)], 3, 40, [.val (.bool false), .nil, .val (.int .i64 0)]⟩, ⟨27, .int .i64, 1, 8, [.val (.int .i64 0)]⟩, ⟨42, .slice 51 10, 1, 24, [.nil]⟩, ⟨44, .int .u64, 1, 8, [.val (.int .u64 0)]⟩, ⟨50, .str [(3, 0, 1), (26, 1, 3), (26, 4, 3), (24, 7, 2), (3, 9, 1)], 10, 128, [.val (.int .i64 0), .val (.bool false), .nil, .val (.int .i64 0), .val (.bool false), .nil, .val (.int .i64 0), .val (.bool false), .nil, .val (.int .i64 0)]⟩, ⟨51, .str [(3, 0, 1), (26, 1, 3), (26, 4, 3), (24, 7, 2), (3, 9, 1)], 10, 128, [.val (.int .i64 0), .val (.bool false), .nil, .val (.int .i64 0), .val (.bool false), .nil, .val (.int .i64 0), .val (.bool false), .nil, .val (.int .i64 0)]⟩, ⟨70, .slice 132 1, 1, 24, [.nil]⟩, ⟨71, .str [(4, 0, 1), (70, 1, 1)], 2, 32, [.val (.bool false), .nil]⟩, ⟨72, .str [(4, 0, 1), (70, 1, 1)], 2, 32, [.val (.bool false), .nil]⟩, ⟨76, .slice 22 1, 1, 24, [.nil]⟩, ⟨82, .slice 26 3, 1, 24, [.nil]⟩, ⟨101, .int .u64, 1, 8, [.val (.int .u64 0)]⟩, ⟨129, .arr 64 5 1, 64, 64, [.val (.int .u8 0), .val (.int .u8 0), .val (.int .u8 0), .val (.int .u8 0), .val (.int .u8 0), .val (.int .u8 0), .val (.int .u8 0), .val (.int .u8 0), .val (.int .u8 0), .val (.int .u8 0), .val (.int .u8 0), .val (.int .u8 0), .val (.int .u8 0), .val (.int .u8 0), .val (.int .u8 0), .val (.int .u8 0), .val (.int .u8 0), .val (.int .u8 0), .val (.int .u8 0), .val (.int .u8 0), .val (.int .u8 0), .val (.int .u8 0), .val (.int .u8 0), .val (.int .u8 0), .val (.int .u8 0), .val (.int .u8 0), .val (.int .u8 0), .val (.int .u8 0), .val (.int .u8 0), .val (.int .u8 0), .val (.int .u8 0), .val (.int .u8 0), .val (.int .u8 0), .val (.int .u8 0), .val (.int .u8 0), .val (.int .u8 0), .val (.int .u8 0), .val (.int .u8 0), .val (.int .u8 0), .val (.int .u8 0), .val (.int .u8 0), .val (.int .u8 0), .val (.int .u8 0), .val (.int .u8 0), .val (.int .u8 0), .val (.int .u8 0), .val (.int .u8 0), .val (.int .u8 0), .val (.int .u8 0), .val (.int .u8 0), .val (.int .u8 0), .val (.int .u8 0), .val (.int .u8 0), .val (.int .u8 0), .val (.int .u8 0), .val (.int .u8 0), .val (.int .u8 0), .val (.int .u8 0), .val (.int .u8 0), .val (.int .u8 0), .val (.int .u8 0), .val (.int .u8 0), .val (.int .u8 0), .val (.int .u8 0)]⟩, ⟨132, .int .u32, 1, 4, [.val (.int .u32 0)]⟩, ⟨147, .int .i64, 1, 8, [.val (.int .i64 0)]⟩]
theorem tok : TOk Tryz.prog TT := ⟨⟨by kernel_rfl, by kernel_rfl, by kernel_rfl, by kernel_rfl, (show Tryz.prog.underlying 2 = some (.int .i64) by kernel_rfl)⟩, ⟨by kernel_rfl, by kernel_rfl, by kernel_rfl, by kernel_rfl, (show Tryz.prog.underlying 3 = some (.int .i64) by kernel_rfl)⟩, ⟨by kernel_rfl, by kernel_rfl, by kernel_rfl, by kernel_rfl, (show Tryz.prog.underlying 4 = some .bool by kernel_rfl)⟩, ⟨by kernel_rfl, by kernel_rfl, by kernel_rfl, by kernel_rfl, (show Tryz.prog.underlying 5 = some (.int .u8) by kernel_rfl)⟩, ⟨by kernel_rfl, by kernel_rfl, by kernel_rfl, by kernel_rfl, (show Tryz.prog.underlying 12 = some (.int .u64) by kernel_rfl)⟩, ⟨by kernel_rfl, by kernel_rfl, by kernel_rfl, by kernel_rfl, (show Tryz.prog.underlying 21 = some (.int .i32) by kernel_rfl)⟩, ⟨by kernel_rfl, by kernel_rfl, by kernel_rfl, by kernel_rfl, (show elT Tryz.prog 22 = some (44, 1) by kernel_rfl)⟩, ⟨by kernel_rfl, by kernel_rfl, by kernel_rfl, by kernel_rfl, (show strT Tryz.prog 23 = some [(4, 0, 1), (22, 1, 1)] by kernel_rfl)⟩, ⟨by kernel_rfl, by kernel_rfl, by kernel_rfl, by kernel_rfl, (show strT Tryz.prog 24 = some [(4, 0, 1), (22, 1, 1)] by kernel_rfl)⟩, ⟨by kernel_rfl, by kernel_rfl, by kernel_rfl, by kernel_rfl, (show strT Tryz.prog 25 = some [(24, 0, 2), (3, 2, 1)] by kernel_rfl)⟩, ⟨by kernel_rfl, by kernel_rfl, by kernel_rfl, by kernel_rfl, (show strT Tryz.prog 26 = some [(24, 0, 2), (3, 2, 1)] by kernel_rfl)⟩, ⟨by kernel_rfl, by kernel_rfl, by kernel_rfl, by kernel_rfl, (show Tryz.prog.underlying 27 = some (.int .i64) by kernel_rfl)⟩, ⟨by kernel_rfl, by kernel_rfl, by kernel_rfl, by kernel_rfl, (show elT Tryz.prog 42 = some (51, 10) by kernel_rfl)⟩, ⟨by kernel_rfl, by kernel_rfl, by kernel_rfl, by kernel_rfl, (show Tryz.prog.underlying 44 = some (.int .u64) by kernel_rfl)⟩, ⟨by kernel_rfl, by kernel_rfl, by kernel_rfl, by kernel_rfl, (show strT Tryz.prog 50 = some [(3, 0, 1), (26, 1, 3), (26, 4, 3), (24, 7, 2), (3, 9, 1)] by kernel_rfl)⟩, ⟨by kernel_rfl, by kernel_rfl, by kernel_rfl, by kernel_rfl, (show strT Tryz.prog 51 = some [(3, 0, 1), (26, 1, 3), (26, 4, 3), (24, 7, 2), (3, 9, 1)] by kernel_rfl)⟩, ⟨by kernel_rfl, by kernel_rfl, by kernel_rfl, by kernel_rfl, (show elT Tryz.prog 70 = some (132, 1) by kernel_rfl)⟩, ⟨by kernel_rfl, by kernel_rfl, by kernel_rfl, by kernel_rfl, (show strT Tryz.prog 71 = some [(4, 0, 1), (70, 1, 1)] by kernel_rfl)⟩, ⟨by kernel_rfl, by kernel_rfl, by kernel_rfl, by kernel_rfl, (show strT Tryz.prog 72 = some [(4, 0, 1), (70, 1, 1)] by kernel_rfl)⟩, ⟨by kernel_rfl, by kernel_rfl, by kernel_rfl, by kernel_rfl, (show elT Tryz.prog 76 = some (22, 1) by kernel_rfl)⟩, ⟨by kernel_rfl, by kernel_rfl, by kernel_rfl, by kernel_rfl, (show elT Tryz.prog 82 = some (26, 3) by kernel_rfl)⟩, ⟨by kernel_rfl, by kernel_rfl, by kernel_rfl, by kernel_rfl, (show Tryz.prog.underlying 101 = some (.int .u64) by kernel_rfl)⟩, ⟨by kernel_rfl, by kernel_rfl, by kernel_rfl, by kernel_rfl, (show arT Tryz.prog 129 = some (64, 5, 1) by kernel_rfl)⟩, ⟨by kernel_rfl, by kernel_rfl, by kernel_rfl, by kernel_rfl, (show Tryz.prog.underlying 132 = some (.int .u32) by kernel_rfl)⟩, ⟨by kernel_rfl, by kernel_rfl, by kernel_rfl, by kernel_rfl, (show Tryz.prog.underlying 147 = some (.int .i64) by kernel_rfl)⟩, trivial⟩
theorem mixed : Tryz.prog.follows .mixedOrders = true := by kernel_rfl
def XX : List FuncId := [118, 146]
end Go.Proofs.YtbeocnjlepcglaaGreatDoor.Sim
namespace Go.Proofs.YtbeocnjlepcglaaGreatDoor.Sim
set_option linter.unusedVariables false
set_option linter.unusedSimpArgs false
/-- The number that digits to the base B are. -/
def vl (B : Int) : List Int → Int
  | [] => 0
  | x :: l => x + B * vl B l
def okD (B : Int) (l : List Int) : Prop := ∀ x ∈ l, 0 ≤ x ∧ x < B
/-- Digits without noughts on top. -/
def trim : List Int → List Int
  | [] => []
  | x :: l => match trim l with
    | [] => if x = 0 then [] else [x]
    | l => x :: l
/-- The digits of a number. -/
def dgs (B n : Nat) : List Int := if h : n = 0 ∨ B ≤ 1 then [] else ((n % B : Nat) : Int) :: dgs B (n / B)
termination_by n
decreasing_by exact Nat.div_lt_self (by omega) (by omega)
theorem vl_append (B : Int) (l m : List Int) : vl B (l ++ m) = vl B l + B ^ l.length * vl B m := by
  induction l with
  | nil => simp [vl]
  | cons x l ih =>
    have e : B ^ (l.length + 1) * vl B m = B * (B ^ l.length * vl B m) := by rw [Int.pow_succ, Int.mul_comm (B ^ l.length) B, Int.mul_assoc]
    simp only [List.cons_append, vl, ih, List.length_cons, e, Int.mul_add, Int.add_assoc]
theorem vl_snoc (B : Int) (l : List Int) (x : Int) : vl B (l ++ [x]) = vl B l + B ^ l.length * x := by simp [vl_append, vl]
theorem take_succ_rd (a : List Int) (i : Nat) (h : i < a.length) : a.take (i + 1) = a.take i ++ [rd a i] := by
  rw [List.take_succ_eq_append_getElem h]
  simp [rd, List.getD_eq_getElem?_getD, h]
theorem vl_take_succ (B : Int) (a : List Int) (i : Nat) (h : i < a.length) : vl B (a.take (i + 1)) = vl B (a.take i) + B ^ i * rd a i := by
  rw [take_succ_rd a i h, vl_snoc]
  have : min i a.length = i := by omega
  simp [this]
theorem okD_nil (B : Int) : okD B [] := fun x h => by simp at h
theorem okD_cons {B x : Int} {l : List Int} : okD B (x :: l) ↔ (0 ≤ x ∧ x < B) ∧ okD B l := by simp [okD]
theorem okD_append {B : Int} {l m : List Int} : okD B (l ++ m) ↔ okD B l ∧ okD B m := by
  simp only [okD, List.mem_append]
  exact ⟨fun h => ⟨fun x hx => h x (.inl hx), fun x hx => h x (.inr hx)⟩, fun h x hx => hx.elim (h.1 x) (h.2 x)⟩
theorem okD.take {B : Int} {l : List Int} (h : okD B l) (n : Nat) : okD B (l.take n) := fun x hx => h x (List.mem_of_mem_take hx)
theorem okD.drop {B : Int} {l : List Int} (h : okD B l) (n : Nat) : okD B (l.drop n) := fun x hx => h x (List.mem_of_mem_drop hx)
theorem vl_nonneg {B : Int} (hB : 0 ≤ B) : ∀ {l : List Int}, okD B l → 0 ≤ vl B l
  | [], _ => Int.le_refl 0
  | x :: l, h => by
    have h1 := (okD_cons.1 h).1.1
    have h2 := vl_nonneg hB (okD_cons.1 h).2
    have h3 := Int.mul_nonneg hB h2
    simp only [vl]; omega
theorem vl_lt {B : Int} (hB : 0 < B) : ∀ {l : List Int}, okD B l → vl B l < B ^ l.length
  | [], _ => by simp [vl]
  | x :: l, h => by
    have h1 := (okD_cons.1 h).1.2
    have h2 := vl_lt hB (okD_cons.1 h).2
    have h3 : B * vl B l ≤ B * (B ^ l.length - 1) := Int.mul_le_mul_of_nonneg_left (by omega) (by omega)
    have e : B ^ (l.length + 1) = B * B ^ l.length := by rw [Int.pow_succ, Int.mul_comm]
    have e2 : B * (B ^ l.length - 1) = B * B ^ l.length - B := by rw [Int.mul_sub, Int.mul_one]
    simp only [vl, List.length_cons, e]; omega
theorem okD.trim {B : Int} : ∀ {l : List Int}, okD B l → okD B (trim l)
  | [], _ => okD_nil B
  | x :: l, h => by
    have ih := okD.trim (okD_cons.1 h).2
    simp only [Sim.trim]
    split
    · split
      · exact okD_nil B
      · exact okD_cons.2 ⟨(okD_cons.1 h).1, okD_nil B⟩
    · exact okD_cons.2 ⟨(okD_cons.1 h).1, ih⟩
/-- THE DIGITS ARE THE NUMBER's. -/
theorem trim_dgs {B : Nat} (hB : 2 ≤ B) : ∀ {l : List Int}, okD B l → trim l = dgs B (vl B l).toNat
  | [], _ => by unfold dgs; simp [trim, vl]
  | x :: l, h => by
    obtain ⟨hx, hl⟩ := okD_cons.1 h
    have ih := trim_dgs hB hl
    have h0 := vl_nonneg (B := (B : Int)) (by omega) hl
    obtain ⟨n, hn⟩ : ∃ n : Nat, vl B l = n := ⟨(vl B l).toNat, by omega⟩
    obtain ⟨y, rfl⟩ : ∃ y : Nat, x = y := ⟨x.toNat, by omega⟩
    have hy : y < B := by omega
    have e : (vl B ((y : Int) :: l)).toNat = y + B * n := by
      simp only [vl, hn]
      have : ((y : Int) + (B : Int) * (n : Int)) = ((y + B * n : Nat) : Int) := by simp
      rw [this, Int.toNat_natCast]
    rw [e]
    rw [hn] at ih
    simp only [Int.toNat_natCast] at ih
    have hm : (y + B * n) % B = y := by rw [Nat.add_mul_mod_self_left, Nat.mod_eq_of_lt hy]
    have hd : (y + B * n) / B = n := by rw [Nat.add_mul_div_left _ _ (by omega), Nat.div_eq_of_lt hy, Nat.zero_add]
    simp only [trim]
    by_cases hz : y + B * n = 0
    · have hy0 : y = 0 := by omega
      have hn0 : n = 0 := by
        have h1 : B * n = 0 := by omega
        rcases Nat.mul_eq_zero.1 h1 with h | h <;> omega
      subst hy0 hn0
      have : dgs B 0 = [] := by unfold dgs; simp
      rw [ih, this]
      simp [this]
    · have hu : dgs B (y + B * n) = (y : Int) :: dgs B n := by
        rw [dgs, dif_neg (by omega), hm, hd]
      rw [hu, ih]
      split
      · rename_i h0'
        split
        · rename_i hy0
          have hy0 : y = 0 := by omega
          exfalso
          subst hy0
          have hnn : n ≠ 0 := by intro e; subst e; simp at hz
          rw [dgs, dif_neg (by omega)] at h0'
          cases h0'
        · rw [h0']
      · rfl
/-- A natural as digits to the base 2^32, to the base 2^64. -/
def d32 (n : Nat) : List Int := dgs 4294967296 n
def d64 (n : Nat) : List Int := dgs 18446744073709551616 n
theorem dgs_ok {B : Nat} (hB : 2 ≤ B) (n : Nat) : okD B (dgs B n) ∧ vl B (dgs B n) = n ∧ trim (dgs B n) = dgs B n := by
  induction n using Nat.strongRecOn with
  | _ n ih =>
    by_cases h0 : n = 0
    · subst h0
      have : dgs B 0 = [] := by unfold dgs; simp
      rw [this]; exact ⟨okD_nil _, rfl, rfl⟩
    · obtain ⟨h1, h2, h3⟩ := ih (n / B) (Nat.div_lt_self (by omega) (by omega))
      have e : dgs B n = ((n % B : Nat) : Int) :: dgs B (n / B) := by rw [dgs, dif_neg (by omega)]
      have hm := Nat.mod_lt n (show 0 < B by omega)
      have hok : okD B (dgs B n) := by rw [e]; exact okD_cons.2 ⟨by omega, h1⟩
      have hv : vl B (dgs B n) = n := by
        rw [e]; simp only [vl, h2]
        have := Nat.mod_add_div n B
        exact_mod_cast this
      refine ⟨hok, hv, ?_⟩
      rw [trim_dgs hB hok, hv]; simp
theorem rd_bd {B : Int} (hB : 0 < B) {a : List Int} (h : okD B a) (i : Int) : 0 ≤ rd a i ∧ rd a i < B := by
  unfold rd
  rw [List.getD_eq_getElem?_getD]
  cases hq : a[i.toNat]? with
  | none => simpa using hB
  | some x => exact h x (List.mem_of_getElem? hq)
theorem rd_out (a : List Int) (i : Nat) (h : a.length ≤ i) : rd a i = 0 := by simp [rd, List.getD_eq_getElem?_getD, h]
theorem vl_take_step (B : Int) (a : List Int) (i : Nat) : vl B (a.take (i + 1)) = vl B (a.take i) + B ^ i * rd a i := by
  by_cases h : i < a.length
  · exact vl_take_succ B a i h
  · rw [rd_out a i (by omega), List.take_of_length_le (by omega), List.take_of_length_le (by omega)]; simp
theorem d32_ok (n : Nat) : okD 4294967296 (d32 n) ∧ vl 4294967296 (d32 n) = n := ⟨(dgs_ok (B := 4294967296) (by decide) n).1, (dgs_ok (B := 4294967296) (by decide) n).2.1⟩
/-- One digit of a sum: what is told by the list so far and the carry. -/
theorem sum_step {B vs d c2 T : Int} (i : Nat) (h : d + B * c2 = T) : vs + B ^ i * d + B ^ (i + 1) * c2 = vs + B ^ i * T := by
  rw [Int.pow_succ, Int.mul_assoc, Int.add_assoc, ← Int.mul_add, h]
theorem drop_rd (a : List Int) (i : Nat) (h : i < a.length) : a.drop i = rd a i :: a.drop (i + 1) := by
  rw [List.drop_eq_getElem_cons h]
  simp [rd, List.getD_eq_getElem?_getD, h]
theorem vl_split (B : Int) (a : List Int) (i : Nat) (h : i ≤ a.length) : vl B a = vl B (a.take i) + B ^ i * vl B (a.drop i) := by
  have := vl_append B (a.take i) (a.drop i)
  rw [List.take_append_drop] at this
  rw [this]; simp [Nat.min_eq_left h]
theorem vl_lt_of {B : Int} (hB : 0 < B) {a b : List Int} (oka : okD B a) (okb : okD B b) (hl : a.length = b.length) (i : Nat) (hi : i < a.length) (hd : a.drop (i + 1) = b.drop (i + 1)) (h : rd a i < rd b i) : vl B a < vl B b := by
  rw [vl_split B a i (by omega), vl_split B b i (by omega), drop_rd a i hi, drop_rd b i (by omega), hd]
  simp only [vl]
  have h1 := vl_lt hB (oka.take i)
  have h2 := vl_nonneg (Int.le_of_lt hB) (okb.take i)
  have hlen : (a.take i).length = i := by simp; omega
  rw [hlen] at h1
  have hp : 0 ≤ B ^ i := Int.pow_nonneg (Int.le_of_lt hB)
  have h3 : B ^ i * (rd a i + 1) ≤ B ^ i * rd b i := Int.mul_le_mul_of_nonneg_left (by omega) hp
  rw [Int.mul_add, Int.mul_one] at h3
  rw [Int.mul_add, Int.mul_add]
  omega
theorem dgs_len {B : Nat} (hB : 2 ≤ B) (n : Nat) : n < B ^ (dgs B n).length ∧ (n ≠ 0 → 0 < (dgs B n).length ∧ B ^ ((dgs B n).length - 1) ≤ n) := by
  induction n using Nat.strongRecOn with
  | _ n ih =>
    by_cases h0 : n = 0
    · subst h0
      have : dgs B 0 = [] := by unfold dgs; simp
      rw [this]; simp
    · obtain ⟨h1, h2⟩ := ih (n / B) (Nat.div_lt_self (by omega) (by omega))
      have e : dgs B n = ((n % B : Nat) : Int) :: dgs B (n / B) := by rw [dgs, dif_neg (by omega)]
      have hdm := Nat.div_add_mod n B
      have hm := Nat.mod_lt n (show 0 < B by omega)
      rw [e]
      simp only [List.length_cons, Nat.add_sub_cancel]
      refine ⟨?_, fun _ => ⟨Nat.succ_pos _, ?_⟩⟩
      · rw [Nat.pow_succ, Nat.mul_comm]
        have : B * (n / B + 1) ≤ B * B ^ (dgs B (n / B)).length := Nat.mul_le_mul_left _ h1
        rw [Nat.mul_add] at this; omega
      · by_cases hq : n / B = 0
        · have : dgs B (n / B) = [] := by rw [hq]; unfold dgs; simp
          rw [this]; simp; omega
        · obtain ⟨g1, g2⟩ := h2 hq
          have e2 : (dgs B (n / B)).length = (dgs B (n / B)).length - 1 + 1 := by omega
          rw [e2, Nat.pow_succ, Nat.mul_comm]
          have := Nat.mul_le_mul_left B g2
          omega
theorem dgs_lt {B : Nat} (hB : 2 ≤ B) {x y : Nat} (h : (dgs B x).length < (dgs B y).length) : x < y := by
  have h1 := (dgs_len hB x).1
  have hy : y ≠ 0 := by
    intro e
    subst e
    have : dgs B 0 = [] := by unfold dgs; simp
    rw [this] at h; simp at h
  obtain ⟨h2, h3⟩ := (dgs_len hB y).2 hy
  exact Nat.lt_of_lt_of_le h1 (Nat.le_trans (Nat.pow_le_pow_right (by omega) (by omega)) h3)
/-! ### lengths -/
def lenB (B n : Nat) : Nat := (dgs B n).length
theorem lenB_le {B : Nat} (hB : 2 ≤ B) {x n : Nat} (h : x < B ^ n) : lenB B x ≤ n := by
  rcases Nat.lt_or_ge n (lenB B x) with h1 | h1
  · obtain ⟨_, h2⟩ := dgs_len hB x
    by_cases hx : x = 0
    · subst hx
      have : dgs B 0 = [] := by unfold dgs; simp
      simp [lenB, this] at h1
    · obtain ⟨h3, h4⟩ := h2 hx
      have h5 : B ^ n ≤ B ^ ((dgs B x).length - 1) := Nat.pow_le_pow_right (by omega) (by unfold lenB at h1; omega)
      omega
  · exact h1
theorem lenB_lt {B : Nat} (hB : 2 ≤ B) (x : Nat) : x < B ^ lenB B x := (dgs_len hB x).1
theorem lenB_mono {B : Nat} (hB : 2 ≤ B) {x y : Nat} (h : x ≤ y) : lenB B x ≤ lenB B y := lenB_le hB (Nat.lt_of_le_of_lt h (lenB_lt hB y))
theorem lenB_add {B : Nat} (hB : 2 ≤ B) (x y : Nat) : lenB B (x + y) ≤ max (lenB B x) (lenB B y) + 1 := by
  refine lenB_le hB ?_
  have h1 : B ^ lenB B x ≤ B ^ max (lenB B x) (lenB B y) := Nat.pow_le_pow_right (by omega) (by omega)
  have h2 : B ^ lenB B y ≤ B ^ max (lenB B x) (lenB B y) := Nat.pow_le_pow_right (by omega) (by omega)
  have h3 := lenB_lt hB x
  have h4 := lenB_lt hB y
  have h5 : B ^ max (lenB B x) (lenB B y) * 2 ≤ B ^ (max (lenB B x) (lenB B y) + 1) := by rw [Nat.pow_succ]; exact Nat.mul_le_mul_left _ hB
  omega
theorem lenB_zero (B : Nat) : lenB B 0 = 0 := by unfold lenB dgs; simp
theorem lenB_pos {B : Nat} (hB : 2 ≤ B) {x : Nat} (h : x ≠ 0) : 0 < lenB B x := ((dgs_len hB x).2 h).1
theorem lenB_eq_zero {B : Nat} (hB : 2 ≤ B) {x : Nat} : lenB B x = 0 ↔ x = 0 := ⟨fun h => by
  rcases Nat.eq_zero_or_pos x with h0 | h0
  · exact h0
  · have := lenB_pos hB (x := x) (by omega); omega, fun h => by subst h; exact lenB_zero B⟩
theorem lenB_ge {B : Nat} (hB : 2 ≤ B) {x n : Nat} (h : B ^ n ≤ x) : n < lenB B x := by
  rcases Nat.lt_or_ge n (lenB B x) with h1 | h1
  · exact h1
  · have h2 := lenB_lt hB x
    have h3 : B ^ lenB B x ≤ B ^ n := Nat.pow_le_pow_right (by omega) h1
    omega
abbrev L32 (n : Nat) : Nat := lenB 4294967296 n
abbrev L64 (n : Nat) : Nat := lenB 18446744073709551616 n
theorem pow32 (n : Nat) : (4294967296 : Nat) ^ n = 2 ^ (32 * n) := by rw [Nat.pow_mul]
theorem pow64 (n : Nat) : (18446744073709551616 : Nat) ^ n = 2 ^ (64 * n) := by rw [Nat.pow_mul]
theorem L32_le {x n : Nat} (h : x < 2 ^ (32 * n)) : L32 x ≤ n := lenB_le (by decide) (by rw [pow32]; exact h)
theorem L32_lt (x : Nat) : x < 2 ^ (32 * L32 x) := by rw [← pow32]; exact lenB_lt (by decide) x
theorem L64_le {x n : Nat} (h : x < 2 ^ (64 * n)) : L64 x ≤ n := lenB_le (by decide) (by rw [pow64]; exact h)
theorem L64_lt (x : Nat) : x < 2 ^ (64 * L64 x) := by rw [← pow64]; exact lenB_lt (by decide) x
theorem L32_shl (x n : Nat) : L32 (x * 2 ^ n) ≤ L32 x + n / 32 + 1 := by
  refine L32_le ?_
  have h := L32_lt x
  have h2 : x * 2 ^ n < 2 ^ (32 * L32 x) * 2 ^ n := Nat.mul_lt_mul_of_pos_right h (Nat.pow_pos (by decide))
  rw [← Nat.pow_add] at h2
  exact Nat.lt_of_lt_of_le h2 (Nat.pow_le_pow_right (by decide) (by omega))
theorem d64_ok (n : Nat) : okD 18446744073709551616 (d64 n) ∧ vl 18446744073709551616 (d64 n) = n := ⟨(dgs_ok (B := 18446744073709551616) (by decide) n).1, (dgs_ok (B := 18446744073709551616) (by decide) n).2.1⟩
end Go.Proofs.YtbeocnjlepcglaaGreatDoor.Sim
namespace Go.Proofs.YtbeocnjlepcglaaGreatDoor.Sim
open Go.RowKit
set_option linter.unusedVariables false
set_option linter.unusedSimpArgs false
set_option maxRecDepth 10000
set_option maxHeartbeats 2000000
theorem trim_take : ∀ (a : List Int) (m : Nat), m ≤ a.length → (∀ j, m ≤ j → a.getD j 0 = 0) → (m = 0 ∨ a.getD (m - 1) 0 ≠ 0) → trim a = a.take m
  | [], m, _, _, _ => by simp [trim]
  | x :: l, 0, h1, h2, h3 => by
    have := trim_take l 0 (Nat.zero_le _) (fun j _ => by simpa using h2 (j + 1) (Nat.zero_le _)) (.inl rfl)
    have hx : x = 0 := by simpa using h2 0 (Nat.le_refl _)
    simp [trim, this, hx]
  | x :: l, 1, h1, h2, h3 => by
    have := trim_take l 0 (Nat.zero_le _) (fun j _ => by simpa using h2 (j + 1) (by omega)) (.inl rfl)
    have hx : x ≠ 0 := by simpa using h3
    simp [trim, this, hx]
  | x :: l, m + 2, h1, h2, h3 => by
    have := trim_take l (m + 1) (by simpa using h1) (fun j hj => by simpa using h2 (j + 1) (by omega)) (.inr (by simpa using h3))
    cases l with
    | nil => simp at h1
    | cons y l =>
      have e : trim (x :: y :: l) = (match trim (y :: l) with | [] => if x = 0 then [] else [x] | l => x :: l) := rfl
      rw [e, this]; rfl
theorem copied (a : List Int) (m : Nat) (h : m ≤ a.length) : List.take 0 (List.replicate (m : Int).toNat (0 : Int)) ++ List.take (m : Int).toNat (List.take (m : Int).toNat a) ++ List.drop (0 + min (m : Int).toNat (List.take (m : Int).toNat a).length) (List.replicate (m : Int).toNat 0) = a.take m := by
  have : min m (min m a.length) = m := by omega
  simp [this, List.take_take]
/-- A natural, as gnomonref01 holds it. -/
def D (n : Nat) : PV := .ws .u32 (d32 n)
theorem iv_eq {k : IntKind} {a b : Int} (h : a = b) : PV.val (.int k a) = .val (.int k b) := by rw [h]
variable {G : List (Nat × List Value)}
theorem m_norm (a : List Int) (h : a.length ≤ 1099511627776) : PM Tryz.prog G 131 [.ws .u32 a] [] (Own 132 .u32 (trim a)) := by
  refine PM.intro (X := XX) tok Tryz.func131 rfl Tryz.ntmps131 (by rw [Tryz.results131]) (by kernel_rfl) rfl ?_; intro F hG hO; simp only [List.length_cons, List.length_nil, Nat.zero_add, Nat.reduceAdd] at hO
  repeat' ((try (conv => whnf)); first
  | ((with_reducible refine lg ?_); refine loop_g (A := Nat) (fun m => m ≤ a.length ∧ ∀ j : Nat, m ≤ j → rd a j = 0) id (fun m => [(0, .ws .u32 a), (3, .val (.int .i64 (m : Int)))]) (fun _ => []) (fun _ => []) a.length tok (fun _ => ⟨⟨trivial, trivial, trivial⟩, trivial, by simp only [List.length_nil]; omega⟩) ?_ ⟨rfl, rfl, trivial⟩ ⟨[], rfl⟩ ⟨[], rfl⟩ ?_; rotate_left; rintro m ⟨h1, h2⟩)
  
  | (with_reducible refine Chk.mk' (by first | omega | exact trivial | (simp only [List.length_append, List.length_set, List.length_replicate, List.length_take, List.length_drop, List.length_cons, List.length_nil, List.length_map]; omega)) ?_)
  | (with_reducible refine wrap_g (by dsimp only [inR]; omega) ?_)
  | (with_reducible refine idx_g (by omega) ?_)
  | (with_reducible refine idx_l _ rfl (by decide) ?_)
  | (with_reducible refine BothG.mk ?_ ?_)
  | (with_reducible refine fork_tt ?_) | (with_reducible refine fork_ff ?_)
  | (with_reducible refine fork_e (c := true) (by decide) ?_; with_reducible refine fork_tt ?_) | (with_reducible refine fork_e (c := false) (by decide) ?_; with_reducible refine fork_ff ?_)
  | (with_reducible refine fork_t (by omega) ?_) | (with_reducible refine fork_f (by omega) ?_)
  | (with_reducible refine fork_d ?_ ?_ <;> intro hc)
  | (with_reducible refine fork_n ?_)
  | (with_reducible refine fork_b ?_ ?_ <;> intro hc)
  | (with_reducible refine SlcG.mk (by omega) ?_)
  | (with_reducible refine MakG.mk (by dsimp only; omega) ?_)
  | (with_reducible refine AppG.mk (by first | omega | (simp only [List.length_append, List.length_set, List.length_replicate, List.length_take, List.length_drop, List.length_cons, List.length_nil, List.length_map]; omega)) (by dsimp only [List.length_cons, List.length_nil]; omega) (by omega) ?_)
  | (with_reducible refine div_g (by omega) (by omega) (by dsimp only [inR]; omega) ?_)
  | (with_reducible refine mod_g (by omega) (by omega) ?_)
  | (with_reducible refine mask_g (m := 4294967296) 32 rfl rfl (by decide) (by omega) ?_)
  | (with_reducible refine shr_g (m := 4294967296) 32 rfl (by decide) (by omega) rfl ?_)
  | (with_reducible refine fz_all (by omega) ?_)
  | (with_reducible refine Stuck.h (A := RetE _ _) ?_) | (with_reducible refine Stuck.h (A := RetM _ _ _ _) ?_) | (with_reducible refine Stuck.h (A := Again _ _ _ _ _ _ _ _) ?_) | (with_reducible refine Stuck.h (A := CallF _ _ _ _ _ _ _) ?_) | (with_reducible refine Stuck.h (A := LoopG _ _ _ _ _ _ _ _) ?_) | (with_reducible refine Stuck.h (A := DrawG _ _ _ _ _ _ _ _) ?_)
  | (with_reducible refine Stuck.h (A := WrapG _ _ _) ?_) | (with_reducible refine Stuck.h (A := DivG _ _ _ _) ?_) | (with_reducible refine Stuck.h (A := ModG _ _ _) ?_) | (with_reducible refine Stuck.h (A := ShlG _ _ _ _) ?_) | (with_reducible refine Stuck.h (A := ShrG _ _ _ _) ?_) | (with_reducible refine Stuck.h (A := BitG _ _ _ _ _) ?_)
  | (with_reducible refine Stuck.h (A := IdxG _ _ _) ?_) | (with_reducible refine Stuck.h (A := IdxL _ _ _) ?_) | (with_reducible refine Stuck.h (A := SlcG _ _ _ _ _) ?_) | (with_reducible refine Stuck.h (A := MakG _ _ _ _) ?_) | (with_reducible refine Stuck.h (A := AppG _ _ _ _ _ _ _) ?_) | (with_reducible refine Stuck.h (A := FzG _ _ _ _) ?_)
  | (with_reducible refine Stuck.h (A := RawG _) ?_) | (with_reducible refine Stuck.h (A := TabG _ _ _ _ _) ?_) | (with_reducible refine Stuck.h (A := ExtF _ _ _ _) ?_) | (with_reducible refine Stuck.h (A := Chk _ _) ?_) | (with_reducible refine Stuck.h (A := False) ?_))
  · exact ⟨again (m - 1) ⟨by omega, fun j hj => by
      rcases Nat.lt_or_ge j m with hjm | hjm
      · rw [show (j : Int) = m - 1 by omega]; assumption
      · exact h2 j hjm⟩ (by simp only [id]; omega) ⟨rfl, iv_eq (by omega), trivial⟩ ⟨[], rfl⟩ ⟨[], rfl⟩⟩
  · have e : trim a = a.take m := trim_take a m h1 (fun j hj => by simpa [rd] using h2 j hj) (.inr (by
      have : ((m : Int) - 1).toNat = m - 1 := by omega
      simpa [rd, this] using hc))
    rw [e]
    exact ⟨ret_own (by simp; omega) (by rw [← copied a m h1]; rfl)⟩
  · have e : trim a = a.take m := trim_take a m h1 (fun j hj => by simpa [rd] using h2 j hj) (.inl (by omega))
    rw [e]
    exact ⟨ret_own (by simp; omega) (by rw [← copied a m h1]; rfl)⟩
  · exact ⟨Nat.le_refl _, fun j hj => by simp [rd, List.getD_eq_getElem?_getD, hj]⟩
theorem r_norm (a : List Int) (h : a.length ≤ 1099511627776) : FC Tryz.prog G 131 [.ws .u32 a] (· = .ws .u32 (trim a)) := Own.fc (m_norm a h)
theorem r_normD (a : List Int) (h : a.length ≤ 1099511627776) (ok : okD 4294967296 a) : FC Tryz.prog G 131 [.ws .u32 a] (· = D (vl 4294967296 a).toNat) :=
  (r_norm a h).mono fun r hr => by rw [hr, D, d32, trim_dgs (B := 4294967296) (by decide) ok]; rfl
end Go.Proofs.YtbeocnjlepcglaaGreatDoor.Sim
namespace Go.Proofs.YtbeocnjlepcglaaGreatDoor.Sim
open Go.RowKit
set_option linter.unusedVariables false
set_option linter.unusedSimpArgs false
set_option maxRecDepth 10000
set_option maxHeartbeats 4000000
variable {G : List (Nat × List Value)}
theorem r_word (w : Int) (h : 0 ≤ w ∧ w < 18446744073709551616) : FC Tryz.prog G 93 [.val (.int .u64 w)] (· = D w.toNat) := by
  refine FC.intro (X := XX) tok Tryz.func93 rfl Tryz.ntmps93 (by rw [Tryz.results93]) (by kernel_rfl) rfl ?_; intro F hG hO
  repeat' ((try (conv => whnf)); first
  | ((with_reducible refine cg ?_); refine call_eq (r_normD [w % 4294967296, w / 4294967296] (by simp) (okD_cons.2 ⟨by omega, okD_cons.2 ⟨by omega, okD_nil _⟩⟩)) (LpL.refl _) rfl ?_)
  
  | (with_reducible refine Chk.mk' (by first | omega | exact trivial | (simp only [List.length_append, List.length_set, List.length_replicate, List.length_take, List.length_drop, List.length_cons, List.length_nil, List.length_map]; omega)) ?_)
  | (with_reducible refine wrap_g (by dsimp only [inR]; omega) ?_)
  | (with_reducible refine idx_g (by omega) ?_)
  | (with_reducible refine idx_l _ rfl (by decide) ?_)
  | (with_reducible refine BothG.mk ?_ ?_)
  | (with_reducible refine fork_tt ?_) | (with_reducible refine fork_ff ?_)
  | (with_reducible refine fork_e (c := true) (by decide) ?_; with_reducible refine fork_tt ?_) | (with_reducible refine fork_e (c := false) (by decide) ?_; with_reducible refine fork_ff ?_)
  | (with_reducible refine fork_t (by omega) ?_) | (with_reducible refine fork_f (by omega) ?_)
  | (with_reducible refine fork_d ?_ ?_ <;> intro hc)
  | (with_reducible refine fork_n ?_)
  | (with_reducible refine fork_b ?_ ?_ <;> intro hc)
  | (with_reducible refine SlcG.mk (by omega) ?_)
  | (with_reducible refine MakG.mk (by dsimp only; omega) ?_)
  | (with_reducible refine AppG.mk (by first | omega | (simp only [List.length_append, List.length_set, List.length_replicate, List.length_take, List.length_drop, List.length_cons, List.length_nil, List.length_map]; omega)) (by dsimp only [List.length_cons, List.length_nil]; omega) (by omega) ?_)
  | (with_reducible refine div_g (by omega) (by omega) (by dsimp only [inR]; omega) ?_)
  | (with_reducible refine mod_g (by omega) (by omega) ?_)
  | (with_reducible refine mask_g (m := 4294967296) 32 rfl rfl (by decide) (by omega) ?_)
  | (with_reducible refine shr_g (m := 4294967296) 32 rfl (by decide) (by omega) rfl ?_)
  | (with_reducible refine fz_all (by omega) ?_)
  | (with_reducible refine Stuck.h (A := RetE _ _) ?_) | (with_reducible refine Stuck.h (A := RetM _ _ _ _) ?_) | (with_reducible refine Stuck.h (A := Again _ _ _ _ _ _ _ _) ?_) | (with_reducible refine Stuck.h (A := CallF _ _ _ _ _ _ _) ?_) | (with_reducible refine Stuck.h (A := LoopG _ _ _ _ _ _ _ _) ?_) | (with_reducible refine Stuck.h (A := DrawG _ _ _ _ _ _ _ _) ?_)
  | (with_reducible refine Stuck.h (A := WrapG _ _ _) ?_) | (with_reducible refine Stuck.h (A := DivG _ _ _ _) ?_) | (with_reducible refine Stuck.h (A := ModG _ _ _) ?_) | (with_reducible refine Stuck.h (A := ShlG _ _ _ _) ?_) | (with_reducible refine Stuck.h (A := ShrG _ _ _ _) ?_) | (with_reducible refine Stuck.h (A := BitG _ _ _ _ _) ?_)
  | (with_reducible refine Stuck.h (A := IdxG _ _ _) ?_) | (with_reducible refine Stuck.h (A := IdxL _ _ _) ?_) | (with_reducible refine Stuck.h (A := SlcG _ _ _ _ _) ?_) | (with_reducible refine Stuck.h (A := MakG _ _ _ _) ?_) | (with_reducible refine Stuck.h (A := AppG _ _ _ _ _ _ _) ?_) | (with_reducible refine Stuck.h (A := FzG _ _ _ _) ?_)
  | (with_reducible refine Stuck.h (A := RawG _) ?_) | (with_reducible refine Stuck.h (A := TabG _ _ _ _ _) ?_) | (with_reducible refine Stuck.h (A := ExtF _ _ _ _) ?_) | (with_reducible refine Stuck.h (A := Chk _ _) ?_) | (with_reducible refine Stuck.h (A := False) ?_))
  refine ⟨ret_e ?_⟩
  show D _ = D _
  congr 2
  simp only [vl]; omega
theorem add_round {a b s : List Int} {i : Nat} {c T : Int} (h2 : 0 ≤ c) (h3 : c ≤ 1) (h5 : s.length = i) (h6 : okD 4294967296 s) (h7 : vl 4294967296 s + 4294967296 ^ i * c = vl 4294967296 (a.take i) + vl 4294967296 (b.take i)) (ra : 0 ≤ rd a i ∧ rd a i < 4294967296) (rb : 0 ≤ rd b i ∧ rd b i < 4294967296)
    (hT : T = c + rd a i + rd b i) : 0 ≤ T / 4294967296 ∧ T / 4294967296 ≤ 1 ∧ (s ++ [T % 4294967296]).length = i + 1 ∧ okD 4294967296 (s ++ [T % 4294967296]) ∧
      vl 4294967296 (s ++ [T % 4294967296]) + 4294967296 ^ (i + 1) * (T / 4294967296) = vl 4294967296 (a.take (i + 1)) + vl 4294967296 (b.take (i + 1)) := by
  refine ⟨by omega, by omega, by simp [h5], okD_append.2 ⟨h6, okD_cons.2 ⟨by omega, okD_nil _⟩⟩, ?_⟩
  rw [vl_snoc, h5, sum_step (T := T) i (by omega), vl_take_step, vl_take_step, hT, Int.mul_add, Int.mul_add]
  omega
theorem r_add (X Y : Nat) (hX : L32 X ≤ 1073741824) (hY : L32 Y ≤ 1073741824) : FC Tryz.prog G 92 [D X, D Y] (· = D (X + Y)) := by
  obtain ⟨a, ea⟩ : ∃ a, a = d32 X := ⟨_, rfl⟩
  obtain ⟨b, eb⟩ : ∃ b, b = d32 Y := ⟨_, rfl⟩
  obtain ⟨oka, va⟩ := d32_ok X
  obtain ⟨okb, vb⟩ := d32_ok Y
  replace hX : (d32 X).length ≤ 1073741824 := hX
  replace hY : (d32 Y).length ≤ 1073741824 := hY
  unfold D
  rw [← ea] at hX oka va
  rw [← eb] at hY okb vb
  rw [← ea, ← eb]
  refine FC.intro (X := XX) tok Tryz.func92 rfl Tryz.ntmps92 (by rw [Tryz.results92]) (by kernel_rfl) rfl ?_; intro F hG hO
  repeat' ((try (conv => whnf)); first
  | ((with_reducible refine lg ?_); refine loop_g (A := Nat × List Int × Int) (fun (i, s, c) => i ≤ max a.length b.length + 1 ∧ 0 ≤ c ∧ c ≤ 1 ∧ (i = max a.length b.length + 1 → c = 0) ∧ s.length = i ∧ okD 4294967296 s ∧ vl 4294967296 s + 4294967296 ^ i * c = vl 4294967296 (a.take i) + vl 4294967296 (b.take i)) (fun (i, s, c) => max a.length b.length + 2 - i) (fun (i, s, c) => [(0, .ws .u32 a), (1, .ws .u32 b), (5, .arr 0 0 i), (6, .val (.int .u64 c)), (7, .val (.int .i64 (i : Int)))]) (fun _ => []) (fun (i, s, c) => [some ⟨1, 132, .w .u32 s⟩]) (0, [], 0) tok (fun (i, s, c) => ⟨⟨trivial, trivial, Nat.one_pos, trivial, trivial, trivial⟩, trivial, by simp only [List.length_cons]; omega⟩) ?_ ⟨rfl, rfl, rfl, rfl, rfl, trivial⟩ ⟨[], rfl⟩ ⟨[], rfl⟩ ?_; rotate_left; rintro ⟨i, s, c⟩ ⟨h1, h2, h3, h4, h5, h6, h7⟩; have ra := rd_bd (by decide) oka (i : Int); have rb := rd_bd (by decide) okb (i : Int))
  | ((with_reducible refine cg ?_); refine call_fz 0 (B := s) rfl rfl (by omega) (by rw [List.drop_zero, ← h5, List.take_length]) (by omega) ?_; refine call_eq (r_normD s (by omega) h6) (LpL.refl _) rfl ?_)
  
  | (with_reducible refine Chk.mk' (by first | omega | exact trivial | (simp only [List.length_append, List.length_set, List.length_replicate, List.length_take, List.length_drop, List.length_cons, List.length_nil, List.length_map]; omega)) ?_)
  | (with_reducible refine wrap_g (by dsimp only [inR]; omega) ?_)
  | (with_reducible refine idx_g (by omega) ?_)
  | (with_reducible refine idx_l _ rfl (by decide) ?_)
  | (with_reducible refine BothG.mk ?_ ?_)
  | (with_reducible refine fork_tt ?_) | (with_reducible refine fork_ff ?_)
  | (with_reducible refine fork_e (c := true) (by decide) ?_; with_reducible refine fork_tt ?_) | (with_reducible refine fork_e (c := false) (by decide) ?_; with_reducible refine fork_ff ?_)
  | (with_reducible refine fork_t (by omega) ?_) | (with_reducible refine fork_f (by omega) ?_)
  | (with_reducible refine fork_d ?_ ?_ <;> intro hc)
  | (with_reducible refine fork_n ?_)
  | (with_reducible refine fork_b ?_ ?_ <;> intro hc)
  | (with_reducible refine SlcG.mk (by omega) ?_)
  | (with_reducible refine MakG.mk (by dsimp only; omega) ?_)
  | (with_reducible refine AppG.mk (by first | omega | (simp only [List.length_append, List.length_set, List.length_replicate, List.length_take, List.length_drop, List.length_cons, List.length_nil, List.length_map]; omega)) (by dsimp only [List.length_cons, List.length_nil]; omega) (by omega) ?_)
  | (with_reducible refine div_g (by omega) (by omega) (by dsimp only [inR]; omega) ?_)
  | (with_reducible refine mod_g (by omega) (by omega) ?_)
  | (with_reducible refine mask_g (m := 4294967296) 32 rfl rfl (by decide) (by omega) ?_)
  | (with_reducible refine shr_g (m := 4294967296) 32 rfl (by decide) (by omega) rfl ?_)
  | (with_reducible refine fz_all (by omega) ?_)
  | (with_reducible refine Stuck.h (A := RetE _ _) ?_) | (with_reducible refine Stuck.h (A := RetM _ _ _ _) ?_) | (with_reducible refine Stuck.h (A := Again _ _ _ _ _ _ _ _) ?_) | (with_reducible refine Stuck.h (A := CallF _ _ _ _ _ _ _) ?_) | (with_reducible refine Stuck.h (A := LoopG _ _ _ _ _ _ _ _) ?_) | (with_reducible refine Stuck.h (A := DrawG _ _ _ _ _ _ _ _) ?_)
  | (with_reducible refine Stuck.h (A := WrapG _ _ _) ?_) | (with_reducible refine Stuck.h (A := DivG _ _ _ _) ?_) | (with_reducible refine Stuck.h (A := ModG _ _ _) ?_) | (with_reducible refine Stuck.h (A := ShlG _ _ _ _) ?_) | (with_reducible refine Stuck.h (A := ShrG _ _ _ _) ?_) | (with_reducible refine Stuck.h (A := BitG _ _ _ _ _) ?_)
  | (with_reducible refine Stuck.h (A := IdxG _ _ _) ?_) | (with_reducible refine Stuck.h (A := IdxL _ _ _) ?_) | (with_reducible refine Stuck.h (A := SlcG _ _ _ _ _) ?_) | (with_reducible refine Stuck.h (A := MakG _ _ _ _) ?_) | (with_reducible refine Stuck.h (A := AppG _ _ _ _ _ _ _) ?_) | (with_reducible refine Stuck.h (A := FzG _ _ _ _) ?_)
  | (with_reducible refine Stuck.h (A := RawG _) ?_) | (with_reducible refine Stuck.h (A := TabG _ _ _ _ _) ?_) | (with_reducible refine Stuck.h (A := ExtF _ _ _ _) ?_) | (with_reducible refine Stuck.h (A := Chk _ _) ?_) | (with_reducible refine Stuck.h (A := False) ?_))
  · obtain ⟨g1, g2, g3, g4, g5⟩ := add_round (T := c + rd a i + rd b i) h2 h3 h5 h6 h7 ra rb rfl
    exact ⟨again (i + 1, _, _) ⟨by omega, g1, g2, by omega, g3, g4, g5⟩ (by dsimp only; omega) ⟨rfl, rfl, rfl, rfl, rfl, trivial⟩ ⟨[], rfl⟩ ⟨[], rfl⟩⟩
  · obtain ⟨g1, g2, g3, g4, g5⟩ := add_round (T := c + rd a i) h2 h3 h5 h6 h7 ra rb (by rw [rd_out b i (by omega)]; omega)
    exact ⟨again (i + 1, _, _) ⟨by omega, g1, g2, by omega, g3, g4, g5⟩ (by dsimp only; omega) ⟨rfl, rfl, rfl, rfl, rfl, trivial⟩ ⟨[], rfl⟩ ⟨[], rfl⟩⟩
  · obtain ⟨g1, g2, g3, g4, g5⟩ := add_round (T := c + rd b i) h2 h3 h5 h6 h7 ra rb (by rw [rd_out a i (by omega)]; omega)
    exact ⟨again (i + 1, _, _) ⟨by omega, g1, g2, by omega, g3, g4, g5⟩ (by dsimp only; omega) ⟨rfl, rfl, rfl, rfl, rfl, trivial⟩ ⟨[], rfl⟩ ⟨[], rfl⟩⟩
  · obtain ⟨g1, g2, g3, g4, g5⟩ := add_round (T := c) h2 h3 h5 h6 h7 ra rb (by rw [rd_out a i (by omega), rd_out b i (by omega)]; omega)
    exact ⟨again (i + 1, _, _) ⟨by omega, g1, g2, by omega, g3, g4, g5⟩ (by dsimp only; omega) ⟨rfl, rfl, rfl, rfl, rfl, trivial⟩ ⟨[], rfl⟩ ⟨[], rfl⟩⟩
  · refine ⟨ret_e ?_⟩
    show D _ = D (X + Y)
    have hc0 : c = 0 := by omega
    rw [hc0, List.take_of_length_le (by omega), List.take_of_length_le (by omega), va, vb] at h7
    congr 1
    simp at h7
    omega
  · exact ⟨by omega, by omega, by omega, fun _ => rfl, rfl, okD_nil _, by simp [vl]⟩
end Go.Proofs.YtbeocnjlepcglaaGreatDoor.Sim
namespace Go.Proofs.YtbeocnjlepcglaaGreatDoor.Sim
open Go.RowKit
set_option linter.unusedVariables false
set_option linter.unusedSimpArgs false
set_option maxRecDepth 10000
set_option maxHeartbeats 4000000
variable {G : List (Nat × List Value)}
def cmpN (X Y : Nat) : Int := if X < Y then -1 else if X = Y then 0 else 1
theorem r_cmp (X Y : Nat) (hX : L32 X ≤ 1073741824) (hY : L32 Y ≤ 1073741824) : FC Tryz.prog G 153 [D X, D Y] (· = .val (.int .i64 (cmpN X Y))) := by
  obtain ⟨a, ea⟩ : ∃ a, a = d32 X := ⟨_, rfl⟩
  obtain ⟨b, eb⟩ : ∃ b, b = d32 Y := ⟨_, rfl⟩
  obtain ⟨oka, va⟩ := d32_ok X
  obtain ⟨okb, vb⟩ := d32_ok Y
  replace hX : (d32 X).length ≤ 1073741824 := hX
  replace hY : (d32 Y).length ≤ 1073741824 := hY
  have hlt : a.length < b.length → X < Y := fun h => dgs_lt (B := 4294967296) (by decide) (by rw [ea, eb] at h; exact h)
  have hgt : b.length < a.length → Y < X := fun h => dgs_lt (B := 4294967296) (by decide) (by rw [ea, eb] at h; exact h)
  unfold D
  rw [← ea] at hX oka va
  rw [← eb] at hY okb vb
  rw [← ea, ← eb]
  refine FC.intro (X := XX) tok Tryz.func153 rfl Tryz.ntmps153 (by rw [Tryz.results153]) (by kernel_rfl) rfl ?_; intro F hG hO
  repeat' ((try (conv => whnf)); first
  | ((with_reducible refine lg ?_); refine loop_g (A := Nat) (fun m => m ≤ a.length ∧ a.drop m = b.drop m) (fun m => m) (fun m => [(0, .ws .u32 a), (1, .ws .u32 b), (5, .val (.int .i64 ((m : Int) - 1)))]) (fun _ => []) (fun _ => []) a.length tok (fun _ => ⟨⟨trivial, trivial, trivial, trivial⟩, trivial, by simp only [List.length_nil]; omega⟩) ?_ ⟨rfl, rfl, rfl, trivial⟩ ⟨[], rfl⟩ ⟨[], rfl⟩ ?_; rotate_left; rintro m ⟨h1, h2⟩)
  
  | (with_reducible refine draw_g (id := 8) [[0, 1, 2, 3, 4, 5, 6, 7, 8]] tok mixed (by kernel_rfl) ?_)
  | (with_reducible refine draw_g (id := 10) [[0, 1, 2, 3, 4, 5, 6, 7, 8]] tok mixed (by kernel_rfl) ?_)
  | (with_reducible refine Chk.mk' (by first | omega | exact trivial | (simp only [List.length_append, List.length_set, List.length_replicate, List.length_take, List.length_drop, List.length_cons, List.length_nil, List.length_map]; omega)) ?_)
  | (with_reducible refine wrap_g (by dsimp only [inR]; omega) ?_)
  | (with_reducible refine idx_g (by omega) ?_)
  | (with_reducible refine idx_l _ rfl (by decide) ?_)
  | (with_reducible refine BothG.mk ?_ ?_)
  | (with_reducible refine fork_tt ?_) | (with_reducible refine fork_ff ?_)
  | (with_reducible refine fork_e (c := true) (by decide) ?_; with_reducible refine fork_tt ?_) | (with_reducible refine fork_e (c := false) (by decide) ?_; with_reducible refine fork_ff ?_)
  | (with_reducible refine fork_t (by omega) ?_) | (with_reducible refine fork_f (by omega) ?_)
  | (with_reducible refine fork_d ?_ ?_ <;> intro hc)
  | (with_reducible refine fork_n ?_)
  | (with_reducible refine fork_b ?_ ?_ <;> intro hc)
  | (with_reducible refine SlcG.mk (by omega) ?_)
  | (with_reducible refine MakG.mk (by dsimp only; omega) ?_)
  | (with_reducible refine AppG.mk (by first | omega | (simp only [List.length_append, List.length_set, List.length_replicate, List.length_take, List.length_drop, List.length_cons, List.length_nil, List.length_map]; omega)) (by dsimp only [List.length_cons, List.length_nil]; omega) (by omega) ?_)
  | (with_reducible refine div_g (by omega) (by omega) (by dsimp only [inR]; omega) ?_)
  | (with_reducible refine mod_g (by omega) (by omega) ?_)
  | (with_reducible refine mask_g (m := 4294967296) 32 rfl rfl (by decide) (by omega) ?_)
  | (with_reducible refine shr_g (m := 4294967296) 32 rfl (by decide) (by omega) rfl ?_)
  | (with_reducible refine fz_all (by omega) ?_)
  | (with_reducible refine Stuck.h (A := RetE _ _) ?_) | (with_reducible refine Stuck.h (A := RetM _ _ _ _) ?_) | (with_reducible refine Stuck.h (A := Again _ _ _ _ _ _ _ _) ?_) | (with_reducible refine Stuck.h (A := CallF _ _ _ _ _ _ _) ?_) | (with_reducible refine Stuck.h (A := LoopG _ _ _ _ _ _ _ _) ?_) | (with_reducible refine Stuck.h (A := DrawG _ _ _ _ _ _ _ _) ?_)
  | (with_reducible refine Stuck.h (A := WrapG _ _ _) ?_) | (with_reducible refine Stuck.h (A := DivG _ _ _ _) ?_) | (with_reducible refine Stuck.h (A := ModG _ _ _) ?_) | (with_reducible refine Stuck.h (A := ShlG _ _ _ _) ?_) | (with_reducible refine Stuck.h (A := ShrG _ _ _ _) ?_) | (with_reducible refine Stuck.h (A := BitG _ _ _ _ _) ?_)
  | (with_reducible refine Stuck.h (A := IdxG _ _ _) ?_) | (with_reducible refine Stuck.h (A := IdxL _ _ _) ?_) | (with_reducible refine Stuck.h (A := SlcG _ _ _ _ _) ?_) | (with_reducible refine Stuck.h (A := MakG _ _ _ _) ?_) | (with_reducible refine Stuck.h (A := AppG _ _ _ _ _ _ _) ?_) | (with_reducible refine Stuck.h (A := FzG _ _ _ _) ?_)
  | (with_reducible refine Stuck.h (A := RawG _) ?_) | (with_reducible refine Stuck.h (A := TabG _ _ _ _ _) ?_) | (with_reducible refine Stuck.h (A := ExtF _ _ _ _) ?_) | (with_reducible refine Stuck.h (A := Chk _ _) ?_) | (with_reducible refine Stuck.h (A := False) ?_))
  · have h := hlt (by omega)
    exact ⟨ret_e (by rw [cmpN, if_pos h])⟩
  · have h := hgt (by omega)
    exact ⟨ret_e (by rw [cmpN, if_neg (by omega), if_neg (by omega)])⟩
  · have hi : ((m - 1 : Nat) : Int) = (m : Int) - 1 := by omega
    have h := vl_lt_of (by decide) oka okb (by omega) (m - 1) (by omega) (by rw [show m - 1 + 1 = m by omega]; exact h2) (by rw [hi]; assumption)
    exact ⟨ret_e (by rw [cmpN, if_pos (by omega)])⟩
  · have hi : ((m - 1 : Nat) : Int) = (m : Int) - 1 := by omega
    have h := vl_lt_of (by decide) okb oka (by omega) (m - 1) (by omega) (by rw [show m - 1 + 1 = m by omega]; exact h2.symm) (by rw [hi]; assumption)
    exact ⟨ret_e (by rw [cmpN, if_neg (by omega), if_neg (by omega)])⟩
  · have hi : ((m - 1 : Nat) : Int) = (m : Int) - 1 := by omega
    have hdr : a.drop (m - 1) = b.drop (m - 1) := by
      rw [drop_rd a (m - 1) (by omega), drop_rd b (m - 1) (by omega), show m - 1 + 1 = m by omega, h2, hi]
      congr 1; omega
    exact ⟨again (m - 1) ⟨by omega, hdr⟩ (by omega) ⟨rfl, rfl, iv_eq (by omega), trivial⟩ ⟨[], rfl⟩ ⟨[], rfl⟩⟩
  · have hm : m = 0 := by omega
    subst hm
    have hab : a = b := by simpa using h2
    have hXY : X = Y := by rw [hab] at va; omega
    exact ⟨ret_e (by rw [cmpN, if_neg (by omega), if_pos hXY])⟩
  · exact ⟨Nat.le_refl _, by rw [List.drop_length, List.drop_eq_nil_of_le (by omega)]⟩
theorem sub_round {a b s : List Int} {i : Nat} {c d e : Int} (h5 : s.length = i) (h6 : okD 4294967296 s) (h7 : vl 4294967296 s - 4294967296 ^ i * c = vl 4294967296 (a.take i) - vl 4294967296 (b.take i)) (hd : 0 ≤ d ∧ d < 4294967296) (hT : d - 4294967296 * e = rd a i - c - rd b i) :
    (s ++ [d]).length = i + 1 ∧ okD 4294967296 (s ++ [d]) ∧ vl 4294967296 (s ++ [d]) - 4294967296 ^ (i + 1) * e = vl 4294967296 (a.take (i + 1)) - vl 4294967296 (b.take (i + 1)) := by
  refine ⟨by simp [h5], okD_append.2 ⟨h6, okD_cons.2 ⟨hd, okD_nil _⟩⟩, ?_⟩
  have h := sum_step (B := 4294967296) (vs := vl 4294967296 s) (d := d) (c2 := -e) (T := rd a i - c - rd b i) i (by omega)
  rw [Int.mul_neg, Int.mul_sub, Int.mul_sub] at h
  rw [vl_snoc, h5, vl_take_step, vl_take_step]
  omega
theorem r_sub (X Y : Nat) (hX : L32 X ≤ 1073741824) (hY : L32 Y ≤ 1073741824) : FC Tryz.prog G 154 [D X, D Y] (· = D (X - Y)) := by
  have hcmp := r_cmp (G := G) X Y hX hY
  have hw0 := r_word (G := G) 0 (by decide)
  obtain ⟨a, ea⟩ : ∃ a, a = d32 X := ⟨_, rfl⟩
  obtain ⟨b, eb⟩ : ∃ b, b = d32 Y := ⟨_, rfl⟩
  obtain ⟨oka, va⟩ := d32_ok X
  obtain ⟨okb, vb⟩ := d32_ok Y
  replace hX : (d32 X).length ≤ 1073741824 := hX
  replace hY : (d32 Y).length ≤ 1073741824 := hY
  have hlt : a.length < b.length → X < Y := fun h => dgs_lt (B := 4294967296) (by decide) (by rw [ea, eb] at h; exact h)
  unfold D at hcmp ⊢
  rw [← ea] at hX oka va
  rw [← eb] at hY okb vb
  rw [← ea, ← eb] at hcmp ⊢
  refine FC.intro (X := XX) tok Tryz.func154 rfl Tryz.ntmps154 (by rw [Tryz.results154]) (by kernel_rfl) rfl ?_; intro F hG hO
  rw [← hG] at hcmp hw0
  repeat' ((try (conv => whnf)); first
  | ((with_reducible refine cg ?_); refine call_eq hcmp (LpL.refl _) rfl ?_)
  | ((with_reducible refine cg ?_); refine call_eq hw0 (LpL.refl _) rfl ?_)
  | ((with_reducible refine cg ?_); refine call_fz 0 (B := s) rfl rfl (by omega) (by rw [List.drop_zero, ← h5, List.take_length]) (by omega) ?_; refine call_eq (r_normD s (by omega) h6) (LpL.refl _) rfl ?_)
  | ((with_reducible refine lg ?_); refine loop_g (A := Nat × List Int × Int) (fun (i, s, c) => i ≤ a.length ∧ 0 ≤ c ∧ c ≤ 1 ∧ s.length = i ∧ okD 4294967296 s ∧ vl 4294967296 s - 4294967296 ^ i * c = vl 4294967296 (a.take i) - vl 4294967296 (b.take i)) (fun (i, s, c) => a.length - i) (fun (i, s, c) => [(0, .ws .u32 a), (1, .ws .u32 b), (5, .arr 0 0 i), (6, .val (.int .u64 c)), (7, .val (.int .i64 (i : Int)))]) (fun _ => []) (fun (i, s, c) => [some ⟨1, 132, .w .u32 s⟩]) (0, [], 0) tok (fun (i, s, c) => ⟨⟨trivial, trivial, Nat.one_pos, trivial, trivial, trivial⟩, trivial, by simp only [List.length_cons]; omega⟩) ?_ ⟨rfl, rfl, rfl, rfl, rfl, trivial⟩ ⟨[], rfl⟩ ⟨[], rfl⟩ ?_; rotate_left; rintro ⟨i, s, c⟩ ⟨h1, h2, h3, h5, h6, h7⟩; have ra := rd_bd (by decide) oka (i : Int); have rb := rd_bd (by decide) okb (i : Int))
  
  | (with_reducible refine Chk.mk' (by first | omega | exact trivial | (simp only [List.length_append, List.length_set, List.length_replicate, List.length_take, List.length_drop, List.length_cons, List.length_nil, List.length_map]; omega)) ?_)
  | (with_reducible refine wrap_g (by dsimp only [inR]; omega) ?_)
  | (with_reducible refine idx_g (by omega) ?_)
  | (with_reducible refine idx_l _ rfl (by decide) ?_)
  | (with_reducible refine BothG.mk ?_ ?_)
  | (with_reducible refine fork_tt ?_) | (with_reducible refine fork_ff ?_)
  | (with_reducible refine fork_e (c := true) (by decide) ?_; with_reducible refine fork_tt ?_) | (with_reducible refine fork_e (c := false) (by decide) ?_; with_reducible refine fork_ff ?_)
  | (with_reducible refine fork_t (by omega) ?_) | (with_reducible refine fork_f (by omega) ?_)
  | (with_reducible refine fork_d ?_ ?_ <;> intro hc)
  | (with_reducible refine fork_n ?_)
  | (with_reducible refine fork_b ?_ ?_ <;> intro hc)
  | (with_reducible refine SlcG.mk (by omega) ?_)
  | (with_reducible refine MakG.mk (by dsimp only; omega) ?_)
  | (with_reducible refine AppG.mk (by first | omega | (simp only [List.length_append, List.length_set, List.length_replicate, List.length_take, List.length_drop, List.length_cons, List.length_nil, List.length_map]; omega)) (by dsimp only [List.length_cons, List.length_nil]; omega) (by omega) ?_)
  | (with_reducible refine div_g (by omega) (by omega) (by dsimp only [inR]; omega) ?_)
  | (with_reducible refine mod_g (by omega) (by omega) ?_)
  | (with_reducible refine mask_g (m := 4294967296) 32 rfl rfl (by decide) (by omega) ?_)
  | (with_reducible refine shr_g (m := 4294967296) 32 rfl (by decide) (by omega) rfl ?_)
  | (with_reducible refine fz_all (by omega) ?_)
  | (with_reducible refine Stuck.h (A := RetE _ _) ?_) | (with_reducible refine Stuck.h (A := RetM _ _ _ _) ?_) | (with_reducible refine Stuck.h (A := Again _ _ _ _ _ _ _ _) ?_) | (with_reducible refine Stuck.h (A := CallF _ _ _ _ _ _ _) ?_) | (with_reducible refine Stuck.h (A := LoopG _ _ _ _ _ _ _ _) ?_) | (with_reducible refine Stuck.h (A := DrawG _ _ _ _ _ _ _ _) ?_)
  | (with_reducible refine Stuck.h (A := WrapG _ _ _) ?_) | (with_reducible refine Stuck.h (A := DivG _ _ _ _) ?_) | (with_reducible refine Stuck.h (A := ModG _ _ _) ?_) | (with_reducible refine Stuck.h (A := ShlG _ _ _ _) ?_) | (with_reducible refine Stuck.h (A := ShrG _ _ _ _) ?_) | (with_reducible refine Stuck.h (A := BitG _ _ _ _ _) ?_)
  | (with_reducible refine Stuck.h (A := IdxG _ _ _) ?_) | (with_reducible refine Stuck.h (A := IdxL _ _ _) ?_) | (with_reducible refine Stuck.h (A := SlcG _ _ _ _ _) ?_) | (with_reducible refine Stuck.h (A := MakG _ _ _ _) ?_) | (with_reducible refine Stuck.h (A := AppG _ _ _ _ _ _ _) ?_) | (with_reducible refine Stuck.h (A := FzG _ _ _ _) ?_)
  | (with_reducible refine Stuck.h (A := RawG _) ?_) | (with_reducible refine Stuck.h (A := TabG _ _ _ _ _) ?_) | (with_reducible refine Stuck.h (A := ExtF _ _ _ _) ?_) | (with_reducible refine Stuck.h (A := Chk _ _) ?_) | (with_reducible refine Stuck.h (A := False) ?_))
  · have hle : X - Y = 0 := by
      unfold cmpN at hc
      split at hc
      · omega
      · split at hc
        · omega
        · simp at hc
    exact ⟨ret_e (by rw [hle]; rfl)⟩
  · obtain ⟨g3, g4, g5⟩ := sub_round (d := rd a i + 4294967296 - (c + rd b i)) (e := 1) h5 h6 h7 (by omega) (by omega)
    exact ⟨again (i + 1, _, _) ⟨by omega, by decide, by decide, g3, g4, g5⟩ (by dsimp only; omega) ⟨rfl, rfl, rfl, rfl, rfl, trivial⟩ ⟨[], rfl⟩ ⟨[], rfl⟩⟩
  · obtain ⟨g3, g4, g5⟩ := sub_round (d := rd a i - (c + rd b i)) (e := 0) h5 h6 h7 (by omega) (by omega)
    exact ⟨again (i + 1, _, _) ⟨by omega, by decide, by decide, g3, g4, g5⟩ (by dsimp only; omega) ⟨rfl, rfl, rfl, rfl, rfl, trivial⟩ ⟨[], rfl⟩ ⟨[], rfl⟩⟩
  · obtain ⟨g3, g4, g5⟩ := sub_round (d := rd a i + 4294967296 - c) (e := 1) h5 h6 h7 (by omega) (by rw [rd_out b i (by omega)]; omega)
    exact ⟨again (i + 1, _, _) ⟨by omega, by decide, by decide, g3, g4, g5⟩ (by dsimp only; omega) ⟨rfl, rfl, rfl, rfl, rfl, trivial⟩ ⟨[], rfl⟩ ⟨[], rfl⟩⟩
  · obtain ⟨g3, g4, g5⟩ := sub_round (d := rd a i - c) (e := 0) h5 h6 h7 (by omega) (by rw [rd_out b i (by omega)]; omega)
    exact ⟨again (i + 1, _, _) ⟨by omega, by decide, by decide, g3, g4, g5⟩ (by dsimp only; omega) ⟨rfl, rfl, rfl, rfl, rfl, trivial⟩ ⟨[], rfl⟩ ⟨[], rfl⟩⟩
  · have h8 : ¬ cmpN X Y ≤ 0 := by assumption
    have hgtXY : Y < X := by
      unfold cmpN at h8
      split at h8
      · simp at h8
      · split at h8
        · simp at h8
        · omega
    have hbl : ¬ a.length < b.length := fun h => by have := hlt h; omega
    rw [List.take_of_length_le (by omega), List.take_of_length_le (by omega), va, vb] at h7
    have hv := vl_lt (B := 4294967296) (by decide) h6
    rw [h5] at hv
    have hc01 : c = 0 ∨ c = 1 := by omega
    refine ⟨ret_e ?_⟩
    show D _ = D (X - Y)
    congr 1
    rcases hc01 with e | e
    · rw [e, Int.mul_zero] at h7; omega
    · rw [e, Int.mul_one] at h7; omega
  · exact ⟨by omega, by omega, by omega, rfl, okD_nil _, by simp [vl]⟩
theorem mul_bd {x w : Int} (hx : 0 ≤ x ∧ x < 4294967296) (hw : 0 ≤ w ∧ w < 4294967296) : 0 ≤ x * w ∧ x * w ≤ 18446744065119617025 := by
  refine ⟨Int.mul_nonneg hx.1 hw.1, ?_⟩
  have h1 : x * w ≤ 4294967295 * w := Int.mul_le_mul_of_nonneg_right (by omega) hw.1
  omega
theorem muls_round {a s : List Int} {i : Nat} {c c0 w : Int} (hc : 0 ≤ c ∧ c < 4294967296) (h5 : s.length = i) (h6 : okD 4294967296 s) (h7 : vl 4294967296 s + 4294967296 ^ i * c = vl 4294967296 (a.take i) * w + c0) (hm : 0 ≤ rd a i * w ∧ rd a i * w ≤ 18446744065119617025) :
    0 ≤ (c + rd a i * w) / 4294967296 ∧ (c + rd a i * w) / 4294967296 < 4294967296 ∧ (s ++ [(c + rd a i * w) % 4294967296]).length = i + 1 ∧ okD 4294967296 (s ++ [(c + rd a i * w) % 4294967296]) ∧
      vl 4294967296 (s ++ [(c + rd a i * w) % 4294967296]) + 4294967296 ^ (i + 1) * ((c + rd a i * w) / 4294967296) = vl 4294967296 (a.take (i + 1)) * w + c0 := by
  refine ⟨by omega, by omega, by simp [h5], okD_append.2 ⟨h6, okD_cons.2 ⟨by omega, okD_nil _⟩⟩, ?_⟩
  rw [vl_snoc, h5, sum_step (T := c + rd a i * w) i (by omega), vl_take_step, Int.mul_add, Int.add_mul, Int.mul_assoc]
  omega
theorem r_muls (X : Nat) (w c0 : Int) (hX : L32 X ≤ 1073741824) (hw : 0 ≤ w ∧ w < 4294967296) (hc0 : 0 ≤ c0 ∧ c0 < 4294967296) : FC Tryz.prog G 164 [D X, .val (.int .u32 w), .val (.int .u32 c0)] (· = D (X * w + c0).toNat) := by
  obtain ⟨a, ea⟩ : ∃ a, a = d32 X := ⟨_, rfl⟩
  obtain ⟨oka, va⟩ := d32_ok X
  replace hX : (d32 X).length ≤ 1073741824 := hX
  unfold D
  rw [← ea] at hX oka va
  rw [← ea]
  refine FC.intro (X := XX) tok Tryz.func164 rfl Tryz.ntmps164 (by rw [Tryz.results164]) (by kernel_rfl) rfl ?_; intro F hG hO
  repeat' ((try (conv => whnf)); first
  | ((with_reducible refine cg ?_); refine call_fz 0 (B := s ++ [c]) rfl rfl (by simp only [List.length_append, List.length_cons, List.length_nil]; omega) (by rw [List.drop_zero]; exact List.take_of_length_le (by simp only [List.length_append, List.length_cons, List.length_nil]; omega)) (by omega) ?_; refine call_eq (r_normD (s ++ [c]) (by simp only [List.length_append, List.length_cons, List.length_nil]; omega) (okD_append.2 ⟨h6, okD_cons.2 ⟨h2, okD_nil _⟩⟩)) (LpL.refl _) rfl ?_)
  | ((with_reducible refine lg ?_); refine loop_g (A := Nat × List Int × Int) (fun (i, s, c) => i ≤ a.length ∧ (0 ≤ c ∧ c < 4294967296) ∧ s.length = i ∧ okD 4294967296 s ∧ vl 4294967296 s + 4294967296 ^ i * c = vl 4294967296 (a.take i) * w + c0) (fun (i, s, c) => a.length - i) (fun (i, s, c) => [(0, .ws .u32 a), (1, .val (.int .u32 w)), (7, .arr 0 0 i), (8, .val (.int .u64 c)), (9, .val (.int .i64 (i : Int)))]) (fun _ => []) (fun (i, s, c) => [some ⟨1, 132, .w .u32 s⟩]) (0, [], c0) tok (fun (i, s, c) => ⟨⟨trivial, trivial, Nat.one_pos, trivial, trivial, trivial⟩, trivial, by simp only [List.length_cons]; omega⟩) ?_ ⟨rfl, rfl, rfl, rfl, rfl, trivial⟩ ⟨[], rfl⟩ ⟨[], rfl⟩ ?_; rotate_left; rintro ⟨i, s, c⟩ ⟨h1, h2, h5, h6, h7⟩; have ra := rd_bd (by decide) oka (i : Int); have rm := mul_bd ra hw)
  
  | (with_reducible refine Chk.mk' (by first | omega | exact trivial | (simp only [List.length_append, List.length_set, List.length_replicate, List.length_take, List.length_drop, List.length_cons, List.length_nil, List.length_map]; omega)) ?_)
  | (with_reducible refine wrap_g (by dsimp only [inR]; omega) ?_)
  | (with_reducible refine idx_g (by omega) ?_)
  | (with_reducible refine idx_l _ rfl (by decide) ?_)
  | (with_reducible refine BothG.mk ?_ ?_)
  | (with_reducible refine fork_tt ?_) | (with_reducible refine fork_ff ?_)
  | (with_reducible refine fork_e (c := true) (by decide) ?_; with_reducible refine fork_tt ?_) | (with_reducible refine fork_e (c := false) (by decide) ?_; with_reducible refine fork_ff ?_)
  | (with_reducible refine fork_t (by omega) ?_) | (with_reducible refine fork_f (by omega) ?_)
  | (with_reducible refine fork_d ?_ ?_ <;> intro hc)
  | (with_reducible refine fork_n ?_)
  | (with_reducible refine fork_b ?_ ?_ <;> intro hc)
  | (with_reducible refine SlcG.mk (by omega) ?_)
  | (with_reducible refine MakG.mk (by dsimp only; omega) ?_)
  | (with_reducible refine AppG.mk (by first | omega | (simp only [List.length_append, List.length_set, List.length_replicate, List.length_take, List.length_drop, List.length_cons, List.length_nil, List.length_map]; omega)) (by dsimp only [List.length_cons, List.length_nil]; omega) (by omega) ?_)
  | (with_reducible refine div_g (by omega) (by omega) (by dsimp only [inR]; omega) ?_)
  | (with_reducible refine mod_g (by omega) (by omega) ?_)
  | (with_reducible refine mask_g (m := 4294967296) 32 rfl rfl (by decide) (by omega) ?_)
  | (with_reducible refine shr_g (m := 4294967296) 32 rfl (by decide) (by omega) rfl ?_)
  | (with_reducible refine fz_all (by omega) ?_)
  | (with_reducible refine Stuck.h (A := RetE _ _) ?_) | (with_reducible refine Stuck.h (A := RetM _ _ _ _) ?_) | (with_reducible refine Stuck.h (A := Again _ _ _ _ _ _ _ _) ?_) | (with_reducible refine Stuck.h (A := CallF _ _ _ _ _ _ _) ?_) | (with_reducible refine Stuck.h (A := LoopG _ _ _ _ _ _ _ _) ?_) | (with_reducible refine Stuck.h (A := DrawG _ _ _ _ _ _ _ _) ?_)
  | (with_reducible refine Stuck.h (A := WrapG _ _ _) ?_) | (with_reducible refine Stuck.h (A := DivG _ _ _ _) ?_) | (with_reducible refine Stuck.h (A := ModG _ _ _) ?_) | (with_reducible refine Stuck.h (A := ShlG _ _ _ _) ?_) | (with_reducible refine Stuck.h (A := ShrG _ _ _ _) ?_) | (with_reducible refine Stuck.h (A := BitG _ _ _ _ _) ?_)
  | (with_reducible refine Stuck.h (A := IdxG _ _ _) ?_) | (with_reducible refine Stuck.h (A := IdxL _ _ _) ?_) | (with_reducible refine Stuck.h (A := SlcG _ _ _ _ _) ?_) | (with_reducible refine Stuck.h (A := MakG _ _ _ _) ?_) | (with_reducible refine Stuck.h (A := AppG _ _ _ _ _ _ _) ?_) | (with_reducible refine Stuck.h (A := FzG _ _ _ _) ?_)
  | (with_reducible refine Stuck.h (A := RawG _) ?_) | (with_reducible refine Stuck.h (A := TabG _ _ _ _ _) ?_) | (with_reducible refine Stuck.h (A := ExtF _ _ _ _) ?_) | (with_reducible refine Stuck.h (A := Chk _ _) ?_) | (with_reducible refine Stuck.h (A := False) ?_))
  · obtain ⟨g1, g2, g3, g4, g5⟩ := muls_round h2 h5 h6 h7 rm
    exact ⟨again (i + 1, _, _) ⟨by omega, ⟨g1, g2⟩, g3, g4, g5⟩ (by dsimp only; omega) ⟨rfl, rfl, rfl, rfl, rfl, trivial⟩ ⟨[], rfl⟩ ⟨[], rfl⟩⟩
  · refine ⟨ret_e ?_⟩
    rw [vl_snoc, h5, h7, List.take_of_length_le (by omega), va]
  · exact ⟨by omega, hc0, rfl, okD_nil _, by simp [vl]⟩
theorem div_bd {l x w : Int} (hl : 0 ≤ l ∧ l < w) (hx : 0 ≤ x ∧ x < 4294967296) (hw : 0 < w) : 0 ≤ (l * 4294967296 + x) / w ∧ (l * 4294967296 + x) / w < 4294967296 := by
  refine ⟨Int.ediv_nonneg (by omega) (by omega), Int.ediv_lt_of_lt_mul hw ?_⟩
  have : (l + 1) * 4294967296 ≤ w * 4294967296 := Int.mul_le_mul_of_nonneg_right (by omega) (by decide)
  rw [Int.mul_comm 4294967296 w]
  omega
theorem div_round {a q : List Int} {m : Nat} {l w : Int} (hm : 0 < m ∧ m ≤ a.length) (hq : q.length = a.length) (hw : 0 < w) (h : vl 4294967296 (a.drop m) = vl 4294967296 (q.drop m) * w + l) :
    vl 4294967296 (a.drop (m - 1)) = vl 4294967296 ((q.set (m - 1) ((l * 4294967296 + rd a ((m : Int) - 1)) / w)).drop (m - 1)) * w + (l * 4294967296 + rd a ((m : Int) - 1)) % w := by
  have hi : ((m - 1 : Nat) : Int) = (m : Int) - 1 := by omega
  have e1 := drop_rd a (m - 1) (by omega)
  rw [show m - 1 + 1 = m by omega, hi] at e1
  have e2 : (q.set (m - 1) ((l * 4294967296 + rd a ((m : Int) - 1)) / w)).drop (m - 1) = (l * 4294967296 + rd a ((m : Int) - 1)) / w :: q.drop m := by
    rw [List.drop_eq_getElem_cons (by simp; omega)]
    simp [show m - 1 + 1 = m by omega]
    exact List.drop_set_of_lt (by omega)
  rw [e1, e2]
  simp only [vl]
  rw [h]
  have hd := Int.mul_ediv_add_emod (l * 4294967296 + rd a ((m : Int) - 1)) w
  rw [Int.mul_comm w] at hd
  rw [Int.add_mul, Int.mul_add, Int.mul_assoc]
  omega
theorem r_divs (X : Nat) (w : Int) (hX : L32 X ≤ 1073741824) (hw : 0 < w ∧ w < 4294967296) : FC Tryz.prog G 132 [D X, .val (.int .u32 w)] (· = .tup [D (X / w).toNat, .val (.int .u32 (X % w))]) := by
  obtain ⟨a, ea⟩ : ∃ a, a = d32 X := ⟨_, rfl⟩
  obtain ⟨oka, va⟩ := d32_ok X
  replace hX : (d32 X).length ≤ 1073741824 := hX
  unfold D
  rw [← ea] at hX oka va
  rw [← ea]
  refine FC.intro (X := XX) tok Tryz.func132 rfl Tryz.ntmps132 (by rw [Tryz.results132]) (by kernel_rfl) rfl ?_; intro F hG hO
  repeat' ((try (conv => whnf)); first
  | (with_reducible refine shl_g (m := 4294967296) 32 rfl (by decide) rfl (by dsimp only [inR]; omega) ?_)
  | ((with_reducible refine cg ?_); refine call_fz 0 (B := q) rfl rfl (by omega) (by rw [List.drop_zero, ← h5, List.take_length]) (by omega) ?_; refine call_eq (r_normD q (by omega) h6) (LpL.refl _) rfl ?_)
  | ((with_reducible refine lg ?_); refine loop_g (A := Nat × List Int × Int) (fun (m, q, l) => m ≤ a.length ∧ (0 ≤ l ∧ l < w) ∧ q.length = a.length ∧ okD 4294967296 q ∧ vl 4294967296 (a.drop m) = vl 4294967296 (q.drop m) * w + l) (fun (m, q, l) => m) (fun (m, q, l) => [(0, .ws .u32 a), (1, .val (.int .u32 w)), (6, .arr 0 0 a.length), (7, .val (.int .u64 l)), (8, .val (.int .i64 ((m : Int) - 1)))]) (fun _ => []) (fun (m, q, l) => [some ⟨1, 132, .w .u32 q⟩]) (a.length, List.replicate a.length 0, 0) tok (fun (m, q, l) => ⟨⟨trivial, trivial, Nat.one_pos, trivial, trivial, trivial⟩, trivial, by simp only [List.length_cons]; omega⟩) ?_ ⟨rfl, rfl, rfl, rfl, rfl, trivial⟩ ⟨[], rfl⟩ ⟨[], rfl⟩ ?_; rotate_left; rintro ⟨m, q, l⟩ ⟨h1, h2, h5, h6, h7⟩; have ra := rd_bd (by decide) oka ((m : Int) - 1); have rq := div_bd h2 ra hw.1)
  
  | (with_reducible refine Chk.mk' (by first | omega | exact trivial | (simp only [List.length_append, List.length_set, List.length_replicate, List.length_take, List.length_drop, List.length_cons, List.length_nil, List.length_map]; omega)) ?_)
  | (with_reducible refine wrap_g (by dsimp only [inR]; omega) ?_)
  | (with_reducible refine idx_g (by omega) ?_)
  | (with_reducible refine idx_l _ rfl (by decide) ?_)
  | (with_reducible refine BothG.mk ?_ ?_)
  | (with_reducible refine fork_tt ?_) | (with_reducible refine fork_ff ?_)
  | (with_reducible refine fork_e (c := true) (by decide) ?_; with_reducible refine fork_tt ?_) | (with_reducible refine fork_e (c := false) (by decide) ?_; with_reducible refine fork_ff ?_)
  | (with_reducible refine fork_t (by omega) ?_) | (with_reducible refine fork_f (by omega) ?_)
  | (with_reducible refine fork_d ?_ ?_ <;> intro hc)
  | (with_reducible refine fork_n ?_)
  | (with_reducible refine fork_b ?_ ?_ <;> intro hc)
  | (with_reducible refine SlcG.mk (by omega) ?_)
  | (with_reducible refine MakG.mk (by dsimp only; omega) ?_)
  | (with_reducible refine AppG.mk (by first | omega | (simp only [List.length_append, List.length_set, List.length_replicate, List.length_take, List.length_drop, List.length_cons, List.length_nil, List.length_map]; omega)) (by dsimp only [List.length_cons, List.length_nil]; omega) (by omega) ?_)
  | (with_reducible refine div_g (by omega) (by omega) (by dsimp only [inR]; omega) ?_)
  | (with_reducible refine mod_g (by omega) (by omega) ?_)
  | (with_reducible refine mask_g (m := 4294967296) 32 rfl rfl (by decide) (by omega) ?_)
  | (with_reducible refine shr_g (m := 4294967296) 32 rfl (by decide) (by omega) rfl ?_)
  | (with_reducible refine fz_all (by omega) ?_)
  | (with_reducible refine Stuck.h (A := RetE _ _) ?_) | (with_reducible refine Stuck.h (A := RetM _ _ _ _) ?_) | (with_reducible refine Stuck.h (A := Again _ _ _ _ _ _ _ _) ?_) | (with_reducible refine Stuck.h (A := CallF _ _ _ _ _ _ _) ?_) | (with_reducible refine Stuck.h (A := LoopG _ _ _ _ _ _ _ _) ?_) | (with_reducible refine Stuck.h (A := DrawG _ _ _ _ _ _ _ _) ?_)
  | (with_reducible refine Stuck.h (A := WrapG _ _ _) ?_) | (with_reducible refine Stuck.h (A := DivG _ _ _ _) ?_) | (with_reducible refine Stuck.h (A := ModG _ _ _) ?_) | (with_reducible refine Stuck.h (A := ShlG _ _ _ _) ?_) | (with_reducible refine Stuck.h (A := ShrG _ _ _ _) ?_) | (with_reducible refine Stuck.h (A := BitG _ _ _ _ _) ?_)
  | (with_reducible refine Stuck.h (A := IdxG _ _ _) ?_) | (with_reducible refine Stuck.h (A := IdxL _ _ _) ?_) | (with_reducible refine Stuck.h (A := SlcG _ _ _ _ _) ?_) | (with_reducible refine Stuck.h (A := MakG _ _ _ _) ?_) | (with_reducible refine Stuck.h (A := AppG _ _ _ _ _ _ _) ?_) | (with_reducible refine Stuck.h (A := FzG _ _ _ _) ?_)
  | (with_reducible refine Stuck.h (A := RawG _) ?_) | (with_reducible refine Stuck.h (A := TabG _ _ _ _ _) ?_) | (with_reducible refine Stuck.h (A := ExtF _ _ _ _) ?_) | (with_reducible refine Stuck.h (A := Chk _ _) ?_) | (with_reducible refine Stuck.h (A := False) ?_))
  · have hr := div_round (m := m) (by omega) h5 hw.1 h7
    have hmod := Int.emod_nonneg (l * 4294967296 + rd a ((m : Int) - 1)) (show w ≠ 0 by omega)
    have hmod2 := Int.emod_lt_of_pos (l * 4294967296 + rd a ((m : Int) - 1)) hw.1
    refine ⟨again (m - 1, q.set (m - 1) ((l * 4294967296 + rd a ((m : Int) - 1)) / w), (l * 4294967296 + rd a ((m : Int) - 1)) % w) ⟨by omega, ⟨hmod, hmod2⟩, by simpa using h5, fun x hx => ?_, hr⟩ (by dsimp only; omega) ⟨rfl, rfl, rfl, rfl, iv_eq (by omega), trivial⟩ ⟨[], rfl⟩ ⟨[], ?_⟩⟩
    · rcases List.mem_or_eq_of_mem_set hx with h | h
      · exact h6 x h
      · rw [h]; exact rq
    · have ht : 0 + ((m : Int) - 1).toNat = m - 1 := by omega
      rw [ht]; rfl
  · have hm : m = 0 := by omega
    subst hm
    rw [List.drop_zero, List.drop_zero, va] at h7
    have hq0 := vl_nonneg (B := 4294967296) (by decide) h6
    have e2 : (X : Int) / w = vl 4294967296 q := by
      rw [h7, Int.mul_comm, Int.add_comm, Int.add_mul_ediv_left _ _ (by omega), Int.ediv_eq_zero_of_lt h2.1 h2.2, Int.zero_add]
    have e3 : (X : Int) % w = l := by
      rw [h7, Int.mul_comm, Int.add_comm, Int.add_mul_emod_self_left, Int.emod_eq_of_lt h2.1 h2.2]
    exact ⟨ret_e (by rw [e2, e3])⟩
  · refine ⟨Nat.le_refl _, ⟨by omega, by omega⟩, by simp, fun x hx => ?_, by simp [vl]⟩
    have := List.eq_of_mem_replicate hx
    subst this; decide
end Go.Proofs.YtbeocnjlepcglaaGreatDoor.Sim
namespace Go.Proofs.YtbeocnjlepcglaaGreatDoor.Sim
set_option linter.unusedVariables false
set_option linter.unusedSectionVars false
set_option linter.unusedSimpArgs false
/-- The bit length. -/
def bl (n : Nat) : Nat := if n = 0 then 0 else Nat.log2 n + 1
theorem lt_bl (n : Nat) : n < 2 ^ bl n := by
  unfold bl
  split
  · rename_i h; subst h; decide
  · rename_i h; exact (Nat.log2_lt h).1 (Nat.lt_succ_self _)
theorem bl_le {n k : Nat} (h : n < 2 ^ k) : bl n ≤ k := by
  unfold bl
  split
  · omega
  · rename_i h0; exact (Nat.log2_lt h0).2 h
theorem bl_ge {n k : Nat} (h : 2 ^ k ≤ n) : k < bl n := by
  rcases Nat.lt_or_ge k (bl n) with h1 | h1
  · exact h1
  · have := Nat.lt_of_lt_of_le (lt_bl n) (Nat.pow_le_pow_right (show 0 < 2 by decide) h1)
    omega
theorem bl_eq {n k : Nat} (h : n < 2 ^ k) (h2 : k = 0 ∨ 2 ^ (k - 1) ≤ n) : bl n = k := by
  have h3 := bl_le h
  rcases h2 with h2 | h2
  · omega
  · have := bl_ge h2; omega
theorem bl_zero : bl 0 = 0 := rfl
theorem bl_pos {n : Nat} (h : n ≠ 0) : 0 < bl n := by unfold bl; rw [if_neg h]; omega
theorem le_of_bl {n : Nat} (h : n ≠ 0) : 2 ^ (bl n - 1) ≤ n := by
  rcases Nat.lt_or_ge n (2 ^ (bl n - 1)) with h1 | h1
  · have := bl_le h1; have := bl_pos h; omega
  · exact h1
theorem bl_mul_pow (n k : Nat) (h : n ≠ 0) : bl (n * 2 ^ k) = bl n + k := by
  have h1 := lt_bl n
  have h2 := le_of_bl h
  have h3 := bl_pos h
  refine bl_eq ?_ (.inr ?_)
  · rw [Nat.pow_add]; exact Nat.mul_lt_mul_of_pos_right h1 (Nat.pow_pos (by decide))
  · rw [show bl n + k - 1 = (bl n - 1) + k by omega, Nat.pow_add]; exact Nat.mul_le_mul_right _ h2
theorem bl_mono {m n : Nat} (h : m ≤ n) : bl m ≤ bl n := bl_le (Nat.lt_of_le_of_lt h (lt_bl n))
/-- How often 2 divides n (0 of nought). -/
def tz (n : Nat) : Nat := if h : n ≠ 0 ∧ n % 2 = 0 then tz (n / 2) + 1 else 0
termination_by n
decreasing_by omega
theorem tz_ok : ∀ {n : Nat}, n ≠ 0 → ∃ m, n = m * 2 ^ tz n ∧ m % 2 = 1 := by
  intro n
  induction n using Nat.strongRecOn with
  | _ n ih =>
    intro h
    unfold tz
    split
    · rename_i hh
      obtain ⟨m, h1, h2⟩ := ih (n / 2) (by omega) (by omega)
      refine ⟨m, ?_, h2⟩
      rw [Nat.pow_succ, ← Nat.mul_assoc, ← h1]; omega
    · exact ⟨n, by simp, by omega⟩
theorem tz_eq {n m k : Nat} (h : n = m * 2 ^ k) (hm : m % 2 = 1) : tz n = k := by
  induction k generalizing n with
  | zero =>
    unfold tz
    rw [dif_neg]
    simp at h; omega
  | succ k ih =>
    have hp : 0 < 2 ^ k := Nat.pow_pos (by decide)
    have hm0 : 0 < m * 2 ^ k := Nat.mul_pos (by omega) hp
    rw [Nat.pow_succ, ← Nat.mul_assoc] at h
    unfold tz
    rw [dif_pos ⟨by omega, by omega⟩, ih (n := n / 2) (by omega)]
theorem tz_zero : tz 0 = 0 := by unfold tz; simp
theorem odd_div {n : Nat} (h : n ≠ 0) : n = n / 2 ^ tz n * 2 ^ tz n ∧ n / 2 ^ tz n % 2 = 1 := by
  obtain ⟨m, h1, h2⟩ := tz_ok h
  have hp : 0 < 2 ^ tz n := Nat.pow_pos (by decide)
  have e : n / 2 ^ tz n = m := by
    conv => lhs; arg 1; rw [h1]
    exact Nat.mul_div_cancel _ hp
  rw [e]; exact ⟨h1, h2⟩
section
variable {B : Nat} (hB : 2 ≤ B)
include hB
theorem dgs_cons {n : Nat} (h : n ≠ 0) : dgs B n = ((n % B : Nat) : Int) :: dgs B (n / B) := by
  rw [dgs, dif_neg (by omega)]
theorem dgs_nil : dgs B 0 = [] := by rw [dgs, dif_pos (by omega)]
theorem dgs_drop : ∀ (k n : Nat), (dgs B n).drop k = dgs B (n / B ^ k)
  | 0, n => by simp
  | k + 1, n => by
    by_cases h : n = 0
    · subst h; rw [dgs_nil hB, Nat.zero_div, dgs_nil hB, List.drop_nil]
    · rw [dgs_cons hB h, List.drop_succ_cons, dgs_drop k, Nat.div_div_eq_div_mul, Nat.pow_succ, Nat.mul_comm B]
theorem dgs_take : ∀ (k n : Nat), vl B ((dgs B n).take k) = ((n % B ^ k : Nat) : Int)
  | 0, n => by simp [vl, Nat.mod_one]
  | k + 1, n => by
    by_cases h : n = 0
    · subst h; rw [dgs_nil hB]; simp [vl]
    · rw [dgs_cons hB h, List.take_succ_cons]
      simp only [vl]
      rw [dgs_take k]
      have e : n % B ^ (k + 1) = n % B + B * (n / B % B ^ k) := by rw [Nat.pow_succ, Nat.mul_comm (B ^ k), Nat.mod_mul]
      rw [e]
      simp
theorem dgs_rd (n i : Nat) : rd (dgs B n) i = ((n / B ^ i % B : Nat) : Int) := by
  have h := dgs_drop hB i n
  have e : rd (dgs B n) i = rd ((dgs B n).drop i) (0 : Nat) := by simp [rd, List.getD_eq_getElem?_getD]
  rw [e, h]
  by_cases h0 : n / B ^ i = 0
  · rw [h0, dgs_nil hB]; simp [rd]
  · rw [dgs_cons hB h0]; simp [rd]
end
theorem d32_drop (n k : Nat) : (d32 n).drop k = d32 (n / 2 ^ (32 * k)) := by
  have := dgs_drop (B := 4294967296) (by decide) k n
  rw [pow32] at this
  exact this
theorem d32_take (n k : Nat) : vl 4294967296 ((d32 n).take k) = ((n % 2 ^ (32 * k) : Nat) : Int) := by
  have := dgs_take (B := 4294967296) (by decide) k n
  rw [pow32] at this
  exact this
theorem d32_rd (n i : Nat) : rd (d32 n) i = ((n / 2 ^ (32 * i) % 4294967296 : Nat) : Int) := by
  have := dgs_rd (B := 4294967296) (by decide) n i
  rw [pow32] at this
  exact this
theorem d64_rd (n i : Nat) : rd (d64 n) i = ((n / 2 ^ (64 * i) % 18446744073709551616 : Nat) : Int) := by
  have := dgs_rd (B := 18446744073709551616) (by decide) n i
  rw [pow64] at this
  exact this
/-- The bit length by the top digit. -/
theorem bl_top (n k : Nat) (h : n / 2 ^ k ≠ 0) : bl n = k + bl (n / 2 ^ k) := by
  have hp : 0 < 2 ^ k := Nat.pow_pos (by decide)
  refine bl_eq ?_ (.inr ?_)
  · rw [Nat.pow_add, Nat.mul_comm]; exact (Nat.div_lt_iff_lt_mul hp).1 (lt_bl _)
  · have := bl_pos h
    rw [show k + bl (n / 2 ^ k) - 1 = (bl (n / 2 ^ k) - 1) + k by omega, Nat.pow_add]
    exact (Nat.le_div_iff_mul_le hp).1 (le_of_bl h)
theorem L32_bl (n : Nat) : L32 n = (bl n + 31) / 32 := by
  by_cases h : n = 0
  · subst h; exact lenB_zero _
  · have h1 := lt_bl n
    have h2 := le_of_bl h
    have h3 := bl_pos h
    have a : L32 n ≤ (bl n + 31) / 32 := L32_le (Nat.lt_of_lt_of_le h1 (Nat.pow_le_pow_right (by decide) (by omega)))
    have b : (bl n - 1) / 32 < L32 n := lenB_ge (by decide) (by rw [pow32]; exact Nat.le_trans (Nat.pow_le_pow_right (by decide) (by omega)) h2)
    omega
theorem L64_bl (n : Nat) : L64 n = (bl n + 63) / 64 := by
  by_cases h : n = 0
  · subst h; exact lenB_zero _
  · have h1 := lt_bl n
    have h2 := le_of_bl h
    have h3 := bl_pos h
    have a : L64 n ≤ (bl n + 63) / 64 := L64_le (Nat.lt_of_lt_of_le h1 (Nat.pow_le_pow_right (by decide) (by omega)))
    have b : (bl n - 1) / 64 < L64 n := lenB_ge (by decide) (by rw [pow64]; exact Nat.le_trans (Nat.pow_le_pow_right (by decide) (by omega)) h2)
    omega
theorem pw32 {n : Nat} (h : n < 32) : 0 < (2 : Int) ^ n ∧ (2 : Int) ^ n < 4294967296 := by
  have h2 : (2 : Nat) ^ n < 2 ^ 32 := Nat.pow_lt_pow_right (by decide) h
  have h1 : 0 < (2 : Nat) ^ n := Nat.pow_pos (by decide)
  have h3 : ((2 : Int) ^ n) = ((2 ^ n : Nat) : Int) := by simp
  obtain ⟨m, hm⟩ : ∃ m : Nat, m = 2 ^ n := ⟨_, rfl⟩
  rw [h3]
  rw [← hm] at h1 h2 ⊢
  have : m < 4294967296 := h2
  omega
theorem pw64 {n : Nat} (h : n < 64) : 0 < (2 : Int) ^ n ∧ (2 : Int) ^ n < 18446744073709551616 := by
  have h2 : (2 : Nat) ^ n < 2 ^ 64 := Nat.pow_lt_pow_right (by decide) h
  have h1 : 0 < (2 : Nat) ^ n := Nat.pow_pos (by decide)
  have h3 : ((2 : Int) ^ n) = ((2 ^ n : Nat) : Int) := by simp
  obtain ⟨m, hm⟩ : ∃ m : Nat, m = 2 ^ n := ⟨_, rfl⟩
  rw [h3]
  rw [← hm] at h1 h2 ⊢
  have : m < 18446744073709551616 := h2
  omega
/-- A bit within a digit. -/
theorem bit_in (X q r w : Nat) (h : r < w) : X / 2 ^ q % 2 ^ w / 2 ^ r % 2 = X / 2 ^ (q + r) % 2 := by
  have e1 : 2 ^ w = 2 ^ r * 2 ^ (w - r) := by rw [← Nat.pow_add]; congr 1; omega
  rw [e1, Nat.mod_mul_right_div_self, Nat.div_div_eq_div_mul, ← Nat.pow_add]
  refine Nat.mod_mod_of_dvd _ ⟨2 ^ (w - r - 1), ?_⟩
  rw [← Nat.pow_succ']; congr 1; omega
/-- The top digit. -/
theorem top32 {X : Nat} (h : X ≠ 0) : X / 2 ^ (32 * (L32 X - 1)) < 4294967296 ∧ X / 2 ^ (32 * (L32 X - 1)) ≠ 0 := by
  have h1 : 0 < L32 X := lenB_pos (B := 4294967296) (by decide) h
  have h2 := L32_lt X
  have h3 : 2 ^ (32 * (L32 X - 1)) ≤ X := by
    have := ((dgs_len (B := 4294967296) (by decide) X).2 h).2
    rw [pow32] at this
    exact this
  have hp : 0 < 2 ^ (32 * (L32 X - 1)) := Nat.pow_pos (by decide)
  refine ⟨?_, ?_⟩
  · rw [Nat.div_lt_iff_lt_mul hp]
    have : (4294967296 : Nat) = 2 ^ 32 := by decide
    rw [this, ← Nat.pow_add]
    rwa [show 32 + 32 * (L32 X - 1) = 32 * L32 X by omega]
  · have := Nat.div_pos h3 hp; omega
theorem top64 {X : Nat} (h : X ≠ 0) : X / 2 ^ (64 * (L64 X - 1)) < 18446744073709551616 ∧ X / 2 ^ (64 * (L64 X - 1)) ≠ 0 := by
  have h1 : 0 < L64 X := lenB_pos (B := 18446744073709551616) (by decide) h
  have h2 := L64_lt X
  have h3 : 2 ^ (64 * (L64 X - 1)) ≤ X := by
    have := ((dgs_len (B := 18446744073709551616) (by decide) X).2 h).2
    rw [pow64] at this
    exact this
  have hp : 0 < 2 ^ (64 * (L64 X - 1)) := Nat.pow_pos (by decide)
  refine ⟨?_, ?_⟩
  · rw [Nat.div_lt_iff_lt_mul hp]
    have : (18446744073709551616 : Nat) = 2 ^ 64 := by decide
    rw [this, ← Nat.pow_add]
    rwa [show 64 + 64 * (L64 X - 1) = 64 * L64 X by omega]
  · have := Nat.div_pos h3 hp; omega
theorem d64_two (X j : Nat) : rd (d64 X) j = rd (d32 X) (2 * (j : Int)) + rd (d32 X) (2 * (j : Int) + 1) * 4294967296 := by
  have h0 := d32_rd X (2 * j)
  have h1 := d32_rd X (2 * j + 1)
  rw [show ((2 * j : Nat) : Int) = 2 * (j : Int) by omega] at h0
  rw [show ((2 * j + 1 : Nat) : Int) = 2 * (j : Int) + 1 by omega] at h1
  rw [d64_rd, h0, h1]
  have e1 : X / 2 ^ (32 * (2 * j)) = X / 2 ^ (64 * j) := by congr 2; omega
  have e2 : X / 2 ^ (32 * (2 * j + 1)) = X / 2 ^ (64 * j) / 4294967296 := by
    have : (4294967296 : Nat) = 2 ^ 32 := by decide
    rw [this, Nat.div_div_eq_div_mul, ← Nat.pow_add]; congr 2; omega
  rw [e1, e2]
  omega
theorem mod_step (X k w : Nat) (h : X % 2 ^ k = 0) (h2 : X / 2 ^ k % 2 ^ w = 0) : X % 2 ^ (k + w) = 0 := by
  rw [Nat.pow_add, Nat.mod_mul, h, h2]; simp
theorem pow_le_of_mod {X k : Nat} (h0 : X ≠ 0) (h : X % 2 ^ k = 0) : 2 ^ k ≤ X := by
  rcases Nat.lt_or_ge X (2 ^ k) with h1 | h1
  · rw [Nat.mod_eq_of_lt h1] at h; exact absurd h h0
  · exact h1
end Go.Proofs.YtbeocnjlepcglaaGreatDoor.Sim
namespace Go.Proofs.YtbeocnjlepcglaaGreatDoor.Sim
set_option linter.unusedVariables false
set_option linter.unusedSimpArgs false
/-- p, of whose digits from lo on so many are s. -/
def ins (p : List Int) (lo : Nat) (s : List Int) : List Int := p.take lo ++ s ++ p.drop (lo + s.length)
theorem ins_len {p s : List Int} {lo : Nat} (h : lo + s.length ≤ p.length) : (ins p lo s).length = p.length := by
  simp [ins]; omega
theorem ins_nil (p : List Int) (lo : Nat) : ins p lo [] = p := by simp [ins]
theorem ins_get {p s : List Int} {lo : Nat} (h : lo + s.length ≤ p.length) : (ins p lo s).getD (lo + s.length) 0 = rd p ((lo + s.length : Nat) : Int) := by
  have e : (p.take lo ++ s).length = lo + s.length := by simp; omega
  unfold ins
  simp only [List.getD_eq_getElem?_getD, rd, Int.toNat_natCast]
  rw [List.getElem?_append_right (by omega), e, List.getElem?_drop]
  simp
theorem ins_set {p s : List Int} {lo : Nat} (d : Int) (h : lo + s.length < p.length) : (ins p lo s).set (lo + s.length) d = ins p lo (s ++ [d]) := by
  have e : (p.take lo ++ s).length = lo + s.length := by simp; omega
  unfold ins
  rw [List.set_append_right _ _ (by omega), e, Nat.sub_self, List.drop_eq_getElem_cons h]
  simp [Nat.add_assoc]
theorem ins_take {p s : List Int} {lo : Nat} (h : lo + s.length ≤ p.length) : (ins p lo s).take lo = p.take lo := by
  have e : (p.take lo).length = lo := by simp; omega
  unfold ins
  rw [List.append_assoc, List.take_append_of_le_length (by omega), List.take_take, Nat.min_self]
theorem ins_drop {p s : List Int} {lo : Nat} (h : lo + s.length ≤ p.length) : (ins p lo s).drop (lo + s.length) = p.drop (lo + s.length) := by
  have e : (p.take lo ++ s).length = lo + s.length := by simp; omega
  unfold ins
  rw [← e, List.drop_left]
theorem ins_mid {p s : List Int} {lo : Nat} (h : lo + s.length ≤ p.length) : ((ins p lo s).drop lo).take s.length = s := by
  have e : (p.take lo).length = lo := by simp; omega
  unfold ins
  rw [List.append_assoc]
  have : (p.take lo ++ (s ++ p.drop (lo + s.length))).drop lo = s ++ p.drop (lo + s.length) := by
    conv => lhs; rw [← e]
    rw [e, List.drop_left' e]
  rw [this, List.take_left]
theorem ins_ins {p s r : List Int} {lo : Nat} (h : lo + s.length ≤ p.length) (hr : r.length = s.length) : ins (ins p lo s) lo r = ins p lo r := by
  have h1 := ins_take h
  have h2 := ins_drop h
  rw [← hr] at h2
  unfold ins at h1 h2 ⊢
  rw [h1, h2]
theorem ins_okD {B : Int} {p s : List Int} {lo : Nat} (hp : okD B p) (hs : okD B s) : okD B (ins p lo s) := okD_append.2 ⟨okD_append.2 ⟨hp.take _, hs⟩, hp.drop _⟩
theorem rd_drop (p : List Int) (lo i : Nat) : rd (p.drop lo) (i : Int) = rd p ((lo + i : Nat) : Int) := by
  simp only [rd, List.getD_eq_getElem?_getD, Int.toNat_natCast, List.getElem?_drop]
theorem gd_bd {B : Int} (hB : 0 < B) {a : List Int} (ok : okD B a) (j : Nat) : 0 ≤ a.getD j 0 ∧ a.getD j 0 < B := by
  have := rd_bd hB ok (j : Int)
  simpa only [rd, Int.toNat_natCast] using this
theorem gd_rd (a : List Int) (j : Nat) : a.getD j 0 = rd a (j : Int) := by simp only [rd, Int.toNat_natCast]
/-- A row's value by its parts. -/
theorem ins_vl (B : Int) {p s : List Int} {lo : Nat} (h : lo + s.length ≤ p.length) : vl B (ins p lo s) = vl B (p.take lo) + B ^ lo * (vl B s + B ^ s.length * vl B (p.drop (lo + s.length))) := by
  have e : (p.take lo).length = lo := by simp; omega
  unfold ins
  rw [List.append_assoc, vl_append, vl_append, e]
end Go.Proofs.YtbeocnjlepcglaaGreatDoor.Sim
namespace Go.Proofs.YtbeocnjlepcglaaGreatDoor.Sim
open Go.RowKit
set_option linter.unusedVariables false
set_option linter.unusedSimpArgs false
set_option maxRecDepth 10000
set_option maxHeartbeats 4000000
variable {G : List (Nat × List Value)}
theorem vl_zero (B : Int) : ∀ n, vl B (List.replicate n 0) = 0
  | 0 => rfl
  | n + 1 => by simp [List.replicate_succ, vl, vl_zero B n]
theorem mul_bd2 {x y : Int} (hx : 0 ≤ x ∧ x < 4294967296) (hy : 0 ≤ y ∧ y < 4294967296) : 0 ≤ x * y ∧ x * y ≤ 18446744065119617025 := mul_bd hx hy
end Go.Proofs.YtbeocnjlepcglaaGreatDoor.Sim
namespace Go.Proofs.YtbeocnjlepcglaaGreatDoor.Sim
open Go.RowKit
set_option linter.unusedVariables false
set_option linter.unusedSimpArgs false
set_option maxRecDepth 10000
set_option maxHeartbeats 4000000
variable {G : List (Nat × List Value)}
theorem trim_d32 (n : Nat) : trim (d32 n) = d32 n := (dgs_ok (B := 4294967296) (by decide) n).2.2
theorem r_normN (X : Nat) (h : L32 X ≤ 1099511627776) : FC Tryz.prog G 131 [D X] (· = D X) :=
  (r_norm (d32 X) h).mono fun r hr => by rw [hr, trim_d32]; rfl
theorem trim_okD {a : List Int} (ok : okD 4294967296 a) : trim a = d32 (vl 4294967296 a).toNat := trim_dgs (B := 4294967296) (by decide) ok
/-- A natural in a row of one's own. -/
abbrev OwnD (n : Nat) : PV → List (Option Row) → Prop := Own 132 .u32 (d32 n)
theorem m_normN (X : Nat) (h : L32 X ≤ 1099511627776) : PM Tryz.prog G 131 [.ws .u32 (d32 X)] [] (OwnD X) := by
  have := m_norm (G := G) (d32 X) h
  rwa [trim_d32] at this
theorem m_normD (a : List Int) (h : a.length ≤ 1099511627776) (ok : okD 4294967296 a) : PM Tryz.prog G 131 [.ws .u32 a] [] (OwnD (vl 4294967296 a).toNat) := by
  have := m_norm (G := G) a h
  rwa [trim_okD ok] at this
theorem vl_zeros (k : Nat) (l : List Int) : vl 4294967296 (List.replicate k 0 ++ l) = 4294967296 ^ k * vl 4294967296 l := by
  rw [vl_append, vl_zero, List.length_replicate, Int.zero_add]
theorem shl_val (X : Nat) (n : Int) (h : 0 < n) : (vl 4294967296 (List.replicate (n / 32).toNat 0 ++ d32 ((X : Int) * 2 ^ (n % 32).toNat + 0).toNat)).toNat = X * 2 ^ n.toNat := by
  have e1 : ((X : Int) * 2 ^ (n % 32).toNat + 0).toNat = X * 2 ^ (n % 32).toNat := by
    have : ((X : Int) * 2 ^ (n % 32).toNat + 0) = ((X * 2 ^ (n % 32).toNat : Nat) : Int) := by simp
    rw [this, Int.toNat_natCast]
  rw [e1, vl_zeros, (d32_ok _).2]
  have e2 : ((4294967296 : Int) ^ (n / 32).toNat * ((X * 2 ^ (n % 32).toNat : Nat) : Int)) = ((4294967296 ^ (n / 32).toNat * (X * 2 ^ (n % 32).toNat) : Nat) : Int) := by simp
  rw [e2, Int.toNat_natCast, pow32, Nat.mul_left_comm, ← Nat.pow_add]
  congr 2
  omega
theorem okD_zeros {k : Nat} {l : List Int} (h : okD 4294967296 l) : okD 4294967296 (List.replicate k 0 ++ l) :=
  okD_append.2 ⟨fun x hx => by rw [List.eq_of_mem_replicate hx]; decide, h⟩
theorem m_shl (X : Nat) (n : Int) (hX : L32 X ≤ 536870912) (hn : inR .i64 n) (hn2 : n ≤ 8589934592) : PM Tryz.prog G 151 [D X, .val (.int .i64 n)] [] (OwnD (X * 2 ^ n.toNat)) := by
  dsimp only [inR] at hn
  have hlen : (d32 X).length = L32 X := rfl
  have hM : (d32 ((X : Int) * 2 ^ (n % 32).toNat + 0).toNat).length ≤ L32 X + 1 := by
    have h1 := L32_shl X (n % 32).toNat
    have e1 : ((X : Int) * 2 ^ (n % 32).toNat + 0).toNat = X * 2 ^ (n % 32).toNat := by
      have : ((X : Int) * 2 ^ (n % 32).toNat + 0) = ((X * 2 ^ (n % 32).toNat : Nat) : Int) := by simp
      rw [this, Int.toNat_natCast]
    rw [e1]
    have h2 : (n % 32).toNat / 32 = 0 := by omega
    rw [h2] at h1
    exact h1
  have hw := pw32 (n := (n % 32).toNat) (by omega)
  refine PM.intro (X := XX) tok Tryz.func151 rfl Tryz.ntmps151 (by rw [Tryz.results151]) (by kernel_rfl) rfl ?_; intro F hG hO; simp only [List.length_cons, List.length_nil, Nat.zero_add, Nat.reduceAdd] at hO
  repeat' ((try (conv => whnf)); first
  | (with_reducible refine shl1_g (.inl rfl) (by dsimp only [IntKind.bits]; omega) ?_)
  | ((with_reducible refine cg ?_); refine call_own (m := 0) (m_normN X (by omega)) rfl rfl rfl ?_)
  | ((with_reducible refine cg ?_); refine call_eq (r_muls X (2 ^ (n % 32).toNat) 0 (by omega) ⟨Int.le_of_lt hw.1, hw.2⟩ (by decide)) (LpL.refl _) rfl ?_)
  | (with_reducible refine AppG.mk (by simp) (by dsimp only; omega) (by omega) ?_)
  | ((with_reducible refine cg ?_); refine call_fz 0 (B := List.replicate (n / 32).toNat 0 ++ d32 ((X : Int) * 2 ^ (n % 32).toNat + 0).toNat) rfl rfl (by simp) (by rw [List.drop_zero]; exact List.take_of_length_le (by simp)) (by omega) ?_; refine call_own (m := 1) (m_normD (List.replicate (n / 32).toNat 0 ++ d32 ((X : Int) * 2 ^ (n % 32).toNat + 0).toNat) (by simp only [List.length_append, List.length_replicate]; omega) (okD_zeros (d32_ok _).1)) rfl rfl rfl ?_)
  
  | (with_reducible refine Chk.mk' (by first | omega | exact trivial | (simp only [List.length_append, List.length_set, List.length_replicate, List.length_take, List.length_drop, List.length_cons, List.length_nil, List.length_map]; omega)) ?_)
  | (with_reducible refine wrap_g (by dsimp only [inR]; omega) ?_)
  | (with_reducible refine idx_g (by omega) ?_)
  | (with_reducible refine idx_l _ rfl (by decide) ?_)
  | (with_reducible refine BothG.mk ?_ ?_)
  | (with_reducible refine fork_tt ?_) | (with_reducible refine fork_ff ?_)
  | (with_reducible refine fork_e (c := true) (by decide) ?_; with_reducible refine fork_tt ?_) | (with_reducible refine fork_e (c := false) (by decide) ?_; with_reducible refine fork_ff ?_)
  | (with_reducible refine fork_t (by omega) ?_) | (with_reducible refine fork_f (by omega) ?_)
  | (with_reducible refine fork_d ?_ ?_ <;> intro hc)
  | (with_reducible refine fork_n ?_)
  | (with_reducible refine fork_b ?_ ?_ <;> intro hc)
  | (with_reducible refine SlcG.mk (by omega) ?_)
  | (with_reducible refine MakG.mk (by dsimp only; omega) ?_)
  | (with_reducible refine AppG.mk (by first | omega | (simp only [List.length_append, List.length_set, List.length_replicate, List.length_take, List.length_drop, List.length_cons, List.length_nil, List.length_map]; omega)) (by dsimp only [List.length_cons, List.length_nil]; omega) (by omega) ?_)
  | (with_reducible refine div_g (by omega) (by omega) (by dsimp only [inR]; omega) ?_)
  | (with_reducible refine mod_g (by omega) (by omega) ?_)
  | (with_reducible refine mask_g (m := 4294967296) 32 rfl rfl (by decide) (by omega) ?_)
  | (with_reducible refine shr_g (m := 4294967296) 32 rfl (by decide) (by omega) rfl ?_)
  | (with_reducible refine fz_all (by omega) ?_)
  | (with_reducible refine Stuck.h (A := RetE _ _) ?_) | (with_reducible refine Stuck.h (A := RetM _ _ _ _) ?_) | (with_reducible refine Stuck.h (A := Again _ _ _ _ _ _ _ _) ?_) | (with_reducible refine Stuck.h (A := CallF _ _ _ _ _ _ _) ?_) | (with_reducible refine Stuck.h (A := LoopG _ _ _ _ _ _ _ _) ?_) | (with_reducible refine Stuck.h (A := DrawG _ _ _ _ _ _ _ _) ?_)
  | (with_reducible refine Stuck.h (A := WrapG _ _ _) ?_) | (with_reducible refine Stuck.h (A := DivG _ _ _ _) ?_) | (with_reducible refine Stuck.h (A := ModG _ _ _) ?_) | (with_reducible refine Stuck.h (A := ShlG _ _ _ _) ?_) | (with_reducible refine Stuck.h (A := ShrG _ _ _ _) ?_) | (with_reducible refine Stuck.h (A := BitG _ _ _ _ _) ?_)
  | (with_reducible refine Stuck.h (A := IdxG _ _ _) ?_) | (with_reducible refine Stuck.h (A := IdxL _ _ _) ?_) | (with_reducible refine Stuck.h (A := SlcG _ _ _ _ _) ?_) | (with_reducible refine Stuck.h (A := MakG _ _ _ _) ?_) | (with_reducible refine Stuck.h (A := AppG _ _ _ _ _ _ _) ?_) | (with_reducible refine Stuck.h (A := FzG _ _ _ _) ?_)
  | (with_reducible refine Stuck.h (A := RawG _) ?_) | (with_reducible refine Stuck.h (A := TabG _ _ _ _ _) ?_) | (with_reducible refine Stuck.h (A := ExtF _ _ _ _) ?_) | (with_reducible refine Stuck.h (A := Chk _ _) ?_) | (with_reducible refine Stuck.h (A := False) ?_))
  · have : n.toNat = 0 := by omega
    rw [this, Nat.pow_zero, Nat.mul_one]
    exact ⟨ret_own rfl rfl⟩
  · have : X = 0 := (lenB_eq_zero (B := 4294967296) (by decide)).1 (by unfold L32 at hlen; omega)
    subst this
    rw [Nat.zero_mul]
    exact ⟨ret_own rfl rfl⟩
  · rw [← shl_val X n (by omega)]
    exact ⟨ret_own rfl rfl⟩
theorem r_shl (X : Nat) (n : Int) (hX : L32 X ≤ 536870912) (hn : inR .i64 n) (hn2 : n ≤ 8589934592) : FC Tryz.prog G 151 [D X, .val (.int .i64 n)] (· = D (X * 2 ^ n.toNat)) := Own.fc (m_shl X n hX hn hn2)
theorem r_shr (X : Nat) (n : Int) (hX : L32 X ≤ 536870912) (hn : inR .i64 n) : FC Tryz.prog G 89 [D X, .val (.int .i64 n)] (· = D (X / 2 ^ n.toNat)) := by
  dsimp only [inR] at hn
  have hlen : (d32 X).length = L32 X := rfl
  have hw := pw32 (n := (n % 32).toNat) (by omega)
  have hY : L32 (X / 2 ^ (32 * (n / 32).toNat)) ≤ L32 X := lenB_mono (by decide) (Nat.div_le_self _ _)
  have hd := r_divs (G := G) (X / 2 ^ (32 * (n / 32).toNat)) (2 ^ (n % 32).toNat) (by omega) hw
  unfold D at hd
  rw [← d32_drop] at hd
  refine FC.intro (X := XX) tok Tryz.func89 rfl Tryz.ntmps89 (by rw [Tryz.results89]) (by kernel_rfl) rfl ?_; intro F hG hO
  rw [← hG] at hd
  repeat' ((try (conv => whnf)); first
  | (with_reducible refine shl1_g (.inl rfl) (by dsimp only [IntKind.bits]; omega) ?_)
  | ((with_reducible refine cg ?_); refine call_eq (r_normN X (by omega)) (LpL.refl _) rfl ?_)
  | ((with_reducible refine cg ?_); refine call_eq (r_word 0 (by decide)) (LpL.refl _) rfl ?_)
  | ((with_reducible refine cg ?_); refine call_eq hd (LpL.refl _) rfl ?_)
  
  | (with_reducible refine draw_g (id := 5) [[0, 1, 2, 3, 4, 5, 6, 7, 8, 9, 10, 11, 12]] tok mixed (by kernel_rfl) ?_)
  | (with_reducible refine Chk.mk' (by first | omega | exact trivial | (simp only [List.length_append, List.length_set, List.length_replicate, List.length_take, List.length_drop, List.length_cons, List.length_nil, List.length_map]; omega)) ?_)
  | (with_reducible refine wrap_g (by dsimp only [inR]; omega) ?_)
  | (with_reducible refine idx_g (by omega) ?_)
  | (with_reducible refine idx_l _ rfl (by decide) ?_)
  | (with_reducible refine BothG.mk ?_ ?_)
  | (with_reducible refine fork_tt ?_) | (with_reducible refine fork_ff ?_)
  | (with_reducible refine fork_e (c := true) (by decide) ?_; with_reducible refine fork_tt ?_) | (with_reducible refine fork_e (c := false) (by decide) ?_; with_reducible refine fork_ff ?_)
  | (with_reducible refine fork_t (by omega) ?_) | (with_reducible refine fork_f (by omega) ?_)
  | (with_reducible refine fork_d ?_ ?_ <;> intro hc)
  | (with_reducible refine fork_n ?_)
  | (with_reducible refine fork_b ?_ ?_ <;> intro hc)
  | (with_reducible refine SlcG.mk (by omega) ?_)
  | (with_reducible refine MakG.mk (by dsimp only; omega) ?_)
  | (with_reducible refine AppG.mk (by first | omega | (simp only [List.length_append, List.length_set, List.length_replicate, List.length_take, List.length_drop, List.length_cons, List.length_nil, List.length_map]; omega)) (by dsimp only [List.length_cons, List.length_nil]; omega) (by omega) ?_)
  | (with_reducible refine div_g (by omega) (by omega) (by dsimp only [inR]; omega) ?_)
  | (with_reducible refine mod_g (by omega) (by omega) ?_)
  | (with_reducible refine mask_g (m := 4294967296) 32 rfl rfl (by decide) (by omega) ?_)
  | (with_reducible refine shr_g (m := 4294967296) 32 rfl (by decide) (by omega) rfl ?_)
  | (with_reducible refine fz_all (by omega) ?_)
  | (with_reducible refine Stuck.h (A := RetE _ _) ?_) | (with_reducible refine Stuck.h (A := RetM _ _ _ _) ?_) | (with_reducible refine Stuck.h (A := Again _ _ _ _ _ _ _ _) ?_) | (with_reducible refine Stuck.h (A := CallF _ _ _ _ _ _ _) ?_) | (with_reducible refine Stuck.h (A := LoopG _ _ _ _ _ _ _ _) ?_) | (with_reducible refine Stuck.h (A := DrawG _ _ _ _ _ _ _ _) ?_)
  | (with_reducible refine Stuck.h (A := WrapG _ _ _) ?_) | (with_reducible refine Stuck.h (A := DivG _ _ _ _) ?_) | (with_reducible refine Stuck.h (A := ModG _ _ _) ?_) | (with_reducible refine Stuck.h (A := ShlG _ _ _ _) ?_) | (with_reducible refine Stuck.h (A := ShrG _ _ _ _) ?_) | (with_reducible refine Stuck.h (A := BitG _ _ _ _ _) ?_)
  | (with_reducible refine Stuck.h (A := IdxG _ _ _) ?_) | (with_reducible refine Stuck.h (A := IdxL _ _ _) ?_) | (with_reducible refine Stuck.h (A := SlcG _ _ _ _ _) ?_) | (with_reducible refine Stuck.h (A := MakG _ _ _ _) ?_) | (with_reducible refine Stuck.h (A := AppG _ _ _ _ _ _ _) ?_) | (with_reducible refine Stuck.h (A := FzG _ _ _ _) ?_)
  | (with_reducible refine Stuck.h (A := RawG _) ?_) | (with_reducible refine Stuck.h (A := TabG _ _ _ _ _) ?_) | (with_reducible refine Stuck.h (A := ExtF _ _ _ _) ?_) | (with_reducible refine Stuck.h (A := Chk _ _) ?_) | (with_reducible refine Stuck.h (A := False) ?_))
  · have : n.toNat = 0 := by omega
    exact ⟨ret_e (by rw [this, Nat.pow_zero, Nat.div_one]; rfl)⟩
  · refine ⟨ret_e ?_⟩
    have h1 := L32_lt X
    have h2 : X < 2 ^ n.toNat := Nat.lt_of_lt_of_le h1 (Nat.pow_le_pow_right (by decide) (by omega))
    rw [Nat.div_eq_of_lt h2]; rfl
  · refine ⟨ret_e ?_⟩
    show D _ = D _
    congr 1
    have h3 : ((2 : Int) ^ (n % 32).toNat) = ((2 ^ (n % 32).toNat : Nat) : Int) := by simp
    rw [h3, ← Int.natCast_ediv, Int.toNat_natCast, Nat.div_div_eq_div_mul, ← Nat.pow_add]
    congr 2; omega
theorem r_bits (X : Nat) (hX : L32 X ≤ 536870912) : FC Tryz.prog G 136 [D X] (· = .val (.int .i64 (bl X : Int))) := by
  have hlen : (d32 X).length = L32 X := rfl
  obtain ⟨T, hT⟩ : ∃ T : Nat, T = X / 2 ^ (32 * (L32 X - 1)) % 4294967296 := ⟨_, rfl⟩
  have hT2 : T < 4294967296 := by rw [hT]; exact Nat.mod_lt _ (by decide)
  have hrd : 0 < L32 X → rd (d32 X) ((L32 X : Int) - 1) = (T : Int) := fun h => by
    have := d32_rd X (L32 X - 1)
    rw [← hT] at this
    rw [← this]; congr 1; omega
  refine FC.intro (X := XX) tok Tryz.func136 rfl Tryz.ntmps136 (by rw [Tryz.results136]) (by kernel_rfl) rfl ?_; intro F hG hO
  repeat' ((try (conv => whnf)); first
  | ((with_reducible refine lg ?_); rw [hlen, hrd (by omega)]; refine loop_g (A := Nat) (fun k => k ≤ 32 ∧ (k = 0 ∨ 2 ^ (k - 1) ≤ T)) (fun k => 32 - k) (fun k => [(3, .val (.int .i64 (32 * ((L32 X : Int) - 1) + (k : Int)))), (4, .val (.int .u32 ((T / 2 ^ k : Nat) : Int)))]) (fun _ => []) (fun _ => []) 0 tok (fun _ => ⟨⟨trivial, trivial, trivial⟩, trivial, by simp only [List.length_nil]; omega⟩) ?_ ⟨iv_eq (by omega), iv_eq (by simp), trivial⟩ ⟨[], rfl⟩ ⟨[], rfl⟩ ?_; rotate_left; rintro k ⟨h1, h2⟩; have hk : T / 2 ^ k ≤ T := Nat.div_le_self _ _)
  
  | (with_reducible refine Chk.mk' (by first | omega | exact trivial | (simp only [List.length_append, List.length_set, List.length_replicate, List.length_take, List.length_drop, List.length_cons, List.length_nil, List.length_map]; omega)) ?_)
  | (with_reducible refine wrap_g (by dsimp only [inR]; omega) ?_)
  | (with_reducible refine idx_g (by omega) ?_)
  | (with_reducible refine idx_l _ rfl (by decide) ?_)
  | (with_reducible refine BothG.mk ?_ ?_)
  | (with_reducible refine fork_tt ?_) | (with_reducible refine fork_ff ?_)
  | (with_reducible refine fork_e (c := true) (by decide) ?_; with_reducible refine fork_tt ?_) | (with_reducible refine fork_e (c := false) (by decide) ?_; with_reducible refine fork_ff ?_)
  | (with_reducible refine fork_t (by omega) ?_) | (with_reducible refine fork_f (by omega) ?_)
  | (with_reducible refine fork_d ?_ ?_ <;> intro hc)
  | (with_reducible refine fork_n ?_)
  | (with_reducible refine fork_b ?_ ?_ <;> intro hc)
  | (with_reducible refine SlcG.mk (by omega) ?_)
  | (with_reducible refine MakG.mk (by dsimp only; omega) ?_)
  | (with_reducible refine AppG.mk (by first | omega | (simp only [List.length_append, List.length_set, List.length_replicate, List.length_take, List.length_drop, List.length_cons, List.length_nil, List.length_map]; omega)) (by dsimp only [List.length_cons, List.length_nil]; omega) (by omega) ?_)
  | (with_reducible refine div_g (by omega) (by omega) (by dsimp only [inR]; omega) ?_)
  | (with_reducible refine mod_g (by omega) (by omega) ?_)
  | (with_reducible refine mask_g (m := 4294967296) 32 rfl rfl (by decide) (by omega) ?_)
  | (with_reducible refine shr_g (m := 4294967296) 32 rfl (by decide) (by omega) rfl ?_)
  | (with_reducible refine fz_all (by omega) ?_)
  | (with_reducible refine Stuck.h (A := RetE _ _) ?_) | (with_reducible refine Stuck.h (A := RetM _ _ _ _) ?_) | (with_reducible refine Stuck.h (A := Again _ _ _ _ _ _ _ _) ?_) | (with_reducible refine Stuck.h (A := CallF _ _ _ _ _ _ _) ?_) | (with_reducible refine Stuck.h (A := LoopG _ _ _ _ _ _ _ _) ?_) | (with_reducible refine Stuck.h (A := DrawG _ _ _ _ _ _ _ _) ?_)
  | (with_reducible refine Stuck.h (A := WrapG _ _ _) ?_) | (with_reducible refine Stuck.h (A := DivG _ _ _ _) ?_) | (with_reducible refine Stuck.h (A := ModG _ _ _) ?_) | (with_reducible refine Stuck.h (A := ShlG _ _ _ _) ?_) | (with_reducible refine Stuck.h (A := ShrG _ _ _ _) ?_) | (with_reducible refine Stuck.h (A := BitG _ _ _ _ _) ?_)
  | (with_reducible refine Stuck.h (A := IdxG _ _ _) ?_) | (with_reducible refine Stuck.h (A := IdxL _ _ _) ?_) | (with_reducible refine Stuck.h (A := SlcG _ _ _ _ _) ?_) | (with_reducible refine Stuck.h (A := MakG _ _ _ _) ?_) | (with_reducible refine Stuck.h (A := AppG _ _ _ _ _ _ _) ?_) | (with_reducible refine Stuck.h (A := FzG _ _ _ _) ?_)
  | (with_reducible refine Stuck.h (A := RawG _) ?_) | (with_reducible refine Stuck.h (A := TabG _ _ _ _ _) ?_) | (with_reducible refine Stuck.h (A := ExtF _ _ _ _) ?_) | (with_reducible refine Stuck.h (A := Chk _ _) ?_) | (with_reducible refine Stuck.h (A := False) ?_))
  · have : X = 0 := (lenB_eq_zero (B := 4294967296) (by decide)).1 (by unfold L32 at hlen; omega)
    subst this
    exact ⟨ret_e rfl⟩
  · have h3 : 2 ^ k ≤ T := by
      rcases Nat.lt_or_ge T (2 ^ k) with h | h
      · rw [Nat.div_eq_of_lt h] at hc; omega
      · exact h
    have h4 : k < 32 := by
      rcases Nat.lt_or_ge k 32 with h | h
      · exact h
      · have : 2 ^ 32 ≤ 2 ^ k := Nat.pow_le_pow_right (by decide) h
        omega
    refine ⟨again (k + 1) ⟨by omega, .inr (by simpa using h3)⟩ (by omega) ⟨iv_eq (by omega), iv_eq ?_, trivial⟩ ⟨[], rfl⟩ ⟨[], rfl⟩⟩
    rw [Nat.pow_succ, ← Nat.div_div_eq_div_mul]; omega
  · have hX0 : X ≠ 0 := fun h => by subst h; rw [L32, lenB_zero] at hlen; omega
    obtain ⟨t1, t2⟩ := top32 hX0
    have hT' : T = X / 2 ^ (32 * (L32 X - 1)) := by rw [hT]; exact Nat.mod_eq_of_lt t1
    have hp : 0 < 2 ^ k := Nat.pow_pos (by decide)
    have hlt : T < 2 ^ k := by
      rcases Nat.lt_or_ge T (2 ^ k) with h | h
      · exact h
      · have := Nat.div_pos h hp; omega
    have hb : bl X = 32 * (L32 X - 1) + k := by rw [bl_top X _ t2, ← hT', bl_eq hlt h2]
    refine ⟨ret_e (iv_eq ?_)⟩
    rw [hb]
    have := lenB_pos (B := 4294967296) (by decide) hX0
    omega
  · exact ⟨by omega, .inl rfl⟩
theorem r_bit (X : Nat) (i : Int) (hX : L32 X ≤ 536870912) (hi : inR .i64 i) : FC Tryz.prog G 130 [D X, .val (.int .i64 i)] (· = .val (.int .i64 (if i < 0 then 0 else ((X / 2 ^ i.toNat % 2 : Nat) : Int)))) := by
  dsimp only [inR] at hi
  have hlen : (d32 X).length = L32 X := rfl
  obtain ⟨T, hT⟩ : ∃ T : Nat, T = X / 2 ^ (32 * (i / 32).toNat) % 4294967296 := ⟨_, rfl⟩
  have hrd : 0 ≤ i → rd (d32 X) (i / 32) = (T : Int) := fun h => by
    have := d32_rd X (i / 32).toNat
    rw [← hT] at this
    rw [← this]; congr 1; omega
  have hb := rd_bd (by decide) (d32_ok X).1 (i / 32)
  have hb2 : 0 ≤ rd (d32 X) (i / 32) / 2 ^ (i % 32).toNat ∧ rd (d32 X) (i / 32) / 2 ^ (i % 32).toNat < 4294967296 := by
    refine ⟨Int.ediv_nonneg hb.1 (by exact_mod_cast Nat.zero_le _), ?_⟩
    have := Int.ediv_le_self (2 ^ (i % 32).toNat) hb.1
    omega
  refine FC.intro (X := XX) tok Tryz.func130 rfl Tryz.ntmps130 (by rw [Tryz.results130]) (by kernel_rfl) rfl ?_; intro F hG hO
  repeat' ((try (conv => whnf)); first
  | (with_reducible refine shr_p (by omega) (by dsimp only [IntKind.bits]; omega) ?_)
  | (with_reducible refine mask32_g (m := 2) 1 rfl rfl (by decide) (by omega) ?_)
  
  | (with_reducible refine Chk.mk' (by first | omega | exact trivial | (simp only [List.length_append, List.length_set, List.length_replicate, List.length_take, List.length_drop, List.length_cons, List.length_nil, List.length_map]; omega)) ?_)
  | (with_reducible refine wrap_g (by dsimp only [inR]; omega) ?_)
  | (with_reducible refine idx_g (by omega) ?_)
  | (with_reducible refine idx_l _ rfl (by decide) ?_)
  | (with_reducible refine BothG.mk ?_ ?_)
  | (with_reducible refine fork_tt ?_) | (with_reducible refine fork_ff ?_)
  | (with_reducible refine fork_e (c := true) (by decide) ?_; with_reducible refine fork_tt ?_) | (with_reducible refine fork_e (c := false) (by decide) ?_; with_reducible refine fork_ff ?_)
  | (with_reducible refine fork_t (by omega) ?_) | (with_reducible refine fork_f (by omega) ?_)
  | (with_reducible refine fork_d ?_ ?_ <;> intro hc)
  | (with_reducible refine fork_n ?_)
  | (with_reducible refine fork_b ?_ ?_ <;> intro hc)
  | (with_reducible refine SlcG.mk (by omega) ?_)
  | (with_reducible refine MakG.mk (by dsimp only; omega) ?_)
  | (with_reducible refine AppG.mk (by first | omega | (simp only [List.length_append, List.length_set, List.length_replicate, List.length_take, List.length_drop, List.length_cons, List.length_nil, List.length_map]; omega)) (by dsimp only [List.length_cons, List.length_nil]; omega) (by omega) ?_)
  | (with_reducible refine div_g (by omega) (by omega) (by dsimp only [inR]; omega) ?_)
  | (with_reducible refine mod_g (by omega) (by omega) ?_)
  | (with_reducible refine mask_g (m := 4294967296) 32 rfl rfl (by decide) (by omega) ?_)
  | (with_reducible refine shr_g (m := 4294967296) 32 rfl (by decide) (by omega) rfl ?_)
  | (with_reducible refine fz_all (by omega) ?_)
  | (with_reducible refine Stuck.h (A := RetE _ _) ?_) | (with_reducible refine Stuck.h (A := RetM _ _ _ _) ?_) | (with_reducible refine Stuck.h (A := Again _ _ _ _ _ _ _ _) ?_) | (with_reducible refine Stuck.h (A := CallF _ _ _ _ _ _ _) ?_) | (with_reducible refine Stuck.h (A := LoopG _ _ _ _ _ _ _ _) ?_) | (with_reducible refine Stuck.h (A := DrawG _ _ _ _ _ _ _ _) ?_)
  | (with_reducible refine Stuck.h (A := WrapG _ _ _) ?_) | (with_reducible refine Stuck.h (A := DivG _ _ _ _) ?_) | (with_reducible refine Stuck.h (A := ModG _ _ _) ?_) | (with_reducible refine Stuck.h (A := ShlG _ _ _ _) ?_) | (with_reducible refine Stuck.h (A := ShrG _ _ _ _) ?_) | (with_reducible refine Stuck.h (A := BitG _ _ _ _ _) ?_)
  | (with_reducible refine Stuck.h (A := IdxG _ _ _) ?_) | (with_reducible refine Stuck.h (A := IdxL _ _ _) ?_) | (with_reducible refine Stuck.h (A := SlcG _ _ _ _ _) ?_) | (with_reducible refine Stuck.h (A := MakG _ _ _ _) ?_) | (with_reducible refine Stuck.h (A := AppG _ _ _ _ _ _ _) ?_) | (with_reducible refine Stuck.h (A := FzG _ _ _ _) ?_)
  | (with_reducible refine Stuck.h (A := RawG _) ?_) | (with_reducible refine Stuck.h (A := TabG _ _ _ _ _) ?_) | (with_reducible refine Stuck.h (A := ExtF _ _ _ _) ?_) | (with_reducible refine Stuck.h (A := Chk _ _) ?_) | (with_reducible refine Stuck.h (A := False) ?_))
  · exact ⟨ret_e (by rw [if_pos hc])⟩
  · refine ⟨ret_e ?_⟩
    have h1 := L32_lt X
    have h2 : X < 2 ^ i.toNat := Nat.lt_of_lt_of_le h1 (Nat.pow_le_pow_right (by decide) (by omega))
    rw [if_neg (by assumption), Nat.div_eq_of_lt h2]; rfl
  · refine ⟨ret_e (iv_eq ?_)⟩
    have h4 : ¬ i < 0 := by assumption
    rw [if_neg h4, hrd (by omega), hT]
    have h3 : ((2 : Int) ^ (i % 32).toNat) = ((2 ^ (i % 32).toNat : Nat) : Int) := by simp
    rw [h3]
    have := bit_in X (32 * (i / 32).toNat) (i % 32).toNat 32 (by omega)
    rw [show 32 * (i / 32).toNat + (i % 32).toNat = i.toNat by omega] at this
    rw [← this]
    simp
end Go.Proofs.YtbeocnjlepcglaaGreatDoor.Sim
namespace Go.Proofs.YtbeocnjlepcglaaGreatDoor.Sim
open Go.RowKit
set_option linter.unusedVariables false
set_option linter.unusedSimpArgs false
set_option maxRecDepth 10000
set_option maxHeartbeats 4000000
variable {G : List (Nat × List Value)}
/-- A natural, as the program holds it. -/
def N64 (n : Nat) : PV := .ws .u64 (d64 n)
theorem low_val (X k r : Nat) (h : r < 32) : X % 2 ^ (32 * k) + 2 ^ (32 * k) * (X / 2 ^ (32 * k) % 4294967296 % 2 ^ r) = X % 2 ^ (32 * k + r) := by
  have e : X / 2 ^ (32 * k) % 4294967296 % 2 ^ r = X / 2 ^ (32 * k) % 2 ^ r := Nat.mod_mod_of_dvd _ ⟨2 ^ (32 - r), by rw [← Nat.pow_add]; rw [show r + (32 - r) = 32 by omega]⟩
  rw [e, Nat.pow_add, Nat.mod_mul]
theorem r_low (X : Nat) (n : Int) (hX : L32 X ≤ 536870912) (hn : inR .i64 n) : FC Tryz.prog G 175 [D X, .val (.int .i64 n)] (· = D (X % 2 ^ n.toNat)) := by
  dsimp only [inR] at hn
  have hlen : (d32 X).length = L32 X := rfl
  have hw := pw32 (n := (n % 32).toNat) (by omega)
  have hw0 := r_word (G := G) 0 (by decide)
  have hb := rd_bd (by decide) (d32_ok X).1 (n / 32)
  have hm1 := Int.emod_nonneg (rd (d32 X) (n / 32)) (show (2 : Int) ^ (n % 32).toNat ≠ 0 by omega)
  have hm2 := Int.emod_lt_of_pos (rd (d32 X) (n / 32)) hw.1
  have hN : 0 < n → (vl 4294967296 ((d32 X).take (n / 32).toNat)).toNat = X % 2 ^ (32 * (n / 32).toNat) := fun _ => by rw [d32_take, Int.toNat_natCast]
  have hL : L32 (vl 4294967296 ((d32 X).take (n / 32).toNat)).toNat ≤ (n / 32).toNat := by
    rw [d32_take, Int.toNat_natCast]
    exact L32_le (Nat.mod_lt _ (Nat.pow_pos (by decide)))
  have hL2 : (d32 (vl 4294967296 ((d32 X).take (n / 32).toNat)).toNat).length = L32 (vl 4294967296 ((d32 X).take (n / 32).toNat)).toNat := rfl
  refine FC.intro (X := XX) tok Tryz.func175 rfl Tryz.ntmps175 (by rw [Tryz.results175]) (by kernel_rfl) rfl ?_; intro F hG hO
  rw [← hG] at hw0
  repeat' ((try (conv => whnf)); first
  | (with_reducible refine shl1_g (.inl rfl) (by dsimp only [IntKind.bits]; omega) ?_)
  | ((with_reducible refine cg ?_); refine call_eq (r_normN X (by omega)) (LpL.refl _) rfl ?_)
  | ((with_reducible refine cg ?_); refine call_eq hw0 (LpL.refl _) rfl ?_)
  | ((with_reducible refine cg ?_); refine call_own (m := 0) (m_normD ((d32 X).take (n / 32).toNat) (by rw [List.length_take]; omega) ((d32_ok X).1.take _)) rfl rfl rfl ?_)
  | ((with_reducible refine lg ?_); refine loop_g (A := List Int) (fun s => s.length ≤ (n / 32).toNat ∧ okD 4294967296 s ∧ vl 4294967296 s = ((X % 2 ^ (32 * (n / 32).toNat) : Nat) : Int)) (fun s => (n / 32).toNat - s.length) (fun s => [(0, .ws .u32 (d32 X)), (1, .val (.int .i64 n)), (5, .arr 0 0 s.length)]) (fun _ => []) (fun s => [some ⟨1, 132, .w .u32 s⟩]) (d32 (vl 4294967296 ((d32 X).take (n / 32).toNat)).toNat) tok (fun s => ⟨⟨trivial, trivial, Nat.one_pos, trivial⟩, trivial, by simp only [List.length_cons]; omega⟩) ?_ ⟨rfl, rfl, rfl, trivial⟩ ⟨[], rfl⟩ ⟨[], rfl⟩ ?_; rotate_left; rintro s ⟨h1, h2, h3⟩)
  | ((with_reducible refine cg ?_); refine call_fz 0 (B := s ++ [rd (d32 X) (n / 32) % 2 ^ (n % 32).toNat]) rfl rfl (by simp) (by rw [List.drop_zero]; exact List.take_of_length_le (by simp)) (by omega) ?_; refine call_eq (r_normD (s ++ [rd (d32 X) (n / 32) % 2 ^ (n % 32).toNat]) (by simp only [List.length_append, List.length_cons, List.length_nil]; omega) (okD_append.2 ⟨h2, okD_cons.2 ⟨by omega, okD_nil _⟩⟩)) (LpL.refl _) rfl ?_)
  
  | (with_reducible refine draw_g (id := 8) [[0, 1, 2, 3, 4, 5, 6, 7, 8, 9, 10], [11, 12, 13]] tok mixed (by kernel_rfl) ?_)
  | (with_reducible refine Chk.mk' (by first | omega | exact trivial | (simp only [List.length_append, List.length_set, List.length_replicate, List.length_take, List.length_drop, List.length_cons, List.length_nil, List.length_map]; omega)) ?_)
  | (with_reducible refine wrap_g (by dsimp only [inR]; omega) ?_)
  | (with_reducible refine idx_g (by omega) ?_)
  | (with_reducible refine idx_l _ rfl (by decide) ?_)
  | (with_reducible refine BothG.mk ?_ ?_)
  | (with_reducible refine fork_tt ?_) | (with_reducible refine fork_ff ?_)
  | (with_reducible refine fork_e (c := true) (by decide) ?_; with_reducible refine fork_tt ?_) | (with_reducible refine fork_e (c := false) (by decide) ?_; with_reducible refine fork_ff ?_)
  | (with_reducible refine fork_t (by omega) ?_) | (with_reducible refine fork_f (by omega) ?_)
  | (with_reducible refine fork_d ?_ ?_ <;> intro hc)
  | (with_reducible refine fork_n ?_)
  | (with_reducible refine fork_b ?_ ?_ <;> intro hc)
  | (with_reducible refine SlcG.mk (by omega) ?_)
  | (with_reducible refine MakG.mk (by dsimp only; omega) ?_)
  | (with_reducible refine AppG.mk (by first | omega | (simp only [List.length_append, List.length_set, List.length_replicate, List.length_take, List.length_drop, List.length_cons, List.length_nil, List.length_map]; omega)) (by dsimp only [List.length_cons, List.length_nil]; omega) (by omega) ?_)
  | (with_reducible refine div_g (by omega) (by omega) (by dsimp only [inR]; omega) ?_)
  | (with_reducible refine mod_g (by omega) (by omega) ?_)
  | (with_reducible refine mask_g (m := 4294967296) 32 rfl rfl (by decide) (by omega) ?_)
  | (with_reducible refine shr_g (m := 4294967296) 32 rfl (by decide) (by omega) rfl ?_)
  | (with_reducible refine fz_all (by omega) ?_)
  | (with_reducible refine Stuck.h (A := RetE _ _) ?_) | (with_reducible refine Stuck.h (A := RetM _ _ _ _) ?_) | (with_reducible refine Stuck.h (A := Again _ _ _ _ _ _ _ _) ?_) | (with_reducible refine Stuck.h (A := CallF _ _ _ _ _ _ _) ?_) | (with_reducible refine Stuck.h (A := LoopG _ _ _ _ _ _ _ _) ?_) | (with_reducible refine Stuck.h (A := DrawG _ _ _ _ _ _ _ _) ?_)
  | (with_reducible refine Stuck.h (A := WrapG _ _ _) ?_) | (with_reducible refine Stuck.h (A := DivG _ _ _ _) ?_) | (with_reducible refine Stuck.h (A := ModG _ _ _) ?_) | (with_reducible refine Stuck.h (A := ShlG _ _ _ _) ?_) | (with_reducible refine Stuck.h (A := ShrG _ _ _ _) ?_) | (with_reducible refine Stuck.h (A := BitG _ _ _ _ _) ?_)
  | (with_reducible refine Stuck.h (A := IdxG _ _ _) ?_) | (with_reducible refine Stuck.h (A := IdxL _ _ _) ?_) | (with_reducible refine Stuck.h (A := SlcG _ _ _ _ _) ?_) | (with_reducible refine Stuck.h (A := MakG _ _ _ _) ?_) | (with_reducible refine Stuck.h (A := AppG _ _ _ _ _ _ _) ?_) | (with_reducible refine Stuck.h (A := FzG _ _ _ _) ?_)
  | (with_reducible refine Stuck.h (A := RawG _) ?_) | (with_reducible refine Stuck.h (A := TabG _ _ _ _ _) ?_) | (with_reducible refine Stuck.h (A := ExtF _ _ _ _) ?_) | (with_reducible refine Stuck.h (A := Chk _ _) ?_) | (with_reducible refine Stuck.h (A := False) ?_))
  · exact ⟨ret_e (by rw [show n.toNat = 0 by omega, Nat.pow_zero, Nat.mod_one]; rfl)⟩
  · refine ⟨ret_e ?_⟩
    have h1 := L32_lt X
    have h2 : X < 2 ^ n.toNat := Nat.lt_of_lt_of_le h1 (Nat.pow_le_pow_right (by decide) (by omega))
    rw [Nat.mod_eq_of_lt h2]; rfl
  · refine ⟨again (s ++ [0]) ⟨by simp only [List.length_append, List.length_cons, List.length_nil]; omega, okD_append.2 ⟨h2, okD_cons.2 ⟨by decide, okD_nil _⟩⟩, by rw [vl_snoc, h3]; simp⟩ (by simp only [List.length_append, List.length_cons, List.length_nil]; omega) ⟨rfl, rfl, ?_, trivial⟩ ⟨[], rfl⟩ ⟨[], rfl⟩⟩
    rw [List.length_append]; rfl
  · refine ⟨ret_e ?_⟩
    show D _ = D _
    congr 1
    have hs : s.length = (n / 32).toNat := by omega
    have hr := d32_rd X (n / 32).toNat
    rw [show (((n / 32).toNat : Nat) : Int) = n / 32 by omega] at hr
    have hv := low_val X (n / 32).toNat (n % 32).toNat (by omega)
    rw [show 32 * (n / 32).toNat + (n % 32).toNat = n.toNat by omega] at hv
    have h3' : ((2 : Int) ^ (n % 32).toNat) = ((2 ^ (n % 32).toNat : Nat) : Int) := by simp
    rw [vl_snoc, hs, h3, hr, h3', ← Int.natCast_emod]
    have e2 : ((4294967296 : Int) ^ (n / 32).toNat) = ((2 ^ (32 * (n / 32).toNat) : Nat) : Int) := by rw [← pow32]; simp
    rw [e2, ← Int.natCast_mul, ← Int.natCast_add, Int.toNat_natCast, hv]
  · refine ⟨by omega, (d32_ok _).1, ?_⟩
    rw [(d32_ok _).2, hN (by omega)]
theorem r_zeros (X : Nat) (hX : L32 X ≤ 536870912) : FC Tryz.prog G 88 [D X] (· = .val (.int .i64 (tz X : Int))) := by
  have hlen : (d32 X).length = L32 X := rfl
  have hL0 : L32 X = 0 → X = 0 := fun h => (lenB_eq_zero (B := 4294967296) (by decide)).1 h
  have hbl := L32_bl X
  refine FC.intro (X := XX) tok Tryz.func88 rfl Tryz.ntmps88 (by rw [Tryz.results88]) (by kernel_rfl) rfl ?_; intro F hG hO
  repeat' ((try (conv => whnf)); first
  | ((with_reducible refine cg ?_); refine call_eq (r_bit X _ (by omega) (by dsimp only [inR]; omega)) (LpL.refl _) rfl ?_)
  | ((with_reducible refine lg ?_); refine loop_g (A := Nat) (fun q => q < L32 X ∧ X % 2 ^ (32 * q) = 0) (fun q => L32 X - q) (fun q => [(0, .ws .u32 (d32 X)), (3, .val (.int .i64 (32 * (q : Int))))]) (fun _ => []) (fun _ => []) 0 tok (fun _ => ⟨⟨trivial, trivial, trivial⟩, trivial, by simp only [List.length_nil]; omega⟩) ?_ ⟨rfl, rfl, trivial⟩ ⟨[], rfl⟩ ⟨[], rfl⟩ ?_; rotate_left; rintro q ⟨h1, h2⟩)
  | ((with_reducible refine lg ?_); refine loop_g (A := Nat) (fun k => k ≤ bl X ∧ X % 2 ^ k = 0) (fun k => bl X - k) (fun k => [(0, .ws .u32 (d32 X)), (3, .val (.int .i64 (k : Int)))]) (fun _ => []) (fun _ => []) (32 * q) tok (fun _ => ⟨⟨trivial, trivial, trivial⟩, trivial, by simp only [List.length_nil]; omega⟩) ?_ ⟨rfl, iv_eq (by omega), trivial⟩ ⟨[], rfl⟩ ⟨[], rfl⟩ ?_; rotate_left; rintro k ⟨h3, h4⟩)
  
  | (with_reducible refine Chk.mk' (by first | omega | exact trivial | (simp only [List.length_append, List.length_set, List.length_replicate, List.length_take, List.length_drop, List.length_cons, List.length_nil, List.length_map]; omega)) ?_)
  | (with_reducible refine wrap_g (by dsimp only [inR]; omega) ?_)
  | (with_reducible refine idx_g (by omega) ?_)
  | (with_reducible refine idx_l _ rfl (by decide) ?_)
  | (with_reducible refine BothG.mk ?_ ?_)
  | (with_reducible refine fork_tt ?_) | (with_reducible refine fork_ff ?_)
  | (with_reducible refine fork_e (c := true) (by decide) ?_; with_reducible refine fork_tt ?_) | (with_reducible refine fork_e (c := false) (by decide) ?_; with_reducible refine fork_ff ?_)
  | (with_reducible refine fork_t (by omega) ?_) | (with_reducible refine fork_f (by omega) ?_)
  | (with_reducible refine fork_d ?_ ?_ <;> intro hc)
  | (with_reducible refine fork_n ?_)
  | (with_reducible refine fork_b ?_ ?_ <;> intro hc)
  | (with_reducible refine SlcG.mk (by omega) ?_)
  | (with_reducible refine MakG.mk (by dsimp only; omega) ?_)
  | (with_reducible refine AppG.mk (by first | omega | (simp only [List.length_append, List.length_set, List.length_replicate, List.length_take, List.length_drop, List.length_cons, List.length_nil, List.length_map]; omega)) (by dsimp only [List.length_cons, List.length_nil]; omega) (by omega) ?_)
  | (with_reducible refine div_g (by omega) (by omega) (by dsimp only [inR]; omega) ?_)
  | (with_reducible refine mod_g (by omega) (by omega) ?_)
  | (with_reducible refine mask_g (m := 4294967296) 32 rfl rfl (by decide) (by omega) ?_)
  | (with_reducible refine shr_g (m := 4294967296) 32 rfl (by decide) (by omega) rfl ?_)
  | (with_reducible refine fz_all (by omega) ?_)
  | (with_reducible refine Stuck.h (A := RetE _ _) ?_) | (with_reducible refine Stuck.h (A := RetM _ _ _ _) ?_) | (with_reducible refine Stuck.h (A := Again _ _ _ _ _ _ _ _) ?_) | (with_reducible refine Stuck.h (A := CallF _ _ _ _ _ _ _) ?_) | (with_reducible refine Stuck.h (A := LoopG _ _ _ _ _ _ _ _) ?_) | (with_reducible refine Stuck.h (A := DrawG _ _ _ _ _ _ _ _) ?_)
  | (with_reducible refine Stuck.h (A := WrapG _ _ _) ?_) | (with_reducible refine Stuck.h (A := DivG _ _ _ _) ?_) | (with_reducible refine Stuck.h (A := ModG _ _ _) ?_) | (with_reducible refine Stuck.h (A := ShlG _ _ _ _) ?_) | (with_reducible refine Stuck.h (A := ShrG _ _ _ _) ?_) | (with_reducible refine Stuck.h (A := BitG _ _ _ _ _) ?_)
  | (with_reducible refine Stuck.h (A := IdxG _ _ _) ?_) | (with_reducible refine Stuck.h (A := IdxL _ _ _) ?_) | (with_reducible refine Stuck.h (A := SlcG _ _ _ _ _) ?_) | (with_reducible refine Stuck.h (A := MakG _ _ _ _) ?_) | (with_reducible refine Stuck.h (A := AppG _ _ _ _ _ _ _) ?_) | (with_reducible refine Stuck.h (A := FzG _ _ _ _) ?_)
  | (with_reducible refine Stuck.h (A := RawG _) ?_) | (with_reducible refine Stuck.h (A := TabG _ _ _ _ _) ?_) | (with_reducible refine Stuck.h (A := ExtF _ _ _ _) ?_) | (with_reducible refine Stuck.h (A := Chk _ _) ?_) | (with_reducible refine Stuck.h (A := False) ?_))
  · have h0 := hL0 (by omega)
    subst h0
    exact ⟨ret_e (by rw [tz_zero]; rfl)⟩
  · have hX0 : X ≠ 0 := fun h => by subst h; rw [L32, lenB_zero] at h1; omega
    have hr := d32_rd X q
    rw [show 32 * (q : Int) / 32 = (q : Int) by omega, hr] at hc
    have h5 := mod_step X (32 * q) 32 h2 (by have : (2 : Nat) ^ 32 = 4294967296 := by decide
                                             rw [this]; omega)
    have h6 := pow_le_of_mod hX0 h5
    have h7 : q + 1 < L32 X := lenB_ge (by decide) (by rw [pow32]; exact h6)
    exact ⟨again (q + 1) ⟨h7, h5⟩ (by first | omega | (dsimp only; omega) | (simp only [id]; omega)) ⟨rfl, iv_eq (by omega), trivial⟩ ⟨[], rfl⟩ ⟨[], rfl⟩⟩
  · have hX0 : X ≠ 0 := fun h => by subst h; rw [L32, lenB_zero] at h1; omega
    rw [if_neg (by omega), Int.toNat_natCast] at hc
    have h5 := mod_step X k 1 h4 (by rw [Nat.pow_one]; omega)
    have h6 := bl_ge (pow_le_of_mod hX0 h5)
    exact ⟨again (k + 1) ⟨by omega, h5⟩ (by first | omega | (dsimp only; omega) | (simp only [id]; omega)) ⟨rfl, iv_eq (by omega), trivial⟩ ⟨[], rfl⟩ ⟨[], rfl⟩⟩
  · rw [if_neg (by omega), Int.toNat_natCast] at hc
    have h5 := Nat.div_add_mod X (2 ^ k)
    rw [h4, Nat.add_zero, Nat.mul_comm] at h5
    exact ⟨ret_e (by rw [tz_eq h5.symm (by omega)])⟩
  · have hX0 : X ≠ 0 := fun h => by subst h; rw [L32, lenB_zero] at h1; omega
    exact ⟨Nat.le_of_lt (bl_ge (pow_le_of_mod hX0 h2)), h2⟩
  · exact ⟨by omega, by rw [Nat.mul_zero, Nat.pow_zero, Nat.mod_one]⟩
theorem r_to (X : Nat) (hX : L32 X ≤ 536870912) : FC Tryz.prog G 133 [D X] (· = N64 X) := by
  have hlen : (d32 X).length = L32 X := rfl
  have hlen4 : (d64 X).length = L64 X := rfl
  have hb2 := L32_bl X
  have hb4 := L64_bl X
  refine FC.intro (X := XX) tok Tryz.func133 rfl Tryz.ntmps133 (by rw [Tryz.results133]) (by kernel_rfl) rfl ?_; intro F hG hO
  repeat' ((try (conv => whnf)); first
  | (with_reducible refine shl_g (m := 4294967296) 32 rfl (by decide) rfl (by dsimp only [inR]; omega) ?_)
  | ((with_reducible refine cg ?_); refine call_eq (r_normN X (by omega)) (LpL.refl _) rfl ?_)
  | ((with_reducible refine lg ?_); refine loop_g (A := Nat) (fun j => j ≤ L64 X) (fun j => L64 X - j) (fun j => [(3, .ws .u32 (d32 X)), (4, .arr 0 0 j), (5, .val (.int .i64 (2 * (j : Int))))]) (fun _ => []) (fun j => [some ⟨1, 44, .w .u64 ((d64 X).take j)⟩]) 0 tok (fun s => ⟨⟨trivial, Nat.one_pos, trivial, trivial⟩, trivial, by simp only [List.length_cons]; omega⟩) ?_ ⟨rfl, rfl, iv_eq (by omega), trivial⟩ ⟨[], rfl⟩ ⟨[], rfl⟩ ?_; rotate_left; rintro j h1; have ht : ((d64 X).take j).length = j := (by rw [List.length_take]; omega); have r0 := rd_bd (by decide) (d32_ok X).1 (2 * (j : Int)); have r1 := rd_bd (by decide) (d32_ok X).1 (2 * (j : Int) + 1))
  
  | (with_reducible refine Chk.mk' (by first | omega | exact trivial | (simp only [List.length_append, List.length_set, List.length_replicate, List.length_take, List.length_drop, List.length_cons, List.length_nil, List.length_map]; omega)) ?_)
  | (with_reducible refine wrap_g (by dsimp only [inR]; omega) ?_)
  | (with_reducible refine idx_g (by omega) ?_)
  | (with_reducible refine idx_l _ rfl (by decide) ?_)
  | (with_reducible refine BothG.mk ?_ ?_)
  | (with_reducible refine fork_tt ?_) | (with_reducible refine fork_ff ?_)
  | (with_reducible refine fork_e (c := true) (by decide) ?_; with_reducible refine fork_tt ?_) | (with_reducible refine fork_e (c := false) (by decide) ?_; with_reducible refine fork_ff ?_)
  | (with_reducible refine fork_t (by omega) ?_) | (with_reducible refine fork_f (by omega) ?_)
  | (with_reducible refine fork_d ?_ ?_ <;> intro hc)
  | (with_reducible refine fork_n ?_)
  | (with_reducible refine fork_b ?_ ?_ <;> intro hc)
  | (with_reducible refine SlcG.mk (by omega) ?_)
  | (with_reducible refine MakG.mk (by dsimp only; omega) ?_)
  | (with_reducible refine AppG.mk (by first | omega | (simp only [List.length_append, List.length_set, List.length_replicate, List.length_take, List.length_drop, List.length_cons, List.length_nil, List.length_map]; omega)) (by dsimp only [List.length_cons, List.length_nil]; omega) (by omega) ?_)
  | (with_reducible refine div_g (by omega) (by omega) (by dsimp only [inR]; omega) ?_)
  | (with_reducible refine mod_g (by omega) (by omega) ?_)
  | (with_reducible refine mask_g (m := 4294967296) 32 rfl rfl (by decide) (by omega) ?_)
  | (with_reducible refine shr_g (m := 4294967296) 32 rfl (by decide) (by omega) rfl ?_)
  | (with_reducible refine fz_all (by omega) ?_)
  | (with_reducible refine Stuck.h (A := RetE _ _) ?_) | (with_reducible refine Stuck.h (A := RetM _ _ _ _) ?_) | (with_reducible refine Stuck.h (A := Again _ _ _ _ _ _ _ _) ?_) | (with_reducible refine Stuck.h (A := CallF _ _ _ _ _ _ _) ?_) | (with_reducible refine Stuck.h (A := LoopG _ _ _ _ _ _ _ _) ?_) | (with_reducible refine Stuck.h (A := DrawG _ _ _ _ _ _ _ _) ?_)
  | (with_reducible refine Stuck.h (A := WrapG _ _ _) ?_) | (with_reducible refine Stuck.h (A := DivG _ _ _ _) ?_) | (with_reducible refine Stuck.h (A := ModG _ _ _) ?_) | (with_reducible refine Stuck.h (A := ShlG _ _ _ _) ?_) | (with_reducible refine Stuck.h (A := ShrG _ _ _ _) ?_) | (with_reducible refine Stuck.h (A := BitG _ _ _ _ _) ?_)
  | (with_reducible refine Stuck.h (A := IdxG _ _ _) ?_) | (with_reducible refine Stuck.h (A := IdxL _ _ _) ?_) | (with_reducible refine Stuck.h (A := SlcG _ _ _ _ _) ?_) | (with_reducible refine Stuck.h (A := MakG _ _ _ _) ?_) | (with_reducible refine Stuck.h (A := AppG _ _ _ _ _ _ _) ?_) | (with_reducible refine Stuck.h (A := FzG _ _ _ _) ?_)
  | (with_reducible refine Stuck.h (A := RawG _) ?_) | (with_reducible refine Stuck.h (A := TabG _ _ _ _ _) ?_) | (with_reducible refine Stuck.h (A := ExtF _ _ _ _) ?_) | (with_reducible refine Stuck.h (A := Chk _ _) ?_) | (with_reducible refine Stuck.h (A := False) ?_))
  · refine ⟨again (j + 1) (by first | omega | (dsimp only; omega) | (simp only [id]; omega)) (by omega) ⟨rfl, rfl, iv_eq (by omega), trivial⟩ ⟨[], rfl⟩ ⟨[], ?_⟩⟩
    rw [take_succ_rd _ _ (by omega), d64_two]; rfl
  · refine ⟨again (j + 1) (by first | omega | (dsimp only; omega) | (simp only [id]; omega)) (by omega) ⟨rfl, rfl, iv_eq (by omega), trivial⟩ ⟨[], rfl⟩ ⟨[], ?_⟩⟩
    have := rd_out (d32 X) (2 * j + 1) (by omega)
    rw [show ((2 * j + 1 : Nat) : Int) = 2 * (j : Int) + 1 by omega] at this
    rw [take_succ_rd _ _ (by omega), d64_two, this, Int.zero_mul, Int.add_zero]; rfl
  · refine ⟨ret_e ?_⟩
    rw [List.take_of_length_le (by omega)]; rfl
  · exact Nat.zero_le _
theorem r_from (a : List Int) (ok : okD 18446744073709551616 a) (hl : a.length ≤ 134217728) : FC Tryz.prog G 119 [.ws .u64 a] (· = D (vl 18446744073709551616 a).toNat) := by
  refine FC.intro (X := XX) tok Tryz.func119 rfl Tryz.ntmps119 (by rw [Tryz.results119]) (by kernel_rfl) rfl ?_; intro F hG hO
  repeat' ((try (conv => whnf)); first
  | ((with_reducible refine lg ?_); refine loop_g (A := Nat × List Int) (fun (i, s) => i ≤ a.length ∧ s.length = 2 * i ∧ okD 4294967296 s ∧ vl 4294967296 s = vl 18446744073709551616 (a.take i)) (fun (i, s) => a.length - i) (fun (i, s) => [(0, .ws .u64 a), (3, .arr 0 0 s.length), (4, .val (.int .i64 (i : Int)))]) (fun _ => []) (fun (i, s) => [some ⟨1, 132, .w .u32 s⟩]) (0, []) tok (fun (i, s) => ⟨⟨trivial, Nat.one_pos, trivial, trivial⟩, trivial, by simp only [List.length_cons]; omega⟩) ?_ ⟨rfl, rfl, rfl, trivial⟩ ⟨[], rfl⟩ ⟨[], rfl⟩ ?_; rotate_left; rintro ⟨i, s⟩ ⟨h1, h2, h3, h4⟩; have ra := rd_bd (by decide) ok (i : Int))
  | ((with_reducible refine cg ?_); refine call_fz 0 (B := s) rfl rfl (by omega) (by rw [List.drop_zero, List.take_length]) (by omega) ?_; refine call_eq (r_normD s (by omega) h3) (LpL.refl _) rfl ?_)
  
  | (with_reducible refine draw_g (id := 5) [[0, 1, 2, 3, 4, 5, 6, 7, 8, 9, 10, 11, 12, 13], [14, 15]] tok mixed (by kernel_rfl) ?_)
  | (with_reducible refine Chk.mk' (by first | omega | exact trivial | (simp only [List.length_append, List.length_set, List.length_replicate, List.length_take, List.length_drop, List.length_cons, List.length_nil, List.length_map]; omega)) ?_)
  | (with_reducible refine wrap_g (by dsimp only [inR]; omega) ?_)
  | (with_reducible refine idx_g (by omega) ?_)
  | (with_reducible refine idx_l _ rfl (by decide) ?_)
  | (with_reducible refine BothG.mk ?_ ?_)
  | (with_reducible refine fork_tt ?_) | (with_reducible refine fork_ff ?_)
  | (with_reducible refine fork_e (c := true) (by decide) ?_; with_reducible refine fork_tt ?_) | (with_reducible refine fork_e (c := false) (by decide) ?_; with_reducible refine fork_ff ?_)
  | (with_reducible refine fork_t (by omega) ?_) | (with_reducible refine fork_f (by omega) ?_)
  | (with_reducible refine fork_d ?_ ?_ <;> intro hc)
  | (with_reducible refine fork_n ?_)
  | (with_reducible refine fork_b ?_ ?_ <;> intro hc)
  | (with_reducible refine SlcG.mk (by omega) ?_)
  | (with_reducible refine MakG.mk (by dsimp only; omega) ?_)
  | (with_reducible refine AppG.mk (by first | omega | (simp only [List.length_append, List.length_set, List.length_replicate, List.length_take, List.length_drop, List.length_cons, List.length_nil, List.length_map]; omega)) (by dsimp only [List.length_cons, List.length_nil]; omega) (by omega) ?_)
  | (with_reducible refine div_g (by omega) (by omega) (by dsimp only [inR]; omega) ?_)
  | (with_reducible refine mod_g (by omega) (by omega) ?_)
  | (with_reducible refine mask_g (m := 4294967296) 32 rfl rfl (by decide) (by omega) ?_)
  | (with_reducible refine shr_g (m := 4294967296) 32 rfl (by decide) (by omega) rfl ?_)
  | (with_reducible refine fz_all (by omega) ?_)
  | (with_reducible refine Stuck.h (A := RetE _ _) ?_) | (with_reducible refine Stuck.h (A := RetM _ _ _ _) ?_) | (with_reducible refine Stuck.h (A := Again _ _ _ _ _ _ _ _) ?_) | (with_reducible refine Stuck.h (A := CallF _ _ _ _ _ _ _) ?_) | (with_reducible refine Stuck.h (A := LoopG _ _ _ _ _ _ _ _) ?_) | (with_reducible refine Stuck.h (A := DrawG _ _ _ _ _ _ _ _) ?_)
  | (with_reducible refine Stuck.h (A := WrapG _ _ _) ?_) | (with_reducible refine Stuck.h (A := DivG _ _ _ _) ?_) | (with_reducible refine Stuck.h (A := ModG _ _ _) ?_) | (with_reducible refine Stuck.h (A := ShlG _ _ _ _) ?_) | (with_reducible refine Stuck.h (A := ShrG _ _ _ _) ?_) | (with_reducible refine Stuck.h (A := BitG _ _ _ _ _) ?_)
  | (with_reducible refine Stuck.h (A := IdxG _ _ _) ?_) | (with_reducible refine Stuck.h (A := IdxL _ _ _) ?_) | (with_reducible refine Stuck.h (A := SlcG _ _ _ _ _) ?_) | (with_reducible refine Stuck.h (A := MakG _ _ _ _) ?_) | (with_reducible refine Stuck.h (A := AppG _ _ _ _ _ _ _) ?_) | (with_reducible refine Stuck.h (A := FzG _ _ _ _) ?_)
  | (with_reducible refine Stuck.h (A := RawG _) ?_) | (with_reducible refine Stuck.h (A := TabG _ _ _ _ _) ?_) | (with_reducible refine Stuck.h (A := ExtF _ _ _ _) ?_) | (with_reducible refine Stuck.h (A := Chk _ _) ?_) | (with_reducible refine Stuck.h (A := False) ?_))
  · have hv : vl 4294967296 (s ++ [rd a i % 4294967296, rd a i / 4294967296]) = vl 4294967296 s + 4294967296 ^ (2 * i) * (rd a i % 4294967296) + 4294967296 ^ (2 * i + 1) * (rd a i / 4294967296) := by
      rw [show s ++ [rd a i % 4294967296, rd a i / 4294967296] = (s ++ [rd a i % 4294967296]) ++ [rd a i / 4294967296] by simp, vl_snoc, vl_snoc, List.length_append, h2]; rfl
    refine ⟨again (i + 1, s ++ [rd a i % 4294967296, rd a i / 4294967296]) ⟨by omega, by simp; omega, okD_append.2 ⟨h3, okD_cons.2 ⟨by omega, okD_cons.2 ⟨by omega, okD_nil _⟩⟩⟩, ?_⟩ (by first | omega | (dsimp only; omega) | (simp only [id]; omega)) ⟨rfl, ?_, rfl, trivial⟩ ⟨[], rfl⟩ ⟨[], rfl⟩⟩
    · rw [hv, h4, vl_take_step]
      have e1 : (4294967296 : Int) ^ (2 * i + 1) = 4294967296 ^ (2 * i) * 4294967296 := Int.pow_succ ..
      have e2 : (18446744073709551616 : Int) ^ i = 4294967296 ^ (2 * i) := by rw [Int.pow_mul]; rfl
      rw [e1, e2, Int.add_assoc, Int.mul_assoc, ← Int.mul_add]
      congr 2; omega
    · rw [List.length_append]; rfl
  · exact ⟨ret_e (by rw [h4, List.take_of_length_le (by omega)]; rfl)⟩
  · exact ⟨Nat.zero_le _, rfl, okD_nil _, by simp [vl]⟩
theorem r_same (a b : List Int) (hl : a.length ≤ 1099511627776) : FC Tryz.prog G 42 [.ws .u64 a, .ws .u64 b] (· = .val (.bool (decide (a = b)))) := by
  refine FC.intro (X := XX) tok Tryz.func42 rfl Tryz.ntmps42 (by rw [Tryz.results42]) (by kernel_rfl) rfl ?_; intro F hG hO
  repeat' ((try (conv => whnf)); first
  | ((with_reducible refine lg ?_); refine loop_g (A := Nat) (fun i => i ≤ a.length ∧ a.take i = b.take i) (fun i => a.length - i) (fun i => [(0, .ws .u64 a), (1, .ws .u64 b), (5, .val (.int .i64 (i : Int)))]) (fun _ => []) (fun _ => []) 0 tok (fun _ => ⟨⟨trivial, trivial, trivial, trivial⟩, trivial, by simp only [List.length_nil]; omega⟩) ?_ ⟨rfl, rfl, rfl, trivial⟩ ⟨[], rfl⟩ ⟨[], rfl⟩ ?_; rotate_left; rintro i ⟨h1, h2⟩)
  
  | (with_reducible refine draw_g (id := 6) [[0, 1, 2, 3, 4, 5, 6, 7, 8]] tok mixed (by kernel_rfl) ?_)
  | (with_reducible refine Chk.mk' (by first | omega | exact trivial | (simp only [List.length_append, List.length_set, List.length_replicate, List.length_take, List.length_drop, List.length_cons, List.length_nil, List.length_map]; omega)) ?_)
  | (with_reducible refine wrap_g (by dsimp only [inR]; omega) ?_)
  | (with_reducible refine idx_g (by omega) ?_)
  | (with_reducible refine idx_l _ rfl (by decide) ?_)
  | (with_reducible refine BothG.mk ?_ ?_)
  | (with_reducible refine fork_tt ?_) | (with_reducible refine fork_ff ?_)
  | (with_reducible refine fork_e (c := true) (by decide) ?_; with_reducible refine fork_tt ?_) | (with_reducible refine fork_e (c := false) (by decide) ?_; with_reducible refine fork_ff ?_)
  | (with_reducible refine fork_t (by omega) ?_) | (with_reducible refine fork_f (by omega) ?_)
  | (with_reducible refine fork_d ?_ ?_ <;> intro hc)
  | (with_reducible refine fork_n ?_)
  | (with_reducible refine fork_b ?_ ?_ <;> intro hc)
  | (with_reducible refine SlcG.mk (by omega) ?_)
  | (with_reducible refine MakG.mk (by dsimp only; omega) ?_)
  | (with_reducible refine AppG.mk (by first | omega | (simp only [List.length_append, List.length_set, List.length_replicate, List.length_take, List.length_drop, List.length_cons, List.length_nil, List.length_map]; omega)) (by dsimp only [List.length_cons, List.length_nil]; omega) (by omega) ?_)
  | (with_reducible refine div_g (by omega) (by omega) (by dsimp only [inR]; omega) ?_)
  | (with_reducible refine mod_g (by omega) (by omega) ?_)
  | (with_reducible refine mask_g (m := 4294967296) 32 rfl rfl (by decide) (by omega) ?_)
  | (with_reducible refine shr_g (m := 4294967296) 32 rfl (by decide) (by omega) rfl ?_)
  | (with_reducible refine fz_all (by omega) ?_)
  | (with_reducible refine Stuck.h (A := RetE _ _) ?_) | (with_reducible refine Stuck.h (A := RetM _ _ _ _) ?_) | (with_reducible refine Stuck.h (A := Again _ _ _ _ _ _ _ _) ?_) | (with_reducible refine Stuck.h (A := CallF _ _ _ _ _ _ _) ?_) | (with_reducible refine Stuck.h (A := LoopG _ _ _ _ _ _ _ _) ?_) | (with_reducible refine Stuck.h (A := DrawG _ _ _ _ _ _ _ _) ?_)
  | (with_reducible refine Stuck.h (A := WrapG _ _ _) ?_) | (with_reducible refine Stuck.h (A := DivG _ _ _ _) ?_) | (with_reducible refine Stuck.h (A := ModG _ _ _) ?_) | (with_reducible refine Stuck.h (A := ShlG _ _ _ _) ?_) | (with_reducible refine Stuck.h (A := ShrG _ _ _ _) ?_) | (with_reducible refine Stuck.h (A := BitG _ _ _ _ _) ?_)
  | (with_reducible refine Stuck.h (A := IdxG _ _ _) ?_) | (with_reducible refine Stuck.h (A := IdxL _ _ _) ?_) | (with_reducible refine Stuck.h (A := SlcG _ _ _ _ _) ?_) | (with_reducible refine Stuck.h (A := MakG _ _ _ _) ?_) | (with_reducible refine Stuck.h (A := AppG _ _ _ _ _ _ _) ?_) | (with_reducible refine Stuck.h (A := FzG _ _ _ _) ?_)
  | (with_reducible refine Stuck.h (A := RawG _) ?_) | (with_reducible refine Stuck.h (A := TabG _ _ _ _ _) ?_) | (with_reducible refine Stuck.h (A := ExtF _ _ _ _) ?_) | (with_reducible refine Stuck.h (A := Chk _ _) ?_) | (with_reducible refine Stuck.h (A := False) ?_))
  · exact ⟨ret_e (by rw [decide_eq_false (fun e => by subst e; exact hc rfl)])⟩
  · refine ⟨ret_e ?_⟩
    rw [decide_eq_false (fun e => by subst e; exact hc rfl)]
  · refine ⟨again (i + 1) ⟨by omega, ?_⟩ (by omega) ⟨rfl, rfl, rfl, trivial⟩ ⟨[], rfl⟩ ⟨[], rfl⟩⟩
    have e : rd a (i : Int) = rd b (i : Int) := by omega
    rw [take_succ_rd _ _ (by omega), take_succ_rd _ _ (by omega), h2, e]
  · have e : a = b := by
      have h3 : a.length = b.length := by omega
      rw [List.take_of_length_le (by omega), List.take_of_length_le (by omega)] at h2
      exact h2
    exact ⟨ret_e (by rw [decide_eq_true e])⟩
  · exact ⟨Nat.zero_le _, rfl⟩
end Go.Proofs.YtbeocnjlepcglaaGreatDoor.Sim
namespace Go.Proofs.YtbeocnjlepcglaaGreatDoor.Sim
open Go.RowKit
set_option linter.unusedVariables false
set_option linter.unusedSimpArgs false
set_option maxRecDepth 10000
set_option maxHeartbeats 4000000
variable {G : List (Nat × List Value)}
/-- Digits that a place takes off: by the rest that is carried and owed. -/
theorem take_round {x s v : List Int} {w c e d c2 e2 : Int} (h6 : okD 4294967296 s) (hv : vl 4294967296 s = vl 4294967296 (x.take s.length) - w * vl 4294967296 (v.take s.length) + 4294967296 ^ s.length * (c + e)) (hd : 0 ≤ d ∧ d < 4294967296) (hT : d = rd x s.length - (c + w * rd v s.length) + 4294967296 * c2 - e + 4294967296 * e2) :
    okD 4294967296 (s ++ [d]) ∧ vl 4294967296 (s ++ [d]) = vl 4294967296 (x.take (s.length + 1)) - w * vl 4294967296 (v.take (s.length + 1)) + 4294967296 ^ (s.length + 1) * (c2 + e2) := by
  refine ⟨okD_append.2 ⟨h6, okD_cons.2 ⟨hd, okD_nil _⟩⟩, ?_⟩
  have h := sum_step (B := 4294967296) (vs := 4294967296 ^ s.length * (c + e)) (d := d) (c2 := -(c2 + e2)) (T := rd x s.length - (c + w * rd v s.length) - e) s.length (by omega)
  rw [vl_snoc, vl_take_step, vl_take_step, hv]
  have e1 : w * (vl 4294967296 (v.take s.length) + 4294967296 ^ s.length * rd v s.length) = w * vl 4294967296 (v.take s.length) + 4294967296 ^ s.length * (w * rd v s.length) := by rw [Int.mul_add, Int.mul_left_comm]
  have e2 : (4294967296 : Int) ^ s.length * (rd x s.length - (c + w * rd v s.length) - e) = 4294967296 ^ s.length * rd x s.length - 4294967296 ^ s.length * (c + e) - 4294967296 ^ s.length * (w * rd v s.length) := by
    rw [← Int.mul_sub, ← Int.mul_sub]; congr 1; omega
  rw [e2, Int.mul_neg] at h
  rw [e1]
  omega
theorem give_round {x s v : List Int} {c d c2 : Int} (h6 : okD 4294967296 s) (hv : vl 4294967296 s + 4294967296 ^ s.length * c = vl 4294967296 (x.take s.length) + vl 4294967296 (v.take s.length)) (hd : 0 ≤ d ∧ d < 4294967296) (hT : d + 4294967296 * c2 = c + rd x s.length + rd v s.length) :
    okD 4294967296 (s ++ [d]) ∧ vl 4294967296 (s ++ [d]) + 4294967296 ^ (s.length + 1) * c2 = vl 4294967296 (x.take (s.length + 1)) + vl 4294967296 (v.take (s.length + 1)) := by
  refine ⟨okD_append.2 ⟨h6, okD_cons.2 ⟨hd, okD_nil _⟩⟩, ?_⟩
  rw [vl_snoc, sum_step (T := c + rd x s.length + rd v s.length) s.length hT, vl_take_step, vl_take_step, Int.mul_add, Int.mul_add]
  omega
def DigI (x v : List Int) (w : Int) (s : List Int) (c e : Int) : Prop := s.length ≤ v.length + 1 ∧ okD 4294967296 s ∧ (0 ≤ c ∧ c < 4294967296) ∧ (0 ≤ e ∧ e ≤ 1) ∧ (s.length = v.length + 1 → c = 0) ∧ vl 4294967296 s = vl 4294967296 (x.take s.length) - w * vl 4294967296 (v.take s.length) + 4294967296 ^ s.length * (c + e)
theorem DigI.step {x v s : List Int} {w c e d e2 T : Int} (h : DigI x v w s c e) (hlt : s.length ≤ v.length) (hw : 0 ≤ w ∧ w < 4294967296) (okv : okD 4294967296 v) (hT0 : T = c + w * rd v s.length) (hd : 0 ≤ d ∧ d < 4294967296) (he2 : 0 ≤ e2 ∧ e2 ≤ 1) (hT : d = rd x s.length - T % 4294967296 - e + 4294967296 * e2) : DigI x v w (s ++ [d]) (T / 4294967296) e2 := by
  obtain ⟨h1, h2, h3, h4, h5, h6⟩ := h
  have hv := rd_bd (by decide) okv (s.length : Int)
  have hm := mul_bd2 hw hv
  have el : (s ++ [d]).length = s.length + 1 := by simp
  obtain ⟨g1, g2⟩ := take_round (x := x) (v := v) (w := w) (c := c) (e := e) (d := d) (c2 := T / 4294967296) (e2 := e2) h2 h6 hd (by omega)
  refine ⟨by omega, g1, by omega, he2, fun hl => ?_, by rw [el]; exact g2⟩
  have hs : s.length = v.length := by omega
  have hz := rd_out v s.length (by omega)
  rw [hz, Int.mul_zero, Int.add_zero] at hT0
  omega
def GivI (y v r : List Int) (c : Int) : Prop := r.length ≤ v.length + 1 ∧ okD 4294967296 r ∧ (0 ≤ c ∧ c ≤ 1) ∧ vl 4294967296 r + 4294967296 ^ r.length * c = vl 4294967296 (y.take r.length) + vl 4294967296 (v.take r.length)
theorem GivI.step {y v r : List Int} {c T : Int} (h : GivI y v r c) (hlt : r.length ≤ v.length) (oky : okD 4294967296 y) (okv : okD 4294967296 v) (hT : T = c + rd y r.length + rd v r.length) : GivI y v (r ++ [T % 4294967296]) (T / 4294967296) := by
  obtain ⟨h1, h2, h3, h4⟩ := h
  have hv := rd_bd (by decide) okv (r.length : Int)
  have hy := rd_bd (by decide) oky (r.length : Int)
  have el : (r ++ [T % 4294967296]).length = r.length + 1 := by simp
  obtain ⟨g1, g2⟩ := give_round (x := y) (v := v) (c := c) (d := T % 4294967296) (c2 := T / 4294967296) h2 h4 (by omega) (by omega)
  exact ⟨by omega, g1, by omega, by rw [el]; exact g2⟩
theorem dig_end {U V w q s B e : Int} (hV : 0 < V) (hq : q = U / V) (hle : q ≤ w) (hs : 0 ≤ s ∧ s < B) (h : s = U - w * V + B * e) (he : 0 ≤ e ∧ e ≤ 1) : (e = 0 → w = q ∧ s = U % V) ∧ (0 < e → q + 1 ≤ w) := by
  have hd := Int.mul_ediv_add_emod U V
  have hm := Int.emod_nonneg U (show V ≠ 0 by omega)
  have hm2 := Int.emod_lt_of_pos U hV
  rw [← hq] at hd
  refine ⟨fun h0 => ?_, fun h1 => ?_⟩
  · subst h0
    have : w = q := by
      rcases Int.lt_or_le q w with h2 | h2
      · exfalso
        have h3 : V * (q + 1) ≤ V * w := Int.mul_le_mul_of_nonneg_left (by omega) (by omega)
        rw [Int.mul_add] at h3
        rw [Int.mul_comm w V] at h
        omega
      · omega
    subst this
    refine ⟨rfl, ?_⟩
    rw [Int.mul_comm w V] at h
    omega
  · have he1 : e = 1 := by omega
    subst he1
    rcases Int.lt_or_le q w with h2 | h2
    · omega
    · exfalso
      have : w = q := by omega
      subst this
      rw [Int.mul_comm w V] at h
      omega
/-- The first guess is not too small. -/
theorem guess_ge {x v : List Int} {V : Int} {m : Nat} (okx : okD 4294967296 x) (okv : okD 4294967296 v) (vv : vl 4294967296 v = V) (hl : v.length = m + 1) (hx : m + 2 ≤ x.length) (hv : 0 < rd v m) (hU : vl 4294967296 (x.take (m + 2)) < 4294967296 * V) :
    vl 4294967296 (x.take (m + 2)) / V ≤ min ((rd x ((m + 1 : Nat) : Int) * 4294967296 + rd x m) / rd v m) 4294967295 := by
  have hV : 0 < V := by
    have h1 := vl_split 4294967296 v m (by omega)
    have h2 := vl_nonneg (B := 4294967296) (by decide) (okv.take m)
    rw [drop_rd v m (by omega), vl, List.drop_eq_nil_of_le (by omega)] at h1
    simp only [vl] at h1
    have h3 : 0 < (4294967296 : Int) ^ m := Int.pow_pos (by decide)
    have h4 := Int.mul_pos h3 hv
    rw [Int.mul_zero, Int.add_zero] at h1
    rw [← vv]
    omega
  have hU0 := vl_nonneg (B := 4294967296) (by decide) (okx.take (m + 2))
  obtain ⟨q, hq⟩ : ∃ q, q = vl 4294967296 (x.take (m + 2)) / V := ⟨_, rfl⟩
  have hd := Int.mul_ediv_add_emod (vl 4294967296 (x.take (m + 2))) V
  have hm := Int.emod_nonneg (vl 4294967296 (x.take (m + 2))) (show V ≠ 0 by omega)
  have hq0 : 0 ≤ q := by rw [hq]; exact Int.ediv_nonneg hU0 (by omega)
  rw [← hq] at hd ⊢
  have h1 : q ≤ 4294967295 := by
    rcases Int.lt_or_le 4294967295 q with h | h
    · exfalso
      have : V * 4294967296 ≤ V * q := Int.mul_le_mul_of_nonneg_left (by omega) (by omega)
      omega
    · exact h
  have h2 : q ≤ (rd x ((m + 1 : Nat) : Int) * 4294967296 + rd x m) / rd v m := by
    refine Int.le_ediv_of_mul_le hv ?_
    have hp : 0 < (4294967296 : Int) ^ m := Int.pow_pos (by decide)
    have a1 : 4294967296 ^ m * rd v m ≤ V := by
      have h1 := vl_split 4294967296 v m (by omega)
      have h2 := vl_nonneg (B := 4294967296) (by decide) (okv.take m)
      rw [drop_rd v m (by omega), vl, List.drop_eq_nil_of_le (by omega)] at h1
      simp only [vl] at h1
      rw [← vv]
      have : (4294967296 : Int) ^ m * (rd v m + 4294967296 * 0) = 4294967296 ^ m * rd v m := by rw [Int.mul_zero, Int.add_zero]
      omega
    have a2 : vl 4294967296 (x.take (m + 2)) < 4294967296 ^ m * (rd x ((m + 1 : Nat) : Int) * 4294967296 + rd x m + 1) := by
      have h1 := vl_take_step 4294967296 x (m + 1)
      have h2 := vl_take_step 4294967296 x m
      have h3 := vl_lt (B := 4294967296) (by decide) (okx.take m)
      rw [List.length_take, Nat.min_eq_left (by omega)] at h3
      rw [h1, h2, Int.pow_succ]
      rw [Int.mul_add, Int.mul_add, Int.mul_one]
      have e1 : (4294967296 : Int) ^ m * 4294967296 * rd x ((m + 1 : Nat) : Int) = 4294967296 ^ m * (rd x ((m + 1 : Nat) : Int) * 4294967296) := by rw [Int.mul_assoc, Int.mul_comm 4294967296]
      rw [e1]
      omega
    have a3 : q * (4294967296 ^ m * rd v m) ≤ q * V := Int.mul_le_mul_of_nonneg_left a1 hq0
    have a4 : 4294967296 ^ m * (q * rd v m) < 4294967296 ^ m * (rd x ((m + 1 : Nat) : Int) * 4294967296 + rd x m + 1) := by
      rw [Int.mul_left_comm]
      rw [Int.mul_comm V q] at hd
      omega
    have := Int.lt_of_mul_lt_mul_left a4 (Int.le_of_lt hp)
    omega
  omega
theorem m_digit (p : List Int) (lo V n : Nat) (hn : L32 V = n) (h0 : 0 < n) (hl : lo + n + 1 ≤ p.length) (hp : p.length ≤ 1073741824) (ok : okD 4294967296 p) (hU : vl 4294967296 ((p.drop lo).take (n + 1)) < 4294967296 * V) :
    PM Tryz.prog G 177 [.arr 0 lo (n + 1), D V] [⟨1, 132, .w .u32 p⟩] fun r rs => r = .val (.int .u32 (vl 4294967296 ((p.drop lo).take (n + 1)) / V)) ∧ ∃ s : List Int, s.length = n + 1 ∧ okD 4294967296 s ∧ vl 4294967296 s = vl 4294967296 ((p.drop lo).take (n + 1)) % V ∧ rs = [some ⟨1, 132, .w .u32 (ins p lo s)⟩] := by
  have hV0 : V ≠ 0 := fun h => by subst h; rw [L32, lenB_zero] at hn; omega
  have htop := top32 hV0
  obtain ⟨v, ev⟩ : ∃ v, v = d32 V := ⟨_, rfl⟩
  obtain ⟨okv, vv⟩ := d32_ok V
  have hvl : v.length = n := by rw [ev]; exact hn
  have hvt : rd v ((n - 1 : Nat) : Int) = ((V / 2 ^ (32 * (L32 V - 1)) : Nat) : Int) := by rw [ev, d32_rd, hn, Nat.mod_eq_of_lt (by rw [← hn]; exact htop.1)]
  unfold D
  rw [← ev] at okv vv
  rw [← ev]
  subst hvl
  have b1 := gd_bd (by decide) ok (lo + (v.length : Int).toNat)
  have b2 := gd_bd (by decide) ok (lo + ((v.length : Int) - 1).toNat)
  have b3 := rd_bd (by decide) okv ((v.length : Int) - 1)
  have e1 : p.getD (lo + (v.length : Int).toNat) 0 = rd (p.drop lo) (v.length : Int) := by rw [Int.toNat_natCast, gd_rd, rd_drop]
  have e2 : p.getD (lo + ((v.length : Int) - 1).toNat) 0 = rd (p.drop lo) ((v.length - 1 : Nat) : Int) := by rw [show ((v.length : Int) - 1).toNat = v.length - 1 by omega, gd_rd, rd_drop]
  have e3 : rd v ((v.length : Int) - 1) = rd v ((v.length - 1 : Nat) : Int) := by congr 1; omega
  have b4 : 0 < rd v ((v.length : Int) - 1) := by
    rw [e3, hvt]
    have := htop.2
    omega
  obtain ⟨x, hx⟩ : ∃ x, x = p.drop lo := ⟨_, rfl⟩
  have okx : okD 4294967296 x := by rw [hx]; exact ok.drop lo
  have hxl : v.length + 1 ≤ x.length := by rw [hx, List.length_drop]; omega
  rw [← hx] at hU e1 e2 ⊢
  obtain ⟨U, hUe⟩ : ∃ U, U = vl 4294967296 (x.take (v.length + 1)) := ⟨_, rfl⟩
  obtain ⟨q, hq⟩ : ∃ q, q = U / (V : Int) := ⟨_, rfl⟩
  obtain ⟨w, hw⟩ : ∃ w, w = min ((p.getD (lo + (v.length : Int).toNat) 0 * 4294967296 + p.getD (lo + ((v.length : Int) - 1).toNat) 0) / rd v ((v.length : Int) - 1)) 4294967295 := ⟨_, rfl⟩
  have hge : q ≤ w := by
    have h1 := guess_ge (m := v.length - 1) okx okv vv (by omega) (by omega) (by rw [← e3]; exact b4) (by rw [show v.length - 1 + 2 = v.length + 1 by omega]; exact hU)
    rw [show v.length - 1 + 2 = v.length + 1 by omega, show v.length - 1 + 1 = v.length by omega, ← hUe, ← hq, ← e1, ← e2, ← e3, ← hw] at h1
    exact h1
  have hU0 : 0 ≤ U := by rw [hUe]; exact vl_nonneg (by decide) (okx.take _)
  have hVp : (0 : Int) < V := by omega
  have hq0 : 0 ≤ q := by rw [hq]; exact Int.ediv_nonneg hU0 (by omega)
  have hwb : 0 ≤ w ∧ w < 4294967296 := by omega
  have hvfull : ∀ k, v.length ≤ k → vl 4294967296 (v.take k) = V := fun k hk => by rw [List.take_of_length_le hk, vv]
  rw [← hUe] at hU ⊢
  rw [← hq]
  refine PM.intro (X := XX) tok Tryz.func177 rfl Tryz.ntmps177 (by rw [Tryz.results177]) (by kernel_rfl) rfl ?_; intro F hG hO; simp only [List.length_cons, List.length_nil, Nat.zero_add, Nat.reduceAdd] at hO
  repeat' ((try (conv => whnf)); first
  | (with_reducible refine shl_g (m := 4294967296) 32 rfl (by decide) rfl (by dsimp only [inR]; omega) ?_)
  | ((with_reducible refine lg ?_); refine loop_g (A := List Int × Int) (fun (r, c) => GivI y v r c) (fun (r, c) => v.length + 1 - r.length) (fun (r, c) => [(0, .arr 0 lo (v.length + 1)), (1, .ws .u32 v), (5, .val (.int .i64 (v.length : Int))), (7, .val (.int .u64 (w2 - 1))), (8, .val (.int .u64 c)), (9, .val (.int .u64 e)), (13, .val (.int .i64 (r.length : Int)))]) (fun _ => []) (fun (r, c) => [some ⟨1, 132, .w .u32 (ins (ins p lo s) lo r)⟩]) ([], 0) tok (fun (r, c) => ⟨⟨Nat.one_pos, trivial, trivial, trivial, trivial, trivial, trivial, trivial⟩, trivial, by simp only [List.length_cons, List.length_nil]; omega⟩) ?_ ⟨rfl, rfl, rfl, rfl, rfl, rfl, rfl, trivial⟩ ⟨[], rfl⟩ ⟨[], (by dsimp only; rw [ins_nil]; rfl)⟩ ?_; rotate_left; rintro ⟨r, c⟩ kI; have kI2 := kI; obtain ⟨k1, k2, k3, k4⟩ := kI2; have ky := rd_bd (by decide) oky (r.length : Int); have kv := rd_bd (by decide) okv (r.length : Int); have kx : (ins (ins p lo s) lo r).getD (lo + (r.length : Int).toNat) 0 = rd y (r.length : Int) := (by rw [Int.toNat_natCast, ins_get (by rw [ins_len (by omega)]; omega), ← rd_drop, hy]); have kl : (ins (ins p lo s) lo r).length = p.length := (by rw [ins_len (by rw [ins_len (by omega)]; omega), ins_len (by omega)]))
  | ((with_reducible refine lg ?_); refine loop_g (A := List Int × Int × Int) (fun (s, w2, e) => s.length = v.length + 1 ∧ okD 4294967296 s ∧ (0 ≤ e ∧ e ≤ 1) ∧ (q ≤ w2 ∧ w2 < 4294967296) ∧ vl 4294967296 s = U - w2 * V + 4294967296 ^ (v.length + 1) * e) (fun (s, w2, e) => w2.toNat) (fun (s, w2, e) => [(0, .arr 0 lo (v.length + 1)), (1, .ws .u32 v), (5, .val (.int .i64 (v.length : Int))), (7, .val (.int .u64 w2)), (9, .val (.int .u64 e))]) (fun _ => []) (fun (s, w2, e) => [some ⟨1, 132, .w .u32 (ins p lo s)⟩]) (s1, w, e0) tok (fun (s, w2, e) => ⟨⟨Nat.one_pos, trivial, trivial, trivial, trivial, trivial⟩, trivial, by simp only [List.length_cons, List.length_nil]; omega⟩) ?_ ⟨rfl, rfl, rfl, rfl, rfl, trivial⟩ ⟨[], rfl⟩ ⟨[], rfl⟩ ?_; rotate_left; rintro ⟨s, w2, e⟩ ⟨j1, j2, j3, j4, j5⟩; have jb := vl_lt (B := 4294967296) (by decide) j2; have jb0 := vl_nonneg (B := 4294967296) (by decide) j2; rw [j1] at jb; have je := dig_end hVp hq j4.1 ⟨jb0, jb⟩ j5 j3; obtain ⟨y, hy⟩ : ∃ y, y = (ins p lo s).drop lo := ⟨_, rfl⟩; have oky : okD 4294967296 y := (by rw [hy]; exact (ins_okD ok j2).drop lo); have hyt : y.take s.length = s := (by rw [hy]; exact ins_mid (by omega)); have jw : 0 < e → 1 ≤ w2 := (fun h => by have := je.2 h; omega))
  | ((with_reducible refine lg ?_); refine loop_g (A := List Int × Int × Int) (fun (s, c, e) => DigI x v w s c e) (fun (s, c, e) => v.length + 1 - s.length) (fun (s, c, e) => [(0, .arr 0 lo (v.length + 1)), (1, .ws .u32 v), (5, .val (.int .i64 (v.length : Int))), (7, .val (.int .u64 w)), (8, .val (.int .u64 c)), (9, .val (.int .u64 e)), (10, .val (.int .i64 (s.length : Int)))]) (fun _ => []) (fun (s, c, e) => [some ⟨1, 132, .w .u32 (ins p lo s)⟩]) ([], 0, 0) tok (fun (s, c, e) => ⟨⟨Nat.one_pos, trivial, trivial, trivial, trivial, trivial, trivial, trivial⟩, trivial, by simp only [List.length_cons, List.length_nil]; omega⟩) ?_ ⟨rfl, rfl, rfl, iv_eq hw.symm, rfl, rfl, rfl, trivial⟩ ⟨[], rfl⟩ ⟨[], (by dsimp only; rw [ins_nil]; rfl)⟩ ?_; rotate_left; rintro ⟨s1, c0, e0⟩ iI; have iI2 := iI; obtain ⟨i1, i2, i3, i4, i5, i6⟩ := iI2; have ix := rd_bd (by decide) okx (s1.length : Int); have iv := rd_bd (by decide) okv (s1.length : Int); have im := mul_bd2 hwb iv; have ig : (ins p lo s1).getD (lo + (s1.length : Int).toNat) 0 = rd x (s1.length : Int) := (by rw [Int.toNat_natCast, ins_get (by omega), ← rd_drop, hx]); have il : (ins p lo s1).length = p.length := ins_len (by omega))
  
  | (with_reducible refine draw_g (id := 2) [[0, 1, 2, 3, 4, 5, 6, 7, 8, 9, 10, 11, 12, 13]] tok mixed (by kernel_rfl) ?_)
  | (with_reducible refine Chk.mk' (by first | omega | exact trivial | (simp only [List.length_append, List.length_set, List.length_replicate, List.length_take, List.length_drop, List.length_cons, List.length_nil, List.length_map]; omega)) ?_)
  | (with_reducible refine wrap_g (by dsimp only [inR]; omega) ?_)
  | (with_reducible refine idx_g (by omega) ?_)
  | (with_reducible refine idx_l _ rfl (by decide) ?_)
  | (with_reducible refine BothG.mk ?_ ?_)
  | (with_reducible refine fork_tt ?_) | (with_reducible refine fork_ff ?_)
  | (with_reducible refine fork_e (c := true) (by decide) ?_; with_reducible refine fork_tt ?_) | (with_reducible refine fork_e (c := false) (by decide) ?_; with_reducible refine fork_ff ?_)
  | (with_reducible refine fork_t (by omega) ?_) | (with_reducible refine fork_f (by omega) ?_)
  | (with_reducible refine fork_d ?_ ?_ <;> intro hc)
  | (with_reducible refine fork_n ?_)
  | (with_reducible refine fork_b ?_ ?_ <;> intro hc)
  | (with_reducible refine SlcG.mk (by omega) ?_)
  | (with_reducible refine MakG.mk (by dsimp only; omega) ?_)
  | (with_reducible refine AppG.mk (by first | omega | (simp only [List.length_append, List.length_set, List.length_replicate, List.length_take, List.length_drop, List.length_cons, List.length_nil, List.length_map]; omega)) (by dsimp only [List.length_cons, List.length_nil]; omega) (by omega) ?_)
  | (with_reducible refine div_g (by omega) (by omega) (by dsimp only [inR]; omega) ?_)
  | (with_reducible refine mod_g (by omega) (by omega) ?_)
  | (with_reducible refine mask_g (m := 4294967296) 32 rfl rfl (by decide) (by omega) ?_)
  | (with_reducible refine shr_g (m := 4294967296) 32 rfl (by decide) (by omega) rfl ?_)
  | (with_reducible refine fz_all (by omega) ?_)
  | (with_reducible refine Stuck.h (A := RetE _ _) ?_) | (with_reducible refine Stuck.h (A := RetM _ _ _ _) ?_) | (with_reducible refine Stuck.h (A := Again _ _ _ _ _ _ _ _) ?_) | (with_reducible refine Stuck.h (A := CallF _ _ _ _ _ _ _) ?_) | (with_reducible refine Stuck.h (A := LoopG _ _ _ _ _ _ _ _) ?_) | (with_reducible refine Stuck.h (A := DrawG _ _ _ _ _ _ _ _) ?_)
  | (with_reducible refine Stuck.h (A := WrapG _ _ _) ?_) | (with_reducible refine Stuck.h (A := DivG _ _ _ _) ?_) | (with_reducible refine Stuck.h (A := ModG _ _ _) ?_) | (with_reducible refine Stuck.h (A := ShlG _ _ _ _) ?_) | (with_reducible refine Stuck.h (A := ShrG _ _ _ _) ?_) | (with_reducible refine Stuck.h (A := BitG _ _ _ _ _) ?_)
  | (with_reducible refine Stuck.h (A := IdxG _ _ _) ?_) | (with_reducible refine Stuck.h (A := IdxL _ _ _) ?_) | (with_reducible refine Stuck.h (A := SlcG _ _ _ _ _) ?_) | (with_reducible refine Stuck.h (A := MakG _ _ _ _) ?_) | (with_reducible refine Stuck.h (A := AppG _ _ _ _ _ _ _) ?_) | (with_reducible refine Stuck.h (A := FzG _ _ _ _) ?_)
  | (with_reducible refine Stuck.h (A := RawG _) ?_) | (with_reducible refine Stuck.h (A := TabG _ _ _ _ _) ?_) | (with_reducible refine Stuck.h (A := ExtF _ _ _ _) ?_) | (with_reducible refine Stuck.h (A := Chk _ _) ?_) | (with_reducible refine Stuck.h (A := False) ?_))
  · refine ⟨again (s1 ++ [((ins p lo s1).getD (lo + (s1.length : Int).toNat) 0 + 4294967296 - ((c0 + w * rd v (s1.length : Int)) % 4294967296 + e0))], _, 1) (DigI.step iI (by omega) hwb okv rfl (d := ((ins p lo s1).getD (lo + (s1.length : Int).toNat) 0 + 4294967296 - ((c0 + w * rd v (s1.length : Int)) % 4294967296 + e0))) (by omega) (by omega) (by omega)) (by simp only [List.length_append, List.length_cons, List.length_nil]; omega) ⟨rfl, rfl, rfl, rfl, rfl, rfl, iv_eq (by simp), trivial⟩ ⟨[], rfl⟩ ⟨[], ?_⟩⟩
    have hset := ins_set (p := p) (s := s1) (lo := lo) ((ins p lo s1).getD (lo + (s1.length : Int).toNat) 0 + 4294967296 - ((c0 + w * rd v (s1.length : Int)) % 4294967296 + e0)) (by omega)
    dsimp only
    rw [← hset]; rfl
  · refine ⟨again (s1 ++ [((ins p lo s1).getD (lo + (s1.length : Int).toNat) 0 - ((c0 + w * rd v (s1.length : Int)) % 4294967296 + e0))], _, 0) (DigI.step iI (by omega) hwb okv rfl (d := ((ins p lo s1).getD (lo + (s1.length : Int).toNat) 0 - ((c0 + w * rd v (s1.length : Int)) % 4294967296 + e0))) (by omega) (by omega) (by omega)) (by simp only [List.length_append, List.length_cons, List.length_nil]; omega) ⟨rfl, rfl, rfl, rfl, rfl, rfl, iv_eq (by simp), trivial⟩ ⟨[], rfl⟩ ⟨[], ?_⟩⟩
    have hset := ins_set (p := p) (s := s1) (lo := lo) ((ins p lo s1).getD (lo + (s1.length : Int).toNat) 0 - ((c0 + w * rd v (s1.length : Int)) % 4294967296 + e0)) (by omega)
    dsimp only
    rw [← hset]; rfl
  · refine ⟨again (s1 ++ [((ins p lo s1).getD (lo + (s1.length : Int).toNat) 0 + 4294967296 - (c0 % 4294967296 + e0))], _, 1) (DigI.step iI (by omega) hwb okv (by rw [rd_out v s1.length (by omega)]; omega) (d := ((ins p lo s1).getD (lo + (s1.length : Int).toNat) 0 + 4294967296 - (c0 % 4294967296 + e0))) (by omega) (by omega) (by omega)) (by simp only [List.length_append, List.length_cons, List.length_nil]; omega) ⟨rfl, rfl, rfl, rfl, rfl, rfl, iv_eq (by simp), trivial⟩ ⟨[], rfl⟩ ⟨[], ?_⟩⟩
    have hset := ins_set (p := p) (s := s1) (lo := lo) ((ins p lo s1).getD (lo + (s1.length : Int).toNat) 0 + 4294967296 - (c0 % 4294967296 + e0)) (by omega)
    dsimp only
    rw [← hset]; rfl
  · refine ⟨again (s1 ++ [((ins p lo s1).getD (lo + (s1.length : Int).toNat) 0 - (c0 % 4294967296 + e0))], _, 0) (DigI.step iI (by omega) hwb okv (by rw [rd_out v s1.length (by omega)]; omega) (d := ((ins p lo s1).getD (lo + (s1.length : Int).toNat) 0 - (c0 % 4294967296 + e0))) (by omega) (by omega) (by omega)) (by simp only [List.length_append, List.length_cons, List.length_nil]; omega) ⟨rfl, rfl, rfl, rfl, rfl, rfl, iv_eq (by simp), trivial⟩ ⟨[], rfl⟩ ⟨[], ?_⟩⟩
    have hset := ins_set (p := p) (s := s1) (lo := lo) ((ins p lo s1).getD (lo + (s1.length : Int).toNat) 0 - (c0 % 4294967296 + e0)) (by omega)
    dsimp only
    rw [← hset]; rfl
  · refine ⟨again (r ++ [(c + (ins (ins p lo s) lo r).getD (lo + (r.length : Int).toNat) 0 + rd v (r.length : Int)) % 4294967296], _) (GivI.step kI (by omega) oky okv (T := (c + (ins (ins p lo s) lo r).getD (lo + (r.length : Int).toNat) 0 + rd v (r.length : Int))) (by omega)) (by simp only [List.length_append, List.length_cons, List.length_nil]; omega) ⟨rfl, rfl, rfl, rfl, rfl, rfl, iv_eq (by simp), trivial⟩ ⟨[], rfl⟩ ⟨[], ?_⟩⟩
    have hset := ins_set (p := ins p lo s) (s := r) (lo := lo) ((c + (ins (ins p lo s) lo r).getD (lo + (r.length : Int).toNat) 0 + rd v (r.length : Int)) % 4294967296) (by rw [ins_len (by omega)]; omega)
    dsimp only
    rw [← hset]; rfl
  · refine ⟨again (r ++ [(c + (ins (ins p lo s) lo r).getD (lo + (r.length : Int).toNat) 0) % 4294967296], _) (GivI.step kI (by omega) oky okv (T := (c + (ins (ins p lo s) lo r).getD (lo + (r.length : Int).toNat) 0)) (by have := rd_out v r.length (by omega); omega)) (by simp only [List.length_append, List.length_cons, List.length_nil]; omega) ⟨rfl, rfl, rfl, rfl, rfl, rfl, iv_eq (by simp), trivial⟩ ⟨[], rfl⟩ ⟨[], ?_⟩⟩
    have hset := ins_set (p := ins p lo s) (s := r) (lo := lo) ((c + (ins (ins p lo s) lo r).getD (lo + (r.length : Int).toNat) 0) % 4294967296) (by rw [ins_len (by omega)]; omega)
    dsimp only
    rw [← hset]; rfl
  · have he1 : e = 1 := by omega
    have hrl : r.length = v.length + 1 := by omega
    have hq1 := je.2 (by omega)
    rw [hrl, hvfull _ (by omega), show v.length + 1 = s.length by omega, hyt] at k4
    have hc : e - min e c = 1 - c := by omega
    refine ⟨again (r, w2 - 1, e - min e c) ⟨hrl, k2, by omega, by omega, ?_⟩ (by first | omega | (dsimp only; omega) | (simp only [id]; omega)) ⟨rfl, rfl, rfl, rfl, rfl, trivial⟩ ⟨[], rfl⟩ ⟨[], ?_⟩⟩
    · rw [hc, Int.sub_mul, Int.one_mul, Int.mul_sub, Int.mul_one]
      rw [he1, Int.mul_one] at j5
      rw [j1] at k4
      omega
    · dsimp only; rw [ins_ins (by omega) (by omega)]; rfl
  · exact ⟨Nat.zero_le _, okD_nil _, by decide, by simp [vl]⟩
  · have he0 : e = 0 := by omega
    obtain ⟨f1, f2⟩ := je.1 he0
    refine ⟨ret_m [0] _ [some ⟨1, 132, .w .u32 (ins p lo s)⟩] rfl rfl (by simp) (fun i h => ?_) rfl ⟨iv_eq f1, s, j1, j2, f2, rfl⟩⟩
    have : i = 0 := by simp at h; omega
    subst this; rfl
  · have hs1 : s1.length = v.length + 1 := by omega
    have hc0 := i5 hs1
    refine ⟨hs1, i2, i4, ⟨hge, hwb.2⟩, ?_⟩
    rw [i6, hs1, hvfull _ (by omega), ← hUe, hc0, Int.zero_add]
  · exact ⟨Nat.zero_le _, okD_nil _, by decide, by decide, fun h => (by simp at h), by simp [vl]⟩
end Go.Proofs.YtbeocnjlepcglaaGreatDoor.Sim
namespace Go.Proofs.YtbeocnjlepcglaaGreatDoor.Sim
open Go.RowKit
set_option linter.unusedVariables false
set_option linter.unusedSimpArgs false
set_option maxRecDepth 10000
set_option maxHeartbeats 8000000
variable {G : List (Nat × List Value)}
/-- What is left of a list is nought, if the list is below a power. -/
theorem tail_zero {l : List Int} {k : Nat} (ok : okD 4294967296 l) (h : vl 4294967296 l < 4294967296 ^ k) : vl 4294967296 (l.drop k) = 0 := by
  rcases Nat.lt_or_ge l.length k with h1 | h1
  · rw [List.drop_eq_nil_of_le (by omega)]; rfl
  · have h2 := vl_split 4294967296 l k h1
    have h3 := vl_nonneg (B := 4294967296) (by decide) (ok.take k)
    have h4 := vl_nonneg (B := 4294967296) (by decide) (ok.drop k)
    have hp : 0 < (4294967296 : Int) ^ k := Int.pow_pos (by decide)
    rcases Int.lt_or_le 0 (vl 4294967296 (l.drop k)) with h5 | h5
    · have : 4294967296 ^ k * 1 ≤ 4294967296 ^ k * vl 4294967296 (l.drop k) := Int.mul_le_mul_of_nonneg_left (by omega) (by omega)
      omega
    · omega
theorem div_step {u q s : List Int} {V X d : Int} {j n : Nat} (oku : okD 4294967296 u) (hV : 0 < V) (hVn : V < 4294967296 ^ n) (hj : j + n + 1 ≤ u.length) (hq : j < q.length) (hr : vl 4294967296 (u.drop (j + 1)) < V)
    (hX : X = V * (4294967296 ^ (j + 1) * vl 4294967296 (q.drop (j + 1))) + vl 4294967296 u) :
    vl 4294967296 ((u.drop j).take (n + 1)) < 4294967296 * V ∧ (s.length = n + 1 → vl 4294967296 s = vl 4294967296 ((u.drop j).take (n + 1)) % V → d = vl 4294967296 ((u.drop j).take (n + 1)) / V →
      vl 4294967296 ((ins u j s).drop j) < V ∧ X = V * (4294967296 ^ j * vl 4294967296 ((q.set j d).drop j)) + vl 4294967296 (ins u j s)) := by
  have z1 := tail_zero (oku.drop (j + 1)) (Int.lt_trans hr hVn)
  rw [List.drop_drop] at z1
  have w1 := vl_split 4294967296 (u.drop j) (n + 1) (by rw [List.length_drop]; omega)
  rw [List.drop_drop, show j + (n + 1) = j + 1 + n by omega, z1, Int.mul_zero, Int.add_zero] at w1
  have w2 := drop_rd u j (by omega)
  have bu := rd_bd (by decide) oku (j : Int)
  have w3 : vl 4294967296 (u.drop j) = rd u j + 4294967296 * vl 4294967296 (u.drop (j + 1)) := by rw [w2]; rfl
  rw [← w1]
  refine ⟨by omega, fun hs hv hd => ?_⟩
  have hle : j + s.length ≤ u.length := by omega
  have i1 := ins_drop hle
  have i2 := ins_vl 4294967296 hle
  rw [hs, show j + (n + 1) = j + 1 + n by omega, z1, Int.mul_zero, Int.add_zero] at i2
  have i3 := ins_mid hle
  have i4 := vl_split 4294967296 ((ins u j s).drop j) s.length (by rw [List.length_drop, ins_len hle]; omega)
  rw [i3, List.drop_drop, i1, hs, show j + (n + 1) = j + 1 + n by omega, z1, Int.mul_zero, Int.add_zero] at i4
  have hm := Int.emod_lt_of_pos (vl 4294967296 (u.drop j)) hV
  refine ⟨by rw [i4, hv]; exact hm, ?_⟩
  have e2 : (q.set j d).drop j = d :: q.drop (j + 1) := by
    rw [List.drop_eq_getElem_cons (by simp; omega)]
    simp
    exact List.drop_set_of_lt (by omega)
  have u1 := vl_split 4294967296 u j (by omega)
  have hdm := Int.mul_ediv_add_emod (vl 4294967296 (u.drop j)) V
  rw [e2, i2]
  simp only [vl]
  rw [hX, hv]
  rw [← hd] at hdm
  rw [u1]
  have e3 : V * ((4294967296 : Int) ^ j * (d + 4294967296 * vl 4294967296 (q.drop (j + 1)))) = 4294967296 ^ j * (V * d) + V * (4294967296 ^ (j + 1) * vl 4294967296 (q.drop (j + 1))) := by
    rw [Int.mul_add, Int.mul_add, Int.mul_left_comm V, Int.pow_succ, Int.mul_assoc]
  rw [e3]
  have e4 : (4294967296 : Int) ^ j * vl 4294967296 (u.drop j) = 4294967296 ^ j * (V * d) + 4294967296 ^ j * (vl 4294967296 (u.drop j) % V) := by rw [← Int.mul_add, hdm]
  rw [e4]
  omega
def DivI (X Y s : Nat) (u q : List Int) (m : Nat) : Prop := u.length = L32 X + 1 ∧ okD 4294967296 u ∧ q.length = L32 X + 1 - L32 Y ∧ okD 4294967296 q ∧ m ≤ L32 X + 1 - L32 Y ∧ vl 4294967296 (u.drop m) < ((Y * 2 ^ s : Nat) : Int) ∧ ((X * 2 ^ s : Nat) : Int) = ((Y * 2 ^ s : Nat) : Int) * (4294967296 ^ m * vl 4294967296 (q.drop m)) + vl 4294967296 u
theorem okD_set {B : Int} {l : List Int} {i : Nat} {d : Int} (h : okD B l) (hd : 0 ≤ d ∧ d < B) : okD B (l.set i d) := fun x hx => by
  rcases List.mem_or_eq_of_mem_set hx with h1 | h1
  · exact h x h1
  · rw [h1]; exact hd
theorem DivI.step {X Y s : Nat} {u q : List Int} {m : Nat} (h : DivI X Y s u q m) (hV : 0 < ((Y * 2 ^ s : Nat) : Int)) (hVn : ((Y * 2 ^ s : Nat) : Int) < 4294967296 ^ L32 Y) (hm : 0 < m) :
    vl 4294967296 ((u.drop (m - 1)).take (L32 Y + 1)) < 4294967296 * ((Y * 2 ^ s : Nat) : Int) ∧ ∀ w d, okD 4294967296 w → w.length = L32 Y + 1 → vl 4294967296 w = vl 4294967296 ((u.drop (m - 1)).take (L32 Y + 1)) % ((Y * 2 ^ s : Nat) : Int) → d = vl 4294967296 ((u.drop (m - 1)).take (L32 Y + 1)) / ((Y * 2 ^ s : Nat) : Int) → DivI X Y s (ins u (m - 1) w) (q.set (m - 1) d) (m - 1) := by
  obtain ⟨i1, i2, i3, i4, i5, i6, i7⟩ := h
  have e : m - 1 + 1 = m := by omega
  have hst := fun w d => div_step (X := ((X * 2 ^ s : Nat) : Int)) (V := ((Y * 2 ^ s : Nat) : Int)) (s := w) (d := d) (j := m - 1) (n := L32 Y) (u := u) (q := q) i2 hV hVn (by omega) (by omega) (by rw [e]; exact i6) (by rw [e]; exact i7)
  have h1 := (hst [] 0).1
  refine ⟨h1, fun w d k1 k2 k3 k4 => ?_⟩
  obtain ⟨g1, g2⟩ := (hst w d).2 k2 k3 k4
  have hu := i2.drop (m - 1) |>.take (L32 Y + 1)
  have hd : 0 ≤ d ∧ d < 4294967296 := by
    rw [k4]
    have := vl_nonneg (B := 4294967296) (by decide) hu
    exact ⟨Int.ediv_nonneg this (Int.le_of_lt hV), Int.ediv_lt_of_lt_mul hV h1⟩
  exact ⟨by rw [ins_len (by omega), i1], ins_okD i2 k1, by rw [List.length_set, i3], okD_set i4 hd, by omega, g1, g2⟩
theorem DivI.done {X Y s : Nat} {u q : List Int} (h : DivI X Y s u q 0) (hV : 0 < ((Y * 2 ^ s : Nat) : Int)) (hVn : ((Y * 2 ^ s : Nat) : Int) < 4294967296 ^ L32 Y) (hle : L32 Y ≤ L32 X) : (vl 4294967296 q).toNat = X / Y ∧ (vl 4294967296 (u.take (L32 Y))).toNat = X % Y * 2 ^ s := by
  obtain ⟨i1, i2, i3, i4, i5, i6, i7⟩ := h
  rw [List.drop_zero] at i6 i7
  rw [Int.pow_zero, Int.one_mul] at i7
  have z := tail_zero (k := L32 Y) i2 (Int.lt_trans i6 hVn)
  have w := vl_split 4294967296 u (L32 Y) (by omega)
  rw [z, Int.mul_zero, Int.add_zero] at w
  rw [← w]
  have h0 := vl_nonneg (B := 4294967296) (by decide) i2
  have hq0 := vl_nonneg (B := 4294967296) (by decide) i4
  obtain ⟨Q, hQ⟩ := Int.eq_ofNat_of_zero_le hq0
  obtain ⟨R, hR⟩ := Int.eq_ofNat_of_zero_le h0
  rw [hQ] at i7 ⊢
  rw [hR] at i6 i7 ⊢
  simp only [Int.toNat_natCast]
  have i8 : X * 2 ^ s = Y * 2 ^ s * Q + R := by
    rw [← Int.natCast_mul, ← Int.natCast_add] at i7
    exact Int.ofNat_inj.1 i7
  have i9 : R < Y * 2 ^ s := by omega
  have hp : 0 < 2 ^ s := Nat.pow_pos (by decide)
  refine ⟨?_, ?_⟩
  · rw [← Nat.mul_div_mul_right X Y hp, i8, Nat.mul_add_div (by omega), Nat.div_eq_of_lt i9, Nat.add_zero]
  · rw [← Nat.mul_mod_mul_right, i8, Nat.mul_add_mod, Nat.mod_eq_of_lt i9]
theorem DivI.init {X Y s : Nat} {k : Nat} (hk : L32 (X * 2 ^ s) + k = L32 X + 1) (hXY : L32 Y ≤ L32 X) (h0 : 0 < L32 Y) (hlt : X * 2 ^ s < 2 ^ (32 * L32 X) * 2 ^ s) (hV : 2 ^ (32 * (L32 Y - 1)) * 2 ^ s ≤ Y * 2 ^ s) : DivI X Y s (d32 (X * 2 ^ s) ++ List.replicate k 0) (List.replicate (L32 X + 1 - L32 Y) 0) (L32 X + 1 - L32 Y) := by
  obtain ⟨ok, va⟩ := d32_ok (X * 2 ^ s)
  have hl : (d32 (X * 2 ^ s)).length = L32 (X * 2 ^ s) := rfl
  have hrep : ∀ n, okD 4294967296 (List.replicate n (0 : Int)) := fun n x hx => by rw [List.eq_of_mem_replicate hx]; decide
  have hz : ∀ n, vl 4294967296 (List.replicate n (0 : Int)) = 0 := fun n => vl_zero _ _
  have hu : vl 4294967296 (d32 (X * 2 ^ s) ++ List.replicate k 0) = ((X * 2 ^ s : Nat) : Int) := by rw [vl_append, va, hz, Int.mul_zero, Int.add_zero]
  have oku : okD 4294967296 (d32 (X * 2 ^ s) ++ List.replicate k 0) := okD_append.2 ⟨ok, hrep k⟩
  refine ⟨by simp [hl]; omega, oku, by simp, hrep _, Nat.le_refl _, ?_, ?_⟩
  · have hs := vl_split 4294967296 (d32 (X * 2 ^ s) ++ List.replicate k 0) (L32 X + 1 - L32 Y) (by simp [hl]; omega)
    rw [hu] at hs
    have h1 := vl_nonneg (B := 4294967296) (by decide) (oku.take (L32 X + 1 - L32 Y))
    obtain ⟨Z, hZ⟩ := Int.eq_ofNat_of_zero_le (vl_nonneg (B := 4294967296) (by decide) (oku.drop (L32 X + 1 - L32 Y)))
    rw [hZ] at hs ⊢
    have h2 : 4294967296 ^ (L32 X + 1 - L32 Y) * Z ≤ X * 2 ^ s := by
      have : ((4294967296 ^ (L32 X + 1 - L32 Y) * Z : Nat) : Int) ≤ ((X * 2 ^ s : Nat) : Int) := by
        rw [hs]; simp only [Int.natCast_mul, Int.natCast_pow]; exact Int.le_add_of_nonneg_left h1
      exact Int.ofNat_le.1 this
    have e : 32 * L32 X = 32 * (L32 X + 1 - L32 Y) + 32 * (L32 Y - 1) := by omega
    rw [pow32] at h2
    rw [e, Nat.pow_add, Nat.mul_assoc] at hlt
    have h3 : Z < 2 ^ (32 * (L32 Y - 1)) * 2 ^ s := Nat.lt_of_mul_lt_mul_left (Nat.lt_of_le_of_lt h2 hlt)
    omega
  · rw [List.drop_eq_nil_of_le (by simp)]
    simp only [vl]
    rw [Int.mul_zero, Int.mul_zero, Int.zero_add, hu]
theorem r_divmod (X Y : Nat) (hX : L32 X ≤ 268435456) (hY : L32 Y ≤ 268435456) : FC Tryz.prog G 176 [D X, D Y] (· = .tup [D (X / Y), D (if Y = 0 then 0 else X % Y)]) := by
  have hlx : (d32 X).length = L32 X := rfl
  have hly : (d32 Y).length = L32 Y := rfl
  obtain ⟨T, hT⟩ : ∃ T, T = Y / 2 ^ (32 * (L32 Y - 1)) := ⟨_, rfl⟩
  have hT2 : Unit → Y ≠ 0 → T < 4294967296 ∧ T ≠ 0 := fun _ h => by rw [hT]; exact top32 h
  have hTb : bl T ≤ 32 := by
    by_cases h : Y = 0
    · subst h; rw [hT, Nat.zero_div]; decide
    · exact bl_le (hT2 () h).1
  have hTl : L32 T ≤ 536870912 := by
    by_cases h : Y = 0
    · subst h; rw [hT, Nat.zero_div, L32, lenB_zero]; decide
    · exact Nat.le_trans (L32_le (n := 1) (hT2 () h).1) (by decide)
  obtain ⟨s, hs⟩ : ∃ s : Nat, s = 32 - bl T := ⟨_, rfl⟩
  have hY0 : Unit → L32 Y ≠ 0 → Y ≠ 0 := fun _ h h0 => by subst h0; exact h (lenB_zero _)
  have hV : Unit → Y ≠ 0 → Y * 2 ^ s < 2 ^ (32 * L32 Y) ∧ 2 ^ (32 * (L32 Y - 1)) * 2 ^ s ≤ Y * 2 ^ s := fun _ h => by
    have h1 := lt_bl T
    have h2 : bl Y = 32 * (L32 Y - 1) + bl T := by rw [hT]; exact bl_top Y _ (by rw [← hT]; exact (hT2 () h).2)
    have h3 := lt_bl Y
    have h4 := lenB_pos (B := 4294967296) (by decide) h
    have h5 : 0 < L32 Y := h4
    refine ⟨?_, Nat.mul_le_mul_right _ ?_⟩
    · have h6 : Y * 2 ^ s < 2 ^ bl Y * 2 ^ s := Nat.mul_lt_mul_of_pos_right h3 (Nat.pow_pos (by decide))
      rw [← Nat.pow_add] at h6
      exact Nat.lt_of_lt_of_le h6 (Nat.pow_le_pow_right (by decide) (by omega))
    · exact Nat.le_trans (Nat.pow_le_pow_right (by decide) (by have := bl_pos (hT2 () h).2; omega)) (le_of_bl h)
  have hVl : Unit → Y ≠ 0 → L32 (Y * 2 ^ s) = L32 Y := fun _ h => by
    have h1 := L32_le (hV () h).1
    have h2 : L32 Y ≤ L32 (Y * 2 ^ s) := lenB_mono (by decide) (Nat.le_mul_of_pos_right _ (Nat.pow_pos (by decide)))
    omega
  have hs32 : s ≤ 32 := by omega
  have hUlt : X * 2 ^ s < 2 ^ (32 * L32 X) * 2 ^ s := Nat.mul_lt_mul_of_pos_right (L32_lt X) (Nat.pow_pos (by decide))
  have hUl : L32 (X * 2 ^ s) ≤ L32 X + 1 := by
    apply L32_le
    rw [← Nat.pow_add] at hUlt
    exact Nat.lt_of_lt_of_le hUlt (Nat.pow_le_pow_right (by decide) (by omega))
  have hes : (32 - (bl T : Int)).toNat = s := by omega
  have hr0 : Unit → L32 Y = 1 → rd (d32 Y) 0 = (Y : Int) ∧ 0 < Y ∧ Y < 4294967296 := fun _ h => by
    have h1 := d32_rd Y 0
    have h2 := L32_lt Y
    rw [h] at h2
    have h3 := hY0 () (by omega)
    refine ⟨?_, by omega, h2⟩
    rw [show ((0 : Nat) : Int) = 0 by rfl] at h1
    rw [h1, Nat.pow_zero, Nat.div_one]
    omega
  have hcl : Unit → ¬ cmpN X Y < 0 → Y ≤ X ∧ L32 Y ≤ L32 X := fun _ h => by
    have : Y ≤ X := by
      unfold cmpN at h
      split at h
      · exact absurd (by decide) h
      · omega
    exact ⟨this, lenB_mono (by decide) this⟩
  have hVpp : Unit → Y ≠ 0 → (0 : Int) < ((Y * 2 ^ s : Nat) : Int) := fun _ h => by
    have : 0 < Y * 2 ^ s := Nat.mul_pos (by omega) (Nat.pow_pos (by decide))
    omega
  have hVpq : Unit → Y ≠ 0 → ((Y * 2 ^ s : Nat) : Int) < 4294967296 ^ L32 Y := fun _ h => by
    have h1 := (hV () h).1
    rw [← pow32] at h1
    have h2 := Int.ofNat_lt.2 h1
    simpa using h2
  have hml : Unit → L32 (X % Y * 2 ^ s) ≤ L32 X + 1 := fun _ => Nat.le_trans (lenB_mono (by decide) (Nat.mul_le_mul_right _ (Nat.mod_le _ _))) hUl
  have hcmp := r_cmp (G := G) X Y (by omega) (by omega)
  have hw0 := r_word (G := G) 0 (by decide)
  have hbits := r_bits (G := G) T hTl
  have hdr : (d32 Y).drop (L32 Y - 1) = d32 T := by rw [d32_drop, hT]
  refine FC.intro (X := XX) tok Tryz.func176 rfl Tryz.ntmps176 (by rw [Tryz.results176]) (by kernel_rfl) rfl ?_; intro F hG hO
  rw [← hG] at hcmp hw0 hbits
  repeat' ((try (conv => whnf)); first
  | ((with_reducible refine cg ?_); refine call_eq hw0 (LpL.refl _) rfl ?_)
  | ((with_reducible refine cg ?_); refine call_eq (r_word ((X : Int) % Y) (by omega)) (LpL.refl _) rfl ?_)
  | ((with_reducible refine cg ?_); refine call_eq hcmp (LpL.refl _) rfl ?_)
  | ((with_reducible refine cg ?_); refine call_eq (r_normN X (by omega)) (LpL.refl _) rfl ?_)
  | ((with_reducible refine cg ?_); have hr1 := hr0 () (by omega); have hmm := Int.emod_nonneg (X : Int) (b := (Y : Int)) (by omega); have hml := Int.emod_lt_of_pos (X : Int) (b := (Y : Int)) (by omega); rw [hr1.1]; refine call_eq (r_divs X Y (by omega) (by omega)) (LpL.refl _) rfl ?_)
  | ((with_reducible refine cg ?_); rw [hly, show ((L32 Y : Int) - 1).toNat = L32 Y - 1 by omega, hdr]; refine call_eq hbits (LpL.refl _) rfl ?_)
  | ((with_reducible refine cg ?_); refine call_eq (r_shl Y (32 - (bl T : Int)) (by omega) (by dsimp only [inR]; omega) (by omega)) (LpL.refl _) rfl ?_; rw [hes])
  | ((with_reducible refine cg ?_); refine call_own (m := 0) (m_shl X (32 - (bl T : Int)) (by omega) (by dsimp only [inR]; omega) (by omega)) rfl rfl rfl ?_; rw [hes])
  | ((with_reducible refine lg ?_); refine loop_g (A := List Int × List Int × Nat) (fun (u, q, m) => DivI X Y s u q m) (fun (u, q, m) => m) (fun (u, q, m) => [(8, .val (.int .i64 (32 - (bl T : Int)))), (9, D (Y * 2 ^ s)), (10, .arr 0 0 (L32 X + 1)), (11, .val (.int .i64 (L32 Y : Int))), (12, .arr 1 0 (L32 X + 1 - L32 Y)), (13, .val (.int .i64 ((m : Int) - 1)))]) (fun _ => []) (fun (u, q, m) => [some ⟨1, 132, .w .u32 u⟩, some ⟨1, 132, .w .u32 q⟩]) (d32 (X * 2 ^ s) ++ List.replicate k 0, List.replicate (L32 X + 1 - L32 Y) 0, L32 X + 1 - L32 Y) tok (fun (u, q, m) => ⟨⟨trivial, trivial, Nat.zero_lt_succ _, trivial, Nat.lt_succ_self 1, trivial, trivial⟩, trivial, by simp only [List.length_cons, List.length_nil]; omega⟩) ?_ ⟨rfl, rfl, congrArg (PV.arr 0 0) (by omega), iv_eq (by omega), congrArg (PV.arr 1 0) (by omega), iv_eq (by omega), trivial⟩ ⟨[], rfl⟩ ⟨[], (by rw [show (((L32 (X * 2 ^ s) + k : Nat) : Int) - ((d32 (Y * 2 ^ s)).length : Int)).toNat = L32 X + 1 - L32 Y by omega]; rfl)⟩ ?_; rotate_left; rintro ⟨u, q, m⟩ hI; have hI2 := hI; obtain ⟨i1, i2, i3, i4, i5, i6, i7⟩ := hI2)
  | ((with_reducible refine lg ?_); refine loop_g (A := Nat) (fun k => L32 (X * 2 ^ s) + k ≤ L32 X + 1) (fun k => L32 X + 1 - k) (fun k => [(0, D X), (8, .val (.int .i64 (32 - (bl T : Int)))), (9, D (Y * 2 ^ s)), (10, .arr 0 0 (L32 (X * 2 ^ s) + k))]) (fun _ => []) (fun k => [some ⟨1, 132, .w .u32 (d32 (X * 2 ^ s) ++ List.replicate k 0)⟩]) 0 tok (fun k => ⟨⟨trivial, trivial, trivial, Nat.one_pos, trivial⟩, trivial, by simp only [List.length_cons, List.length_nil]; omega⟩) ?_ ⟨rfl, rfl, rfl, rfl, trivial⟩ ⟨[], rfl⟩ ⟨[], (by simp)⟩ ?_; rotate_left; rintro k h1; have hlu : (d32 (X * 2 ^ s)).length = L32 (X * 2 ^ s) := rfl; have hlv : (d32 (Y * 2 ^ s)).length = L32 (Y * 2 ^ s) := rfl; have hYn := hVl () (hY0 () (by omega)); have hVp := hVpp () (hY0 () (by omega)); have hVq := hVpq () (hY0 () (by omega)); have hXY := hcl () (by omega))
  | ((with_reducible refine cg ?_); have hst := hI.step hVp hVq; rw [show 0 + ((m : Int) - 1).toNat = m - 1 by omega, show ((m : Int) - 1 + (L32 Y : Int) + 1).toNat - ((m : Int) - 1).toNat = L32 Y + 1 by omega]; refine call_pm [0] (m_digit u (m - 1) (Y * 2 ^ s) (L32 Y) hYn (by omega) (by omega) (by omega) i2 (hst (by omega)).1) rfl rfl rfl (by simp) ?_; rintro r rs ⟨rfl, w, j1, j2, j3, rfl⟩)
  | ((with_reducible refine cg ?_); refine call_fz 0 (B := q) rfl rfl (by omega) (by rw [List.drop_zero]; exact List.take_of_length_le (by omega)) (by omega) ?_; refine call_eq (r_normD q (by omega) i4) (LpL.refl _) rfl ?_)
  | ((with_reducible refine cg ?_); obtain rfl : m = 0 := (by omega); have hdone := hI.done hVp hVq hXY.2; refine call_fz 0 (B := u.take (L32 Y)) rfl rfl (by omega) (by rw [List.drop_zero, Int.toNat_natCast]) (by omega) ?_; refine call_eq (r_normD (u.take (L32 Y)) (by rw [List.length_take]; omega) (i2.take _)) (LpL.refl _) rfl ?_; rw [hdone.2])
  | ((with_reducible refine cg ?_); refine call_eq (r_shr (X % Y * 2 ^ s) (32 - (bl T : Int)) (by have := hml (); omega) (by dsimp only [inR]; omega)) (LpL.refl _) rfl ?_)
  
  | (with_reducible refine draw_g (id := 19) [[0, 2, 3, 4, 6, 1, 5, 7, 8, 9]] tok mixed (by kernel_rfl) ?_)
  | (with_reducible refine Chk.mk' (by first | omega | exact trivial | (simp only [List.length_append, List.length_set, List.length_replicate, List.length_take, List.length_drop, List.length_cons, List.length_nil, List.length_map]; omega)) ?_)
  | (with_reducible refine wrap_g (by dsimp only [inR]; omega) ?_)
  | (with_reducible refine idx_g (by omega) ?_)
  | (with_reducible refine idx_l _ rfl (by decide) ?_)
  | (with_reducible refine BothG.mk ?_ ?_)
  | (with_reducible refine fork_tt ?_) | (with_reducible refine fork_ff ?_)
  | (with_reducible refine fork_e (c := true) (by decide) ?_; with_reducible refine fork_tt ?_) | (with_reducible refine fork_e (c := false) (by decide) ?_; with_reducible refine fork_ff ?_)
  | (with_reducible refine fork_t (by omega) ?_) | (with_reducible refine fork_f (by omega) ?_)
  | (with_reducible refine fork_d ?_ ?_ <;> intro hc)
  | (with_reducible refine fork_n ?_)
  | (with_reducible refine fork_b ?_ ?_ <;> intro hc)
  | (with_reducible refine SlcG.mk (by omega) ?_)
  | (with_reducible refine MakG.mk (by dsimp only; omega) ?_)
  | (with_reducible refine AppG.mk (by first | omega | (simp only [List.length_append, List.length_set, List.length_replicate, List.length_take, List.length_drop, List.length_cons, List.length_nil, List.length_map]; omega)) (by dsimp only [List.length_cons, List.length_nil]; omega) (by omega) ?_)
  | (with_reducible refine div_g (by omega) (by omega) (by dsimp only [inR]; omega) ?_)
  | (with_reducible refine mod_g (by omega) (by omega) ?_)
  | (with_reducible refine mask_g (m := 4294967296) 32 rfl rfl (by decide) (by omega) ?_)
  | (with_reducible refine shr_g (m := 4294967296) 32 rfl (by decide) (by omega) rfl ?_)
  | (with_reducible refine fz_all (by omega) ?_)
  | (with_reducible refine Stuck.h (A := RetE _ _) ?_) | (with_reducible refine Stuck.h (A := RetM _ _ _ _) ?_) | (with_reducible refine Stuck.h (A := Again _ _ _ _ _ _ _ _) ?_) | (with_reducible refine Stuck.h (A := CallF _ _ _ _ _ _ _) ?_) | (with_reducible refine Stuck.h (A := LoopG _ _ _ _ _ _ _ _) ?_) | (with_reducible refine Stuck.h (A := DrawG _ _ _ _ _ _ _ _) ?_)
  | (with_reducible refine Stuck.h (A := WrapG _ _ _) ?_) | (with_reducible refine Stuck.h (A := DivG _ _ _ _) ?_) | (with_reducible refine Stuck.h (A := ModG _ _ _) ?_) | (with_reducible refine Stuck.h (A := ShlG _ _ _ _) ?_) | (with_reducible refine Stuck.h (A := ShrG _ _ _ _) ?_) | (with_reducible refine Stuck.h (A := BitG _ _ _ _ _) ?_)
  | (with_reducible refine Stuck.h (A := IdxG _ _ _) ?_) | (with_reducible refine Stuck.h (A := IdxL _ _ _) ?_) | (with_reducible refine Stuck.h (A := SlcG _ _ _ _ _) ?_) | (with_reducible refine Stuck.h (A := MakG _ _ _ _) ?_) | (with_reducible refine Stuck.h (A := AppG _ _ _ _ _ _ _) ?_) | (with_reducible refine Stuck.h (A := FzG _ _ _ _) ?_)
  | (with_reducible refine Stuck.h (A := RawG _) ?_) | (with_reducible refine Stuck.h (A := TabG _ _ _ _ _) ?_) | (with_reducible refine Stuck.h (A := ExtF _ _ _ _) ?_) | (with_reducible refine Stuck.h (A := Chk _ _) ?_) | (with_reducible refine Stuck.h (A := False) ?_))
  · have : Y = 0 := (lenB_eq_zero (B := 4294967296) (by decide)).1 (by unfold L32 at hly; omega)
    subst this
    exact ⟨ret_e (by rw [Nat.div_zero, if_pos rfl]; rfl)⟩
  · have : X < Y := by
      unfold cmpN at hc
      split at hc
      · assumption
      · split at hc <;> omega
    exact ⟨ret_e (by rw [Nat.div_eq_of_lt this, if_neg (by omega), Nat.mod_eq_of_lt this]; rfl)⟩
  · refine ⟨ret_e ?_⟩
    rw [if_neg (by omega), ← Int.natCast_ediv, ← Int.natCast_emod, Int.toNat_natCast, Int.toNat_natCast]; rfl
  · refine ⟨again (k + 1) (by omega) (by omega) ⟨rfl, rfl, rfl, rfl, trivial⟩ ⟨[], rfl⟩ ⟨[], ?_⟩⟩
    rw [List.replicate_succ', ← List.append_assoc]; rfl
  · refine ⟨again (ins u (m - 1) w, q.set (m - 1) (vl 4294967296 (List.take (L32 Y + 1) (List.drop (m - 1) u)) / ((Y * 2 ^ s : Nat) : Int)), m - 1) ((hst (by omega)).2 w _ j2 j1 j3 rfl) (by dsimp only; omega) ⟨rfl, rfl, rfl, rfl, rfl, iv_eq (by omega), trivial⟩ ⟨[], rfl⟩ ⟨[], ?_⟩⟩
    dsimp only
    rw [show 0 + ((m : Int) - 1).toNat = m - 1 by omega]; rfl
  · refine ⟨ret_e ?_⟩
    rw [hes, Nat.mul_div_cancel _ (Nat.pow_pos (by decide)), hdone.1, if_neg (hY0 () (by omega))]; rfl
  · exact DivI.init (by omega) hXY.2 (by omega) hUlt (hV () (hY0 () (by omega))).2
  · omega
end Go.Proofs.YtbeocnjlepcglaaGreatDoor.Sim
namespace Go.Proofs.YtbeocnjlepcglaaGreatDoor.Sim
open Go.RowKit
set_option linter.unusedVariables false
set_option linter.unusedSimpArgs false
set_option maxRecDepth 10000
set_option maxHeartbeats 8000000
variable {G : List (Nat × List Value)}
theorem L32_mono {x y : Nat} (h : x ≤ y) : L32 x ≤ L32 y := lenB_mono (by decide) h
theorem L32_add (x y : Nat) : L32 (x + y) ≤ max (L32 x) (L32 y) + 1 := lenB_add (by decide) x y
end Go.Proofs.YtbeocnjlepcglaaGreatDoor.Sim
namespace Go.Proofs.YtbeocnjlepcglaaGreatDoor.Sim
open Go.RowKit
set_option linter.unusedVariables false
set_option linter.unusedSimpArgs false
set_option maxRecDepth 10000
set_option maxHeartbeats 8000000
variable {G : List (Nat × List Value)}
/-- A whole number with its sign. -/
def ZI (a : Int) : PV := .agg [.val (.bool (decide (a < 0))), .ws .u32 (d32 a.natAbs)]
def LZ (a : Int) : Nat := L32 a.natAbs
def sg (b : Bool) (m : Nat) : Int := match b with
  | true => -(m : Int)
  | false => m
theorem sg_abs (b : Bool) (m : Nat) : (sg b m).natAbs = m := by cases b <;> simp [sg]
theorem L32_pos (m : Nat) : 0 < L32 m ↔ 0 < m := by
  have h := lenB_eq_zero (B := 4294967296) (by decide) (x := m)
  unfold L32
  omega
theorem zi_sg (b : Bool) (m : Nat) (c : Bool) (h : c = (b && decide (0 < m))) : PV.agg [.val (.bool c), .ws .u32 (d32 m)] = ZI (sg b m) := by
  subst h
  unfold ZI
  rw [sg_abs]
  congr 4
  cases b
  · simp only [sg, Bool.false_and]
    exact (decide_eq_false (by omega)).symm
  · simp [sg]
theorem sg_of (a : Int) : sg (decide (a < 0)) a.natAbs = a := by
  by_cases h : a < 0
  · simp only [h, decide_true, sg]; omega
  · simp only [h, decide_false, sg]; omega
theorem r_mk (b : Bool) (m : Nat) (h : L32 m ≤ 1099511627776) : FC Tryz.prog G 91 [.val (.bool b), D m] (· = ZI (sg b m)) := by
  have hl : (d32 m).length = L32 m := rfl
  have hp := L32_pos m
  cases b
  · refine FC.intro (X := XX) tok Tryz.func91 rfl Tryz.ntmps91 (by rw [Tryz.results91]) (by kernel_rfl) rfl ?_; intro F hG hO
    repeat' ((try (conv => whnf)); first
  | ((with_reducible refine cg ?_); refine call_eq (r_normN m h) (LpL.refl _) rfl ?_)
  
  | (with_reducible refine Chk.mk' (by first | omega | exact trivial | (simp only [List.length_append, List.length_set, List.length_replicate, List.length_take, List.length_drop, List.length_cons, List.length_nil, List.length_map]; omega)) ?_)
  | (with_reducible refine wrap_g (by dsimp only [inR]; omega) ?_)
  | (with_reducible refine idx_g (by omega) ?_)
  | (with_reducible refine idx_l _ rfl (by decide) ?_)
  | (with_reducible refine BothG.mk ?_ ?_)
  | (with_reducible refine fork_tt ?_) | (with_reducible refine fork_ff ?_)
  | (with_reducible refine fork_e (c := true) (by decide) ?_; with_reducible refine fork_tt ?_) | (with_reducible refine fork_e (c := false) (by decide) ?_; with_reducible refine fork_ff ?_)
  | (with_reducible refine fork_t (by omega) ?_) | (with_reducible refine fork_f (by omega) ?_)
  | (with_reducible refine fork_d ?_ ?_ <;> intro hc)
  | (with_reducible refine fork_n ?_)
  | (with_reducible refine fork_b ?_ ?_ <;> intro hc)
  | (with_reducible refine SlcG.mk (by omega) ?_)
  | (with_reducible refine MakG.mk (by dsimp only; omega) ?_)
  | (with_reducible refine AppG.mk (by first | omega | (simp only [List.length_append, List.length_set, List.length_replicate, List.length_take, List.length_drop, List.length_cons, List.length_nil, List.length_map]; omega)) (by dsimp only [List.length_cons, List.length_nil]; omega) (by omega) ?_)
  | (with_reducible refine div_g (by omega) (by omega) (by dsimp only [inR]; omega) ?_)
  | (with_reducible refine mod_g (by omega) (by omega) ?_)
  | (with_reducible refine mask_g (m := 4294967296) 32 rfl rfl (by decide) (by omega) ?_)
  | (with_reducible refine shr_g (m := 4294967296) 32 rfl (by decide) (by omega) rfl ?_)
  | (with_reducible refine fz_all (by omega) ?_)
  | (with_reducible refine Stuck.h (A := RetE _ _) ?_) | (with_reducible refine Stuck.h (A := RetM _ _ _ _) ?_) | (with_reducible refine Stuck.h (A := Again _ _ _ _ _ _ _ _) ?_) | (with_reducible refine Stuck.h (A := CallF _ _ _ _ _ _ _) ?_) | (with_reducible refine Stuck.h (A := LoopG _ _ _ _ _ _ _ _) ?_) | (with_reducible refine Stuck.h (A := DrawG _ _ _ _ _ _ _ _) ?_)
  | (with_reducible refine Stuck.h (A := WrapG _ _ _) ?_) | (with_reducible refine Stuck.h (A := DivG _ _ _ _) ?_) | (with_reducible refine Stuck.h (A := ModG _ _ _) ?_) | (with_reducible refine Stuck.h (A := ShlG _ _ _ _) ?_) | (with_reducible refine Stuck.h (A := ShrG _ _ _ _) ?_) | (with_reducible refine Stuck.h (A := BitG _ _ _ _ _) ?_)
  | (with_reducible refine Stuck.h (A := IdxG _ _ _) ?_) | (with_reducible refine Stuck.h (A := IdxL _ _ _) ?_) | (with_reducible refine Stuck.h (A := SlcG _ _ _ _ _) ?_) | (with_reducible refine Stuck.h (A := MakG _ _ _ _) ?_) | (with_reducible refine Stuck.h (A := AppG _ _ _ _ _ _ _) ?_) | (with_reducible refine Stuck.h (A := FzG _ _ _ _) ?_)
  | (with_reducible refine Stuck.h (A := RawG _) ?_) | (with_reducible refine Stuck.h (A := TabG _ _ _ _ _) ?_) | (with_reducible refine Stuck.h (A := ExtF _ _ _ _) ?_) | (with_reducible refine Stuck.h (A := Chk _ _) ?_) | (with_reducible refine Stuck.h (A := False) ?_))
    all_goals exact ⟨ret_e (zi_sg _ m _ (by simp))⟩
  · refine FC.intro (X := XX) tok Tryz.func91 rfl Tryz.ntmps91 (by rw [Tryz.results91]) (by kernel_rfl) rfl ?_; intro F hG hO
    repeat' ((try (conv => whnf)); first
  | ((with_reducible refine cg ?_); refine call_eq (r_normN m h) (LpL.refl _) rfl ?_)
  
  | (with_reducible refine Chk.mk' (by first | omega | exact trivial | (simp only [List.length_append, List.length_set, List.length_replicate, List.length_take, List.length_drop, List.length_cons, List.length_nil, List.length_map]; omega)) ?_)
  | (with_reducible refine wrap_g (by dsimp only [inR]; omega) ?_)
  | (with_reducible refine idx_g (by omega) ?_)
  | (with_reducible refine idx_l _ rfl (by decide) ?_)
  | (with_reducible refine BothG.mk ?_ ?_)
  | (with_reducible refine fork_tt ?_) | (with_reducible refine fork_ff ?_)
  | (with_reducible refine fork_e (c := true) (by decide) ?_; with_reducible refine fork_tt ?_) | (with_reducible refine fork_e (c := false) (by decide) ?_; with_reducible refine fork_ff ?_)
  | (with_reducible refine fork_t (by omega) ?_) | (with_reducible refine fork_f (by omega) ?_)
  | (with_reducible refine fork_d ?_ ?_ <;> intro hc)
  | (with_reducible refine fork_n ?_)
  | (with_reducible refine fork_b ?_ ?_ <;> intro hc)
  | (with_reducible refine SlcG.mk (by omega) ?_)
  | (with_reducible refine MakG.mk (by dsimp only; omega) ?_)
  | (with_reducible refine AppG.mk (by first | omega | (simp only [List.length_append, List.length_set, List.length_replicate, List.length_take, List.length_drop, List.length_cons, List.length_nil, List.length_map]; omega)) (by dsimp only [List.length_cons, List.length_nil]; omega) (by omega) ?_)
  | (with_reducible refine div_g (by omega) (by omega) (by dsimp only [inR]; omega) ?_)
  | (with_reducible refine mod_g (by omega) (by omega) ?_)
  | (with_reducible refine mask_g (m := 4294967296) 32 rfl rfl (by decide) (by omega) ?_)
  | (with_reducible refine shr_g (m := 4294967296) 32 rfl (by decide) (by omega) rfl ?_)
  | (with_reducible refine fz_all (by omega) ?_)
  | (with_reducible refine Stuck.h (A := RetE _ _) ?_) | (with_reducible refine Stuck.h (A := RetM _ _ _ _) ?_) | (with_reducible refine Stuck.h (A := Again _ _ _ _ _ _ _ _) ?_) | (with_reducible refine Stuck.h (A := CallF _ _ _ _ _ _ _) ?_) | (with_reducible refine Stuck.h (A := LoopG _ _ _ _ _ _ _ _) ?_) | (with_reducible refine Stuck.h (A := DrawG _ _ _ _ _ _ _ _) ?_)
  | (with_reducible refine Stuck.h (A := WrapG _ _ _) ?_) | (with_reducible refine Stuck.h (A := DivG _ _ _ _) ?_) | (with_reducible refine Stuck.h (A := ModG _ _ _) ?_) | (with_reducible refine Stuck.h (A := ShlG _ _ _ _) ?_) | (with_reducible refine Stuck.h (A := ShrG _ _ _ _) ?_) | (with_reducible refine Stuck.h (A := BitG _ _ _ _ _) ?_)
  | (with_reducible refine Stuck.h (A := IdxG _ _ _) ?_) | (with_reducible refine Stuck.h (A := IdxL _ _ _) ?_) | (with_reducible refine Stuck.h (A := SlcG _ _ _ _ _) ?_) | (with_reducible refine Stuck.h (A := MakG _ _ _ _) ?_) | (with_reducible refine Stuck.h (A := AppG _ _ _ _ _ _ _) ?_) | (with_reducible refine Stuck.h (A := FzG _ _ _ _) ?_)
  | (with_reducible refine Stuck.h (A := RawG _) ?_) | (with_reducible refine Stuck.h (A := TabG _ _ _ _ _) ?_) | (with_reducible refine Stuck.h (A := ExtF _ _ _ _) ?_) | (with_reducible refine Stuck.h (A := Chk _ _) ?_) | (with_reducible refine Stuck.h (A := False) ?_))
    all_goals exact ⟨ret_e (zi_sg _ m _ (by rw [Bool.true_and]; exact decide_eq_decide.2 (by omega)))⟩
theorem zi_neg {a : Int} (h : a < 0) : ZI a = .agg [.val (.bool true), D a.natAbs] := by unfold ZI; rw [decide_eq_true h]; rfl
theorem zi_pos {a : Int} (h : ¬ a < 0) : ZI a = .agg [.val (.bool false), D a.natAbs] := by unfold ZI; rw [decide_eq_false h]; rfl
/-- A goal by the sign of a number. -/
theorem by_sign {a : Int} {p : PV → Prop} (h1 : a < 0 → p (.agg [.val (.bool true), D a.natAbs])) (h2 : ¬ a < 0 → p (.agg [.val (.bool false), D a.natAbs])) : p (ZI a) := by
  by_cases h : a < 0
  · rw [zi_neg h]; exact h1 h
  · rw [zi_pos h]; exact h2 h
theorem zi_eq {a b : Int} (h : a = b) : ZI a = ZI b := by rw [h]
theorem len_pos (m : Nat) : (0 : Int) < ((d32 m).length : Int) ↔ 0 < m := by
  have hl : (d32 m).length = L32 m := rfl
  have hp := L32_pos m
  omega
theorem r_of (n : Int) (h : inR .i64 n) : FC Tryz.prog G 54 [.val (.int .i64 n)] (· = ZI n) := by
  dsimp only [inR] at h
  have l1 : L32 1 ≤ 1 := L32_le (by decide)
  have ln : L32 (0 - (n + 1)).toNat ≤ 2 ∨ 0 ≤ n := by
    rcases Int.lt_or_le n 0 with h1 | h1
    · exact .inl (L32_le (show (0 - (n + 1)).toNat < 2 ^ (32 * 2) by omega))
    · exact .inr h1
  have ln2 : L32 n.toNat ≤ 2 := L32_le (show n.toNat < 2 ^ (32 * 2) by omega)
  have la := L32_add (0 - (n + 1)).toNat 1
  refine FC.intro (X := XX) tok Tryz.func54 rfl Tryz.ntmps54 (by rw [Tryz.results54]) (by kernel_rfl) rfl ?_; intro F hG hO
  repeat' ((try (conv => whnf)); first
  | ((with_reducible refine cg ?_); refine call_eq (r_word (0 - (n + 1)) (by omega)) (LpL.refl _) rfl ?_)
  | ((with_reducible refine cg ?_); refine call_eq (r_word 1 (by decide)) (LpL.refl _) rfl ?_)
  | ((with_reducible refine cg ?_); refine call_eq (r_add (0 - (n + 1)).toNat 1 (by omega) (by omega)) (LpL.refl _) rfl ?_)
  | ((with_reducible refine cg ?_); refine call_eq (r_mk true ((0 - (n + 1)).toNat + 1) (by omega)) (LpL.refl _) rfl ?_)
  | ((with_reducible refine cg ?_); refine call_eq (r_word n (by omega)) (LpL.refl _) rfl ?_)
  | ((with_reducible refine cg ?_); refine call_eq (r_mk false n.toNat (by omega)) (LpL.refl _) rfl ?_)
  
  | (with_reducible refine Chk.mk' (by first | omega | exact trivial | (simp only [List.length_append, List.length_set, List.length_replicate, List.length_take, List.length_drop, List.length_cons, List.length_nil, List.length_map]; omega)) ?_)
  | (with_reducible refine wrap_g (by dsimp only [inR]; omega) ?_)
  | (with_reducible refine idx_g (by omega) ?_)
  | (with_reducible refine idx_l _ rfl (by decide) ?_)
  | (with_reducible refine BothG.mk ?_ ?_)
  | (with_reducible refine fork_tt ?_) | (with_reducible refine fork_ff ?_)
  | (with_reducible refine fork_e (c := true) (by decide) ?_; with_reducible refine fork_tt ?_) | (with_reducible refine fork_e (c := false) (by decide) ?_; with_reducible refine fork_ff ?_)
  | (with_reducible refine fork_t (by omega) ?_) | (with_reducible refine fork_f (by omega) ?_)
  | (with_reducible refine fork_d ?_ ?_ <;> intro hc)
  | (with_reducible refine fork_n ?_)
  | (with_reducible refine fork_b ?_ ?_ <;> intro hc)
  | (with_reducible refine SlcG.mk (by omega) ?_)
  | (with_reducible refine MakG.mk (by dsimp only; omega) ?_)
  | (with_reducible refine AppG.mk (by first | omega | (simp only [List.length_append, List.length_set, List.length_replicate, List.length_take, List.length_drop, List.length_cons, List.length_nil, List.length_map]; omega)) (by dsimp only [List.length_cons, List.length_nil]; omega) (by omega) ?_)
  | (with_reducible refine div_g (by omega) (by omega) (by dsimp only [inR]; omega) ?_)
  | (with_reducible refine mod_g (by omega) (by omega) ?_)
  | (with_reducible refine mask_g (m := 4294967296) 32 rfl rfl (by decide) (by omega) ?_)
  | (with_reducible refine shr_g (m := 4294967296) 32 rfl (by decide) (by omega) rfl ?_)
  | (with_reducible refine fz_all (by omega) ?_)
  | (with_reducible refine Stuck.h (A := RetE _ _) ?_) | (with_reducible refine Stuck.h (A := RetM _ _ _ _) ?_) | (with_reducible refine Stuck.h (A := Again _ _ _ _ _ _ _ _) ?_) | (with_reducible refine Stuck.h (A := CallF _ _ _ _ _ _ _) ?_) | (with_reducible refine Stuck.h (A := LoopG _ _ _ _ _ _ _ _) ?_) | (with_reducible refine Stuck.h (A := DrawG _ _ _ _ _ _ _ _) ?_)
  | (with_reducible refine Stuck.h (A := WrapG _ _ _) ?_) | (with_reducible refine Stuck.h (A := DivG _ _ _ _) ?_) | (with_reducible refine Stuck.h (A := ModG _ _ _) ?_) | (with_reducible refine Stuck.h (A := ShlG _ _ _ _) ?_) | (with_reducible refine Stuck.h (A := ShrG _ _ _ _) ?_) | (with_reducible refine Stuck.h (A := BitG _ _ _ _ _) ?_)
  | (with_reducible refine Stuck.h (A := IdxG _ _ _) ?_) | (with_reducible refine Stuck.h (A := IdxL _ _ _) ?_) | (with_reducible refine Stuck.h (A := SlcG _ _ _ _ _) ?_) | (with_reducible refine Stuck.h (A := MakG _ _ _ _) ?_) | (with_reducible refine Stuck.h (A := AppG _ _ _ _ _ _ _) ?_) | (with_reducible refine Stuck.h (A := FzG _ _ _ _) ?_)
  | (with_reducible refine Stuck.h (A := RawG _) ?_) | (with_reducible refine Stuck.h (A := TabG _ _ _ _ _) ?_) | (with_reducible refine Stuck.h (A := ExtF _ _ _ _) ?_) | (with_reducible refine Stuck.h (A := Chk _ _) ?_) | (with_reducible refine Stuck.h (A := False) ?_))
  · exact ⟨ret_e (zi_eq (a := sg true ((0 - (n + 1)).toNat + 1)) (by simp only [sg]; omega))⟩
  · exact ⟨ret_e (zi_eq (a := sg false n.toNat) (by simp only [sg]; omega))⟩
theorem r_zfrom (b : Bool) (l : List Int) (ok : okD 18446744073709551616 l) (hl : l.length ≤ 134217728) : FC Tryz.prog G 72 [.agg [.val (.bool b), .ws .u64 l]] (· = ZI (sg b (vl 18446744073709551616 l).toNat)) := by
  have hL : L32 (vl 18446744073709551616 l).toNat ≤ 268435456 := by
    obtain ⟨N, hN⟩ : ∃ N, N = 268435456 := ⟨_, rfl⟩
    rw [← hN]
    apply L32_le
    have h1 := vl_lt (B := 18446744073709551616) (by decide) ok
    have h2 := vl_nonneg (B := 18446744073709551616) (by decide) ok
    have h3 : (vl 18446744073709551616 l).toNat < 18446744073709551616 ^ l.length := by
      have h4 : ((18446744073709551616 ^ l.length : Nat) : Int) = (18446744073709551616 : Int) ^ l.length := by simp
      omega
    rw [pow64] at h3
    exact Nat.lt_of_lt_of_le h3 (Nat.pow_le_pow_right (by decide) (by omega))
  refine FC.intro (X := XX) tok Tryz.func72 rfl Tryz.ntmps72 (by rw [Tryz.results72]) (by kernel_rfl) rfl ?_; intro F hG hO
  repeat' ((try (conv => whnf)); first
  | ((with_reducible refine cg ?_); refine call_eq (r_from l ok hl) (LpL.refl _) rfl ?_)
  | ((with_reducible refine cg ?_); refine call_eq (r_mk b (vl 18446744073709551616 l).toNat (by omega)) (LpL.refl _) rfl ?_)
  
  | (with_reducible refine draw_g (id := 1) [[0, 1, 2, 3, 4, 5], [6]] tok mixed (by kernel_rfl) ?_)
  | (with_reducible refine Chk.mk' (by first | omega | exact trivial | (simp only [List.length_append, List.length_set, List.length_replicate, List.length_take, List.length_drop, List.length_cons, List.length_nil, List.length_map]; omega)) ?_)
  | (with_reducible refine wrap_g (by dsimp only [inR]; omega) ?_)
  | (with_reducible refine idx_g (by omega) ?_)
  | (with_reducible refine idx_l _ rfl (by decide) ?_)
  | (with_reducible refine BothG.mk ?_ ?_)
  | (with_reducible refine fork_tt ?_) | (with_reducible refine fork_ff ?_)
  | (with_reducible refine fork_e (c := true) (by decide) ?_; with_reducible refine fork_tt ?_) | (with_reducible refine fork_e (c := false) (by decide) ?_; with_reducible refine fork_ff ?_)
  | (with_reducible refine fork_t (by omega) ?_) | (with_reducible refine fork_f (by omega) ?_)
  | (with_reducible refine fork_d ?_ ?_ <;> intro hc)
  | (with_reducible refine fork_n ?_)
  | (with_reducible refine fork_b ?_ ?_ <;> intro hc)
  | (with_reducible refine SlcG.mk (by omega) ?_)
  | (with_reducible refine MakG.mk (by dsimp only; omega) ?_)
  | (with_reducible refine AppG.mk (by first | omega | (simp only [List.length_append, List.length_set, List.length_replicate, List.length_take, List.length_drop, List.length_cons, List.length_nil, List.length_map]; omega)) (by dsimp only [List.length_cons, List.length_nil]; omega) (by omega) ?_)
  | (with_reducible refine div_g (by omega) (by omega) (by dsimp only [inR]; omega) ?_)
  | (with_reducible refine mod_g (by omega) (by omega) ?_)
  | (with_reducible refine mask_g (m := 4294967296) 32 rfl rfl (by decide) (by omega) ?_)
  | (with_reducible refine shr_g (m := 4294967296) 32 rfl (by decide) (by omega) rfl ?_)
  | (with_reducible refine fz_all (by omega) ?_)
  | (with_reducible refine Stuck.h (A := RetE _ _) ?_) | (with_reducible refine Stuck.h (A := RetM _ _ _ _) ?_) | (with_reducible refine Stuck.h (A := Again _ _ _ _ _ _ _ _) ?_) | (with_reducible refine Stuck.h (A := CallF _ _ _ _ _ _ _) ?_) | (with_reducible refine Stuck.h (A := LoopG _ _ _ _ _ _ _ _) ?_) | (with_reducible refine Stuck.h (A := DrawG _ _ _ _ _ _ _ _) ?_)
  | (with_reducible refine Stuck.h (A := WrapG _ _ _) ?_) | (with_reducible refine Stuck.h (A := DivG _ _ _ _) ?_) | (with_reducible refine Stuck.h (A := ModG _ _ _) ?_) | (with_reducible refine Stuck.h (A := ShlG _ _ _ _) ?_) | (with_reducible refine Stuck.h (A := ShrG _ _ _ _) ?_) | (with_reducible refine Stuck.h (A := BitG _ _ _ _ _) ?_)
  | (with_reducible refine Stuck.h (A := IdxG _ _ _) ?_) | (with_reducible refine Stuck.h (A := IdxL _ _ _) ?_) | (with_reducible refine Stuck.h (A := SlcG _ _ _ _ _) ?_) | (with_reducible refine Stuck.h (A := MakG _ _ _ _) ?_) | (with_reducible refine Stuck.h (A := AppG _ _ _ _ _ _ _) ?_) | (with_reducible refine Stuck.h (A := FzG _ _ _ _) ?_)
  | (with_reducible refine Stuck.h (A := RawG _) ?_) | (with_reducible refine Stuck.h (A := TabG _ _ _ _ _) ?_) | (with_reducible refine Stuck.h (A := ExtF _ _ _ _) ?_) | (with_reducible refine Stuck.h (A := Chk _ _) ?_) | (with_reducible refine Stuck.h (A := False) ?_))
  exact ⟨ret_e rfl⟩
/-- A whole number of the program, in form. -/
def NI (a : Int) : PV := .agg [.val (.bool (decide (a < 0))), N64 a.natAbs]
theorem r_zto (a : Int) (h : LZ a ≤ 268435456) : FC Tryz.prog G 90 [ZI a] (· = NI a) := by
  unfold LZ at h
  refine by_sign (a := a) (p := fun p => FC _ _ _ [p] _) (fun hs => ?_) (fun hs => ?_)
  all_goals
    have hp := len_pos a.natAbs
    refine FC.intro (X := XX) tok Tryz.func90 rfl Tryz.ntmps90 (by rw [Tryz.results90]) (by kernel_rfl) rfl ?_; intro F hG hO
    repeat' ((try (conv => whnf)); first
  | ((with_reducible refine cg ?_); refine call_eq (r_to a.natAbs (by omega)) (LpL.refl _) rfl ?_)
  
  | (with_reducible refine draw_g (id := 1) [[0, 1, 2, 3, 4, 5, 6, 7, 8, 9, 10, 11], [12]] tok mixed (by kernel_rfl) ?_)
  | (with_reducible refine Chk.mk' (by first | omega | exact trivial | (simp only [List.length_append, List.length_set, List.length_replicate, List.length_take, List.length_drop, List.length_cons, List.length_nil, List.length_map]; omega)) ?_)
  | (with_reducible refine wrap_g (by dsimp only [inR]; omega) ?_)
  | (with_reducible refine idx_g (by omega) ?_)
  | (with_reducible refine idx_l _ rfl (by decide) ?_)
  | (with_reducible refine BothG.mk ?_ ?_)
  | (with_reducible refine fork_tt ?_) | (with_reducible refine fork_ff ?_)
  | (with_reducible refine fork_e (c := true) (by decide) ?_; with_reducible refine fork_tt ?_) | (with_reducible refine fork_e (c := false) (by decide) ?_; with_reducible refine fork_ff ?_)
  | (with_reducible refine fork_t (by omega) ?_) | (with_reducible refine fork_f (by omega) ?_)
  | (with_reducible refine fork_d ?_ ?_ <;> intro hc)
  | (with_reducible refine fork_n ?_)
  | (with_reducible refine fork_b ?_ ?_ <;> intro hc)
  | (with_reducible refine SlcG.mk (by omega) ?_)
  | (with_reducible refine MakG.mk (by dsimp only; omega) ?_)
  | (with_reducible refine AppG.mk (by first | omega | (simp only [List.length_append, List.length_set, List.length_replicate, List.length_take, List.length_drop, List.length_cons, List.length_nil, List.length_map]; omega)) (by dsimp only [List.length_cons, List.length_nil]; omega) (by omega) ?_)
  | (with_reducible refine div_g (by omega) (by omega) (by dsimp only [inR]; omega) ?_)
  | (with_reducible refine mod_g (by omega) (by omega) ?_)
  | (with_reducible refine mask_g (m := 4294967296) 32 rfl rfl (by decide) (by omega) ?_)
  | (with_reducible refine shr_g (m := 4294967296) 32 rfl (by decide) (by omega) rfl ?_)
  | (with_reducible refine fz_all (by omega) ?_)
  | (with_reducible refine Stuck.h (A := RetE _ _) ?_) | (with_reducible refine Stuck.h (A := RetM _ _ _ _) ?_) | (with_reducible refine Stuck.h (A := Again _ _ _ _ _ _ _ _) ?_) | (with_reducible refine Stuck.h (A := CallF _ _ _ _ _ _ _) ?_) | (with_reducible refine Stuck.h (A := LoopG _ _ _ _ _ _ _ _) ?_) | (with_reducible refine Stuck.h (A := DrawG _ _ _ _ _ _ _ _) ?_)
  | (with_reducible refine Stuck.h (A := WrapG _ _ _) ?_) | (with_reducible refine Stuck.h (A := DivG _ _ _ _) ?_) | (with_reducible refine Stuck.h (A := ModG _ _ _) ?_) | (with_reducible refine Stuck.h (A := ShlG _ _ _ _) ?_) | (with_reducible refine Stuck.h (A := ShrG _ _ _ _) ?_) | (with_reducible refine Stuck.h (A := BitG _ _ _ _ _) ?_)
  | (with_reducible refine Stuck.h (A := IdxG _ _ _) ?_) | (with_reducible refine Stuck.h (A := IdxL _ _ _) ?_) | (with_reducible refine Stuck.h (A := SlcG _ _ _ _ _) ?_) | (with_reducible refine Stuck.h (A := MakG _ _ _ _) ?_) | (with_reducible refine Stuck.h (A := AppG _ _ _ _ _ _ _) ?_) | (with_reducible refine Stuck.h (A := FzG _ _ _ _) ?_)
  | (with_reducible refine Stuck.h (A := RawG _) ?_) | (with_reducible refine Stuck.h (A := TabG _ _ _ _ _) ?_) | (with_reducible refine Stuck.h (A := ExtF _ _ _ _) ?_) | (with_reducible refine Stuck.h (A := Chk _ _) ?_) | (with_reducible refine Stuck.h (A := False) ?_))
  · refine ⟨ret_e ?_⟩
    unfold NI
    rw [show decide (a < 0) = decide ((0 : Int) < ((d32 a.natAbs).length : Int)) from decide_eq_decide.2 (by omega)]; rfl
  · refine ⟨ret_e ?_⟩
    unfold NI
    rw [decide_eq_false hs]; rfl
theorem r_sign (a : Int) : FC Tryz.prog G 149 [ZI a] (· = .val (.int .i64 a.sign)) := by
  refine by_sign (a := a) (p := fun p => FC _ _ _ [p] _) (fun hs => ?_) (fun hs => ?_)
  all_goals
    have hp := len_pos a.natAbs
    refine FC.intro (X := XX) tok Tryz.func149 rfl Tryz.ntmps149 (by rw [Tryz.results149]) (by kernel_rfl) rfl ?_; intro F hG hO
    repeat' ((try (conv => whnf)); first
  
  | (with_reducible refine Chk.mk' (by first | omega | exact trivial | (simp only [List.length_append, List.length_set, List.length_replicate, List.length_take, List.length_drop, List.length_cons, List.length_nil, List.length_map]; omega)) ?_)
  | (with_reducible refine wrap_g (by dsimp only [inR]; omega) ?_)
  | (with_reducible refine idx_g (by omega) ?_)
  | (with_reducible refine idx_l _ rfl (by decide) ?_)
  | (with_reducible refine BothG.mk ?_ ?_)
  | (with_reducible refine fork_tt ?_) | (with_reducible refine fork_ff ?_)
  | (with_reducible refine fork_e (c := true) (by decide) ?_; with_reducible refine fork_tt ?_) | (with_reducible refine fork_e (c := false) (by decide) ?_; with_reducible refine fork_ff ?_)
  | (with_reducible refine fork_t (by omega) ?_) | (with_reducible refine fork_f (by omega) ?_)
  | (with_reducible refine fork_d ?_ ?_ <;> intro hc)
  | (with_reducible refine fork_n ?_)
  | (with_reducible refine fork_b ?_ ?_ <;> intro hc)
  | (with_reducible refine SlcG.mk (by omega) ?_)
  | (with_reducible refine MakG.mk (by dsimp only; omega) ?_)
  | (with_reducible refine AppG.mk (by first | omega | (simp only [List.length_append, List.length_set, List.length_replicate, List.length_take, List.length_drop, List.length_cons, List.length_nil, List.length_map]; omega)) (by dsimp only [List.length_cons, List.length_nil]; omega) (by omega) ?_)
  | (with_reducible refine div_g (by omega) (by omega) (by dsimp only [inR]; omega) ?_)
  | (with_reducible refine mod_g (by omega) (by omega) ?_)
  | (with_reducible refine mask_g (m := 4294967296) 32 rfl rfl (by decide) (by omega) ?_)
  | (with_reducible refine shr_g (m := 4294967296) 32 rfl (by decide) (by omega) rfl ?_)
  | (with_reducible refine fz_all (by omega) ?_)
  | (with_reducible refine Stuck.h (A := RetE _ _) ?_) | (with_reducible refine Stuck.h (A := RetM _ _ _ _) ?_) | (with_reducible refine Stuck.h (A := Again _ _ _ _ _ _ _ _) ?_) | (with_reducible refine Stuck.h (A := CallF _ _ _ _ _ _ _) ?_) | (with_reducible refine Stuck.h (A := LoopG _ _ _ _ _ _ _ _) ?_) | (with_reducible refine Stuck.h (A := DrawG _ _ _ _ _ _ _ _) ?_)
  | (with_reducible refine Stuck.h (A := WrapG _ _ _) ?_) | (with_reducible refine Stuck.h (A := DivG _ _ _ _) ?_) | (with_reducible refine Stuck.h (A := ModG _ _ _) ?_) | (with_reducible refine Stuck.h (A := ShlG _ _ _ _) ?_) | (with_reducible refine Stuck.h (A := ShrG _ _ _ _) ?_) | (with_reducible refine Stuck.h (A := BitG _ _ _ _ _) ?_)
  | (with_reducible refine Stuck.h (A := IdxG _ _ _) ?_) | (with_reducible refine Stuck.h (A := IdxL _ _ _) ?_) | (with_reducible refine Stuck.h (A := SlcG _ _ _ _ _) ?_) | (with_reducible refine Stuck.h (A := MakG _ _ _ _) ?_) | (with_reducible refine Stuck.h (A := AppG _ _ _ _ _ _ _) ?_) | (with_reducible refine Stuck.h (A := FzG _ _ _ _) ?_)
  | (with_reducible refine Stuck.h (A := RawG _) ?_) | (with_reducible refine Stuck.h (A := TabG _ _ _ _ _) ?_) | (with_reducible refine Stuck.h (A := ExtF _ _ _ _) ?_) | (with_reducible refine Stuck.h (A := Chk _ _) ?_) | (with_reducible refine Stuck.h (A := False) ?_))
  · exact ⟨ret_e (iv_eq (Int.sign_eq_neg_one_of_neg hs).symm)⟩
  · exact ⟨ret_e (iv_eq (by rw [show a = 0 by omega]; rfl))⟩
  · exact ⟨ret_e (iv_eq (Int.sign_eq_one_of_pos (by omega)).symm)⟩
theorem r_flip (a : Int) (h : LZ a ≤ 1099511627776) : FC Tryz.prog G 134 [ZI a] (· = ZI (-a)) := by
  unfold LZ at h
  refine by_sign (a := a) (p := fun p => FC _ _ _ [p] _) (fun hs => ?_) (fun hs => ?_)
  all_goals
    refine FC.intro (X := XX) tok Tryz.func134 rfl Tryz.ntmps134 (by rw [Tryz.results134]) (by kernel_rfl) rfl ?_; intro F hG hO
    repeat' ((try (conv => whnf)); first
  | ((with_reducible refine cg ?_); refine call_eq (r_mk _ a.natAbs h) (LpL.refl _) rfl ?_)
  
  | (with_reducible refine Chk.mk' (by first | omega | exact trivial | (simp only [List.length_append, List.length_set, List.length_replicate, List.length_take, List.length_drop, List.length_cons, List.length_nil, List.length_map]; omega)) ?_)
  | (with_reducible refine wrap_g (by dsimp only [inR]; omega) ?_)
  | (with_reducible refine idx_g (by omega) ?_)
  | (with_reducible refine idx_l _ rfl (by decide) ?_)
  | (with_reducible refine BothG.mk ?_ ?_)
  | (with_reducible refine fork_tt ?_) | (with_reducible refine fork_ff ?_)
  | (with_reducible refine fork_e (c := true) (by decide) ?_; with_reducible refine fork_tt ?_) | (with_reducible refine fork_e (c := false) (by decide) ?_; with_reducible refine fork_ff ?_)
  | (with_reducible refine fork_t (by omega) ?_) | (with_reducible refine fork_f (by omega) ?_)
  | (with_reducible refine fork_d ?_ ?_ <;> intro hc)
  | (with_reducible refine fork_n ?_)
  | (with_reducible refine fork_b ?_ ?_ <;> intro hc)
  | (with_reducible refine SlcG.mk (by omega) ?_)
  | (with_reducible refine MakG.mk (by dsimp only; omega) ?_)
  | (with_reducible refine AppG.mk (by first | omega | (simp only [List.length_append, List.length_set, List.length_replicate, List.length_take, List.length_drop, List.length_cons, List.length_nil, List.length_map]; omega)) (by dsimp only [List.length_cons, List.length_nil]; omega) (by omega) ?_)
  | (with_reducible refine div_g (by omega) (by omega) (by dsimp only [inR]; omega) ?_)
  | (with_reducible refine mod_g (by omega) (by omega) ?_)
  | (with_reducible refine mask_g (m := 4294967296) 32 rfl rfl (by decide) (by omega) ?_)
  | (with_reducible refine shr_g (m := 4294967296) 32 rfl (by decide) (by omega) rfl ?_)
  | (with_reducible refine fz_all (by omega) ?_)
  | (with_reducible refine Stuck.h (A := RetE _ _) ?_) | (with_reducible refine Stuck.h (A := RetM _ _ _ _) ?_) | (with_reducible refine Stuck.h (A := Again _ _ _ _ _ _ _ _) ?_) | (with_reducible refine Stuck.h (A := CallF _ _ _ _ _ _ _) ?_) | (with_reducible refine Stuck.h (A := LoopG _ _ _ _ _ _ _ _) ?_) | (with_reducible refine Stuck.h (A := DrawG _ _ _ _ _ _ _ _) ?_)
  | (with_reducible refine Stuck.h (A := WrapG _ _ _) ?_) | (with_reducible refine Stuck.h (A := DivG _ _ _ _) ?_) | (with_reducible refine Stuck.h (A := ModG _ _ _) ?_) | (with_reducible refine Stuck.h (A := ShlG _ _ _ _) ?_) | (with_reducible refine Stuck.h (A := ShrG _ _ _ _) ?_) | (with_reducible refine Stuck.h (A := BitG _ _ _ _ _) ?_)
  | (with_reducible refine Stuck.h (A := IdxG _ _ _) ?_) | (with_reducible refine Stuck.h (A := IdxL _ _ _) ?_) | (with_reducible refine Stuck.h (A := SlcG _ _ _ _ _) ?_) | (with_reducible refine Stuck.h (A := MakG _ _ _ _) ?_) | (with_reducible refine Stuck.h (A := AppG _ _ _ _ _ _ _) ?_) | (with_reducible refine Stuck.h (A := FzG _ _ _ _) ?_)
  | (with_reducible refine Stuck.h (A := RawG _) ?_) | (with_reducible refine Stuck.h (A := TabG _ _ _ _ _) ?_) | (with_reducible refine Stuck.h (A := ExtF _ _ _ _) ?_) | (with_reducible refine Stuck.h (A := Chk _ _) ?_) | (with_reducible refine Stuck.h (A := False) ?_))
  · exact ⟨ret_e (zi_eq (a := sg false a.natAbs) (by simp only [sg]; omega))⟩
  · exact ⟨ret_e (zi_eq (a := sg true a.natAbs) (by simp only [sg]; omega))⟩
end Go.Proofs.YtbeocnjlepcglaaGreatDoor.Sim
namespace Go.Proofs.YtbeocnjlepcglaaGreatDoor.Sim
open Go.RowKit
set_option linter.unusedVariables false
set_option linter.unusedSimpArgs false
set_option maxRecDepth 10000
set_option maxHeartbeats 8000000
variable {G : List (Nat × List Value)}
theorem cmpN_ge (X Y : Nat) : 0 ≤ cmpN X Y ↔ Y ≤ X := by
  unfold cmpN
  split
  · exact ⟨fun h => by omega, fun h => by omega⟩
  · split
    · exact ⟨fun h => by omega, fun h => by omega⟩
    · exact ⟨fun h => by omega, fun h => by omega⟩
theorem LZ_neg (a : Int) : LZ (-a) = LZ a := by unfold LZ; rw [Int.natAbs_neg]
theorem r_zadd (a b : Int) (ha : LZ a ≤ 1073741824) (hb : LZ b ≤ 1073741824) : FC Tryz.prog G 135 [ZI a, ZI b] (· = ZI (a + b)) := by
  unfold LZ at ha hb
  refine by_sign (a := a) (p := fun p => FC _ _ _ [p, _] _) (fun hs => ?_) (fun hs => ?_)
  all_goals
    refine by_sign (a := b) (p := fun p => FC _ _ _ [_, p] _) (fun ht => ?_) (fun ht => ?_)
  all_goals
    have hl := L32_add a.natAbs b.natAbs
    have hc1 := L32_mono (Nat.sub_le a.natAbs b.natAbs)
    have hc2 := L32_mono (Nat.sub_le b.natAbs a.natAbs)
    have hcm := cmpN_ge a.natAbs b.natAbs
    refine FC.intro (X := XX) tok Tryz.func135 rfl Tryz.ntmps135 (by rw [Tryz.results135]) (by kernel_rfl) rfl ?_; intro F hG hO
    repeat' ((try (conv => whnf)); first
  | ((with_reducible refine cg ?_); refine call_eq (r_add a.natAbs b.natAbs ha hb) (LpL.refl _) rfl ?_)
  | ((with_reducible refine cg ?_); refine call_eq (r_cmp a.natAbs b.natAbs ha hb) (LpL.refl _) rfl ?_)
  | ((with_reducible refine cg ?_); refine call_eq (r_sub a.natAbs b.natAbs ha hb) (LpL.refl _) rfl ?_)
  | ((with_reducible refine cg ?_); refine call_eq (r_sub b.natAbs a.natAbs hb ha) (LpL.refl _) rfl ?_)
  | ((with_reducible refine cg ?_); refine call_eq (r_mk _ (a.natAbs + b.natAbs) (by omega)) (LpL.refl _) rfl ?_)
  | ((with_reducible refine cg ?_); refine call_eq (r_mk _ (a.natAbs - b.natAbs) (by omega)) (LpL.refl _) rfl ?_)
  | ((with_reducible refine cg ?_); refine call_eq (r_mk _ (b.natAbs - a.natAbs) (by omega)) (LpL.refl _) rfl ?_)
  
  | (with_reducible refine draw_g (id := 2) [[0, 1, 2, 3, 4, 5, 6, 7], [8]] tok mixed (by kernel_rfl) ?_)
  | (with_reducible refine draw_g (id := 4) [[0, 1, 2, 3, 4, 5, 6, 7], [8]] tok mixed (by kernel_rfl) ?_)
  | (with_reducible refine draw_g (id := 5) [[0, 1, 2, 3, 4, 5, 6, 7], [8]] tok mixed (by kernel_rfl) ?_)
  | (with_reducible refine Chk.mk' (by first | omega | exact trivial | (simp only [List.length_append, List.length_set, List.length_replicate, List.length_take, List.length_drop, List.length_cons, List.length_nil, List.length_map]; omega)) ?_)
  | (with_reducible refine wrap_g (by dsimp only [inR]; omega) ?_)
  | (with_reducible refine idx_g (by omega) ?_)
  | (with_reducible refine idx_l _ rfl (by decide) ?_)
  | (with_reducible refine BothG.mk ?_ ?_)
  | (with_reducible refine fork_tt ?_) | (with_reducible refine fork_ff ?_)
  | (with_reducible refine fork_e (c := true) (by decide) ?_; with_reducible refine fork_tt ?_) | (with_reducible refine fork_e (c := false) (by decide) ?_; with_reducible refine fork_ff ?_)
  | (with_reducible refine fork_t (by omega) ?_) | (with_reducible refine fork_f (by omega) ?_)
  | (with_reducible refine fork_d ?_ ?_ <;> intro hc)
  | (with_reducible refine fork_n ?_)
  | (with_reducible refine fork_b ?_ ?_ <;> intro hc)
  | (with_reducible refine SlcG.mk (by omega) ?_)
  | (with_reducible refine MakG.mk (by dsimp only; omega) ?_)
  | (with_reducible refine AppG.mk (by first | omega | (simp only [List.length_append, List.length_set, List.length_replicate, List.length_take, List.length_drop, List.length_cons, List.length_nil, List.length_map]; omega)) (by dsimp only [List.length_cons, List.length_nil]; omega) (by omega) ?_)
  | (with_reducible refine div_g (by omega) (by omega) (by dsimp only [inR]; omega) ?_)
  | (with_reducible refine mod_g (by omega) (by omega) ?_)
  | (with_reducible refine mask_g (m := 4294967296) 32 rfl rfl (by decide) (by omega) ?_)
  | (with_reducible refine shr_g (m := 4294967296) 32 rfl (by decide) (by omega) rfl ?_)
  | (with_reducible refine fz_all (by omega) ?_)
  | (with_reducible refine Stuck.h (A := RetE _ _) ?_) | (with_reducible refine Stuck.h (A := RetM _ _ _ _) ?_) | (with_reducible refine Stuck.h (A := Again _ _ _ _ _ _ _ _) ?_) | (with_reducible refine Stuck.h (A := CallF _ _ _ _ _ _ _) ?_) | (with_reducible refine Stuck.h (A := LoopG _ _ _ _ _ _ _ _) ?_) | (with_reducible refine Stuck.h (A := DrawG _ _ _ _ _ _ _ _) ?_)
  | (with_reducible refine Stuck.h (A := WrapG _ _ _) ?_) | (with_reducible refine Stuck.h (A := DivG _ _ _ _) ?_) | (with_reducible refine Stuck.h (A := ModG _ _ _) ?_) | (with_reducible refine Stuck.h (A := ShlG _ _ _ _) ?_) | (with_reducible refine Stuck.h (A := ShrG _ _ _ _) ?_) | (with_reducible refine Stuck.h (A := BitG _ _ _ _ _) ?_)
  | (with_reducible refine Stuck.h (A := IdxG _ _ _) ?_) | (with_reducible refine Stuck.h (A := IdxL _ _ _) ?_) | (with_reducible refine Stuck.h (A := SlcG _ _ _ _ _) ?_) | (with_reducible refine Stuck.h (A := MakG _ _ _ _) ?_) | (with_reducible refine Stuck.h (A := AppG _ _ _ _ _ _ _) ?_) | (with_reducible refine Stuck.h (A := FzG _ _ _ _) ?_)
  | (with_reducible refine Stuck.h (A := RawG _) ?_) | (with_reducible refine Stuck.h (A := TabG _ _ _ _ _) ?_) | (with_reducible refine Stuck.h (A := ExtF _ _ _ _) ?_) | (with_reducible refine Stuck.h (A := Chk _ _) ?_) | (with_reducible refine Stuck.h (A := False) ?_))
  all_goals first
    | exact ⟨ret_e (zi_eq (a := sg true (a.natAbs + b.natAbs)) (by simp only [sg]; omega))⟩
    | exact ⟨ret_e (zi_eq (a := sg false (a.natAbs + b.natAbs)) (by simp only [sg]; omega))⟩
    | exact ⟨ret_e (zi_eq (a := sg true (a.natAbs - b.natAbs)) (by have := hcm.1 (by omega); simp only [sg]; omega))⟩
    | exact ⟨ret_e (zi_eq (a := sg false (a.natAbs - b.natAbs)) (by have := hcm.1 (by omega); simp only [sg]; omega))⟩
    | exact ⟨ret_e (zi_eq (a := sg true (b.natAbs - a.natAbs)) (by have : ¬ b.natAbs ≤ a.natAbs := fun h => (by have := hcm.2 h; omega); simp only [sg]; omega))⟩
    | exact ⟨ret_e (zi_eq (a := sg false (b.natAbs - a.natAbs)) (by have : ¬ b.natAbs ≤ a.natAbs := fun h => (by have := hcm.2 h; omega); simp only [sg]; omega))⟩
theorem r_zsub (a b : Int) (ha : LZ a ≤ 1073741824) (hb : LZ b ≤ 1073741824) : FC Tryz.prog G 150 [ZI a, ZI b] (· = ZI (a - b)) := by
  have hn := LZ_neg b
  refine FC.intro (X := XX) tok Tryz.func150 rfl Tryz.ntmps150 (by rw [Tryz.results150]) (by kernel_rfl) rfl ?_; intro F hG hO
  repeat' ((try (conv => whnf)); first
  | ((with_reducible refine cg ?_); refine call_eq (r_flip b (by omega)) (LpL.refl _) rfl ?_)
  | ((with_reducible refine cg ?_); refine call_eq (r_zadd a (-b) (by omega) (by omega)) (LpL.refl _) rfl ?_)
  
  | (with_reducible refine draw_g (id := 1) [[0, 1, 2, 3], [4]] tok mixed (by kernel_rfl) ?_)
  | (with_reducible refine Chk.mk' (by first | omega | exact trivial | (simp only [List.length_append, List.length_set, List.length_replicate, List.length_take, List.length_drop, List.length_cons, List.length_nil, List.length_map]; omega)) ?_)
  | (with_reducible refine wrap_g (by dsimp only [inR]; omega) ?_)
  | (with_reducible refine idx_g (by omega) ?_)
  | (with_reducible refine idx_l _ rfl (by decide) ?_)
  | (with_reducible refine BothG.mk ?_ ?_)
  | (with_reducible refine fork_tt ?_) | (with_reducible refine fork_ff ?_)
  | (with_reducible refine fork_e (c := true) (by decide) ?_; with_reducible refine fork_tt ?_) | (with_reducible refine fork_e (c := false) (by decide) ?_; with_reducible refine fork_ff ?_)
  | (with_reducible refine fork_t (by omega) ?_) | (with_reducible refine fork_f (by omega) ?_)
  | (with_reducible refine fork_d ?_ ?_ <;> intro hc)
  | (with_reducible refine fork_n ?_)
  | (with_reducible refine fork_b ?_ ?_ <;> intro hc)
  | (with_reducible refine SlcG.mk (by omega) ?_)
  | (with_reducible refine MakG.mk (by dsimp only; omega) ?_)
  | (with_reducible refine AppG.mk (by first | omega | (simp only [List.length_append, List.length_set, List.length_replicate, List.length_take, List.length_drop, List.length_cons, List.length_nil, List.length_map]; omega)) (by dsimp only [List.length_cons, List.length_nil]; omega) (by omega) ?_)
  | (with_reducible refine div_g (by omega) (by omega) (by dsimp only [inR]; omega) ?_)
  | (with_reducible refine mod_g (by omega) (by omega) ?_)
  | (with_reducible refine mask_g (m := 4294967296) 32 rfl rfl (by decide) (by omega) ?_)
  | (with_reducible refine shr_g (m := 4294967296) 32 rfl (by decide) (by omega) rfl ?_)
  | (with_reducible refine fz_all (by omega) ?_)
  | (with_reducible refine Stuck.h (A := RetE _ _) ?_) | (with_reducible refine Stuck.h (A := RetM _ _ _ _) ?_) | (with_reducible refine Stuck.h (A := Again _ _ _ _ _ _ _ _) ?_) | (with_reducible refine Stuck.h (A := CallF _ _ _ _ _ _ _) ?_) | (with_reducible refine Stuck.h (A := LoopG _ _ _ _ _ _ _ _) ?_) | (with_reducible refine Stuck.h (A := DrawG _ _ _ _ _ _ _ _) ?_)
  | (with_reducible refine Stuck.h (A := WrapG _ _ _) ?_) | (with_reducible refine Stuck.h (A := DivG _ _ _ _) ?_) | (with_reducible refine Stuck.h (A := ModG _ _ _) ?_) | (with_reducible refine Stuck.h (A := ShlG _ _ _ _) ?_) | (with_reducible refine Stuck.h (A := ShrG _ _ _ _) ?_) | (with_reducible refine Stuck.h (A := BitG _ _ _ _ _) ?_)
  | (with_reducible refine Stuck.h (A := IdxG _ _ _) ?_) | (with_reducible refine Stuck.h (A := IdxL _ _ _) ?_) | (with_reducible refine Stuck.h (A := SlcG _ _ _ _ _) ?_) | (with_reducible refine Stuck.h (A := MakG _ _ _ _) ?_) | (with_reducible refine Stuck.h (A := AppG _ _ _ _ _ _ _) ?_) | (with_reducible refine Stuck.h (A := FzG _ _ _ _) ?_)
  | (with_reducible refine Stuck.h (A := RawG _) ?_) | (with_reducible refine Stuck.h (A := TabG _ _ _ _ _) ?_) | (with_reducible refine Stuck.h (A := ExtF _ _ _ _) ?_) | (with_reducible refine Stuck.h (A := Chk _ _) ?_) | (with_reducible refine Stuck.h (A := False) ?_))
  exact ⟨ret_e (zi_eq (by omega))⟩
theorem sg_pow (x k : Nat) (s : Bool) : sg s (x * 2 ^ k) = sg s x * 2 ^ k := by
  cases s <;> simp [sg, Int.neg_mul]
theorem r_zshl (a : Int) (n : Int) (ha : LZ a ≤ 268435456) (hn : inR .i64 n) (hn2 : n ≤ 8589934592) : FC Tryz.prog G 127 [ZI a, .val (.int .i64 n)] (· = ZI (a * 2 ^ n.toNat)) := by
  unfold LZ at ha
  have ea := sg_of a
  refine by_sign (a := a) (p := fun p => FC _ _ _ [p, _] _) (fun hs => ?_) (fun hs => ?_)
  all_goals
    have hl := L32_shl a.natAbs n.toNat
    refine FC.intro (X := XX) tok Tryz.func127 rfl Tryz.ntmps127 (by rw [Tryz.results127]) (by kernel_rfl) rfl ?_; intro F hG hO
    repeat' ((try (conv => whnf)); first
  | ((with_reducible refine cg ?_); refine call_eq (r_shl a.natAbs n (by omega) hn hn2) (LpL.refl _) rfl ?_)
  | ((with_reducible refine cg ?_); refine call_eq (r_mk _ (a.natAbs * 2 ^ n.toNat) (by omega)) (LpL.refl _) rfl ?_)
  
  | (with_reducible refine draw_g (id := 1) [[0, 1, 2, 3, 4, 5, 6], [7]] tok mixed (by kernel_rfl) ?_)
  | (with_reducible refine Chk.mk' (by first | omega | exact trivial | (simp only [List.length_append, List.length_set, List.length_replicate, List.length_take, List.length_drop, List.length_cons, List.length_nil, List.length_map]; omega)) ?_)
  | (with_reducible refine wrap_g (by dsimp only [inR]; omega) ?_)
  | (with_reducible refine idx_g (by omega) ?_)
  | (with_reducible refine idx_l _ rfl (by decide) ?_)
  | (with_reducible refine BothG.mk ?_ ?_)
  | (with_reducible refine fork_tt ?_) | (with_reducible refine fork_ff ?_)
  | (with_reducible refine fork_e (c := true) (by decide) ?_; with_reducible refine fork_tt ?_) | (with_reducible refine fork_e (c := false) (by decide) ?_; with_reducible refine fork_ff ?_)
  | (with_reducible refine fork_t (by omega) ?_) | (with_reducible refine fork_f (by omega) ?_)
  | (with_reducible refine fork_d ?_ ?_ <;> intro hc)
  | (with_reducible refine fork_n ?_)
  | (with_reducible refine fork_b ?_ ?_ <;> intro hc)
  | (with_reducible refine SlcG.mk (by omega) ?_)
  | (with_reducible refine MakG.mk (by dsimp only; omega) ?_)
  | (with_reducible refine AppG.mk (by first | omega | (simp only [List.length_append, List.length_set, List.length_replicate, List.length_take, List.length_drop, List.length_cons, List.length_nil, List.length_map]; omega)) (by dsimp only [List.length_cons, List.length_nil]; omega) (by omega) ?_)
  | (with_reducible refine div_g (by omega) (by omega) (by dsimp only [inR]; omega) ?_)
  | (with_reducible refine mod_g (by omega) (by omega) ?_)
  | (with_reducible refine mask_g (m := 4294967296) 32 rfl rfl (by decide) (by omega) ?_)
  | (with_reducible refine shr_g (m := 4294967296) 32 rfl (by decide) (by omega) rfl ?_)
  | (with_reducible refine fz_all (by omega) ?_)
  | (with_reducible refine Stuck.h (A := RetE _ _) ?_) | (with_reducible refine Stuck.h (A := RetM _ _ _ _) ?_) | (with_reducible refine Stuck.h (A := Again _ _ _ _ _ _ _ _) ?_) | (with_reducible refine Stuck.h (A := CallF _ _ _ _ _ _ _) ?_) | (with_reducible refine Stuck.h (A := LoopG _ _ _ _ _ _ _ _) ?_) | (with_reducible refine Stuck.h (A := DrawG _ _ _ _ _ _ _ _) ?_)
  | (with_reducible refine Stuck.h (A := WrapG _ _ _) ?_) | (with_reducible refine Stuck.h (A := DivG _ _ _ _) ?_) | (with_reducible refine Stuck.h (A := ModG _ _ _) ?_) | (with_reducible refine Stuck.h (A := ShlG _ _ _ _) ?_) | (with_reducible refine Stuck.h (A := ShrG _ _ _ _) ?_) | (with_reducible refine Stuck.h (A := BitG _ _ _ _ _) ?_)
  | (with_reducible refine Stuck.h (A := IdxG _ _ _) ?_) | (with_reducible refine Stuck.h (A := IdxL _ _ _) ?_) | (with_reducible refine Stuck.h (A := SlcG _ _ _ _ _) ?_) | (with_reducible refine Stuck.h (A := MakG _ _ _ _) ?_) | (with_reducible refine Stuck.h (A := AppG _ _ _ _ _ _ _) ?_) | (with_reducible refine Stuck.h (A := FzG _ _ _ _) ?_)
  | (with_reducible refine Stuck.h (A := RawG _) ?_) | (with_reducible refine Stuck.h (A := TabG _ _ _ _ _) ?_) | (with_reducible refine Stuck.h (A := ExtF _ _ _ _) ?_) | (with_reducible refine Stuck.h (A := Chk _ _) ?_) | (with_reducible refine Stuck.h (A := False) ?_))
  · rw [decide_eq_true hs] at ea
    exact ⟨ret_e (zi_eq (a := sg true (a.natAbs * 2 ^ n.toNat)) (by rw [sg_pow, ea]))⟩
  · rw [decide_eq_false hs] at ea
    exact ⟨ret_e (zi_eq (a := sg false (a.natAbs * 2 ^ n.toNat)) (by rw [sg_pow, ea]))⟩
end Go.Proofs.YtbeocnjlepcglaaGreatDoor.Sim
