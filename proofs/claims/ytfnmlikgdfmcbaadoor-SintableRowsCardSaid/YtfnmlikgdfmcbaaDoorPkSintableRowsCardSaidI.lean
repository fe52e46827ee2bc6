/-
  Lemmas of SintableRowsCardSaid, part 9.
-/
import Derived.Test.YtfnmlikgdfmcbaaDoorPkSintableRowsCardSaidH
import Derived.Test.YtfnmlikgdfmcbaaDoorProg
namespace Go.Proofs.YtfnmlikgdfmcbaaDoor.Sim
set_option maxRecDepth 100000
def TT : List TI := [⟨2, .int .i64, 1, 8, [.val (.int .i64 0)]⟩, ⟨3, .int .i64, 1, 8, [.val (.int .i64 0)]⟩, ⟨4, .bool, 1, 1, [.val (.bool false)]⟩, ⟨5, .int .u8, 1, 1, [.val (.int .u8 0)]⟩, ⟨12, .int .u64, 1, 8, [.val (.int .u64 0)]⟩, ⟨21, .int .i32, 1, 4, [.val (.int .i32 0)]⟩, ⟨22, .slice 3 1, 1, 24, [.nil]⟩, ⟨24, .flt .f64, 1, 8, [.val (.float .f64 0)]⟩, ⟨25, .str [(24, 0, 1), (24, 1, 1)], 2, 16, [.val (.float .f64 0), .val (.float .f64 0)]⟩, ⟨26, .str [(24, 0, 1), (24, 1, 1)], 2, 16, [.val (.float .f64 0), .val (.float .f64 0)]⟩, ⟨27, .int .i64, 1, 8, [.val (.int .i64 0)]⟩, ⟨30, .int .u64, 1, 8, [.val (.int .u64 0)]⟩, ⟨31, .str [(30, 0, 1), (30, 1, 1), (30, 2, 1), (30, 3, 1)], 4, 32, [.val (.int .u64 0), .val (.int .u64 0), .val (.int .u64 0), .val (.int .u64 0)]⟩, ⟨32, .str [(30, 0, 1), (30, 1, 1), (30, 2, 1), (30, 3, 1)], 4, 32, [.val (.int .u64 0), .val (.int .u64 0), .val (.int .u64 0), .val (.int .u64 0)]⟩, ⟨37, .slice 30 1, 1, 24, [.nil]⟩, ⟨45, .arr 53 30 1, 53, 424, [.val (.int .u64 0), .val (.int .u64 0), .val (.int .u64 0), .val (.int .u64 0), .val (.int .u64 0), .val (.int .u64 0), .val (.int .u64 0), .val (.int .u64 0), .val (.int .u64 0), .val (.int .u64 0), .val (.int .u64 0), .val (.int .u64 0), .val (.int .u64 0), .val (.int .u64 0), .val (.int .u64 0), .val (.int .u64 0), .val (.int .u64 0), .val (.int .u64 0), .val (.int .u64 0), .val (.int .u64 0), .val (.int .u64 0), .val (.int .u64 0), .val (.int .u64 0), .val (.int .u64 0), .val (.int .u64 0), .val (.int .u64 0), .val (.int .u64 0), .val (.int .u64 0), .val (.int .u64 0), .val (.int .u64 0), .val (.int .u64 0), .val (.int .u64 0), .val (.int .u64 0), .val (.int .u64 0), .val (.int .u64 0), .val (.int .u64 0), .val (.int .u64 0), .val (.int .u64 0), .val (.int .u64 0), .val (.int .u64 0), .val (.int .u64 0), .val (.int .u64 0), .val (.int .u64 0), .val (.int .u64 0), .val (.int .u64 0), .val (.int .u64 0), .val (.int .u64 0), .val (.int .u64 0), .val (.int .u64 0), .val (.int .u64 0), .val (.int .u64 0), .val (.int .u64 0), .val (.int .u64 0)]⟩, ⟨52, .slice 90 1, 1, 24, [.nil]⟩, ⟨53, .str [(4, 0, 1), (52, 1, 1)], 2, 32, [.val (.bool false), .nil]⟩, ⟨54, .str [(4, 0, 1), (52, 1, 1)], 2, 32, [.val (.bool false), .nil]⟩, ⟨62, .str [(54, 0, 2), (54, 2, 2), (3, 4, 1)], 5, 72, [.val (.bool false), .nil, .val (.bool false), .nil, .val (.int .i64 0)]⟩, ⟨63, .str [(54, 0, 2), (54, 2, 2), (3, 4, 1)], 5, 72, [.val (.bool false), .nil, .val (.bool false), .nil, .val (.int .i64 0)]⟩, ⟨67, .int .i64, 1, 8, [.val (.int .i64 0)]⟩, ⟨68, .str [(30, 0, 1), (3, 1, 1), (3, 2, 1), (3, 3, 1), (30, 4, 1), (30, 5, 1)], 6, 48, [.val (.int .u64 0), .val (.int .i64 0), .val (.int .i64 0), .val (.int .i64 0), .val (.int .u64 0), .val (.int .u64 0)]⟩, ⟨69, .str [(30, 0, 1), (3, 1, 1), (3, 2, 1), (3, 3, 1), (30, 4, 1), (30, 5, 1)], 6, 48, [.val (.int .u64 0), .val (.int .i64 0), .val (.int .i64 0), .val (.int .i64 0), .val (.int .u64 0), .val (.int .u64 0)]⟩, ⟨85, .str [(52, 0, 1), (52, 1, 1), (3, 2, 1), (4, 3, 1)], 4, 64, [.nil, .nil, .val (.int .i64 0), .val (.bool false)]⟩, ⟨86, .str [(52, 0, 1), (52, 1, 1), (3, 2, 1), (4, 3, 1)], 4, 64, [.nil, .nil, .val (.int .i64 0), .val (.bool false)]⟩, ⟨90, .int .u32, 1, 4, [.val (.int .u32 0)]⟩, ⟨91, .int .u64, 1, 8, [.val (.int .u64 0)]⟩]
theorem tok : TOk Tryd.prog TT := ⟨⟨by kernel_rfl, by kernel_rfl, by kernel_rfl, by kernel_rfl, (show Tryd.prog.underlying 2 = some (.int .i64) by kernel_rfl)⟩, ⟨by kernel_rfl, by kernel_rfl, by kernel_rfl, by kernel_rfl, (show Tryd.prog.underlying 3 = some (.int .i64) by kernel_rfl)⟩, ⟨by kernel_rfl, by kernel_rfl, by kernel_rfl, by kernel_rfl, (show Tryd.prog.underlying 4 = some .bool by kernel_rfl)⟩, ⟨by kernel_rfl, by kernel_rfl, by kernel_rfl, by kernel_rfl, (show Tryd.prog.underlying 5 = some (.int .u8) by kernel_rfl)⟩, ⟨by kernel_rfl, by kernel_rfl, by kernel_rfl, by kernel_rfl, (show Tryd.prog.underlying 12 = some (.int .u64) by kernel_rfl)⟩, ⟨by kernel_rfl, by kernel_rfl, by kernel_rfl, by kernel_rfl, (show Tryd.prog.underlying 21 = some (.int .i32) by kernel_rfl)⟩, ⟨by kernel_rfl, by kernel_rfl, by kernel_rfl, by kernel_rfl, (show elT Tryd.prog 22 = some (3, 1) by kernel_rfl)⟩, ⟨by kernel_rfl, by kernel_rfl, by kernel_rfl, by kernel_rfl, (show Tryd.prog.underlying 24 = some (.float .f64) by kernel_rfl)⟩, ⟨by kernel_rfl, by kernel_rfl, by kernel_rfl, by kernel_rfl, (show strT Tryd.prog 25 = some [(24, 0, 1), (24, 1, 1)] by kernel_rfl)⟩, ⟨by kernel_rfl, by kernel_rfl, by kernel_rfl, by kernel_rfl, (show strT Tryd.prog 26 = some [(24, 0, 1), (24, 1, 1)] by kernel_rfl)⟩, ⟨by kernel_rfl, by kernel_rfl, by kernel_rfl, by kernel_rfl, (show Tryd.prog.underlying 27 = some (.int .i64) by kernel_rfl)⟩, ⟨by kernel_rfl, by kernel_rfl, by kernel_rfl, by kernel_rfl, (show Tryd.prog.underlying 30 = some (.int .u64) by kernel_rfl)⟩, ⟨by kernel_rfl, by kernel_rfl, by kernel_rfl, by kernel_rfl, (show strT Tryd.prog 31 = some [(30, 0, 1), (30, 1, 1), (30, 2, 1), (30, 3, 1)] by kernel_rfl)⟩, ⟨by kernel_rfl, by kernel_rfl, by kernel_rfl, by kernel_rfl, (show strT Tryd.prog 32 = some [(30, 0, 1), (30, 1, 1), (30, 2, 1), (30, 3, 1)] by kernel_rfl)⟩, ⟨by kernel_rfl, by kernel_rfl, by kernel_rfl, by kernel_rfl, (show elT Tryd.prog 37 = some (30, 1) by kernel_rfl)⟩, ⟨by kernel_rfl, by kernel_rfl, by kernel_rfl, by kernel_rfl, (show arT Tryd.prog 45 = some (53, 30, 1) by kernel_rfl)⟩, ⟨by kernel_rfl, by kernel_rfl, by kernel_rfl, by kernel_rfl, (show elT Tryd.prog 52 = some (90, 1) by kernel_rfl)⟩, ⟨by kernel_rfl, by kernel_rfl, by kernel_rfl, by kernel_rfl, (show strT Tryd.prog 53 = some [(4, 0, 1), (52, 1, 1)] by kernel_rfl)⟩, ⟨by kernel_rfl, by kernel_rfl, by kernel_rfl, by kernel_rfl, (show strT Tryd.prog 54 = some [(4, 0, 1), (52, 1, 1)] by kernel_rfl)⟩, ⟨by kernel_rfl, by kernel_rfl, by kernel_rfl, by kernel_rfl, (show strT Tryd.prog 62 = some [(54, 0, 2), (54, 2, 2), (3, 4, 1)] by kernel_rfl)⟩, ⟨by kernel_rfl, by kernel_rfl, by kernel_rfl, by kernel_rfl, (show strT Tryd.prog 63 = some [(54, 0, 2), (54, 2, 2), (3, 4, 1)] by kernel_rfl)⟩, ⟨by kernel_rfl, by kernel_rfl, by kernel_rfl, by kernel_rfl, (show Tryd.prog.underlying 67 = some (.int .i64) by kernel_rfl)⟩, ⟨by kernel_rfl, by kernel_rfl, by kernel_rfl, by kernel_rfl, (show strT Tryd.prog 68 = some [(30, 0, 1), (3, 1, 1), (3, 2, 1), (3, 3, 1), (30, 4, 1), (30, 5, 1)] by kernel_rfl)⟩, ⟨by kernel_rfl, by kernel_rfl, by kernel_rfl, by kernel_rfl, (show strT Tryd.prog 69 = some [(30, 0, 1), (3, 1, 1), (3, 2, 1), (3, 3, 1), (30, 4, 1), (30, 5, 1)] by kernel_rfl)⟩, ⟨by kernel_rfl, by kernel_rfl, by kernel_rfl, by kernel_rfl, (show strT Tryd.prog 85 = some [(52, 0, 1), (52, 1, 1), (3, 2, 1), (4, 3, 1)] by kernel_rfl)⟩, ⟨by kernel_rfl, by kernel_rfl, by kernel_rfl, by kernel_rfl, (show strT Tryd.prog 86 = some [(52, 0, 1), (52, 1, 1), (3, 2, 1), (4, 3, 1)] by kernel_rfl)⟩, ⟨by kernel_rfl, by kernel_rfl, by kernel_rfl, by kernel_rfl, (show Tryd.prog.underlying 90 = some (.int .u32) by kernel_rfl)⟩, ⟨by kernel_rfl, by kernel_rfl, by kernel_rfl, by kernel_rfl, (show Tryd.prog.underlying 91 = some (.int .u64) by kernel_rfl)⟩, trivial⟩
theorem mixed : Tryd.prog.follows .mixedOrders = true := by kernel_rfl
def XX : List FuncId := [14, 10, 30, 76]
theorem ax_i {G : List (Nat × List Value)} {f : FuncId} {fn : Func} {cd : Code} {args : List PV} {Q : PV → Prop} {N : Nat} {rs : List ResultVar} (hf : Tryd.prog.funcs[f]? = some fn) (hN : fn.ntmps = N) (hrs : fn.results.toList = rs) (h : ∀ F : Fr, F.G = G → F.c0.ob.length = 0 → vC Tryd.prog F TT XX cd (vEnd TT rs Q) (vEnd TT rs Q) (fun _ _ => False) ⟨N, argT args, [], []⟩) (hb : fn.body = some cd := by exact rfl) (hc : callable Tryd.prog f = true := by kernel_rfl) (hn : Nat.ble args.length N = true := by exact rfl) : FC Tryd.prog G f args Q := FC.intro (X := XX) tok hf hb hN hrs hc hn h
set_option linter.unusedVariables false
set_option linter.unusedSimpArgs false
def vl (B : Int) : List Int → Int
  | [] => 0
  | x :: l => x + B * vl B l
def okD (B : Int) (l : List Int) : Prop := ∀ x ∈ l, 0 ≤ x ∧ x < B
def trim : List Int → List Int
  | [] => []
  | x :: l => match trim l with
    | [] => if x = 0 then [] else [x]
    | l => x :: l
def dgs (B n : Nat) : List Int := if h : n = 0 ∨ B ≤ 1 then [] else ((n % B : Nat) : Int) :: dgs B (n / B)
termination_by n
decreasing_by exact Nat.div_lt_self (by omega) (by omega)
theorem vl_append (B : Int) (l m : List Int) : vl B (l ++ m) = vl B l + B ^ l.length * vl B m := by
  induction l with
  | nil => simp [vl]
  | cons x l ih =>
    have e : B ^ (l.length + 1) * vl B m = B * (B ^ l.length * vl B m) := by rw [Int.pow_succ, Int.mul_comm (B ^ l.length) B, Int.mul_assoc]
    simp only [List.cons_append, vl, ih, List.length_cons, e, Int.mul_add, Int.add_assoc]
theorem vl_snoc (B : Int) (l : List Int) (x : Int) : vl B (l ++ [x]) = vl B l + B ^ l.length * x := by simp [vl_append, vl]
theorem take_succ_rd (a : List Int) (i : Nat) (h : i < a.length) : a.take (i + 1) = a.take i ++ [rd a i] := by
  rw [List.take_succ_eq_append_getElem h]
  simp [rd, List.getD_eq_getElem?_getD, h]
theorem vl_take_succ (B : Int) (a : List Int) (i : Nat) (h : i < a.length) : vl B (a.take (i + 1)) = vl B (a.take i) + B ^ i * rd a i := by
  rw [take_succ_rd a i h, vl_snoc]
  have : min i a.length = i := by omega
  simp [this]
theorem okD_rd {B : Int} {a : List Int} (h : okD B a) (i : Nat) (hi : i < a.length) : 0 ≤ rd a i ∧ rd a i < B := by
  have : rd a i = a[i] := by simp [rd, List.getD_eq_getElem?_getD, hi]
  rw [this]; exact h _ (List.getElem_mem hi)
theorem okD_nil (B : Int) : okD B [] := fun x h => by simp at h
theorem okD_cons {B x : Int} {l : List Int} : okD B (x :: l) ↔ (0 ≤ x ∧ x < B) ∧ okD B l := by simp [okD]
theorem okD_append {B : Int} {l m : List Int} : okD B (l ++ m) ↔ okD B l ∧ okD B m := by
  simp only [okD, List.mem_append]
  exact ⟨fun h => ⟨fun x hx => h x (.inl hx), fun x hx => h x (.inr hx)⟩, fun h x hx => hx.elim (h.1 x) (h.2 x)⟩
theorem okD.take {B : Int} {l : List Int} (h : okD B l) (n : Nat) : okD B (l.take n) := fun x hx => h x (List.mem_of_mem_take hx)
theorem okD.drop {B : Int} {l : List Int} (h : okD B l) (n : Nat) : okD B (l.drop n) := fun x hx => h x (List.mem_of_mem_drop hx)
theorem vl_nonneg {B : Int} (hB : 0 ≤ B) : ∀ {l : List Int}, okD B l → 0 ≤ vl B l
  | [], _ => Int.le_refl 0
  | x :: l, h => by
    have h1 := (okD_cons.1 h).1.1
    have h2 := vl_nonneg hB (okD_cons.1 h).2
    have h3 := Int.mul_nonneg hB h2
    simp only [vl]; omega
theorem vl_lt {B : Int} (hB : 0 < B) : ∀ {l : List Int}, okD B l → vl B l < B ^ l.length
  | [], _ => by simp [vl]
  | x :: l, h => by
    have h1 := (okD_cons.1 h).1.2
    have h2 := vl_lt hB (okD_cons.1 h).2
    have h3 : B * vl B l ≤ B * (B ^ l.length - 1) := Int.mul_le_mul_of_nonneg_left (by omega) (by omega)
    have e : B ^ (l.length + 1) = B * B ^ l.length := by rw [Int.pow_succ, Int.mul_comm]
    have e2 : B * (B ^ l.length - 1) = B * B ^ l.length - B := by rw [Int.mul_sub, Int.mul_one]
    simp only [vl, List.length_cons, e]; omega
theorem okD.trim {B : Int} : ∀ {l : List Int}, okD B l → okD B (trim l)
  | [], _ => okD_nil B
  | x :: l, h => by
    have ih := okD.trim (okD_cons.1 h).2
    simp only [Sim.trim]
    split
    · split
      · exact okD_nil B
      · exact okD_cons.2 ⟨(okD_cons.1 h).1, okD_nil B⟩
    · exact okD_cons.2 ⟨(okD_cons.1 h).1, ih⟩
theorem trim_dgs {B : Nat} (hB : 2 ≤ B) : ∀ {l : List Int}, okD B l → trim l = dgs B (vl B l).toNat
  | [], _ => by unfold dgs; simp [trim, vl]
  | x :: l, h => by
    obtain ⟨hx, hl⟩ := okD_cons.1 h
    have ih := trim_dgs hB hl
    have h0 := vl_nonneg (B := (B : Int)) (by omega) hl
    obtain ⟨n, hn⟩ : ∃ n : Nat, vl B l = n := ⟨(vl B l).toNat, by omega⟩
    obtain ⟨y, rfl⟩ : ∃ y : Nat, x = y := ⟨x.toNat, by omega⟩
    have hy : y < B := by omega
    have e : (vl B ((y : Int) :: l)).toNat = y + B * n := by
      simp only [vl, hn]
      have : ((y : Int) + (B : Int) * (n : Int)) = ((y + B * n : Nat) : Int) := by simp
      rw [this, Int.toNat_natCast]
    rw [e]
    rw [hn] at ih
    simp only [Int.toNat_natCast] at ih
    have hm : (y + B * n) % B = y := by rw [Nat.add_mul_mod_self_left, Nat.mod_eq_of_lt hy]
    have hd : (y + B * n) / B = n := by rw [Nat.add_mul_div_left _ _ (by omega), Nat.div_eq_of_lt hy, Nat.zero_add]
    simp only [trim]
    by_cases hz : y + B * n = 0
    · have hy0 : y = 0 := by omega
      have hn0 : n = 0 := by
        have h1 : B * n = 0 := by omega
        rcases Nat.mul_eq_zero.1 h1 with h | h <;> omega
      subst hy0 hn0
      have : dgs B 0 = [] := by unfold dgs; simp
      rw [ih, this]
      simp [this]
    · have hu : dgs B (y + B * n) = (y : Int) :: dgs B n := by
        rw [dgs, dif_neg (by omega), hm, hd]
      rw [hu, ih]
      split
      · rename_i h0'
        split
        · rename_i hy0
          have hy0 : y = 0 := by omega
          exfalso
          subst hy0
          have hnn : n ≠ 0 := by intro e; subst e; simp at hz
          rw [dgs, dif_neg (by omega)] at h0'
          cases h0'
        · rw [h0']
      · rfl
def d32 (n : Nat) : List Int := dgs 4294967296 n
def d64 (n : Nat) : List Int := dgs 18446744073709551616 n
theorem dgs_ok {B : Nat} (hB : 2 ≤ B) (n : Nat) : okD B (dgs B n) ∧ vl B (dgs B n) = n ∧ trim (dgs B n) = dgs B n := by
  induction n using Nat.strongRecOn with
  | _ n ih =>
    by_cases h0 : n = 0
    · subst h0
      have : dgs B 0 = [] := by unfold dgs; simp
      rw [this]; exact ⟨okD_nil _, rfl, rfl⟩
    · obtain ⟨h1, h2, h3⟩ := ih (n / B) (Nat.div_lt_self (by omega) (by omega))
      have e : dgs B n = ((n % B : Nat) : Int) :: dgs B (n / B) := by rw [dgs, dif_neg (by omega)]
      have hm := Nat.mod_lt n (show 0 < B by omega)
      have hok : okD B (dgs B n) := by rw [e]; exact okD_cons.2 ⟨by omega, h1⟩
      have hv : vl B (dgs B n) = n := by
        rw [e]; simp only [vl, h2]
        have := Nat.mod_add_div n B
        exact_mod_cast this
      refine ⟨hok, hv, ?_⟩
      rw [trim_dgs hB hok, hv]; simp
theorem rd_bd {B : Int} (hB : 0 < B) {a : List Int} (h : okD B a) (i : Int) : 0 ≤ rd a i ∧ rd a i < B := by
  unfold rd
  rw [List.getD_eq_getElem?_getD]
  cases hq : a[i.toNat]? with
  | none => simpa using hB
  | some x => exact h x (List.mem_of_getElem? hq)
theorem rd_out (a : List Int) (i : Nat) (h : a.length ≤ i) : rd a i = 0 := by simp [rd, List.getD_eq_getElem?_getD, h]
theorem vl_take_step (B : Int) (a : List Int) (i : Nat) : vl B (a.take (i + 1)) = vl B (a.take i) + B ^ i * rd a i := by
  by_cases h : i < a.length
  · exact vl_take_succ B a i h
  · rw [rd_out a i (by omega), List.take_of_length_le (by omega), List.take_of_length_le (by omega)]; simp
theorem d32_ok (n : Nat) : okD 4294967296 (d32 n) ∧ vl 4294967296 (d32 n) = n := ⟨(dgs_ok (B := 4294967296) (by decide) n).1, (dgs_ok (B := 4294967296) (by decide) n).2.1⟩
theorem sum_step {B vs d c2 T : Int} (i : Nat) (h : d + B * c2 = T) : vs + B ^ i * d + B ^ (i + 1) * c2 = vs + B ^ i * T := by
  rw [Int.pow_succ, Int.mul_assoc, Int.add_assoc, ← Int.mul_add, h]
theorem drop_rd (a : List Int) (i : Nat) (h : i < a.length) : a.drop i = rd a i :: a.drop (i + 1) := by
  rw [List.drop_eq_getElem_cons h]
  simp [rd, List.getD_eq_getElem?_getD, h]
theorem vl_split (B : Int) (a : List Int) (i : Nat) (h : i ≤ a.length) : vl B a = vl B (a.take i) + B ^ i * vl B (a.drop i) := by
  have := vl_append B (a.take i) (a.drop i)
  rw [List.take_append_drop] at this
  rw [this]; simp [Nat.min_eq_left h]
theorem vl_lt_of {B : Int} (hB : 0 < B) {a b : List Int} (oka : okD B a) (okb : okD B b) (hl : a.length = b.length) (i : Nat) (hi : i < a.length) (hd : a.drop (i + 1) = b.drop (i + 1)) (h : rd a i < rd b i) : vl B a < vl B b := by
  rw [vl_split B a i (by omega), vl_split B b i (by omega), drop_rd a i hi, drop_rd b i (by omega), hd]
  simp only [vl]
  have h1 := vl_lt hB (oka.take i)
  have h2 := vl_nonneg (Int.le_of_lt hB) (okb.take i)
  have hlen : (a.take i).length = i := by simp; omega
  rw [hlen] at h1
  have hp : 0 ≤ B ^ i := Int.pow_nonneg (Int.le_of_lt hB)
  have h3 : B ^ i * (rd a i + 1) ≤ B ^ i * rd b i := Int.mul_le_mul_of_nonneg_left (by omega) hp
  rw [Int.mul_add, Int.mul_one] at h3
  rw [Int.mul_add, Int.mul_add]
  omega
theorem dgs_len {B : Nat} (hB : 2 ≤ B) (n : Nat) : n < B ^ (dgs B n).length ∧ (n ≠ 0 → 0 < (dgs B n).length ∧ B ^ ((dgs B n).length - 1) ≤ n) := by
  induction n using Nat.strongRecOn with
  | _ n ih =>
    by_cases h0 : n = 0
    · subst h0
      have : dgs B 0 = [] := by unfold dgs; simp
      rw [this]; simp
    · obtain ⟨h1, h2⟩ := ih (n / B) (Nat.div_lt_self (by omega) (by omega))
      have e : dgs B n = ((n % B : Nat) : Int) :: dgs B (n / B) := by rw [dgs, dif_neg (by omega)]
      have hdm := Nat.div_add_mod n B
      have hm := Nat.mod_lt n (show 0 < B by omega)
      rw [e]
      simp only [List.length_cons, Nat.add_sub_cancel]
      refine ⟨?_, fun _ => ⟨Nat.succ_pos _, ?_⟩⟩
      · rw [Nat.pow_succ, Nat.mul_comm]
        have : B * (n / B + 1) ≤ B * B ^ (dgs B (n / B)).length := Nat.mul_le_mul_left _ h1
        rw [Nat.mul_add] at this; omega
      · by_cases hq : n / B = 0
        · have : dgs B (n / B) = [] := by rw [hq]; unfold dgs; simp
          rw [this]; simp; omega
        · obtain ⟨g1, g2⟩ := h2 hq
          have e2 : (dgs B (n / B)).length = (dgs B (n / B)).length - 1 + 1 := by omega
          rw [e2, Nat.pow_succ, Nat.mul_comm]
          have := Nat.mul_le_mul_left B g2
          omega
theorem dgs_lt {B : Nat} (hB : 2 ≤ B) {x y : Nat} (h : (dgs B x).length < (dgs B y).length) : x < y := by
  have h1 := (dgs_len hB x).1
  have hy : y ≠ 0 := by
    intro e
    subst e
    have : dgs B 0 = [] := by unfold dgs; simp
    rw [this] at h; simp at h
  obtain ⟨h2, h3⟩ := (dgs_len hB y).2 hy
  exact Nat.lt_of_lt_of_le h1 (Nat.le_trans (Nat.pow_le_pow_right (by omega) (by omega)) h3)
def lenB (B n : Nat) : Nat := (dgs B n).length
theorem lenB_le {B : Nat} (hB : 2 ≤ B) {x n : Nat} (h : x < B ^ n) : lenB B x ≤ n := by
  rcases Nat.lt_or_ge n (lenB B x) with h1 | h1
  · obtain ⟨_, h2⟩ := dgs_len hB x
    by_cases hx : x = 0
    · subst hx
      have : dgs B 0 = [] := by unfold dgs; simp
      simp [lenB, this] at h1
    · obtain ⟨h3, h4⟩ := h2 hx
      have h5 : B ^ n ≤ B ^ ((dgs B x).length - 1) := Nat.pow_le_pow_right (by omega) (by unfold lenB at h1; omega)
      omega
  · exact h1
theorem lenB_lt {B : Nat} (hB : 2 ≤ B) (x : Nat) : x < B ^ lenB B x := (dgs_len hB x).1
theorem lenB_mono {B : Nat} (hB : 2 ≤ B) {x y : Nat} (h : x ≤ y) : lenB B x ≤ lenB B y := lenB_le hB (Nat.lt_of_le_of_lt h (lenB_lt hB y))
theorem lenB_add {B : Nat} (hB : 2 ≤ B) (x y : Nat) : lenB B (x + y) ≤ max (lenB B x) (lenB B y) + 1 := by
  refine lenB_le hB ?_
  have h1 : B ^ lenB B x ≤ B ^ max (lenB B x) (lenB B y) := Nat.pow_le_pow_right (by omega) (by omega)
  have h2 : B ^ lenB B y ≤ B ^ max (lenB B x) (lenB B y) := Nat.pow_le_pow_right (by omega) (by omega)
  have h3 := lenB_lt hB x
  have h4 := lenB_lt hB y
  have h5 : B ^ max (lenB B x) (lenB B y) * 2 ≤ B ^ (max (lenB B x) (lenB B y) + 1) := by rw [Nat.pow_succ]; exact Nat.mul_le_mul_left _ hB
  omega
theorem lenB_mul {B : Nat} (hB : 2 ≤ B) (x y : Nat) : lenB B (x * y) ≤ lenB B x + lenB B y := by
  refine lenB_le hB ?_
  rw [Nat.pow_add]
  have h3 := lenB_lt hB x
  have h4 := lenB_lt hB y
  rcases Nat.eq_zero_or_pos y with h0 | h0
  · subst h0
    have : 0 < B ^ lenB B x * B ^ lenB B 0 := Nat.mul_pos (Nat.pow_pos (by omega)) (Nat.pow_pos (by omega))
    simpa using this
  · exact Nat.lt_of_lt_of_le (Nat.mul_lt_mul_of_pos_right h3 h0) (Nat.mul_le_mul_left _ (Nat.le_of_lt h4))
theorem lenB_zero (B : Nat) : lenB B 0 = 0 := by unfold lenB dgs; simp
theorem lenB_pos {B : Nat} (hB : 2 ≤ B) {x : Nat} (h : x ≠ 0) : 0 < lenB B x := ((dgs_len hB x).2 h).1
theorem lenB_eq_zero {B : Nat} (hB : 2 ≤ B) {x : Nat} : lenB B x = 0 ↔ x = 0 := ⟨fun h => by
  rcases Nat.eq_zero_or_pos x with h0 | h0
  · exact h0
  · have := lenB_pos hB (x := x) (by omega); omega, fun h => by subst h; exact lenB_zero B⟩
theorem lenB_ge {B : Nat} (hB : 2 ≤ B) {x n : Nat} (h : B ^ n ≤ x) : n < lenB B x := by
  rcases Nat.lt_or_ge n (lenB B x) with h1 | h1
  · exact h1
  · have h2 := lenB_lt hB x
    have h3 : B ^ lenB B x ≤ B ^ n := Nat.pow_le_pow_right (by omega) h1
    omega
abbrev L32 (n : Nat) : Nat := lenB 4294967296 n
abbrev L64 (n : Nat) : Nat := lenB 18446744073709551616 n
theorem pow32 (n : Nat) : (4294967296 : Nat) ^ n = 2 ^ (32 * n) := by rw [Nat.pow_mul]
theorem pow64 (n : Nat) : (18446744073709551616 : Nat) ^ n = 2 ^ (64 * n) := by rw [Nat.pow_mul]
theorem L32_le {x n : Nat} (h : x < 2 ^ (32 * n)) : L32 x ≤ n := lenB_le (by decide) (by rw [pow32]; exact h)
theorem L32_lt (x : Nat) : x < 2 ^ (32 * L32 x) := by rw [← pow32]; exact lenB_lt (by decide) x
theorem L64_le {x n : Nat} (h : x < 2 ^ (64 * n)) : L64 x ≤ n := lenB_le (by decide) (by rw [pow64]; exact h)
theorem L64_lt (x : Nat) : x < 2 ^ (64 * L64 x) := by rw [← pow64]; exact lenB_lt (by decide) x
theorem L32_shl (x n : Nat) : L32 (x * 2 ^ n) ≤ L32 x + n / 32 + 1 := by
  refine L32_le ?_
  have h := L32_lt x
  have h2 : x * 2 ^ n < 2 ^ (32 * L32 x) * 2 ^ n := Nat.mul_lt_mul_of_pos_right h (Nat.pow_pos (by decide))
  rw [← Nat.pow_add] at h2
  exact Nat.lt_of_lt_of_le h2 (Nat.pow_le_pow_right (by decide) (by omega))
end Go.Proofs.YtfnmlikgdfmcbaaDoor.Sim
namespace Go.Proofs.YtfnmlikgdfmcbaaDoor.Sim
open Go.RowKit
set_option linter.unusedVariables false
set_option linter.unusedSimpArgs false
set_option maxRecDepth 10000
set_option maxHeartbeats 2000000
theorem trim_take : ∀ (a : List Int) (m : Nat), m ≤ a.length → (∀ j, m ≤ j → a.getD j 0 = 0) → (m = 0 ∨ a.getD (m - 1) 0 ≠ 0) → trim a = a.take m
  | [], m, _, _, _ => by simp [trim]
  | x :: l, 0, h1, h2, h3 => by
    have := trim_take l 0 (Nat.zero_le _) (fun j _ => by simpa using h2 (j + 1) (Nat.zero_le _)) (.inl rfl)
    have hx : x = 0 := by simpa using h2 0 (Nat.le_refl _)
    simp [trim, this, hx]
  | x :: l, 1, h1, h2, h3 => by
    have := trim_take l 0 (Nat.zero_le _) (fun j _ => by simpa using h2 (j + 1) (by omega)) (.inl rfl)
    have hx : x ≠ 0 := by simpa using h3
    simp [trim, this, hx]
  | x :: l, m + 2, h1, h2, h3 => by
    have := trim_take l (m + 1) (by simpa using h1) (fun j hj => by simpa using h2 (j + 1) (by omega)) (.inr (by simpa using h3))
    cases l with
    | nil => simp at h1
    | cons y l =>
      have e : trim (x :: y :: l) = (match trim (y :: l) with | [] => if x = 0 then [] else [x] | l => x :: l) := rfl
      rw [e, this]; rfl
theorem copied (a : List Int) (m : Nat) (h : m ≤ a.length) : List.take 0 (List.replicate (m : Int).toNat (0 : Int)) ++ List.take (m : Int).toNat (List.take (m : Int).toNat a) ++ List.drop (0 + min (m : Int).toNat (List.take (m : Int).toNat a).length) (List.replicate (m : Int).toNat 0) = a.take m := by
  have : min m (min m a.length) = m := by omega
  simp [this, List.take_take]
def D (n : Nat) : PV := .ws .u32 (d32 n)
theorem iv_eq {k : IntKind} {a b : Int} (h : a = b) : PV.val (.int k a) = .val (.int k b) := by rw [h]
variable {G : List (Nat × List Value)}
theorem m_norm (a : List Int) (h : a.length ≤ 1099511627776) : PM Tryd.prog G 43 [.ws .u32 a] [] (Own 90 .u32 (trim a)) := by
  refine PM.intro (X := XX) tok Tryd.func43 rfl Tryd.ntmps43 (by rw [Tryd.results43]) (by kernel_rfl) rfl ?_; intro F hG hO; simp only [List.length_cons, List.length_nil, Nat.zero_add, Nat.reduceAdd] at hO
  repeat' ((try (conv => whnf)); first
  | ((with_reducible refine lg ?_); refine loop_g (A := Nat) (fun m => m ≤ a.length ∧ ∀ j : Nat, m ≤ j → rd a j = 0) id (fun m => [(0, .ws .u32 a), (3, .val (.int .i64 (m : Int)))]) (fun _ => []) (fun _ => []) a.length tok (fun _ => ⟨⟨trivial, trivial, trivial⟩, trivial, by simp only [List.length_nil]; omega⟩) ?_ ⟨rfl, rfl, trivial⟩ ⟨[], rfl⟩ ⟨[], rfl⟩ ?_; rotate_left; rintro m ⟨h1, h2⟩)
  
  | with_reducible first | refine ax_s ?_ | refine BothG.mk ?_ ?_ | (refine ax_f ?_ ?_ <;> intro hc) | refine smk ?_ | fail)
  · exact ⟨again (m - 1) ⟨by omega, fun j hj => by
      rcases Nat.lt_or_ge j m with hjm | hjm
      · rw [show (j : Int) = m - 1 by omega]; assumption
      · exact h2 j hjm⟩ (by simp only [id]; omega) ⟨rfl, iv_eq (by omega), trivial⟩ ⟨[], rfl⟩ ⟨[], rfl⟩⟩
  · have e : trim a = a.take m := trim_take a m h1 (fun j hj => by simpa [rd] using h2 j hj) (.inr (by
      have : ((m : Int) - 1).toNat = m - 1 := by omega
      simpa [rd, this] using hc))
    rw [e]
    exact ⟨ret_own (by simp; omega) (by rw [← copied a m h1]; rfl)⟩
  · have e : trim a = a.take m := trim_take a m h1 (fun j hj => by simpa [rd] using h2 j hj) (.inl (by omega))
    rw [e]
    exact ⟨ret_own (by simp; omega) (by rw [← copied a m h1]; rfl)⟩
  · exact ⟨Nat.le_refl _, fun j hj => by simp [rd, List.getD_eq_getElem?_getD, hj]⟩
theorem r_norm (a : List Int) (h : a.length ≤ 1099511627776) : FC Tryd.prog G 43 [.ws .u32 a] (· = .ws .u32 (trim a)) := Own.fc (m_norm a h)
theorem r_normD (a : List Int) (h : a.length ≤ 1099511627776) (ok : okD 4294967296 a) : FC Tryd.prog G 43 [.ws .u32 a] (· = D (vl 4294967296 a).toNat) :=
  (r_norm a h).mono fun r hr => by rw [hr, D, d32, trim_dgs (B := 4294967296) (by decide) ok]; rfl
end Go.Proofs.YtfnmlikgdfmcbaaDoor.Sim
namespace Go.Proofs.YtfnmlikgdfmcbaaDoor.Sim
open Go.RowKit
set_option linter.unusedVariables false
set_option linter.unusedSimpArgs false
set_option maxRecDepth 10000
set_option maxHeartbeats 4000000
variable {G : List (Nat × List Value)}
theorem r_word (w : Int) (h : 0 ≤ w ∧ w < 18446744073709551616) : FC Tryd.prog G 35 [.val (.int .u64 w)] (· = D w.toNat) := by
  refine ax_i Tryd.func35 Tryd.ntmps35 (by rw [Tryd.results35]) ?_; intro F hG hO
  repeat' ((try (conv => whnf)); first
  | ((with_reducible refine cg ?_); refine call_eq (r_normD [w % 4294967296, w / 4294967296] (by simp) (okD_cons.2 ⟨by omega, okD_cons.2 ⟨by omega, okD_nil _⟩⟩)) (LpL.refl _) rfl ?_)
  
  | with_reducible first | refine ax_s ?_ | refine BothG.mk ?_ ?_ | (refine ax_f ?_ ?_ <;> intro hc) | refine smk ?_ | fail)
  refine ⟨ret_e ?_⟩
  show D _ = D _
  congr 2
  simp only [vl]; omega
theorem add_round {a b s : List Int} {i : Nat} {c T : Int} (h2 : 0 ≤ c) (h3 : c ≤ 1) (h5 : s.length = i) (h6 : okD 4294967296 s) (h7 : vl 4294967296 s + 4294967296 ^ i * c = vl 4294967296 (a.take i) + vl 4294967296 (b.take i)) (ra : 0 ≤ rd a i ∧ rd a i < 4294967296) (rb : 0 ≤ rd b i ∧ rd b i < 4294967296)
    (hT : T = c + rd a i + rd b i) : 0 ≤ T / 4294967296 ∧ T / 4294967296 ≤ 1 ∧ (s ++ [T % 4294967296]).length = i + 1 ∧ okD 4294967296 (s ++ [T % 4294967296]) ∧
      vl 4294967296 (s ++ [T % 4294967296]) + 4294967296 ^ (i + 1) * (T / 4294967296) = vl 4294967296 (a.take (i + 1)) + vl 4294967296 (b.take (i + 1)) := by
  refine ⟨by omega, by omega, by simp [h5], okD_append.2 ⟨h6, okD_cons.2 ⟨by omega, okD_nil _⟩⟩, ?_⟩
  rw [vl_snoc, h5, sum_step (T := T) i (by omega), vl_take_step, vl_take_step, hT, Int.mul_add, Int.mul_add]
  omega
theorem r_add (X Y : Nat) (hX : L32 X ≤ 1073741824) (hY : L32 Y ≤ 1073741824) : FC Tryd.prog G 39 [D X, D Y] (· = D (X + Y)) := by
  obtain ⟨a, ea⟩ : ∃ a, a = d32 X := ⟨_, rfl⟩
  obtain ⟨b, eb⟩ : ∃ b, b = d32 Y := ⟨_, rfl⟩
  obtain ⟨oka, va⟩ := d32_ok X
  obtain ⟨okb, vb⟩ := d32_ok Y
  replace hX : (d32 X).length ≤ 1073741824 := hX
  replace hY : (d32 Y).length ≤ 1073741824 := hY
  unfold D
  rw [← ea] at hX oka va
  rw [← eb] at hY okb vb
  rw [← ea, ← eb]
  refine ax_i Tryd.func39 Tryd.ntmps39 (by rw [Tryd.results39]) ?_; intro F hG hO
  repeat' ((try (conv => whnf)); first
  | ((with_reducible refine lg ?_); refine loop_g (A := Nat × List Int × Int) (fun (i, s, c) => i ≤ max a.length b.length + 1 ∧ 0 ≤ c ∧ c ≤ 1 ∧ (i = max a.length b.length + 1 → c = 0) ∧ s.length = i ∧ okD 4294967296 s ∧ vl 4294967296 s + 4294967296 ^ i * c = vl 4294967296 (a.take i) + vl 4294967296 (b.take i)) (fun (i, s, c) => max a.length b.length + 2 - i) (fun (i, s, c) => [(0, .ws .u32 a), (1, .ws .u32 b), (5, .arr 0 0 i), (6, .val (.int .u64 c)), (7, .val (.int .i64 (i : Int)))]) (fun _ => []) (fun (i, s, c) => [some ⟨1, 90, .w .u32 s⟩]) (0, [], 0) tok (fun (i, s, c) => ⟨⟨trivial, trivial, Nat.one_pos, trivial, trivial, trivial⟩, trivial, by simp only [List.length_cons]; omega⟩) ?_ ⟨rfl, rfl, rfl, rfl, rfl, trivial⟩ ⟨[], rfl⟩ ⟨[], rfl⟩ ?_; rotate_left; rintro ⟨i, s, c⟩ ⟨h1, h2, h3, h4, h5, h6, h7⟩; have ra := rd_bd (by decide) oka (i : Int); have rb := rd_bd (by decide) okb (i : Int))
  | ((with_reducible refine cg ?_); refine call_fz 0 (B := s) rfl rfl (by omega) (by rw [List.drop_zero, ← h5, List.take_length]) (by omega) ?_; refine call_eq (r_normD s (by omega) h6) (LpL.refl _) rfl ?_)
  
  | with_reducible first | refine ax_s ?_ | refine BothG.mk ?_ ?_ | (refine ax_f ?_ ?_ <;> intro hc) | refine smk ?_ | fail)
  · obtain ⟨g1, g2, g3, g4, g5⟩ := add_round (T := c + rd a i + rd b i) h2 h3 h5 h6 h7 ra rb rfl
    exact ⟨again (i + 1, _, _) ⟨by omega, g1, g2, by omega, g3, g4, g5⟩ (by dsimp only; omega) ⟨rfl, rfl, rfl, rfl, rfl, trivial⟩ ⟨[], rfl⟩ ⟨[], rfl⟩⟩
  · obtain ⟨g1, g2, g3, g4, g5⟩ := add_round (T := c + rd a i) h2 h3 h5 h6 h7 ra rb (by rw [rd_out b i (by omega)]; omega)
    exact ⟨again (i + 1, _, _) ⟨by omega, g1, g2, by omega, g3, g4, g5⟩ (by dsimp only; omega) ⟨rfl, rfl, rfl, rfl, rfl, trivial⟩ ⟨[], rfl⟩ ⟨[], rfl⟩⟩
  · obtain ⟨g1, g2, g3, g4, g5⟩ := add_round (T := c + rd b i) h2 h3 h5 h6 h7 ra rb (by rw [rd_out a i (by omega)]; omega)
    exact ⟨again (i + 1, _, _) ⟨by omega, g1, g2, by omega, g3, g4, g5⟩ (by dsimp only; omega) ⟨rfl, rfl, rfl, rfl, rfl, trivial⟩ ⟨[], rfl⟩ ⟨[], rfl⟩⟩
  · obtain ⟨g1, g2, g3, g4, g5⟩ := add_round (T := c) h2 h3 h5 h6 h7 ra rb (by rw [rd_out a i (by omega), rd_out b i (by omega)]; omega)
    exact ⟨again (i + 1, _, _) ⟨by omega, g1, g2, by omega, g3, g4, g5⟩ (by dsimp only; omega) ⟨rfl, rfl, rfl, rfl, rfl, trivial⟩ ⟨[], rfl⟩ ⟨[], rfl⟩⟩
  · refine ⟨ret_e ?_⟩
    show D _ = D (X + Y)
    have hc0 : c = 0 := by omega
    rw [hc0, List.take_of_length_le (by omega), List.take_of_length_le (by omega), va, vb] at h7
    congr 1
    simp at h7
    omega
  · exact ⟨by omega, by omega, by omega, fun _ => rfl, rfl, okD_nil _, by simp [vl]⟩
def cmpN (X Y : Nat) : Int := if X < Y then -1 else if X = Y then 0 else 1
theorem r_cmp (X Y : Nat) (hX : L32 X ≤ 1073741824) (hY : L32 Y ≤ 1073741824) : FC Tryd.prog G 40 [D X, D Y] (· = .val (.int .i64 (cmpN X Y))) := by
  obtain ⟨a, ea⟩ : ∃ a, a = d32 X := ⟨_, rfl⟩
  obtain ⟨b, eb⟩ : ∃ b, b = d32 Y := ⟨_, rfl⟩
  obtain ⟨oka, va⟩ := d32_ok X
  obtain ⟨okb, vb⟩ := d32_ok Y
  replace hX : (d32 X).length ≤ 1073741824 := hX
  replace hY : (d32 Y).length ≤ 1073741824 := hY
  have hlt : a.length < b.length → X < Y := fun h => dgs_lt (B := 4294967296) (by decide) (by rw [ea, eb] at h; exact h)
  have hgt : b.length < a.length → Y < X := fun h => dgs_lt (B := 4294967296) (by decide) (by rw [ea, eb] at h; exact h)
  unfold D
  rw [← ea] at hX oka va
  rw [← eb] at hY okb vb
  rw [← ea, ← eb]
  refine ax_i Tryd.func40 Tryd.ntmps40 (by rw [Tryd.results40]) ?_; intro F hG hO
  repeat' ((try (conv => whnf)); first
  | ((with_reducible refine lg ?_); refine loop_g (A := Nat) (fun m => m ≤ a.length ∧ a.drop m = b.drop m) (fun m => m) (fun m => [(0, .ws .u32 a), (1, .ws .u32 b), (5, .val (.int .i64 ((m : Int) - 1)))]) (fun _ => []) (fun _ => []) a.length tok (fun _ => ⟨⟨trivial, trivial, trivial, trivial⟩, trivial, by simp only [List.length_nil]; omega⟩) ?_ ⟨rfl, rfl, rfl, trivial⟩ ⟨[], rfl⟩ ⟨[], rfl⟩ ?_; rotate_left; rintro m ⟨h1, h2⟩)
  
  | (with_reducible refine draw_g (id := 8) [[0, 1, 2, 3, 4, 5, 6, 7, 8]] tok mixed (by kernel_rfl) ?_)
  | (with_reducible refine draw_g (id := 10) [[0, 1, 2, 3, 4, 5, 6, 7, 8]] tok mixed (by kernel_rfl) ?_)
  | with_reducible first | refine ax_s ?_ | refine BothG.mk ?_ ?_ | (refine ax_f ?_ ?_ <;> intro hc) | refine smk ?_ | fail)
  · have h := hlt (by omega)
    exact ⟨ret_e (by rw [cmpN, if_pos h])⟩
  · have h := hgt (by omega)
    exact ⟨ret_e (by rw [cmpN, if_neg (by omega), if_neg (by omega)])⟩
  · have hi : ((m - 1 : Nat) : Int) = (m : Int) - 1 := by omega
    have h := vl_lt_of (by decide) oka okb (by omega) (m - 1) (by omega) (by rw [show m - 1 + 1 = m by omega]; exact h2) (by rw [hi]; assumption)
    exact ⟨ret_e (by rw [cmpN, if_pos (by omega)])⟩
  · have hi : ((m - 1 : Nat) : Int) = (m : Int) - 1 := by omega
    have h := vl_lt_of (by decide) okb oka (by omega) (m - 1) (by omega) (by rw [show m - 1 + 1 = m by omega]; exact h2.symm) (by rw [hi]; assumption)
    exact ⟨ret_e (by rw [cmpN, if_neg (by omega), if_neg (by omega)])⟩
  · have hi : ((m - 1 : Nat) : Int) = (m : Int) - 1 := by omega
    have hdr : a.drop (m - 1) = b.drop (m - 1) := by
      rw [drop_rd a (m - 1) (by omega), drop_rd b (m - 1) (by omega), show m - 1 + 1 = m by omega, h2, hi]
      congr 1; omega
    exact ⟨again (m - 1) ⟨by omega, hdr⟩ (by omega) ⟨rfl, rfl, iv_eq (by omega), trivial⟩ ⟨[], rfl⟩ ⟨[], rfl⟩⟩
  · have hm : m = 0 := by omega
    subst hm
    have hab : a = b := by simpa using h2
    have hXY : X = Y := by rw [hab] at va; omega
    exact ⟨ret_e (by rw [cmpN, if_neg (by omega), if_pos hXY])⟩
  · exact ⟨Nat.le_refl _, by rw [List.drop_length, List.drop_eq_nil_of_le (by omega)]⟩
theorem sub_round {a b s : List Int} {i : Nat} {c d e : Int} (h5 : s.length = i) (h6 : okD 4294967296 s) (h7 : vl 4294967296 s - 4294967296 ^ i * c = vl 4294967296 (a.take i) - vl 4294967296 (b.take i)) (hd : 0 ≤ d ∧ d < 4294967296) (hT : d - 4294967296 * e = rd a i - c - rd b i) :
    (s ++ [d]).length = i + 1 ∧ okD 4294967296 (s ++ [d]) ∧ vl 4294967296 (s ++ [d]) - 4294967296 ^ (i + 1) * e = vl 4294967296 (a.take (i + 1)) - vl 4294967296 (b.take (i + 1)) := by
  refine ⟨by simp [h5], okD_append.2 ⟨h6, okD_cons.2 ⟨hd, okD_nil _⟩⟩, ?_⟩
  have h := sum_step (B := 4294967296) (vs := vl 4294967296 s) (d := d) (c2 := -e) (T := rd a i - c - rd b i) i (by omega)
  rw [Int.mul_neg, Int.mul_sub, Int.mul_sub] at h
  rw [vl_snoc, h5, vl_take_step, vl_take_step]
  omega
theorem r_sub (X Y : Nat) (hX : L32 X ≤ 1073741824) (hY : L32 Y ≤ 1073741824) : FC Tryd.prog G 41 [D X, D Y] (· = D (X - Y)) := by
  have hcmp := r_cmp (G := G) X Y hX hY
  have hw0 := r_word (G := G) 0 (by decide)
  obtain ⟨a, ea⟩ : ∃ a, a = d32 X := ⟨_, rfl⟩
  obtain ⟨b, eb⟩ : ∃ b, b = d32 Y := ⟨_, rfl⟩
  obtain ⟨oka, va⟩ := d32_ok X
  obtain ⟨okb, vb⟩ := d32_ok Y
  replace hX : (d32 X).length ≤ 1073741824 := hX
  replace hY : (d32 Y).length ≤ 1073741824 := hY
  have hlt : a.length < b.length → X < Y := fun h => dgs_lt (B := 4294967296) (by decide) (by rw [ea, eb] at h; exact h)
  unfold D at hcmp ⊢
  rw [← ea] at hX oka va
  rw [← eb] at hY okb vb
  rw [← ea, ← eb] at hcmp ⊢
  refine ax_i Tryd.func41 Tryd.ntmps41 (by rw [Tryd.results41]) ?_; intro F hG hO
  rw [← hG] at hcmp hw0
  repeat' ((try (conv => whnf)); first
  | ((with_reducible refine cg ?_); first | refine ceq hcmp rfl ?_ | refine ceq hw0 rfl ?_)
  | ((with_reducible refine cg ?_); refine call_fz 0 (B := s) rfl rfl (by omega) (by rw [List.drop_zero, ← h5, List.take_length]) (by omega) ?_; refine call_eq (r_normD s (by omega) h6) (LpL.refl _) rfl ?_)
  | ((with_reducible refine lg ?_); refine loop_g (A := Nat × List Int × Int) (fun (i, s, c) => i ≤ a.length ∧ 0 ≤ c ∧ c ≤ 1 ∧ s.length = i ∧ okD 4294967296 s ∧ vl 4294967296 s - 4294967296 ^ i * c = vl 4294967296 (a.take i) - vl 4294967296 (b.take i)) (fun (i, s, c) => a.length - i) (fun (i, s, c) => [(0, .ws .u32 a), (1, .ws .u32 b), (5, .arr 0 0 i), (6, .val (.int .u64 c)), (7, .val (.int .i64 (i : Int)))]) (fun _ => []) (fun (i, s, c) => [some ⟨1, 90, .w .u32 s⟩]) (0, [], 0) tok (fun (i, s, c) => ⟨⟨trivial, trivial, Nat.one_pos, trivial, trivial, trivial⟩, trivial, by simp only [List.length_cons]; omega⟩) ?_ ⟨rfl, rfl, rfl, rfl, rfl, trivial⟩ ⟨[], rfl⟩ ⟨[], rfl⟩ ?_; rotate_left; rintro ⟨i, s, c⟩ ⟨h1, h2, h3, h5, h6, h7⟩; have ra := rd_bd (by decide) oka (i : Int); have rb := rd_bd (by decide) okb (i : Int))
  
  | with_reducible first | refine ax_s ?_ | refine BothG.mk ?_ ?_ | (refine ax_f ?_ ?_ <;> intro hc) | refine smk ?_ | fail)
  · have hle : X - Y = 0 := by
      unfold cmpN at hc
      split at hc
      · omega
      · split at hc
        · omega
        · simp at hc
    exact ⟨ret_e (by rw [hle]; rfl)⟩
  · obtain ⟨g3, g4, g5⟩ := sub_round (d := rd a i + 4294967296 - (c + rd b i)) (e := 1) h5 h6 h7 (by omega) (by omega)
    exact ⟨again (i + 1, _, _) ⟨by omega, by decide, by decide, g3, g4, g5⟩ (by dsimp only; omega) ⟨rfl, rfl, rfl, rfl, rfl, trivial⟩ ⟨[], rfl⟩ ⟨[], rfl⟩⟩
  · obtain ⟨g3, g4, g5⟩ := sub_round (d := rd a i - (c + rd b i)) (e := 0) h5 h6 h7 (by omega) (by omega)
    exact ⟨again (i + 1, _, _) ⟨by omega, by decide, by decide, g3, g4, g5⟩ (by dsimp only; omega) ⟨rfl, rfl, rfl, rfl, rfl, trivial⟩ ⟨[], rfl⟩ ⟨[], rfl⟩⟩
  · obtain ⟨g3, g4, g5⟩ := sub_round (d := rd a i + 4294967296 - c) (e := 1) h5 h6 h7 (by omega) (by rw [rd_out b i (by omega)]; omega)
    exact ⟨again (i + 1, _, _) ⟨by omega, by decide, by decide, g3, g4, g5⟩ (by dsimp only; omega) ⟨rfl, rfl, rfl, rfl, rfl, trivial⟩ ⟨[], rfl⟩ ⟨[], rfl⟩⟩
  · obtain ⟨g3, g4, g5⟩ := sub_round (d := rd a i - c) (e := 0) h5 h6 h7 (by omega) (by rw [rd_out b i (by omega)]; omega)
    exact ⟨again (i + 1, _, _) ⟨by omega, by decide, by decide, g3, g4, g5⟩ (by dsimp only; omega) ⟨rfl, rfl, rfl, rfl, rfl, trivial⟩ ⟨[], rfl⟩ ⟨[], rfl⟩⟩
  · have h8 : ¬ cmpN X Y ≤ 0 := by assumption
    have hgtXY : Y < X := by
      unfold cmpN at h8
      split at h8
      · simp at h8
      · split at h8
        · simp at h8
        · omega
    have hbl : ¬ a.length < b.length := fun h => by have := hlt h; omega
    rw [List.take_of_length_le (by omega), List.take_of_length_le (by omega), va, vb] at h7
    have hv := vl_lt (B := 4294967296) (by decide) h6
    rw [h5] at hv
    have hc01 : c = 0 ∨ c = 1 := by omega
    refine ⟨ret_e ?_⟩
    show D _ = D (X - Y)
    congr 1
    rcases hc01 with e | e
    · rw [e, Int.mul_zero] at h7; omega
    · rw [e, Int.mul_one] at h7; omega
  · exact ⟨by omega, by omega, by omega, rfl, okD_nil _, by simp [vl]⟩
theorem mul_bd {x w : Int} (hx : 0 ≤ x ∧ x < 4294967296) (hw : 0 ≤ w ∧ w < 4294967296) : 0 ≤ x * w ∧ x * w ≤ 18446744065119617025 := by
  refine ⟨Int.mul_nonneg hx.1 hw.1, ?_⟩
  have h1 : x * w ≤ 4294967295 * w := Int.mul_le_mul_of_nonneg_right (by omega) hw.1
  omega
theorem muls_round {a s : List Int} {i : Nat} {c c0 w : Int} (hc : 0 ≤ c ∧ c < 4294967296) (h5 : s.length = i) (h6 : okD 4294967296 s) (h7 : vl 4294967296 s + 4294967296 ^ i * c = vl 4294967296 (a.take i) * w + c0) (hm : 0 ≤ rd a i * w ∧ rd a i * w ≤ 18446744065119617025) :
    0 ≤ (c + rd a i * w) / 4294967296 ∧ (c + rd a i * w) / 4294967296 < 4294967296 ∧ (s ++ [(c + rd a i * w) % 4294967296]).length = i + 1 ∧ okD 4294967296 (s ++ [(c + rd a i * w) % 4294967296]) ∧
      vl 4294967296 (s ++ [(c + rd a i * w) % 4294967296]) + 4294967296 ^ (i + 1) * ((c + rd a i * w) / 4294967296) = vl 4294967296 (a.take (i + 1)) * w + c0 := by
  refine ⟨by omega, by omega, by simp [h5], okD_append.2 ⟨h6, okD_cons.2 ⟨by omega, okD_nil _⟩⟩, ?_⟩
  rw [vl_snoc, h5, sum_step (T := c + rd a i * w) i (by omega), vl_take_step, Int.mul_add, Int.add_mul, Int.mul_assoc]
  omega
theorem r_muls (X : Nat) (w c0 : Int) (hX : L32 X ≤ 1073741824) (hw : 0 ≤ w ∧ w < 4294967296) (hc0 : 0 ≤ c0 ∧ c0 < 4294967296) : FC Tryd.prog G 51 [D X, .val (.int .u32 w), .val (.int .u32 c0)] (· = D (X * w + c0).toNat) := by
  obtain ⟨a, ea⟩ : ∃ a, a = d32 X := ⟨_, rfl⟩
  obtain ⟨oka, va⟩ := d32_ok X
  replace hX : (d32 X).length ≤ 1073741824 := hX
  unfold D
  rw [← ea] at hX oka va
  rw [← ea]
  refine ax_i Tryd.func51 Tryd.ntmps51 (by rw [Tryd.results51]) ?_; intro F hG hO
  repeat' ((try (conv => whnf)); first
  | ((with_reducible refine cg ?_); refine call_fz 0 (B := s ++ [c]) rfl rfl (by simp only [List.length_append, List.length_cons, List.length_nil]; omega) (by rw [List.drop_zero]; exact List.take_of_length_le (by simp only [List.length_append, List.length_cons, List.length_nil]; omega)) (by omega) ?_; refine call_eq (r_normD (s ++ [c]) (by simp only [List.length_append, List.length_cons, List.length_nil]; omega) (okD_append.2 ⟨h6, okD_cons.2 ⟨h2, okD_nil _⟩⟩)) (LpL.refl _) rfl ?_)
  | ((with_reducible refine lg ?_); refine loop_g (A := Nat × List Int × Int) (fun (i, s, c) => i ≤ a.length ∧ (0 ≤ c ∧ c < 4294967296) ∧ s.length = i ∧ okD 4294967296 s ∧ vl 4294967296 s + 4294967296 ^ i * c = vl 4294967296 (a.take i) * w + c0) (fun (i, s, c) => a.length - i) (fun (i, s, c) => [(0, .ws .u32 a), (1, .val (.int .u32 w)), (7, .arr 0 0 i), (8, .val (.int .u64 c)), (9, .val (.int .i64 (i : Int)))]) (fun _ => []) (fun (i, s, c) => [some ⟨1, 90, .w .u32 s⟩]) (0, [], c0) tok (fun (i, s, c) => ⟨⟨trivial, trivial, Nat.one_pos, trivial, trivial, trivial⟩, trivial, by simp only [List.length_cons]; omega⟩) ?_ ⟨rfl, rfl, rfl, rfl, rfl, trivial⟩ ⟨[], rfl⟩ ⟨[], rfl⟩ ?_; rotate_left; rintro ⟨i, s, c⟩ ⟨h1, h2, h5, h6, h7⟩; have ra := rd_bd (by decide) oka (i : Int); have rm := mul_bd ra hw)
  
  | with_reducible first | refine ax_s ?_ | refine BothG.mk ?_ ?_ | (refine ax_f ?_ ?_ <;> intro hc) | refine smk ?_ | fail)
  · obtain ⟨g1, g2, g3, g4, g5⟩ := muls_round h2 h5 h6 h7 rm
    exact ⟨again (i + 1, _, _) ⟨by omega, ⟨g1, g2⟩, g3, g4, g5⟩ (by dsimp only; omega) ⟨rfl, rfl, rfl, rfl, rfl, trivial⟩ ⟨[], rfl⟩ ⟨[], rfl⟩⟩
  · refine ⟨ret_e ?_⟩
    rw [vl_snoc, h5, h7, List.take_of_length_le (by omega), va]
  · exact ⟨by omega, hc0, rfl, okD_nil _, by simp [vl]⟩
theorem div_bd {l x w : Int} (hl : 0 ≤ l ∧ l < w) (hx : 0 ≤ x ∧ x < 4294967296) (hw : 0 < w) : 0 ≤ (l * 4294967296 + x) / w ∧ (l * 4294967296 + x) / w < 4294967296 := by
  refine ⟨Int.ediv_nonneg (by omega) (by omega), Int.ediv_lt_of_lt_mul hw ?_⟩
  have : (l + 1) * 4294967296 ≤ w * 4294967296 := Int.mul_le_mul_of_nonneg_right (by omega) (by decide)
  rw [Int.mul_comm 4294967296 w]
  omega
theorem div_round {a q : List Int} {m : Nat} {l w : Int} (hm : 0 < m ∧ m ≤ a.length) (hq : q.length = a.length) (hw : 0 < w) (h : vl 4294967296 (a.drop m) = vl 4294967296 (q.drop m) * w + l) :
    vl 4294967296 (a.drop (m - 1)) = vl 4294967296 ((q.set (m - 1) ((l * 4294967296 + rd a ((m : Int) - 1)) / w)).drop (m - 1)) * w + (l * 4294967296 + rd a ((m : Int) - 1)) % w := by
  have hi : ((m - 1 : Nat) : Int) = (m : Int) - 1 := by omega
  have e1 := drop_rd a (m - 1) (by omega)
  rw [show m - 1 + 1 = m by omega, hi] at e1
  have e2 : (q.set (m - 1) ((l * 4294967296 + rd a ((m : Int) - 1)) / w)).drop (m - 1) = (l * 4294967296 + rd a ((m : Int) - 1)) / w :: q.drop m := by
    rw [List.drop_eq_getElem_cons (by simp; omega)]
    simp [show m - 1 + 1 = m by omega]
    exact List.drop_set_of_lt (by omega)
  rw [e1, e2]
  simp only [vl]
  rw [h]
  have hd := Int.mul_ediv_add_emod (l * 4294967296 + rd a ((m : Int) - 1)) w
  rw [Int.mul_comm w] at hd
  rw [Int.add_mul, Int.mul_add, Int.mul_assoc]
  omega
theorem r_divs (X : Nat) (w : Int) (hX : L32 X ≤ 1073741824) (hw : 0 < w ∧ w < 4294967296) : FC Tryd.prog G 50 [D X, .val (.int .u32 w)] (· = .tup [D (X / w).toNat, .val (.int .u32 (X % w))]) := by
  obtain ⟨a, ea⟩ : ∃ a, a = d32 X := ⟨_, rfl⟩
  obtain ⟨oka, va⟩ := d32_ok X
  replace hX : (d32 X).length ≤ 1073741824 := hX
  unfold D
  rw [← ea] at hX oka va
  rw [← ea]
  refine ax_i Tryd.func50 Tryd.ntmps50 (by rw [Tryd.results50]) ?_; intro F hG hO
  repeat' ((try (conv => whnf)); first
  | (with_reducible refine shl_g (m := 4294967296) 32 rfl (by decide) rfl (by dsimp only [inR]; omega) ?_)
  | ((with_reducible refine cg ?_); refine call_fz 0 (B := q) rfl rfl (by omega) (by rw [List.drop_zero, ← h5, List.take_length]) (by omega) ?_; refine call_eq (r_normD q (by omega) h6) (LpL.refl _) rfl ?_)
  | ((with_reducible refine lg ?_); refine loop_g (A := Nat × List Int × Int) (fun (m, q, l) => m ≤ a.length ∧ (0 ≤ l ∧ l < w) ∧ q.length = a.length ∧ okD 4294967296 q ∧ vl 4294967296 (a.drop m) = vl 4294967296 (q.drop m) * w + l) (fun (m, q, l) => m) (fun (m, q, l) => [(0, .ws .u32 a), (1, .val (.int .u32 w)), (6, .arr 0 0 a.length), (7, .val (.int .u64 l)), (8, .val (.int .i64 ((m : Int) - 1)))]) (fun _ => []) (fun (m, q, l) => [some ⟨1, 90, .w .u32 q⟩]) (a.length, List.replicate a.length 0, 0) tok (fun (m, q, l) => ⟨⟨trivial, trivial, Nat.one_pos, trivial, trivial, trivial⟩, trivial, by simp only [List.length_cons]; omega⟩) ?_ ⟨rfl, rfl, rfl, rfl, rfl, trivial⟩ ⟨[], rfl⟩ ⟨[], rfl⟩ ?_; rotate_left; rintro ⟨m, q, l⟩ ⟨h1, h2, h5, h6, h7⟩; have ra := rd_bd (by decide) oka ((m : Int) - 1); have rq := div_bd h2 ra hw.1)
  
  | with_reducible first | refine ax_s ?_ | refine BothG.mk ?_ ?_ | (refine ax_f ?_ ?_ <;> intro hc) | refine smk ?_ | fail)
  · have hr := div_round (m := m) (by omega) h5 hw.1 h7
    have hmod := Int.emod_nonneg (l * 4294967296 + rd a ((m : Int) - 1)) (show w ≠ 0 by omega)
    have hmod2 := Int.emod_lt_of_pos (l * 4294967296 + rd a ((m : Int) - 1)) hw.1
    refine ⟨again (m - 1, q.set (m - 1) ((l * 4294967296 + rd a ((m : Int) - 1)) / w), (l * 4294967296 + rd a ((m : Int) - 1)) % w) ⟨by omega, ⟨hmod, hmod2⟩, by simpa using h5, fun x hx => ?_, hr⟩ (by dsimp only; omega) ⟨rfl, rfl, rfl, rfl, iv_eq (by omega), trivial⟩ ⟨[], rfl⟩ ⟨[], ?_⟩⟩
    · rcases List.mem_or_eq_of_mem_set hx with h | h
      · exact h6 x h
      · rw [h]; exact rq
    · have ht : 0 + ((m : Int) - 1).toNat = m - 1 := by omega
      rw [ht]; rfl
  · have hm : m = 0 := by omega
    subst hm
    rw [List.drop_zero, List.drop_zero, va] at h7
    have hq0 := vl_nonneg (B := 4294967296) (by decide) h6
    have e2 : (X : Int) / w = vl 4294967296 q := by
      rw [h7, Int.mul_comm, Int.add_comm, Int.add_mul_ediv_left _ _ (by omega), Int.ediv_eq_zero_of_lt h2.1 h2.2, Int.zero_add]
    have e3 : (X : Int) % w = l := by
      rw [h7, Int.mul_comm, Int.add_comm, Int.add_mul_emod_self_left, Int.emod_eq_of_lt h2.1 h2.2]
    exact ⟨ret_e (by rw [e2, e3])⟩
  · refine ⟨Nat.le_refl _, ⟨by omega, by omega⟩, by simp, fun x hx => ?_, by simp [vl]⟩
    have := List.eq_of_mem_replicate hx
    subst this; decide
end Go.Proofs.YtfnmlikgdfmcbaaDoor.Sim
namespace Go.Proofs.YtfnmlikgdfmcbaaDoor.Sim
set_option linter.unusedVariables false
set_option linter.unusedSectionVars false
set_option linter.unusedSimpArgs false
def bl (n : Nat) : Nat := if n = 0 then 0 else Nat.log2 n + 1
theorem lt_bl (n : Nat) : n < 2 ^ bl n := by
  unfold bl
  split
  · rename_i h; subst h; decide
  · rename_i h; exact (Nat.log2_lt h).1 (Nat.lt_succ_self _)
theorem bl_le {n k : Nat} (h : n < 2 ^ k) : bl n ≤ k := by
  unfold bl
  split
  · omega
  · rename_i h0; exact (Nat.log2_lt h0).2 h
theorem bl_ge {n k : Nat} (h : 2 ^ k ≤ n) : k < bl n := by
  rcases Nat.lt_or_ge k (bl n) with h1 | h1
  · exact h1
  · have := Nat.lt_of_lt_of_le (lt_bl n) (Nat.pow_le_pow_right (show 0 < 2 by decide) h1)
    omega
theorem bl_eq {n k : Nat} (h : n < 2 ^ k) (h2 : k = 0 ∨ 2 ^ (k - 1) ≤ n) : bl n = k := by
  have h3 := bl_le h
  rcases h2 with h2 | h2
  · omega
  · have := bl_ge h2; omega
theorem bl_pos {n : Nat} (h : n ≠ 0) : 0 < bl n := by unfold bl; rw [if_neg h]; omega
theorem le_of_bl {n : Nat} (h : n ≠ 0) : 2 ^ (bl n - 1) ≤ n := by
  rcases Nat.lt_or_ge n (2 ^ (bl n - 1)) with h1 | h1
  · have := bl_le h1; have := bl_pos h; omega
  · exact h1
section
variable {B : Nat} (hB : 2 ≤ B)
include hB
theorem dgs_cons {n : Nat} (h : n ≠ 0) : dgs B n = ((n % B : Nat) : Int) :: dgs B (n / B) := by
  rw [dgs, dif_neg (by omega)]
theorem dgs_nil : dgs B 0 = [] := by rw [dgs, dif_pos (by omega)]
theorem dgs_drop : ∀ (k n : Nat), (dgs B n).drop k = dgs B (n / B ^ k)
  | 0, n => by simp
  | k + 1, n => by
    by_cases h : n = 0
    · subst h; rw [dgs_nil hB, Nat.zero_div, dgs_nil hB, List.drop_nil]
    · rw [dgs_cons hB h, List.drop_succ_cons, dgs_drop k, Nat.div_div_eq_div_mul, Nat.pow_succ, Nat.mul_comm B]
theorem dgs_take : ∀ (k n : Nat), vl B ((dgs B n).take k) = ((n % B ^ k : Nat) : Int)
  | 0, n => by simp [vl, Nat.mod_one]
  | k + 1, n => by
    by_cases h : n = 0
    · subst h; rw [dgs_nil hB]; simp [vl]
    · rw [dgs_cons hB h, List.take_succ_cons]
      simp only [vl]
      rw [dgs_take k]
      have e : n % B ^ (k + 1) = n % B + B * (n / B % B ^ k) := by rw [Nat.pow_succ, Nat.mul_comm (B ^ k), Nat.mod_mul]
      rw [e]
      simp
theorem dgs_rd (n i : Nat) : rd (dgs B n) i = ((n / B ^ i % B : Nat) : Int) := by
  have h := dgs_drop hB i n
  have e : rd (dgs B n) i = rd ((dgs B n).drop i) (0 : Nat) := by simp [rd, List.getD_eq_getElem?_getD]
  rw [e, h]
  by_cases h0 : n / B ^ i = 0
  · rw [h0, dgs_nil hB]; simp [rd]
  · rw [dgs_cons hB h0]; simp [rd]
end
theorem d32_drop (n k : Nat) : (d32 n).drop k = d32 (n / 2 ^ (32 * k)) := by
  have := dgs_drop (B := 4294967296) (by decide) k n
  rw [pow32] at this
  exact this
theorem d32_take (n k : Nat) : vl 4294967296 ((d32 n).take k) = ((n % 2 ^ (32 * k) : Nat) : Int) := by
  have := dgs_take (B := 4294967296) (by decide) k n
  rw [pow32] at this
  exact this
theorem d32_rd (n i : Nat) : rd (d32 n) i = ((n / 2 ^ (32 * i) % 4294967296 : Nat) : Int) := by
  have := dgs_rd (B := 4294967296) (by decide) n i
  rw [pow32] at this
  exact this
theorem d64_rd (n i : Nat) : rd (d64 n) i = ((n / 2 ^ (64 * i) % 18446744073709551616 : Nat) : Int) := by
  have := dgs_rd (B := 18446744073709551616) (by decide) n i
  rw [pow64] at this
  exact this
theorem bl_top (n k : Nat) (h : n / 2 ^ k ≠ 0) : bl n = k + bl (n / 2 ^ k) := by
  have hp : 0 < 2 ^ k := Nat.pow_pos (by decide)
  refine bl_eq ?_ (.inr ?_)
  · rw [Nat.pow_add, Nat.mul_comm]; exact (Nat.div_lt_iff_lt_mul hp).1 (lt_bl _)
  · have := bl_pos h
    rw [show k + bl (n / 2 ^ k) - 1 = (bl (n / 2 ^ k) - 1) + k by omega, Nat.pow_add]
    exact (Nat.le_div_iff_mul_le hp).1 (le_of_bl h)
theorem L32_bl (n : Nat) : L32 n = (bl n + 31) / 32 := by
  by_cases h : n = 0
  · subst h; exact lenB_zero _
  · have h1 := lt_bl n
    have h2 := le_of_bl h
    have h3 := bl_pos h
    have a : L32 n ≤ (bl n + 31) / 32 := L32_le (Nat.lt_of_lt_of_le h1 (Nat.pow_le_pow_right (by decide) (by omega)))
    have b : (bl n - 1) / 32 < L32 n := lenB_ge (by decide) (by rw [pow32]; exact Nat.le_trans (Nat.pow_le_pow_right (by decide) (by omega)) h2)
    omega
theorem L64_bl (n : Nat) : L64 n = (bl n + 63) / 64 := by
  by_cases h : n = 0
  · subst h; exact lenB_zero _
  · have h1 := lt_bl n
    have h2 := le_of_bl h
    have h3 := bl_pos h
    have a : L64 n ≤ (bl n + 63) / 64 := L64_le (Nat.lt_of_lt_of_le h1 (Nat.pow_le_pow_right (by decide) (by omega)))
    have b : (bl n - 1) / 64 < L64 n := lenB_ge (by decide) (by rw [pow64]; exact Nat.le_trans (Nat.pow_le_pow_right (by decide) (by omega)) h2)
    omega
theorem pw32 {n : Nat} (h : n < 32) : 0 < (2 : Int) ^ n ∧ (2 : Int) ^ n < 4294967296 := by
  have h2 : (2 : Nat) ^ n < 2 ^ 32 := Nat.pow_lt_pow_right (by decide) h
  have h1 : 0 < (2 : Nat) ^ n := Nat.pow_pos (by decide)
  have h3 : ((2 : Int) ^ n) = ((2 ^ n : Nat) : Int) := by simp
  obtain ⟨m, hm⟩ : ∃ m : Nat, m = 2 ^ n := ⟨_, rfl⟩
  rw [h3]
  rw [← hm] at h1 h2 ⊢
  have : m < 4294967296 := h2
  omega
theorem bit_in (X q r w : Nat) (h : r < w) : X / 2 ^ q % 2 ^ w / 2 ^ r % 2 = X / 2 ^ (q + r) % 2 := by
  have e1 : 2 ^ w = 2 ^ r * 2 ^ (w - r) := by rw [← Nat.pow_add]; congr 1; omega
  rw [e1, Nat.mod_mul_right_div_self, Nat.div_div_eq_div_mul, ← Nat.pow_add]
  refine Nat.mod_mod_of_dvd _ ⟨2 ^ (w - r - 1), ?_⟩
  rw [← Nat.pow_succ']; congr 1; omega
theorem top32 {X : Nat} (h : X ≠ 0) : X / 2 ^ (32 * (L32 X - 1)) < 4294967296 ∧ X / 2 ^ (32 * (L32 X - 1)) ≠ 0 := by
  have h1 : 0 < L32 X := lenB_pos (B := 4294967296) (by decide) h
  have h2 := L32_lt X
  have h3 : 2 ^ (32 * (L32 X - 1)) ≤ X := by
    have := ((dgs_len (B := 4294967296) (by decide) X).2 h).2
    rw [pow32] at this
    exact this
  have hp : 0 < 2 ^ (32 * (L32 X - 1)) := Nat.pow_pos (by decide)
  refine ⟨?_, ?_⟩
  · rw [Nat.div_lt_iff_lt_mul hp]
    have : (4294967296 : Nat) = 2 ^ 32 := by decide
    rw [this, ← Nat.pow_add]
    rwa [show 32 + 32 * (L32 X - 1) = 32 * L32 X by omega]
  · have := Nat.div_pos h3 hp; omega
theorem d64_two (X j : Nat) : rd (d64 X) j = rd (d32 X) (2 * (j : Int)) + rd (d32 X) (2 * (j : Int) + 1) * 4294967296 := by
  have h0 := d32_rd X (2 * j)
  have h1 := d32_rd X (2 * j + 1)
  rw [show ((2 * j : Nat) : Int) = 2 * (j : Int) by omega] at h0
  rw [show ((2 * j + 1 : Nat) : Int) = 2 * (j : Int) + 1 by omega] at h1
  rw [d64_rd, h0, h1]
  have e1 : X / 2 ^ (32 * (2 * j)) = X / 2 ^ (64 * j) := by congr 2; omega
  have e2 : X / 2 ^ (32 * (2 * j + 1)) = X / 2 ^ (64 * j) / 4294967296 := by
    have : (4294967296 : Nat) = 2 ^ 32 := by decide
    rw [this, Nat.div_div_eq_div_mul, ← Nat.pow_add]; congr 2; omega
  rw [e1, e2]
  omega
end Go.Proofs.YtfnmlikgdfmcbaaDoor.Sim
namespace Go.Proofs.YtfnmlikgdfmcbaaDoor.Sim
set_option linter.unusedVariables false
set_option linter.unusedSimpArgs false
def ins (p : List Int) (lo : Nat) (s : List Int) : List Int := p.take lo ++ s ++ p.drop (lo + s.length)
theorem ins_len {p s : List Int} {lo : Nat} (h : lo + s.length ≤ p.length) : (ins p lo s).length = p.length := by
  simp [ins]; omega
theorem ins_nil (p : List Int) (lo : Nat) : ins p lo [] = p := by simp [ins]
theorem ins_get {p s : List Int} {lo : Nat} (h : lo + s.length ≤ p.length) : (ins p lo s).getD (lo + s.length) 0 = rd p ((lo + s.length : Nat) : Int) := by
  have e : (p.take lo ++ s).length = lo + s.length := by simp; omega
  unfold ins
  simp only [List.getD_eq_getElem?_getD, rd, Int.toNat_natCast]
  rw [List.getElem?_append_right (by omega), e, List.getElem?_drop]
  simp
theorem ins_set {p s : List Int} {lo : Nat} (d : Int) (h : lo + s.length < p.length) : (ins p lo s).set (lo + s.length) d = ins p lo (s ++ [d]) := by
  have e : (p.take lo ++ s).length = lo + s.length := by simp; omega
  unfold ins
  rw [List.set_append_right _ _ (by omega), e, Nat.sub_self, List.drop_eq_getElem_cons h]
  simp [Nat.add_assoc]
theorem ins_take {p s : List Int} {lo : Nat} (h : lo + s.length ≤ p.length) : (ins p lo s).take lo = p.take lo := by
  have e : (p.take lo).length = lo := by simp; omega
  unfold ins
  rw [List.append_assoc, List.take_append_of_le_length (by omega), List.take_take, Nat.min_self]
theorem ins_drop {p s : List Int} {lo : Nat} (h : lo + s.length ≤ p.length) : (ins p lo s).drop (lo + s.length) = p.drop (lo + s.length) := by
  have e : (p.take lo ++ s).length = lo + s.length := by simp; omega
  unfold ins
  rw [← e, List.drop_left]
theorem ins_mid {p s : List Int} {lo : Nat} (h : lo + s.length ≤ p.length) : ((ins p lo s).drop lo).take s.length = s := by
  have e : (p.take lo).length = lo := by simp; omega
  unfold ins
  rw [List.append_assoc]
  have : (p.take lo ++ (s ++ p.drop (lo + s.length))).drop lo = s ++ p.drop (lo + s.length) := by
    conv => lhs; rw [← e]
    rw [e, List.drop_left' e]
  rw [this, List.take_left]
theorem ins_ins {p s r : List Int} {lo : Nat} (h : lo + s.length ≤ p.length) (hr : r.length = s.length) : ins (ins p lo s) lo r = ins p lo r := by
  have h1 := ins_take h
  have h2 := ins_drop h
  rw [← hr] at h2
  unfold ins at h1 h2 ⊢
  rw [h1, h2]
theorem ins_okD {B : Int} {p s : List Int} {lo : Nat} (hp : okD B p) (hs : okD B s) : okD B (ins p lo s) := okD_append.2 ⟨okD_append.2 ⟨hp.take _, hs⟩, hp.drop _⟩
theorem rd_drop (p : List Int) (lo i : Nat) : rd (p.drop lo) (i : Int) = rd p ((lo + i : Nat) : Int) := by
  simp only [rd, List.getD_eq_getElem?_getD, Int.toNat_natCast, List.getElem?_drop]
theorem gd_bd {B : Int} (hB : 0 < B) {a : List Int} (ok : okD B a) (j : Nat) : 0 ≤ a.getD j 0 ∧ a.getD j 0 < B := by
  have := rd_bd hB ok (j : Int)
  simpa only [rd, Int.toNat_natCast] using this
theorem gd_rd (a : List Int) (j : Nat) : a.getD j 0 = rd a (j : Int) := by simp only [rd, Int.toNat_natCast]
theorem ins_vl (B : Int) {p s : List Int} {lo : Nat} (h : lo + s.length ≤ p.length) : vl B (ins p lo s) = vl B (p.take lo) + B ^ lo * (vl B s + B ^ s.length * vl B (p.drop (lo + s.length))) := by
  have e : (p.take lo).length = lo := by simp; omega
  unfold ins
  rw [List.append_assoc, vl_append, vl_append, e]
end Go.Proofs.YtfnmlikgdfmcbaaDoor.Sim
namespace Go.Proofs.YtfnmlikgdfmcbaaDoor.Sim
open Go.RowKit
set_option linter.unusedVariables false
set_option linter.unusedSimpArgs false
set_option maxRecDepth 10000
set_option maxHeartbeats 4000000
variable {G : List (Nat × List Value)}
theorem vl_set (B : Int) (p : List Int) (k : Nat) (d : Int) (h : k < p.length) : vl B (p.set k d) = vl B p + B ^ k * (d - rd p k) := by
  have e1 := vl_split B (p.set k d) k (by simp; omega)
  have e2 := vl_split B p k (by omega)
  have e3 : (p.set k d).drop k = d :: p.drop (k + 1) := by
    rw [List.drop_eq_getElem_cons (by simp; omega)]
    simp
    exact List.drop_set_of_lt (by omega)
  rw [e1, e2, e3, drop_rd p k h, List.take_set_of_le (by omega)]
  simp only [vl, Int.mul_add, Int.mul_sub]
  omega
theorem drop_next {p q : List Int} {m : Nat} (h : p.drop m = q.drop m) : p.drop (m + 1) = q.drop (m + 1) := by
  have := congrArg (List.drop 1) h
  rwa [List.drop_drop, List.drop_drop] at this
theorem vl_zero (B : Int) : ∀ n, vl B (List.replicate n 0) = 0
  | 0 => rfl
  | n + 1 => by simp [List.replicate_succ, vl, vl_zero B n]
theorem mul_bd2 {x y : Int} (hx : 0 ≤ x ∧ x < 4294967296) (hy : 0 ≤ y ∧ y < 4294967296) : 0 ≤ x * y ∧ x * y ≤ 18446744065119617025 := mul_bd hx hy
theorem r_mul (X Y : Nat) (hX : L32 X ≤ 1073741824) (hY : L32 Y ≤ 1073741824) : FC Tryd.prog G 74 [D X, D Y] (· = D (X * Y)) := by
  obtain ⟨a, ea⟩ : ∃ a, a = d32 X := ⟨_, rfl⟩
  obtain ⟨b, eb⟩ : ∃ b, b = d32 Y := ⟨_, rfl⟩
  obtain ⟨oka, va⟩ := d32_ok X
  obtain ⟨okb, vb⟩ := d32_ok Y
  replace hX : (d32 X).length ≤ 1073741824 := hX
  replace hY : (d32 Y).length ≤ 1073741824 := hY
  unfold D
  rw [← ea] at hX oka va
  rw [← eb] at hY okb vb
  rw [← ea, ← eb]
  refine ax_i Tryd.func74 Tryd.ntmps74 (by rw [Tryd.results74]) ?_; intro F hG hO
  repeat' ((try (conv => whnf)); first
  | ((with_reducible refine lg ?_); refine loop_g (A := Nat × List Int × Int) (fun (j, p, c) => j ≤ b.length ∧ (0 ≤ c ∧ c < 4294967296) ∧ p.length = a.length + b.length ∧ okD 4294967296 p ∧ p.drop (i + j) = p0.drop (i + j) ∧ vl 4294967296 p + 4294967296 ^ (i + j) * c = vl 4294967296 p0 + 4294967296 ^ i * (rd a i * vl 4294967296 (b.take j))) (fun (j, p, c) => b.length - j) (fun (j, p, c) => [(0, .ws .u32 a), (1, .ws .u32 b), (5, .arr 0 0 (a.length + b.length)), (6, .val (.int .i64 (i : Int))), (7, .val (.int .u64 c)), (8, .val (.int .u64 (rd a i))), (9, .val (.int .i64 (j : Int)))]) (fun _ => []) (fun (j, p, c) => [some ⟨1, 90, .w .u32 p⟩]) (0, p0, 0) tok (fun (j, p, c) => ⟨⟨trivial, trivial, Nat.one_pos, trivial, trivial, trivial, trivial, trivial⟩, trivial, by simp only [List.length_cons]; omega⟩) ?_ ⟨rfl, rfl, rfl, rfl, rfl, rfl, rfl, trivial⟩ ⟨[], rfl⟩ ⟨[], rfl⟩ ?_; rotate_left; rintro ⟨j, p, c⟩ ⟨g1, g2, g5, g6, g7, g8⟩; have rb := rd_bd (by decide) okb (j : Int); have rp := gd_bd (by decide) g6 (0 + ((i : Int) + (j : Int)).toNat); have rm := mul_bd2 ra rb)
  | ((with_reducible refine lg ?_); refine loop_g (A := Nat × List Int) (fun (i, p0) => i ≤ a.length ∧ p0.length = a.length + b.length ∧ okD 4294967296 p0 ∧ (∀ k : Nat, i + b.length ≤ k → rd p0 k = 0) ∧ vl 4294967296 p0 = vl 4294967296 (a.take i) * vl 4294967296 b) (fun (i, p0) => a.length - i) (fun (i, p0) => [(0, .ws .u32 a), (1, .ws .u32 b), (5, .arr 0 0 (a.length + b.length)), (6, .val (.int .i64 (i : Int)))]) (fun _ => []) (fun (i, p0) => [some ⟨1, 90, .w .u32 p0⟩]) (0, List.replicate (a.length + b.length) 0) tok (fun (i, p0) => ⟨⟨trivial, trivial, Nat.one_pos, trivial, trivial⟩, trivial, by simp only [List.length_cons]; omega⟩) ?_ ⟨rfl, rfl, rfl, rfl, trivial⟩ ⟨[], rfl⟩ ⟨[], rfl⟩ ?_; rotate_left; rintro ⟨i, p0⟩ ⟨h1, h5, h6, h7, h8⟩; have ra := rd_bd (by decide) oka (i : Int))
  | ((with_reducible refine cg ?_); refine call_fz 0 (B := p0) rfl rfl (by omega) (by rw [List.drop_zero, ← h5, List.take_length]) (by omega) ?_; refine call_eq (r_normD p0 (by omega) h6) (LpL.refl _) rfl ?_)
  
  | (with_reducible refine draw_g (id := 10) [[0, 1, 2, 3, 4, 5, 6, 7, 8, 9, 10, 11, 12, 13, 14, 15, 16, 17]] tok mixed (by kernel_rfl) ?_)
  | with_reducible first | refine ax_s ?_ | refine BothG.mk ?_ ?_ | (refine ax_f ?_ ?_ <;> intro hc) | refine smk ?_ | fail)
  · obtain ⟨T, hT⟩ : ∃ T : Int, T = c + (p.getD (0 + ((i : Int) + (j : Int)).toNat) 0 + rd a i * rd b j) := ⟨_, rfl⟩
    have hk : 0 + ((i : Int) + (j : Int)).toNat = i + j := by omega
    have hrp : rd p ((i + j : Nat) : Int) = p.getD (0 + ((i : Int) + (j : Int)).toNat) 0 := by rw [hk, gd_rd]
    have hv := vl_set 4294967296 p (i + j) (T % 4294967296) (by omega)
    have hs := sum_step (B := 4294967296) (vs := vl 4294967296 p) (d := T % 4294967296 - rd p ((i + j : Nat) : Int)) (c2 := T / 4294967296) (T := c + rd a i * rd b j) (i + j) (by omega)
    refine ⟨again (j + 1, p.set (i + j) (T % 4294967296), T / 4294967296) ⟨by omega, ⟨by omega, by omega⟩, by simpa using g5, fun x hx => ?_, ?_, ?_⟩ (by dsimp only; omega) ⟨rfl, rfl, rfl, rfl, iv_eq (by rw [hT]), rfl, rfl, trivial⟩ ⟨[], rfl⟩ ⟨[], ?_⟩⟩
    · rcases List.mem_or_eq_of_mem_set hx with h | h
      · exact g6 x h
      · rw [h]; omega
    · rw [← Nat.add_assoc, List.drop_set_of_lt (by omega)]; exact drop_next g7
    · rw [hv, ← Nat.add_assoc, hs, vl_take_step]
      have e1 : (4294967296 : Int) ^ (i + j) * (c + rd a i * rd b j) = 4294967296 ^ (i + j) * c + 4294967296 ^ i * (rd a i * (4294967296 ^ j * rd b j)) := by
        rw [Int.mul_add, Int.pow_add, Int.mul_assoc (4294967296 ^ i) (4294967296 ^ j) (rd a i * rd b j), Int.mul_left_comm (4294967296 ^ j) (rd a i) (rd b j)]
      rw [e1, Int.mul_add (rd a i), Int.mul_add (4294967296 ^ i)]
      omega
    · rw [hT, ← hk]; rfl
  · have hk : 0 + ((i : Int) + (b.length : Int)).toNat = i + b.length := by omega
    have hj : j = b.length := by omega
    subst hj
    have hz : rd p ((i + b.length : Nat) : Int) = 0 := by
      have e1 := drop_rd p (i + b.length) (by omega)
      have e2 := drop_rd p0 (i + b.length) (by omega)
      rw [g7, e2] at e1
      have := (List.cons.inj e1).1
      rw [← this]; exact h7 _ (Nat.le_refl _)
    have hv := vl_set 4294967296 p (i + b.length) c (by omega)
    rw [hz, Int.sub_zero] at hv
    refine ⟨again (i + 1, p.set (i + b.length) c) ⟨by omega, by simpa using g5, fun x hx => ?_, fun k hk2 => ?_, ?_⟩ (by dsimp only; omega) ⟨rfl, rfl, rfl, rfl, trivial⟩ ⟨[], rfl⟩ ⟨[], by rw [← hk]; rfl⟩⟩
    · rcases List.mem_or_eq_of_mem_set hx with h | h
      · exact g6 x h
      · rw [h]; exact g2
    · have e3 : (p.set (i + b.length) c).drop (i + b.length + 1) = p0.drop (i + b.length + 1) := by
        rw [List.drop_set_of_lt (by omega)]; exact drop_next g7
      have e4 : rd (p.set (i + b.length) c) k = rd p0 k := by
        have h0 := congrArg (fun l => l.getD (k - (i + b.length + 1)) 0) e3
        simp only [List.getD_eq_getElem?_getD, List.getElem?_drop] at h0
        rw [show i + b.length + 1 + (k - (i + b.length + 1)) = k by omega] at h0
        simpa [rd, List.getD_eq_getElem?_getD] using h0
      rw [e4]; exact h7 k (by omega)
    · rw [hv, g8, h8, vl_take_step, List.take_length, Int.add_mul, Int.mul_assoc]
  · exact ⟨by omega, ⟨by omega, by omega⟩, h5, h6, rfl, by simp [vl]⟩
  · refine ⟨ret_e ?_⟩
    rw [h8, List.take_of_length_le (by omega), va, vb]
    rfl
  · exact ⟨by omega, by simp, fun x hx => by rw [List.eq_of_mem_replicate hx]; decide, fun k _ => by simp [rd, List.getD_eq_getElem?_getD, List.getElem?_replicate]; split <;> rfl, by rw [vl_zero]; simp [vl]⟩
theorem trim_d32 (n : Nat) : trim (d32 n) = d32 n := (dgs_ok (B := 4294967296) (by decide) n).2.2
theorem r_normN (X : Nat) (h : L32 X ≤ 1099511627776) : FC Tryd.prog G 43 [D X] (· = D X) :=
  (r_norm (d32 X) h).mono fun r hr => by rw [hr, trim_d32]; rfl
theorem trim_okD {a : List Int} (ok : okD 4294967296 a) : trim a = d32 (vl 4294967296 a).toNat := trim_dgs (B := 4294967296) (by decide) ok
abbrev OwnD (n : Nat) : PV → List (Option Row) → Prop := Own 90 .u32 (d32 n)
theorem m_normN (X : Nat) (h : L32 X ≤ 1099511627776) : PM Tryd.prog G 43 [.ws .u32 (d32 X)] [] (OwnD X) := by
  have := m_norm (G := G) (d32 X) h
  rwa [trim_d32] at this
theorem m_normD (a : List Int) (h : a.length ≤ 1099511627776) (ok : okD 4294967296 a) : PM Tryd.prog G 43 [.ws .u32 a] [] (OwnD (vl 4294967296 a).toNat) := by
  have := m_norm (G := G) a h
  rwa [trim_okD ok] at this
theorem r_small (n : Int) (h : inR .i64 n) : FC Tryd.prog G 79 [.val (.int .i64 n)] (· = D n.toNat) := by
  dsimp only [inR] at h
  refine ax_i Tryd.func79 Tryd.ntmps79 (by rw [Tryd.results79]) ?_; intro F hG hO
  repeat' ((try (conv => whnf)); first
  | ((with_reducible refine cg ?_); refine call_eq (r_word _ (by omega)) (LpL.refl _) rfl ?_)
  
  | with_reducible first | refine ax_s ?_ | refine BothG.mk ?_ ?_ | (refine ax_f ?_ ?_ <;> intro hc) | refine smk ?_ | fail)
  · exact ⟨ret_e (by rw [show n.toNat = 0 by omega]; rfl)⟩
  · exact ⟨ret_e rfl⟩
theorem vl_zeros (k : Nat) (l : List Int) : vl 4294967296 (List.replicate k 0 ++ l) = 4294967296 ^ k * vl 4294967296 l := by
  rw [vl_append, vl_zero, List.length_replicate, Int.zero_add]
theorem shl_val (X : Nat) (n : Int) (h : 0 < n) : (vl 4294967296 (List.replicate (n / 32).toNat 0 ++ d32 ((X : Int) * 2 ^ (n % 32).toNat + 0).toNat)).toNat = X * 2 ^ n.toNat := by
  have e1 : ((X : Int) * 2 ^ (n % 32).toNat + 0).toNat = X * 2 ^ (n % 32).toNat := by
    have : ((X : Int) * 2 ^ (n % 32).toNat + 0) = ((X * 2 ^ (n % 32).toNat : Nat) : Int) := by simp
    rw [this, Int.toNat_natCast]
  rw [e1, vl_zeros, (d32_ok _).2]
  have e2 : ((4294967296 : Int) ^ (n / 32).toNat * ((X * 2 ^ (n % 32).toNat : Nat) : Int)) = ((4294967296 ^ (n / 32).toNat * (X * 2 ^ (n % 32).toNat) : Nat) : Int) := by simp
  rw [e2, Int.toNat_natCast, pow32, Nat.mul_left_comm, ← Nat.pow_add]
  congr 2
  omega
theorem okD_zeros {k : Nat} {l : List Int} (h : okD 4294967296 l) : okD 4294967296 (List.replicate k 0 ++ l) :=
  okD_append.2 ⟨fun x hx => by rw [List.eq_of_mem_replicate hx]; decide, h⟩
theorem m_shl (X : Nat) (n : Int) (hX : L32 X ≤ 536870912) (hn : inR .i64 n) (hn2 : n ≤ 8589934592) : PM Tryd.prog G 42 [D X, .val (.int .i64 n)] [] (OwnD (X * 2 ^ n.toNat)) := by
  dsimp only [inR] at hn
  have hlen : (d32 X).length = L32 X := rfl
  have hM : (d32 ((X : Int) * 2 ^ (n % 32).toNat + 0).toNat).length ≤ L32 X + 1 := by
    have h1 := L32_shl X (n % 32).toNat
    have e1 : ((X : Int) * 2 ^ (n % 32).toNat + 0).toNat = X * 2 ^ (n % 32).toNat := by
      have : ((X : Int) * 2 ^ (n % 32).toNat + 0) = ((X * 2 ^ (n % 32).toNat : Nat) : Int) := by simp
      rw [this, Int.toNat_natCast]
    rw [e1]
    have h2 : (n % 32).toNat / 32 = 0 := by omega
    rw [h2] at h1
    exact h1
  have hw := pw32 (n := (n % 32).toNat) (by omega)
  refine PM.intro (X := XX) tok Tryd.func42 rfl Tryd.ntmps42 (by rw [Tryd.results42]) (by kernel_rfl) rfl ?_; intro F hG hO; simp only [List.length_cons, List.length_nil, Nat.zero_add, Nat.reduceAdd] at hO
  repeat' ((try (conv => whnf)); first
  | (with_reducible refine shl1_g (.inl rfl) (by dsimp only [IntKind.bits]; omega) ?_)
  | ((with_reducible refine cg ?_); refine call_own (m := 0) (m_normN X (by omega)) rfl rfl rfl ?_)
  | ((with_reducible refine cg ?_); refine call_eq (r_muls X (2 ^ (n % 32).toNat) 0 (by omega) ⟨Int.le_of_lt hw.1, hw.2⟩ (by decide)) (LpL.refl _) rfl ?_)
  | (with_reducible refine AppG.mk (by simp) (by dsimp only; omega) (by omega) ?_)
  | ((with_reducible refine cg ?_); refine call_fz 0 (B := List.replicate (n / 32).toNat 0 ++ d32 ((X : Int) * 2 ^ (n % 32).toNat + 0).toNat) rfl rfl (by simp) (by rw [List.drop_zero]; exact List.take_of_length_le (by simp)) (by omega) ?_; refine call_own (m := 1) (m_normD (List.replicate (n / 32).toNat 0 ++ d32 ((X : Int) * 2 ^ (n % 32).toNat + 0).toNat) (by simp only [List.length_append, List.length_replicate]; omega) (okD_zeros (d32_ok _).1)) rfl rfl rfl ?_)
  
  | with_reducible first | refine ax_s ?_ | refine BothG.mk ?_ ?_ | (refine ax_f ?_ ?_ <;> intro hc) | refine smk ?_ | fail)
  · have : n.toNat = 0 := by omega
    rw [this, Nat.pow_zero, Nat.mul_one]
    exact ⟨ret_own rfl rfl⟩
  · have : X = 0 := (lenB_eq_zero (B := 4294967296) (by decide)).1 (by unfold L32 at hlen; omega)
    subst this
    rw [Nat.zero_mul]
    exact ⟨ret_own rfl rfl⟩
  · rw [← shl_val X n (by omega)]
    exact ⟨ret_own rfl rfl⟩
theorem r_shl (X : Nat) (n : Int) (hX : L32 X ≤ 536870912) (hn : inR .i64 n) (hn2 : n ≤ 8589934592) : FC Tryd.prog G 42 [D X, .val (.int .i64 n)] (· = D (X * 2 ^ n.toNat)) := Own.fc (m_shl X n hX hn hn2)
theorem r_shr (X : Nat) (n : Int) (hX : L32 X ≤ 536870912) (hn : inR .i64 n) : FC Tryd.prog G 37 [D X, .val (.int .i64 n)] (· = D (X / 2 ^ n.toNat)) := by
  dsimp only [inR] at hn
  have hlen : (d32 X).length = L32 X := rfl
  have hw := pw32 (n := (n % 32).toNat) (by omega)
  have hY : L32 (X / 2 ^ (32 * (n / 32).toNat)) ≤ L32 X := lenB_mono (by decide) (Nat.div_le_self _ _)
  have hd := r_divs (G := G) (X / 2 ^ (32 * (n / 32).toNat)) (2 ^ (n % 32).toNat) (by omega) hw
  unfold D at hd
  rw [← d32_drop] at hd
  refine ax_i Tryd.func37 Tryd.ntmps37 (by rw [Tryd.results37]) ?_; intro F hG hO
  rw [← hG] at hd
  repeat' ((try (conv => whnf)); first
  | (with_reducible refine shl1_g (.inl rfl) (by dsimp only [IntKind.bits]; omega) ?_)
  | ((with_reducible refine cg ?_); refine call_eq (r_normN X (by omega)) (LpL.refl _) rfl ?_)
  | ((with_reducible refine cg ?_); refine call_eq (r_word 0 (by decide)) (LpL.refl _) rfl ?_)
  | ((with_reducible refine cg ?_); first | refine ceq hd rfl ?_)
  
  | (with_reducible refine draw_g (id := 5) [[0, 1, 2, 3, 4, 5, 6, 7, 8, 9, 10, 11, 12]] tok mixed (by kernel_rfl) ?_)
  | with_reducible first | refine ax_s ?_ | refine BothG.mk ?_ ?_ | (refine ax_f ?_ ?_ <;> intro hc) | refine smk ?_ | fail)
  · have : n.toNat = 0 := by omega
    exact ⟨ret_e (by rw [this, Nat.pow_zero, Nat.div_one]; rfl)⟩
  · refine ⟨ret_e ?_⟩
    have h1 := L32_lt X
    have h2 : X < 2 ^ n.toNat := Nat.lt_of_lt_of_le h1 (Nat.pow_le_pow_right (by decide) (by omega))
    rw [Nat.div_eq_of_lt h2]; rfl
  · refine ⟨ret_e ?_⟩
    show D _ = D _
    congr 1
    have h3 : ((2 : Int) ^ (n % 32).toNat) = ((2 ^ (n % 32).toNat : Nat) : Int) := by simp
    rw [h3, ← Int.natCast_ediv, Int.toNat_natCast, Nat.div_div_eq_div_mul, ← Nat.pow_add]
    congr 2; omega
theorem r_bits (X : Nat) (hX : L32 X ≤ 536870912) : FC Tryd.prog G 52 [D X] (· = .val (.int .i64 (bl X : Int))) := by
  have hlen : (d32 X).length = L32 X := rfl
  obtain ⟨T, hT⟩ : ∃ T : Nat, T = X / 2 ^ (32 * (L32 X - 1)) % 4294967296 := ⟨_, rfl⟩
  have hT2 : T < 4294967296 := by rw [hT]; exact Nat.mod_lt _ (by decide)
  have hrd : 0 < L32 X → rd (d32 X) ((L32 X : Int) - 1) = (T : Int) := fun h => by
    have := d32_rd X (L32 X - 1)
    rw [← hT] at this
    rw [← this]; congr 1; omega
  refine ax_i Tryd.func52 Tryd.ntmps52 (by rw [Tryd.results52]) ?_; intro F hG hO
  repeat' ((try (conv => whnf)); first
  | ((with_reducible refine lg ?_); rw [hlen, hrd (by omega)]; refine loop_g (A := Nat) (fun k => k ≤ 32 ∧ (k = 0 ∨ 2 ^ (k - 1) ≤ T)) (fun k => 32 - k) (fun k => [(3, .val (.int .i64 (32 * ((L32 X : Int) - 1) + (k : Int)))), (4, .val (.int .u32 ((T / 2 ^ k : Nat) : Int)))]) (fun _ => []) (fun _ => []) 0 tok (fun _ => ⟨⟨trivial, trivial, trivial⟩, trivial, by simp only [List.length_nil]; omega⟩) ?_ ⟨iv_eq (by omega), iv_eq (by simp), trivial⟩ ⟨[], rfl⟩ ⟨[], rfl⟩ ?_; rotate_left; rintro k ⟨h1, h2⟩; have hk : T / 2 ^ k ≤ T := Nat.div_le_self _ _)
  
  | with_reducible first | refine ax_s ?_ | refine BothG.mk ?_ ?_ | (refine ax_f ?_ ?_ <;> intro hc) | refine smk ?_ | fail)
  · have : X = 0 := (lenB_eq_zero (B := 4294967296) (by decide)).1 (by unfold L32 at hlen; omega)
    subst this
    exact ⟨ret_e rfl⟩
  · have h3 : 2 ^ k ≤ T := by
      rcases Nat.lt_or_ge T (2 ^ k) with h | h
      · rw [Nat.div_eq_of_lt h] at hc; omega
      · exact h
    have h4 : k < 32 := by
      rcases Nat.lt_or_ge k 32 with h | h
      · exact h
      · have : 2 ^ 32 ≤ 2 ^ k := Nat.pow_le_pow_right (by decide) h
        omega
    refine ⟨again (k + 1) ⟨by omega, .inr (by simpa using h3)⟩ (by omega) ⟨iv_eq (by omega), iv_eq ?_, trivial⟩ ⟨[], rfl⟩ ⟨[], rfl⟩⟩
    rw [Nat.pow_succ, ← Nat.div_div_eq_div_mul]; omega
  · have hX0 : X ≠ 0 := fun h => by subst h; rw [L32, lenB_zero] at hlen; omega
    obtain ⟨t1, t2⟩ := top32 hX0
    have hT' : T = X / 2 ^ (32 * (L32 X - 1)) := by rw [hT]; exact Nat.mod_eq_of_lt t1
    have hp : 0 < 2 ^ k := Nat.pow_pos (by decide)
    have hlt : T < 2 ^ k := by
      rcases Nat.lt_or_ge T (2 ^ k) with h | h
      · exact h
      · have := Nat.div_pos h hp; omega
    have hb : bl X = 32 * (L32 X - 1) + k := by rw [bl_top X _ t2, ← hT', bl_eq hlt h2]
    refine ⟨ret_e (iv_eq ?_)⟩
    rw [hb]
    have := lenB_pos (B := 4294967296) (by decide) hX0
    omega
  · exact ⟨by omega, .inl rfl⟩
theorem r_bit (X : Nat) (i : Int) (hX : L32 X ≤ 536870912) (hi : inR .i64 i) : FC Tryd.prog G 85 [D X, .val (.int .i64 i)] (· = .val (.int .i64 (if i < 0 then 0 else ((X / 2 ^ i.toNat % 2 : Nat) : Int)))) := by
  dsimp only [inR] at hi
  have hlen : (d32 X).length = L32 X := rfl
  obtain ⟨T, hT⟩ : ∃ T : Nat, T = X / 2 ^ (32 * (i / 32).toNat) % 4294967296 := ⟨_, rfl⟩
  have hrd : 0 ≤ i → rd (d32 X) (i / 32) = (T : Int) := fun h => by
    have := d32_rd X (i / 32).toNat
    rw [← hT] at this
    rw [← this]; congr 1; omega
  have hb := rd_bd (by decide) (d32_ok X).1 (i / 32)
  have hb2 : 0 ≤ rd (d32 X) (i / 32) / 2 ^ (i % 32).toNat ∧ rd (d32 X) (i / 32) / 2 ^ (i % 32).toNat < 4294967296 := by
    refine ⟨Int.ediv_nonneg hb.1 (by exact_mod_cast Nat.zero_le _), ?_⟩
    have := Int.ediv_le_self (2 ^ (i % 32).toNat) hb.1
    omega
  refine ax_i Tryd.func85 Tryd.ntmps85 (by rw [Tryd.results85]) ?_; intro F hG hO
  repeat' ((try (conv => whnf)); first
  | (with_reducible refine shr_p (by omega) (by dsimp only [IntKind.bits]; omega) ?_)
  | (with_reducible refine mask32_g (m := 2) 1 rfl rfl (by decide) (by omega) ?_)
  
  | with_reducible first | refine ax_s ?_ | refine BothG.mk ?_ ?_ | (refine ax_f ?_ ?_ <;> intro hc) | refine smk ?_ | fail)
  · exact ⟨ret_e (by rw [if_pos hc])⟩
  · refine ⟨ret_e ?_⟩
    have h1 := L32_lt X
    have h2 : X < 2 ^ i.toNat := Nat.lt_of_lt_of_le h1 (Nat.pow_le_pow_right (by decide) (by omega))
    rw [if_neg (by assumption), Nat.div_eq_of_lt h2]; rfl
  · refine ⟨ret_e (iv_eq ?_)⟩
    have h4 : ¬ i < 0 := by assumption
    rw [if_neg h4, hrd (by omega), hT]
    have h3 : ((2 : Int) ^ (i % 32).toNat) = ((2 ^ (i % 32).toNat : Nat) : Int) := by simp
    rw [h3]
    have := bit_in X (32 * (i / 32).toNat) (i % 32).toNat 32 (by omega)
    rw [show 32 * (i / 32).toNat + (i % 32).toNat = i.toNat by omega] at this
    rw [← this]
    simp
def N64 (n : Nat) : PV := .ws .u64 (d64 n)
theorem low_val (X k r : Nat) (h : r < 32) : X % 2 ^ (32 * k) + 2 ^ (32 * k) * (X / 2 ^ (32 * k) % 4294967296 % 2 ^ r) = X % 2 ^ (32 * k + r) := by
  have e : X / 2 ^ (32 * k) % 4294967296 % 2 ^ r = X / 2 ^ (32 * k) % 2 ^ r := Nat.mod_mod_of_dvd _ ⟨2 ^ (32 - r), by rw [← Nat.pow_add]; rw [show r + (32 - r) = 32 by omega]⟩
  rw [e, Nat.pow_add, Nat.mod_mul]
theorem r_low (X : Nat) (n : Int) (hX : L32 X ≤ 536870912) (hn : inR .i64 n) : FC Tryd.prog G 38 [D X, .val (.int .i64 n)] (· = D (X % 2 ^ n.toNat)) := by
  dsimp only [inR] at hn
  have hlen : (d32 X).length = L32 X := rfl
  have hw := pw32 (n := (n % 32).toNat) (by omega)
  have hw0 := r_word (G := G) 0 (by decide)
  have hb := rd_bd (by decide) (d32_ok X).1 (n / 32)
  have hm1 := Int.emod_nonneg (rd (d32 X) (n / 32)) (show (2 : Int) ^ (n % 32).toNat ≠ 0 by omega)
  have hm2 := Int.emod_lt_of_pos (rd (d32 X) (n / 32)) hw.1
  have hN : 0 < n → (vl 4294967296 ((d32 X).take (n / 32).toNat)).toNat = X % 2 ^ (32 * (n / 32).toNat) := fun _ => by rw [d32_take, Int.toNat_natCast]
  have hL : L32 (vl 4294967296 ((d32 X).take (n / 32).toNat)).toNat ≤ (n / 32).toNat := by
    rw [d32_take, Int.toNat_natCast]
    exact L32_le (Nat.mod_lt _ (Nat.pow_pos (by decide)))
  have hL2 : (d32 (vl 4294967296 ((d32 X).take (n / 32).toNat)).toNat).length = L32 (vl 4294967296 ((d32 X).take (n / 32).toNat)).toNat := rfl
  refine ax_i Tryd.func38 Tryd.ntmps38 (by rw [Tryd.results38]) ?_; intro F hG hO
  rw [← hG] at hw0
  repeat' ((try (conv => whnf)); first
  | (with_reducible refine shl1_g (.inl rfl) (by dsimp only [IntKind.bits]; omega) ?_)
  | ((with_reducible refine cg ?_); refine call_eq (r_normN X (by omega)) (LpL.refl _) rfl ?_)
  | ((with_reducible refine cg ?_); first | refine ceq hw0 rfl ?_)
  | ((with_reducible refine cg ?_); refine call_own (m := 0) (m_normD ((d32 X).take (n / 32).toNat) (by rw [List.length_take]; omega) ((d32_ok X).1.take _)) rfl rfl rfl ?_)
  | ((with_reducible refine lg ?_); refine loop_g (A := List Int) (fun s => s.length ≤ (n / 32).toNat ∧ okD 4294967296 s ∧ vl 4294967296 s = ((X % 2 ^ (32 * (n / 32).toNat) : Nat) : Int)) (fun s => (n / 32).toNat - s.length) (fun s => [(0, .ws .u32 (d32 X)), (1, .val (.int .i64 n)), (5, .arr 0 0 s.length)]) (fun _ => []) (fun s => [some ⟨1, 90, .w .u32 s⟩]) (d32 (vl 4294967296 ((d32 X).take (n / 32).toNat)).toNat) tok (fun s => ⟨⟨trivial, trivial, Nat.one_pos, trivial⟩, trivial, by simp only [List.length_cons]; omega⟩) ?_ ⟨rfl, rfl, rfl, trivial⟩ ⟨[], rfl⟩ ⟨[], rfl⟩ ?_; rotate_left; rintro s ⟨h1, h2, h3⟩)
  | ((with_reducible refine cg ?_); refine call_fz 0 (B := s ++ [rd (d32 X) (n / 32) % 2 ^ (n % 32).toNat]) rfl rfl (by simp) (by rw [List.drop_zero]; exact List.take_of_length_le (by simp)) (by omega) ?_; refine call_eq (r_normD (s ++ [rd (d32 X) (n / 32) % 2 ^ (n % 32).toNat]) (by simp only [List.length_append, List.length_cons, List.length_nil]; omega) (okD_append.2 ⟨h2, okD_cons.2 ⟨by omega, okD_nil _⟩⟩)) (LpL.refl _) rfl ?_)
  
  | (with_reducible refine draw_g (id := 8) [[0, 1, 2, 3, 4, 5, 6, 7, 8, 9, 10], [11, 12, 13]] tok mixed (by kernel_rfl) ?_)
  | with_reducible first | refine ax_s ?_ | refine BothG.mk ?_ ?_ | (refine ax_f ?_ ?_ <;> intro hc) | refine smk ?_ | fail)
  · exact ⟨ret_e (by rw [show n.toNat = 0 by omega, Nat.pow_zero, Nat.mod_one]; rfl)⟩
  · refine ⟨ret_e ?_⟩
    have h1 := L32_lt X
    have h2 : X < 2 ^ n.toNat := Nat.lt_of_lt_of_le h1 (Nat.pow_le_pow_right (by decide) (by omega))
    rw [Nat.mod_eq_of_lt h2]; rfl
  · refine ⟨again (s ++ [0]) ⟨by simp only [List.length_append, List.length_cons, List.length_nil]; omega, okD_append.2 ⟨h2, okD_cons.2 ⟨by decide, okD_nil _⟩⟩, by rw [vl_snoc, h3]; simp⟩ (by simp only [List.length_append, List.length_cons, List.length_nil]; omega) ⟨rfl, rfl, ?_, trivial⟩ ⟨[], rfl⟩ ⟨[], rfl⟩⟩
    rw [List.length_append]; rfl
  · refine ⟨ret_e ?_⟩
    show D _ = D _
    congr 1
    have hs : s.length = (n / 32).toNat := by omega
    have hr := d32_rd X (n / 32).toNat
    rw [show (((n / 32).toNat : Nat) : Int) = n / 32 by omega] at hr
    have hv := low_val X (n / 32).toNat (n % 32).toNat (by omega)
    rw [show 32 * (n / 32).toNat + (n % 32).toNat = n.toNat by omega] at hv
    have h3' : ((2 : Int) ^ (n % 32).toNat) = ((2 ^ (n % 32).toNat : Nat) : Int) := by simp
    rw [vl_snoc, hs, h3, hr, h3', ← Int.natCast_emod]
    have e2 : ((4294967296 : Int) ^ (n / 32).toNat) = ((2 ^ (32 * (n / 32).toNat) : Nat) : Int) := by rw [← pow32]; simp
    rw [e2, ← Int.natCast_mul, ← Int.natCast_add, Int.toNat_natCast, hv]
  · refine ⟨by omega, (d32_ok _).1, ?_⟩
    rw [(d32_ok _).2, hN (by omega)]
theorem r_pow2 (n : Int) (hn : inR .i64 n) (hn2 : n ≤ 8589934592) : FC Tryd.prog G 25 [.val (.int .i64 n)] (· = D (2 ^ n.toNat)) := by
  have h1 : L32 1 ≤ 536870912 := Nat.le_trans (L32_le (n := 1) (by decide)) (by decide)
  refine ax_i Tryd.func25 Tryd.ntmps25 (by rw [Tryd.results25]) ?_; intro F hG hO
  repeat' ((try (conv => whnf)); first
  | ((with_reducible refine cg ?_); refine call_eq (r_word 1 (by decide)) (LpL.refl _) rfl ?_)
  | ((with_reducible refine cg ?_); refine call_eq (r_shl 1 n h1 hn hn2) (LpL.refl _) rfl ?_)
  
  | with_reducible first | refine ax_s ?_ | refine BothG.mk ?_ ?_ | (refine ax_f ?_ ?_ <;> intro hc) | refine smk ?_ | fail)
  exact ⟨ret_e (by rw [Nat.one_mul]; rfl)⟩
theorem r_to (X : Nat) (hX : L32 X ≤ 536870912) : FC Tryd.prog G 49 [D X] (· = N64 X) := by
  have hlen : (d32 X).length = L32 X := rfl
  have hlen4 : (d64 X).length = L64 X := rfl
  have hb2 := L32_bl X
  have hb4 := L64_bl X
  refine ax_i Tryd.func49 Tryd.ntmps49 (by rw [Tryd.results49]) ?_; intro F hG hO
  repeat' ((try (conv => whnf)); first
  | (with_reducible refine shl_g (m := 4294967296) 32 rfl (by decide) rfl (by dsimp only [inR]; omega) ?_)
  | ((with_reducible refine cg ?_); refine call_eq (r_normN X (by omega)) (LpL.refl _) rfl ?_)
  | ((with_reducible refine lg ?_); refine loop_g (A := Nat) (fun j => j ≤ L64 X) (fun j => L64 X - j) (fun j => [(3, .ws .u32 (d32 X)), (4, .arr 0 0 j), (5, .val (.int .i64 (2 * (j : Int))))]) (fun _ => []) (fun j => [some ⟨1, 30, .w .u64 ((d64 X).take j)⟩]) 0 tok (fun s => ⟨⟨trivial, Nat.one_pos, trivial, trivial⟩, trivial, by simp only [List.length_cons]; omega⟩) ?_ ⟨rfl, rfl, iv_eq (by omega), trivial⟩ ⟨[], rfl⟩ ⟨[], rfl⟩ ?_; rotate_left; rintro j h1; have ht : ((d64 X).take j).length = j := (by rw [List.length_take]; omega); have r0 := rd_bd (by decide) (d32_ok X).1 (2 * (j : Int)); have r1 := rd_bd (by decide) (d32_ok X).1 (2 * (j : Int) + 1))
  
  | with_reducible first | refine ax_s ?_ | refine BothG.mk ?_ ?_ | (refine ax_f ?_ ?_ <;> intro hc) | refine smk ?_ | fail)
  · refine ⟨again (j + 1) (by first | omega | (dsimp only; omega) | (simp only [id]; omega)) (by omega) ⟨rfl, rfl, iv_eq (by omega), trivial⟩ ⟨[], rfl⟩ ⟨[], ?_⟩⟩
    rw [take_succ_rd _ _ (by omega), d64_two]; rfl
  · refine ⟨again (j + 1) (by first | omega | (dsimp only; omega) | (simp only [id]; omega)) (by omega) ⟨rfl, rfl, iv_eq (by omega), trivial⟩ ⟨[], rfl⟩ ⟨[], ?_⟩⟩
    have := rd_out (d32 X) (2 * j + 1) (by omega)
    rw [show ((2 * j + 1 : Nat) : Int) = 2 * (j : Int) + 1 by omega] at this
    rw [take_succ_rd _ _ (by omega), d64_two, this, Int.zero_mul, Int.add_zero]; rfl
  · refine ⟨ret_e ?_⟩
    rw [List.take_of_length_le (by omega)]; rfl
  · exact Nat.zero_le _
theorem r_fits (X : Nat) (hX : L32 X ≤ 536870912) : FC Tryd.prog G 36 [D X] (· = .tup [.val (.int .u64 (if X < 18446744073709551616 then (X : Int) else 0)), .val (.bool (decide (X < 18446744073709551616)))]) := by
  have hlen4 : (d64 X).length = L64 X := rfl
  refine ax_i Tryd.func36 Tryd.ntmps36 (by rw [Tryd.results36]) ?_; intro F hG hO
  repeat' ((try (conv => whnf)); first
  | ((with_reducible refine cg ?_); refine call_eq (r_to X hX) (LpL.refl _) rfl ?_)
  
  | with_reducible first | refine ax_s ?_ | refine BothG.mk ?_ ?_ | (refine ax_f ?_ ?_ <;> intro hc) | refine smk ?_ | fail)
  · have h0 : X = 0 := (lenB_eq_zero (B := 18446744073709551616) (by decide)).1 (by unfold L64 at hlen4; omega)
    subst h0
    exact ⟨ret_e rfl⟩
  · have h1 := L64_lt X
    have h2 : X < 18446744073709551616 := by rw [show L64 X = 1 by omega] at h1; exact h1
    refine ⟨ret_e ?_⟩
    have hr := d64_rd X 0
    have e0 : rd (d64 X) 0 = (X : Int) := by
      rw [show (0 : Int) = ((0 : Nat) : Int) by rfl, hr, Nat.mul_zero, Nat.pow_zero, Nat.div_one, Nat.mod_eq_of_lt h2]
    rw [e0, if_pos h2, decide_eq_true h2]
  · have h2 : ¬ X < 18446744073709551616 := fun h => by
      have := L64_le (x := X) (n := 1) h
      omega
    exact ⟨ret_e (by rw [if_neg h2, decide_eq_false h2])⟩
theorem take_round {x s v : List Int} {w c e d c2 e2 : Int} (h6 : okD 4294967296 s) (hv : vl 4294967296 s = vl 4294967296 (x.take s.length) - w * vl 4294967296 (v.take s.length) + 4294967296 ^ s.length * (c + e)) (hd : 0 ≤ d ∧ d < 4294967296) (hT : d = rd x s.length - (c + w * rd v s.length) + 4294967296 * c2 - e + 4294967296 * e2) :
    okD 4294967296 (s ++ [d]) ∧ vl 4294967296 (s ++ [d]) = vl 4294967296 (x.take (s.length + 1)) - w * vl 4294967296 (v.take (s.length + 1)) + 4294967296 ^ (s.length + 1) * (c2 + e2) := by
  refine ⟨okD_append.2 ⟨h6, okD_cons.2 ⟨hd, okD_nil _⟩⟩, ?_⟩
  have h := sum_step (B := 4294967296) (vs := 4294967296 ^ s.length * (c + e)) (d := d) (c2 := -(c2 + e2)) (T := rd x s.length - (c + w * rd v s.length) - e) s.length (by omega)
  rw [vl_snoc, vl_take_step, vl_take_step, hv]
  have e1 : w * (vl 4294967296 (v.take s.length) + 4294967296 ^ s.length * rd v s.length) = w * vl 4294967296 (v.take s.length) + 4294967296 ^ s.length * (w * rd v s.length) := by rw [Int.mul_add, Int.mul_left_comm]
  have e2 : (4294967296 : Int) ^ s.length * (rd x s.length - (c + w * rd v s.length) - e) = 4294967296 ^ s.length * rd x s.length - 4294967296 ^ s.length * (c + e) - 4294967296 ^ s.length * (w * rd v s.length) := by
    rw [← Int.mul_sub, ← Int.mul_sub]; congr 1; omega
  rw [e2, Int.mul_neg] at h
  rw [e1]
  omega
theorem give_round {x s v : List Int} {c d c2 : Int} (h6 : okD 4294967296 s) (hv : vl 4294967296 s + 4294967296 ^ s.length * c = vl 4294967296 (x.take s.length) + vl 4294967296 (v.take s.length)) (hd : 0 ≤ d ∧ d < 4294967296) (hT : d + 4294967296 * c2 = c + rd x s.length + rd v s.length) :
    okD 4294967296 (s ++ [d]) ∧ vl 4294967296 (s ++ [d]) + 4294967296 ^ (s.length + 1) * c2 = vl 4294967296 (x.take (s.length + 1)) + vl 4294967296 (v.take (s.length + 1)) := by
  refine ⟨okD_append.2 ⟨h6, okD_cons.2 ⟨hd, okD_nil _⟩⟩, ?_⟩
  rw [vl_snoc, sum_step (T := c + rd x s.length + rd v s.length) s.length hT, vl_take_step, vl_take_step, Int.mul_add, Int.mul_add]
  omega
def DigI (x v : List Int) (w : Int) (s : List Int) (c e : Int) : Prop := s.length ≤ v.length + 1 ∧ okD 4294967296 s ∧ (0 ≤ c ∧ c < 4294967296) ∧ (0 ≤ e ∧ e ≤ 1) ∧ (s.length = v.length + 1 → c = 0) ∧ vl 4294967296 s = vl 4294967296 (x.take s.length) - w * vl 4294967296 (v.take s.length) + 4294967296 ^ s.length * (c + e)
theorem DigI.step {x v s : List Int} {w c e d e2 T : Int} (h : DigI x v w s c e) (hlt : s.length ≤ v.length) (hw : 0 ≤ w ∧ w < 4294967296) (okv : okD 4294967296 v) (hT0 : T = c + w * rd v s.length) (hd : 0 ≤ d ∧ d < 4294967296) (he2 : 0 ≤ e2 ∧ e2 ≤ 1) (hT : d = rd x s.length - T % 4294967296 - e + 4294967296 * e2) : DigI x v w (s ++ [d]) (T / 4294967296) e2 := by
  obtain ⟨h1, h2, h3, h4, h5, h6⟩ := h
  have hv := rd_bd (by decide) okv (s.length : Int)
  have hm := mul_bd2 hw hv
  have el : (s ++ [d]).length = s.length + 1 := by simp
  obtain ⟨g1, g2⟩ := take_round (x := x) (v := v) (w := w) (c := c) (e := e) (d := d) (c2 := T / 4294967296) (e2 := e2) h2 h6 hd (by omega)
  refine ⟨by omega, g1, by omega, he2, fun hl => ?_, by rw [el]; exact g2⟩
  have hs : s.length = v.length := by omega
  have hz := rd_out v s.length (by omega)
  rw [hz, Int.mul_zero, Int.add_zero] at hT0
  omega
def GivI (y v r : List Int) (c : Int) : Prop := r.length ≤ v.length + 1 ∧ okD 4294967296 r ∧ (0 ≤ c ∧ c ≤ 1) ∧ vl 4294967296 r + 4294967296 ^ r.length * c = vl 4294967296 (y.take r.length) + vl 4294967296 (v.take r.length)
theorem GivI.step {y v r : List Int} {c T : Int} (h : GivI y v r c) (hlt : r.length ≤ v.length) (oky : okD 4294967296 y) (okv : okD 4294967296 v) (hT : T = c + rd y r.length + rd v r.length) : GivI y v (r ++ [T % 4294967296]) (T / 4294967296) := by
  obtain ⟨h1, h2, h3, h4⟩ := h
  have hv := rd_bd (by decide) okv (r.length : Int)
  have hy := rd_bd (by decide) oky (r.length : Int)
  have el : (r ++ [T % 4294967296]).length = r.length + 1 := by simp
  obtain ⟨g1, g2⟩ := give_round (x := y) (v := v) (c := c) (d := T % 4294967296) (c2 := T / 4294967296) h2 h4 (by omega) (by omega)
  exact ⟨by omega, g1, by omega, by rw [el]; exact g2⟩
theorem dig_end {U V w q s B e : Int} (hV : 0 < V) (hq : q = U / V) (hle : q ≤ w) (hs : 0 ≤ s ∧ s < B) (h : s = U - w * V + B * e) (he : 0 ≤ e ∧ e ≤ 1) : (e = 0 → w = q ∧ s = U % V) ∧ (0 < e → q + 1 ≤ w) := by
  have hd := Int.mul_ediv_add_emod U V
  have hm := Int.emod_nonneg U (show V ≠ 0 by omega)
  have hm2 := Int.emod_lt_of_pos U hV
  rw [← hq] at hd
  refine ⟨fun h0 => ?_, fun h1 => ?_⟩
  · subst h0
    have : w = q := by
      rcases Int.lt_or_le q w with h2 | h2
      · exfalso
        have h3 : V * (q + 1) ≤ V * w := Int.mul_le_mul_of_nonneg_left (by omega) (by omega)
        rw [Int.mul_add] at h3
        rw [Int.mul_comm w V] at h
        omega
      · omega
    subst this
    refine ⟨rfl, ?_⟩
    rw [Int.mul_comm w V] at h
    omega
  · have he1 : e = 1 := by omega
    subst he1
    rcases Int.lt_or_le q w with h2 | h2
    · omega
    · exfalso
      have : w = q := by omega
      subst this
      rw [Int.mul_comm w V] at h
      omega
theorem guess_ge {x v : List Int} {V : Int} {m : Nat} (okx : okD 4294967296 x) (okv : okD 4294967296 v) (vv : vl 4294967296 v = V) (hl : v.length = m + 1) (hx : m + 2 ≤ x.length) (hv : 0 < rd v m) (hU : vl 4294967296 (x.take (m + 2)) < 4294967296 * V) :
    vl 4294967296 (x.take (m + 2)) / V ≤ min ((rd x ((m + 1 : Nat) : Int) * 4294967296 + rd x m) / rd v m) 4294967295 := by
  have hV : 0 < V := by
    have h1 := vl_split 4294967296 v m (by omega)
    have h2 := vl_nonneg (B := 4294967296) (by decide) (okv.take m)
    rw [drop_rd v m (by omega), vl, List.drop_eq_nil_of_le (by omega)] at h1
    simp only [vl] at h1
    have h3 : 0 < (4294967296 : Int) ^ m := Int.pow_pos (by decide)
    have h4 := Int.mul_pos h3 hv
    rw [Int.mul_zero, Int.add_zero] at h1
    rw [← vv]
    omega
  have hU0 := vl_nonneg (B := 4294967296) (by decide) (okx.take (m + 2))
  obtain ⟨q, hq⟩ : ∃ q, q = vl 4294967296 (x.take (m + 2)) / V := ⟨_, rfl⟩
  have hd := Int.mul_ediv_add_emod (vl 4294967296 (x.take (m + 2))) V
  have hm := Int.emod_nonneg (vl 4294967296 (x.take (m + 2))) (show V ≠ 0 by omega)
  have hq0 : 0 ≤ q := by rw [hq]; exact Int.ediv_nonneg hU0 (by omega)
  rw [← hq] at hd ⊢
  have h1 : q ≤ 4294967295 := by
    rcases Int.lt_or_le 4294967295 q with h | h
    · exfalso
      have : V * 4294967296 ≤ V * q := Int.mul_le_mul_of_nonneg_left (by omega) (by omega)
      omega
    · exact h
  have h2 : q ≤ (rd x ((m + 1 : Nat) : Int) * 4294967296 + rd x m) / rd v m := by
    refine Int.le_ediv_of_mul_le hv ?_
    have hp : 0 < (4294967296 : Int) ^ m := Int.pow_pos (by decide)
    have a1 : 4294967296 ^ m * rd v m ≤ V := by
      have h1 := vl_split 4294967296 v m (by omega)
      have h2 := vl_nonneg (B := 4294967296) (by decide) (okv.take m)
      rw [drop_rd v m (by omega), vl, List.drop_eq_nil_of_le (by omega)] at h1
      simp only [vl] at h1
      rw [← vv]
      have : (4294967296 : Int) ^ m * (rd v m + 4294967296 * 0) = 4294967296 ^ m * rd v m := by rw [Int.mul_zero, Int.add_zero]
      omega
    have a2 : vl 4294967296 (x.take (m + 2)) < 4294967296 ^ m * (rd x ((m + 1 : Nat) : Int) * 4294967296 + rd x m + 1) := by
      have h1 := vl_take_step 4294967296 x (m + 1)
      have h2 := vl_take_step 4294967296 x m
      have h3 := vl_lt (B := 4294967296) (by decide) (okx.take m)
      rw [List.length_take, Nat.min_eq_left (by omega)] at h3
      rw [h1, h2, Int.pow_succ]
      rw [Int.mul_add, Int.mul_add, Int.mul_one]
      have e1 : (4294967296 : Int) ^ m * 4294967296 * rd x ((m + 1 : Nat) : Int) = 4294967296 ^ m * (rd x ((m + 1 : Nat) : Int) * 4294967296) := by rw [Int.mul_assoc, Int.mul_comm 4294967296]
      rw [e1]
      omega
    have a3 : q * (4294967296 ^ m * rd v m) ≤ q * V := Int.mul_le_mul_of_nonneg_left a1 hq0
    have a4 : 4294967296 ^ m * (q * rd v m) < 4294967296 ^ m * (rd x ((m + 1 : Nat) : Int) * 4294967296 + rd x m + 1) := by
      rw [Int.mul_left_comm]
      rw [Int.mul_comm V q] at hd
      omega
    have := Int.lt_of_mul_lt_mul_left a4 (Int.le_of_lt hp)
    omega
  omega
theorem m_digit (p : List Int) (lo V n : Nat) (hn : L32 V = n) (h0 : 0 < n) (hl : lo + n + 1 ≤ p.length) (hp : p.length ≤ 1073741824) (ok : okD 4294967296 p) (hU : vl 4294967296 ((p.drop lo).take (n + 1)) < 4294967296 * V) :
    PM Tryd.prog G 86 [.arr 0 lo (n + 1), D V] [⟨1, 90, .w .u32 p⟩] fun r rs => r = .val (.int .u32 (vl 4294967296 ((p.drop lo).take (n + 1)) / V)) ∧ ∃ s : List Int, s.length = n + 1 ∧ okD 4294967296 s ∧ vl 4294967296 s = vl 4294967296 ((p.drop lo).take (n + 1)) % V ∧ rs = [some ⟨1, 90, .w .u32 (ins p lo s)⟩] := by
  have hV0 : V ≠ 0 := fun h => by subst h; rw [L32, lenB_zero] at hn; omega
  have htop := top32 hV0
  obtain ⟨v, ev⟩ : ∃ v, v = d32 V := ⟨_, rfl⟩
  obtain ⟨okv, vv⟩ := d32_ok V
  have hvl : v.length = n := by rw [ev]; exact hn
  have hvt : rd v ((n - 1 : Nat) : Int) = ((V / 2 ^ (32 * (L32 V - 1)) : Nat) : Int) := by rw [ev, d32_rd, hn, Nat.mod_eq_of_lt (by rw [← hn]; exact htop.1)]
  unfold D
  rw [← ev] at okv vv
  rw [← ev]
  subst hvl
  have b1 := gd_bd (by decide) ok (lo + (v.length : Int).toNat)
  have b2 := gd_bd (by decide) ok (lo + ((v.length : Int) - 1).toNat)
  have b3 := rd_bd (by decide) okv ((v.length : Int) - 1)
  have e1 : p.getD (lo + (v.length : Int).toNat) 0 = rd (p.drop lo) (v.length : Int) := by rw [Int.toNat_natCast, gd_rd, rd_drop]
  have e2 : p.getD (lo + ((v.length : Int) - 1).toNat) 0 = rd (p.drop lo) ((v.length - 1 : Nat) : Int) := by rw [show ((v.length : Int) - 1).toNat = v.length - 1 by omega, gd_rd, rd_drop]
  have e3 : rd v ((v.length : Int) - 1) = rd v ((v.length - 1 : Nat) : Int) := by congr 1; omega
  have b4 : 0 < rd v ((v.length : Int) - 1) := by
    rw [e3, hvt]
    have := htop.2
    omega
  obtain ⟨x, hx⟩ : ∃ x, x = p.drop lo := ⟨_, rfl⟩
  have okx : okD 4294967296 x := by rw [hx]; exact ok.drop lo
  have hxl : v.length + 1 ≤ x.length := by rw [hx, List.length_drop]; omega
  rw [← hx] at hU e1 e2 ⊢
  obtain ⟨U, hUe⟩ : ∃ U, U = vl 4294967296 (x.take (v.length + 1)) := ⟨_, rfl⟩
  obtain ⟨q, hq⟩ : ∃ q, q = U / (V : Int) := ⟨_, rfl⟩
  obtain ⟨w, hw⟩ : ∃ w, w = min ((p.getD (lo + (v.length : Int).toNat) 0 * 4294967296 + p.getD (lo + ((v.length : Int) - 1).toNat) 0) / rd v ((v.length : Int) - 1)) 4294967295 := ⟨_, rfl⟩
  have hge : q ≤ w := by
    have h1 := guess_ge (m := v.length - 1) okx okv vv (by omega) (by omega) (by rw [← e3]; exact b4) (by rw [show v.length - 1 + 2 = v.length + 1 by omega]; exact hU)
    rw [show v.length - 1 + 2 = v.length + 1 by omega, show v.length - 1 + 1 = v.length by omega, ← hUe, ← hq, ← e1, ← e2, ← e3, ← hw] at h1
    exact h1
  have hU0 : 0 ≤ U := by rw [hUe]; exact vl_nonneg (by decide) (okx.take _)
  have hVp : (0 : Int) < V := by omega
  have hq0 : 0 ≤ q := by rw [hq]; exact Int.ediv_nonneg hU0 (by omega)
  have hwb : 0 ≤ w ∧ w < 4294967296 := by omega
  have hvfull : ∀ k, v.length ≤ k → vl 4294967296 (v.take k) = V := fun k hk => by rw [List.take_of_length_le hk, vv]
  rw [← hUe] at hU ⊢
  rw [← hq]
  refine PM.intro (X := XX) tok Tryd.func86 rfl Tryd.ntmps86 (by rw [Tryd.results86]) (by kernel_rfl) rfl ?_; intro F hG hO; simp only [List.length_cons, List.length_nil, Nat.zero_add, Nat.reduceAdd] at hO
  repeat' ((try (conv => whnf)); first
  | (with_reducible refine shl_g (m := 4294967296) 32 rfl (by decide) rfl (by dsimp only [inR]; omega) ?_)
  | ((with_reducible refine lg ?_); refine loop_g (A := List Int × Int) (fun (r, c) => GivI y v r c) (fun (r, c) => v.length + 1 - r.length) (fun (r, c) => [(0, .arr 0 lo (v.length + 1)), (1, .ws .u32 v), (5, .val (.int .i64 (v.length : Int))), (7, .val (.int .u64 (w2 - 1))), (8, .val (.int .u64 c)), (9, .val (.int .u64 e)), (13, .val (.int .i64 (r.length : Int)))]) (fun _ => []) (fun (r, c) => [some ⟨1, 90, .w .u32 (ins (ins p lo s) lo r)⟩]) ([], 0) tok (fun (r, c) => ⟨⟨Nat.one_pos, trivial, trivial, trivial, trivial, trivial, trivial, trivial⟩, trivial, by simp only [List.length_cons, List.length_nil]; omega⟩) ?_ ⟨rfl, rfl, rfl, rfl, rfl, rfl, rfl, trivial⟩ ⟨[], rfl⟩ ⟨[], (by dsimp only; rw [ins_nil]; rfl)⟩ ?_; rotate_left; rintro ⟨r, c⟩ kI; have kI2 := kI; obtain ⟨k1, k2, k3, k4⟩ := kI2; have ky := rd_bd (by decide) oky (r.length : Int); have kv := rd_bd (by decide) okv (r.length : Int); have kx : (ins (ins p lo s) lo r).getD (lo + (r.length : Int).toNat) 0 = rd y (r.length : Int) := (by rw [Int.toNat_natCast, ins_get (by rw [ins_len (by omega)]; omega), ← rd_drop, hy]); have kl : (ins (ins p lo s) lo r).length = p.length := (by rw [ins_len (by rw [ins_len (by omega)]; omega), ins_len (by omega)]))
  | ((with_reducible refine lg ?_); refine loop_g (A := List Int × Int × Int) (fun (s, w2, e) => s.length = v.length + 1 ∧ okD 4294967296 s ∧ (0 ≤ e ∧ e ≤ 1) ∧ (q ≤ w2 ∧ w2 < 4294967296) ∧ vl 4294967296 s = U - w2 * V + 4294967296 ^ (v.length + 1) * e) (fun (s, w2, e) => w2.toNat) (fun (s, w2, e) => [(0, .arr 0 lo (v.length + 1)), (1, .ws .u32 v), (5, .val (.int .i64 (v.length : Int))), (7, .val (.int .u64 w2)), (9, .val (.int .u64 e))]) (fun _ => []) (fun (s, w2, e) => [some ⟨1, 90, .w .u32 (ins p lo s)⟩]) (s1, w, e0) tok (fun (s, w2, e) => ⟨⟨Nat.one_pos, trivial, trivial, trivial, trivial, trivial⟩, trivial, by simp only [List.length_cons, List.length_nil]; omega⟩) ?_ ⟨rfl, rfl, rfl, rfl, rfl, trivial⟩ ⟨[], rfl⟩ ⟨[], rfl⟩ ?_; rotate_left; rintro ⟨s, w2, e⟩ ⟨j1, j2, j3, j4, j5⟩; have jb := vl_lt (B := 4294967296) (by decide) j2; have jb0 := vl_nonneg (B := 4294967296) (by decide) j2; rw [j1] at jb; have je := dig_end hVp hq j4.1 ⟨jb0, jb⟩ j5 j3; obtain ⟨y, hy⟩ : ∃ y, y = (ins p lo s).drop lo := ⟨_, rfl⟩; have oky : okD 4294967296 y := (by rw [hy]; exact (ins_okD ok j2).drop lo); have hyt : y.take s.length = s := (by rw [hy]; exact ins_mid (by omega)); have jw : 0 < e → 1 ≤ w2 := (fun h => by have := je.2 h; omega))
  | ((with_reducible refine lg ?_); refine loop_g (A := List Int × Int × Int) (fun (s, c, e) => DigI x v w s c e) (fun (s, c, e) => v.length + 1 - s.length) (fun (s, c, e) => [(0, .arr 0 lo (v.length + 1)), (1, .ws .u32 v), (5, .val (.int .i64 (v.length : Int))), (7, .val (.int .u64 w)), (8, .val (.int .u64 c)), (9, .val (.int .u64 e)), (10, .val (.int .i64 (s.length : Int)))]) (fun _ => []) (fun (s, c, e) => [some ⟨1, 90, .w .u32 (ins p lo s)⟩]) ([], 0, 0) tok (fun (s, c, e) => ⟨⟨Nat.one_pos, trivial, trivial, trivial, trivial, trivial, trivial, trivial⟩, trivial, by simp only [List.length_cons, List.length_nil]; omega⟩) ?_ ⟨rfl, rfl, rfl, iv_eq hw.symm, rfl, rfl, rfl, trivial⟩ ⟨[], rfl⟩ ⟨[], (by dsimp only; rw [ins_nil]; rfl)⟩ ?_; rotate_left; rintro ⟨s1, c0, e0⟩ iI; have iI2 := iI; obtain ⟨i1, i2, i3, i4, i5, i6⟩ := iI2; have ix := rd_bd (by decide) okx (s1.length : Int); have iv := rd_bd (by decide) okv (s1.length : Int); have im := mul_bd2 hwb iv; have ig : (ins p lo s1).getD (lo + (s1.length : Int).toNat) 0 = rd x (s1.length : Int) := (by rw [Int.toNat_natCast, ins_get (by omega), ← rd_drop, hx]); have il : (ins p lo s1).length = p.length := ins_len (by omega))
  
  | (with_reducible refine draw_g (id := 2) [[0, 1, 2, 3, 4, 5, 6, 7, 8, 9, 10, 11, 12, 13]] tok mixed (by kernel_rfl) ?_)
  | with_reducible first | refine ax_s ?_ | refine BothG.mk ?_ ?_ | (refine ax_f ?_ ?_ <;> intro hc) | refine smk ?_ | fail)
  · refine ⟨again (s1 ++ [((ins p lo s1).getD (lo + (s1.length : Int).toNat) 0 + 4294967296 - ((c0 + w * rd v (s1.length : Int)) % 4294967296 + e0))], _, 1) (DigI.step iI (by omega) hwb okv rfl (d := ((ins p lo s1).getD (lo + (s1.length : Int).toNat) 0 + 4294967296 - ((c0 + w * rd v (s1.length : Int)) % 4294967296 + e0))) (by omega) (by omega) (by omega)) (by simp only [List.length_append, List.length_cons, List.length_nil]; omega) ⟨rfl, rfl, rfl, rfl, rfl, rfl, iv_eq (by simp), trivial⟩ ⟨[], rfl⟩ ⟨[], ?_⟩⟩
    have hset := ins_set (p := p) (s := s1) (lo := lo) ((ins p lo s1).getD (lo + (s1.length : Int).toNat) 0 + 4294967296 - ((c0 + w * rd v (s1.length : Int)) % 4294967296 + e0)) (by omega)
    dsimp only
    rw [← hset]; rfl
  · refine ⟨again (s1 ++ [((ins p lo s1).getD (lo + (s1.length : Int).toNat) 0 - ((c0 + w * rd v (s1.length : Int)) % 4294967296 + e0))], _, 0) (DigI.step iI (by omega) hwb okv rfl (d := ((ins p lo s1).getD (lo + (s1.length : Int).toNat) 0 - ((c0 + w * rd v (s1.length : Int)) % 4294967296 + e0))) (by omega) (by omega) (by omega)) (by simp only [List.length_append, List.length_cons, List.length_nil]; omega) ⟨rfl, rfl, rfl, rfl, rfl, rfl, iv_eq (by simp), trivial⟩ ⟨[], rfl⟩ ⟨[], ?_⟩⟩
    have hset := ins_set (p := p) (s := s1) (lo := lo) ((ins p lo s1).getD (lo + (s1.length : Int).toNat) 0 - ((c0 + w * rd v (s1.length : Int)) % 4294967296 + e0)) (by omega)
    dsimp only
    rw [← hset]; rfl
  · refine ⟨again (s1 ++ [((ins p lo s1).getD (lo + (s1.length : Int).toNat) 0 + 4294967296 - (c0 % 4294967296 + e0))], _, 1) (DigI.step iI (by omega) hwb okv (by rw [rd_out v s1.length (by omega)]; omega) (d := ((ins p lo s1).getD (lo + (s1.length : Int).toNat) 0 + 4294967296 - (c0 % 4294967296 + e0))) (by omega) (by omega) (by omega)) (by simp only [List.length_append, List.length_cons, List.length_nil]; omega) ⟨rfl, rfl, rfl, rfl, rfl, rfl, iv_eq (by simp), trivial⟩ ⟨[], rfl⟩ ⟨[], ?_⟩⟩
    have hset := ins_set (p := p) (s := s1) (lo := lo) ((ins p lo s1).getD (lo + (s1.length : Int).toNat) 0 + 4294967296 - (c0 % 4294967296 + e0)) (by omega)
    dsimp only
    rw [← hset]; rfl
  · refine ⟨again (s1 ++ [((ins p lo s1).getD (lo + (s1.length : Int).toNat) 0 - (c0 % 4294967296 + e0))], _, 0) (DigI.step iI (by omega) hwb okv (by rw [rd_out v s1.length (by omega)]; omega) (d := ((ins p lo s1).getD (lo + (s1.length : Int).toNat) 0 - (c0 % 4294967296 + e0))) (by omega) (by omega) (by omega)) (by simp only [List.length_append, List.length_cons, List.length_nil]; omega) ⟨rfl, rfl, rfl, rfl, rfl, rfl, iv_eq (by simp), trivial⟩ ⟨[], rfl⟩ ⟨[], ?_⟩⟩
    have hset := ins_set (p := p) (s := s1) (lo := lo) ((ins p lo s1).getD (lo + (s1.length : Int).toNat) 0 - (c0 % 4294967296 + e0)) (by omega)
    dsimp only
    rw [← hset]; rfl
  · refine ⟨again (r ++ [(c + (ins (ins p lo s) lo r).getD (lo + (r.length : Int).toNat) 0 + rd v (r.length : Int)) % 4294967296], _) (GivI.step kI (by omega) oky okv (T := (c + (ins (ins p lo s) lo r).getD (lo + (r.length : Int).toNat) 0 + rd v (r.length : Int))) (by omega)) (by simp only [List.length_append, List.length_cons, List.length_nil]; omega) ⟨rfl, rfl, rfl, rfl, rfl, rfl, iv_eq (by simp), trivial⟩ ⟨[], rfl⟩ ⟨[], ?_⟩⟩
    have hset := ins_set (p := ins p lo s) (s := r) (lo := lo) ((c + (ins (ins p lo s) lo r).getD (lo + (r.length : Int).toNat) 0 + rd v (r.length : Int)) % 4294967296) (by rw [ins_len (by omega)]; omega)
    dsimp only
    rw [← hset]; rfl
  · refine ⟨again (r ++ [(c + (ins (ins p lo s) lo r).getD (lo + (r.length : Int).toNat) 0) % 4294967296], _) (GivI.step kI (by omega) oky okv (T := (c + (ins (ins p lo s) lo r).getD (lo + (r.length : Int).toNat) 0)) (by have := rd_out v r.length (by omega); omega)) (by simp only [List.length_append, List.length_cons, List.length_nil]; omega) ⟨rfl, rfl, rfl, rfl, rfl, rfl, iv_eq (by simp), trivial⟩ ⟨[], rfl⟩ ⟨[], ?_⟩⟩
    have hset := ins_set (p := ins p lo s) (s := r) (lo := lo) ((c + (ins (ins p lo s) lo r).getD (lo + (r.length : Int).toNat) 0) % 4294967296) (by rw [ins_len (by omega)]; omega)
    dsimp only
    rw [← hset]; rfl
  · have he1 : e = 1 := by omega
    have hrl : r.length = v.length + 1 := by omega
    have hq1 := je.2 (by omega)
    rw [hrl, hvfull _ (by omega), show v.length + 1 = s.length by omega, hyt] at k4
    have hc : e - min e c = 1 - c := by omega
    refine ⟨again (r, w2 - 1, e - min e c) ⟨hrl, k2, by omega, by omega, ?_⟩ (by first | omega | (dsimp only; omega) | (simp only [id]; omega)) ⟨rfl, rfl, rfl, rfl, rfl, trivial⟩ ⟨[], rfl⟩ ⟨[], ?_⟩⟩
    · rw [hc, Int.sub_mul, Int.one_mul, Int.mul_sub, Int.mul_one]
      rw [he1, Int.mul_one] at j5
      rw [j1] at k4
      omega
    · dsimp only; rw [ins_ins (by omega) (by omega)]; rfl
  · exact ⟨Nat.zero_le _, okD_nil _, by decide, by simp [vl]⟩
  · have he0 : e = 0 := by omega
    obtain ⟨f1, f2⟩ := je.1 he0
    refine ⟨ret_m [0] _ [some ⟨1, 90, .w .u32 (ins p lo s)⟩] rfl rfl (by simp) (fun i h => ?_) rfl ⟨iv_eq f1, s, j1, j2, f2, rfl⟩⟩
    have : i = 0 := by simp at h; omega
    subst this; rfl
  · have hs1 : s1.length = v.length + 1 := by omega
    have hc0 := i5 hs1
    refine ⟨hs1, i2, i4, ⟨hge, hwb.2⟩, ?_⟩
    rw [i6, hs1, hvfull _ (by omega), ← hUe, hc0, Int.zero_add]
  · exact ⟨Nat.zero_le _, okD_nil _, by decide, by decide, fun h => (by simp at h), by simp [vl]⟩
set_option maxHeartbeats 8000000
theorem tail_zero {l : List Int} {k : Nat} (ok : okD 4294967296 l) (h : vl 4294967296 l < 4294967296 ^ k) : vl 4294967296 (l.drop k) = 0 := by
  rcases Nat.lt_or_ge l.length k with h1 | h1
  · rw [List.drop_eq_nil_of_le (by omega)]; rfl
  · have h2 := vl_split 4294967296 l k h1
    have h3 := vl_nonneg (B := 4294967296) (by decide) (ok.take k)
    have h4 := vl_nonneg (B := 4294967296) (by decide) (ok.drop k)
    have hp : 0 < (4294967296 : Int) ^ k := Int.pow_pos (by decide)
    rcases Int.lt_or_le 0 (vl 4294967296 (l.drop k)) with h5 | h5
    · have : 4294967296 ^ k * 1 ≤ 4294967296 ^ k * vl 4294967296 (l.drop k) := Int.mul_le_mul_of_nonneg_left (by omega) (by omega)
      omega
    · omega
theorem div_step {u q s : List Int} {V X d : Int} {j n : Nat} (oku : okD 4294967296 u) (hV : 0 < V) (hVn : V < 4294967296 ^ n) (hj : j + n + 1 ≤ u.length) (hq : j < q.length) (hr : vl 4294967296 (u.drop (j + 1)) < V)
    (hX : X = V * (4294967296 ^ (j + 1) * vl 4294967296 (q.drop (j + 1))) + vl 4294967296 u) :
    vl 4294967296 ((u.drop j).take (n + 1)) < 4294967296 * V ∧ (s.length = n + 1 → vl 4294967296 s = vl 4294967296 ((u.drop j).take (n + 1)) % V → d = vl 4294967296 ((u.drop j).take (n + 1)) / V →
      vl 4294967296 ((ins u j s).drop j) < V ∧ X = V * (4294967296 ^ j * vl 4294967296 ((q.set j d).drop j)) + vl 4294967296 (ins u j s)) := by
  have z1 := tail_zero (oku.drop (j + 1)) (Int.lt_trans hr hVn)
  rw [List.drop_drop] at z1
  have w1 := vl_split 4294967296 (u.drop j) (n + 1) (by rw [List.length_drop]; omega)
  rw [List.drop_drop, show j + (n + 1) = j + 1 + n by omega, z1, Int.mul_zero, Int.add_zero] at w1
  have w2 := drop_rd u j (by omega)
  have bu := rd_bd (by decide) oku (j : Int)
  have w3 : vl 4294967296 (u.drop j) = rd u j + 4294967296 * vl 4294967296 (u.drop (j + 1)) := by rw [w2]; rfl
  rw [← w1]
  refine ⟨by omega, fun hs hv hd => ?_⟩
  have hle : j + s.length ≤ u.length := by omega
  have i1 := ins_drop hle
  have i2 := ins_vl 4294967296 hle
  rw [hs, show j + (n + 1) = j + 1 + n by omega, z1, Int.mul_zero, Int.add_zero] at i2
  have i3 := ins_mid hle
  have i4 := vl_split 4294967296 ((ins u j s).drop j) s.length (by rw [List.length_drop, ins_len hle]; omega)
  rw [i3, List.drop_drop, i1, hs, show j + (n + 1) = j + 1 + n by omega, z1, Int.mul_zero, Int.add_zero] at i4
  have hm := Int.emod_lt_of_pos (vl 4294967296 (u.drop j)) hV
  refine ⟨by rw [i4, hv]; exact hm, ?_⟩
  have e2 : (q.set j d).drop j = d :: q.drop (j + 1) := by
    rw [List.drop_eq_getElem_cons (by simp; omega)]
    simp
    exact List.drop_set_of_lt (by omega)
  have u1 := vl_split 4294967296 u j (by omega)
  have hdm := Int.mul_ediv_add_emod (vl 4294967296 (u.drop j)) V
  rw [e2, i2]
  simp only [vl]
  rw [hX, hv]
  rw [← hd] at hdm
  rw [u1]
  have e3 : V * ((4294967296 : Int) ^ j * (d + 4294967296 * vl 4294967296 (q.drop (j + 1)))) = 4294967296 ^ j * (V * d) + V * (4294967296 ^ (j + 1) * vl 4294967296 (q.drop (j + 1))) := by
    rw [Int.mul_add, Int.mul_add, Int.mul_left_comm V, Int.pow_succ, Int.mul_assoc]
  rw [e3]
  have e4 : (4294967296 : Int) ^ j * vl 4294967296 (u.drop j) = 4294967296 ^ j * (V * d) + 4294967296 ^ j * (vl 4294967296 (u.drop j) % V) := by rw [← Int.mul_add, hdm]
  rw [e4]
  omega
def DivI (X Y s : Nat) (u q : List Int) (m : Nat) : Prop := u.length = L32 X + 1 ∧ okD 4294967296 u ∧ q.length = L32 X + 1 - L32 Y ∧ okD 4294967296 q ∧ m ≤ L32 X + 1 - L32 Y ∧ vl 4294967296 (u.drop m) < ((Y * 2 ^ s : Nat) : Int) ∧ ((X * 2 ^ s : Nat) : Int) = ((Y * 2 ^ s : Nat) : Int) * (4294967296 ^ m * vl 4294967296 (q.drop m)) + vl 4294967296 u
theorem okD_set {B : Int} {l : List Int} {i : Nat} {d : Int} (h : okD B l) (hd : 0 ≤ d ∧ d < B) : okD B (l.set i d) := fun x hx => by
  rcases List.mem_or_eq_of_mem_set hx with h1 | h1
  · exact h x h1
  · rw [h1]; exact hd
theorem DivI.step {X Y s : Nat} {u q : List Int} {m : Nat} (h : DivI X Y s u q m) (hV : 0 < ((Y * 2 ^ s : Nat) : Int)) (hVn : ((Y * 2 ^ s : Nat) : Int) < 4294967296 ^ L32 Y) (hm : 0 < m) :
    vl 4294967296 ((u.drop (m - 1)).take (L32 Y + 1)) < 4294967296 * ((Y * 2 ^ s : Nat) : Int) ∧ ∀ w d, okD 4294967296 w → w.length = L32 Y + 1 → vl 4294967296 w = vl 4294967296 ((u.drop (m - 1)).take (L32 Y + 1)) % ((Y * 2 ^ s : Nat) : Int) → d = vl 4294967296 ((u.drop (m - 1)).take (L32 Y + 1)) / ((Y * 2 ^ s : Nat) : Int) → DivI X Y s (ins u (m - 1) w) (q.set (m - 1) d) (m - 1) := by
  obtain ⟨i1, i2, i3, i4, i5, i6, i7⟩ := h
  have e : m - 1 + 1 = m := by omega
  have hst := fun w d => div_step (X := ((X * 2 ^ s : Nat) : Int)) (V := ((Y * 2 ^ s : Nat) : Int)) (s := w) (d := d) (j := m - 1) (n := L32 Y) (u := u) (q := q) i2 hV hVn (by omega) (by omega) (by rw [e]; exact i6) (by rw [e]; exact i7)
  have h1 := (hst [] 0).1
  refine ⟨h1, fun w d k1 k2 k3 k4 => ?_⟩
  obtain ⟨g1, g2⟩ := (hst w d).2 k2 k3 k4
  have hu := i2.drop (m - 1) |>.take (L32 Y + 1)
  have hd : 0 ≤ d ∧ d < 4294967296 := by
    rw [k4]
    have := vl_nonneg (B := 4294967296) (by decide) hu
    exact ⟨Int.ediv_nonneg this (Int.le_of_lt hV), Int.ediv_lt_of_lt_mul hV h1⟩
  exact ⟨by rw [ins_len (by omega), i1], ins_okD i2 k1, by rw [List.length_set, i3], okD_set i4 hd, by omega, g1, g2⟩
theorem DivI.done {X Y s : Nat} {u q : List Int} (h : DivI X Y s u q 0) (hV : 0 < ((Y * 2 ^ s : Nat) : Int)) (hVn : ((Y * 2 ^ s : Nat) : Int) < 4294967296 ^ L32 Y) (hle : L32 Y ≤ L32 X) : (vl 4294967296 q).toNat = X / Y ∧ (vl 4294967296 (u.take (L32 Y))).toNat = X % Y * 2 ^ s := by
  obtain ⟨i1, i2, i3, i4, i5, i6, i7⟩ := h
  rw [List.drop_zero] at i6 i7
  rw [Int.pow_zero, Int.one_mul] at i7
  have z := tail_zero (k := L32 Y) i2 (Int.lt_trans i6 hVn)
  have w := vl_split 4294967296 u (L32 Y) (by omega)
  rw [z, Int.mul_zero, Int.add_zero] at w
  rw [← w]
  have h0 := vl_nonneg (B := 4294967296) (by decide) i2
  have hq0 := vl_nonneg (B := 4294967296) (by decide) i4
  obtain ⟨Q, hQ⟩ := Int.eq_ofNat_of_zero_le hq0
  obtain ⟨R, hR⟩ := Int.eq_ofNat_of_zero_le h0
  rw [hQ] at i7 ⊢
  rw [hR] at i6 i7 ⊢
  simp only [Int.toNat_natCast]
  have i8 : X * 2 ^ s = Y * 2 ^ s * Q + R := by
    rw [← Int.natCast_mul, ← Int.natCast_add] at i7
    exact Int.ofNat_inj.1 i7
  have i9 : R < Y * 2 ^ s := by omega
  have hp : 0 < 2 ^ s := Nat.pow_pos (by decide)
  refine ⟨?_, ?_⟩
  · rw [← Nat.mul_div_mul_right X Y hp, i8, Nat.mul_add_div (by omega), Nat.div_eq_of_lt i9, Nat.add_zero]
  · rw [← Nat.mul_mod_mul_right, i8, Nat.mul_add_mod, Nat.mod_eq_of_lt i9]
theorem DivI.init {X Y s : Nat} {k : Nat} (hk : L32 (X * 2 ^ s) + k = L32 X + 1) (hXY : L32 Y ≤ L32 X) (h0 : 0 < L32 Y) (hlt : X * 2 ^ s < 2 ^ (32 * L32 X) * 2 ^ s) (hV : 2 ^ (32 * (L32 Y - 1)) * 2 ^ s ≤ Y * 2 ^ s) : DivI X Y s (d32 (X * 2 ^ s) ++ List.replicate k 0) (List.replicate (L32 X + 1 - L32 Y) 0) (L32 X + 1 - L32 Y) := by
  obtain ⟨ok, va⟩ := d32_ok (X * 2 ^ s)
  have hl : (d32 (X * 2 ^ s)).length = L32 (X * 2 ^ s) := rfl
  have hrep : ∀ n, okD 4294967296 (List.replicate n (0 : Int)) := fun n x hx => by rw [List.eq_of_mem_replicate hx]; decide
  have hz : ∀ n, vl 4294967296 (List.replicate n (0 : Int)) = 0 := fun n => vl_zero _ _
  have hu : vl 4294967296 (d32 (X * 2 ^ s) ++ List.replicate k 0) = ((X * 2 ^ s : Nat) : Int) := by rw [vl_append, va, hz, Int.mul_zero, Int.add_zero]
  have oku : okD 4294967296 (d32 (X * 2 ^ s) ++ List.replicate k 0) := okD_append.2 ⟨ok, hrep k⟩
  refine ⟨by simp [hl]; omega, oku, by simp, hrep _, Nat.le_refl _, ?_, ?_⟩
  · have hs := vl_split 4294967296 (d32 (X * 2 ^ s) ++ List.replicate k 0) (L32 X + 1 - L32 Y) (by simp [hl]; omega)
    rw [hu] at hs
    have h1 := vl_nonneg (B := 4294967296) (by decide) (oku.take (L32 X + 1 - L32 Y))
    obtain ⟨Z, hZ⟩ := Int.eq_ofNat_of_zero_le (vl_nonneg (B := 4294967296) (by decide) (oku.drop (L32 X + 1 - L32 Y)))
    rw [hZ] at hs ⊢
    have h2 : 4294967296 ^ (L32 X + 1 - L32 Y) * Z ≤ X * 2 ^ s := by
      have : ((4294967296 ^ (L32 X + 1 - L32 Y) * Z : Nat) : Int) ≤ ((X * 2 ^ s : Nat) : Int) := by
        rw [hs]; simp only [Int.natCast_mul, Int.natCast_pow]; exact Int.le_add_of_nonneg_left h1
      exact Int.ofNat_le.1 this
    have e : 32 * L32 X = 32 * (L32 X + 1 - L32 Y) + 32 * (L32 Y - 1) := by omega
    rw [pow32] at h2
    rw [e, Nat.pow_add, Nat.mul_assoc] at hlt
    have h3 : Z < 2 ^ (32 * (L32 Y - 1)) * 2 ^ s := Nat.lt_of_mul_lt_mul_left (Nat.lt_of_le_of_lt h2 hlt)
    omega
  · rw [List.drop_eq_nil_of_le (by simp)]
    simp only [vl]
    rw [Int.mul_zero, Int.mul_zero, Int.zero_add, hu]
theorem r_divmod (X Y : Nat) (hX : L32 X ≤ 268435456) (hY : L32 Y ≤ 268435456) : FC Tryd.prog G 84 [D X, D Y] (· = .tup [D (X / Y), D (if Y = 0 then 0 else X % Y)]) := by
  have hlx : (d32 X).length = L32 X := rfl
  have hly : (d32 Y).length = L32 Y := rfl
  obtain ⟨T, hT⟩ : ∃ T, T = Y / 2 ^ (32 * (L32 Y - 1)) := ⟨_, rfl⟩
  have hT2 : Unit → Y ≠ 0 → T < 4294967296 ∧ T ≠ 0 := fun _ h => by rw [hT]; exact top32 h
  have hTb : bl T ≤ 32 := by
    by_cases h : Y = 0
    · subst h; rw [hT, Nat.zero_div]; decide
    · exact bl_le (hT2 () h).1
  have hTl : L32 T ≤ 536870912 := by
    by_cases h : Y = 0
    · subst h; rw [hT, Nat.zero_div, L32, lenB_zero]; decide
    · exact Nat.le_trans (L32_le (n := 1) (hT2 () h).1) (by decide)
  obtain ⟨s, hs⟩ : ∃ s : Nat, s = 32 - bl T := ⟨_, rfl⟩
  have hY0 : Unit → L32 Y ≠ 0 → Y ≠ 0 := fun _ h h0 => by subst h0; exact h (lenB_zero _)
  have hV : Unit → Y ≠ 0 → Y * 2 ^ s < 2 ^ (32 * L32 Y) ∧ 2 ^ (32 * (L32 Y - 1)) * 2 ^ s ≤ Y * 2 ^ s := fun _ h => by
    have h1 := lt_bl T
    have h2 : bl Y = 32 * (L32 Y - 1) + bl T := by rw [hT]; exact bl_top Y _ (by rw [← hT]; exact (hT2 () h).2)
    have h3 := lt_bl Y
    have h4 := lenB_pos (B := 4294967296) (by decide) h
    have h5 : 0 < L32 Y := h4
    refine ⟨?_, Nat.mul_le_mul_right _ ?_⟩
    · have h6 : Y * 2 ^ s < 2 ^ bl Y * 2 ^ s := Nat.mul_lt_mul_of_pos_right h3 (Nat.pow_pos (by decide))
      rw [← Nat.pow_add] at h6
      exact Nat.lt_of_lt_of_le h6 (Nat.pow_le_pow_right (by decide) (by omega))
    · exact Nat.le_trans (Nat.pow_le_pow_right (by decide) (by have := bl_pos (hT2 () h).2; omega)) (le_of_bl h)
  have hVl : Unit → Y ≠ 0 → L32 (Y * 2 ^ s) = L32 Y := fun _ h => by
    have h1 := L32_le (hV () h).1
    have h2 : L32 Y ≤ L32 (Y * 2 ^ s) := lenB_mono (by decide) (Nat.le_mul_of_pos_right _ (Nat.pow_pos (by decide)))
    omega
  have hs32 : s ≤ 32 := by omega
  have hUlt : X * 2 ^ s < 2 ^ (32 * L32 X) * 2 ^ s := Nat.mul_lt_mul_of_pos_right (L32_lt X) (Nat.pow_pos (by decide))
  have hUl : L32 (X * 2 ^ s) ≤ L32 X + 1 := by
    apply L32_le
    rw [← Nat.pow_add] at hUlt
    exact Nat.lt_of_lt_of_le hUlt (Nat.pow_le_pow_right (by decide) (by omega))
  have hes : (32 - (bl T : Int)).toNat = s := by omega
  have hr0 : Unit → L32 Y = 1 → rd (d32 Y) 0 = (Y : Int) ∧ 0 < Y ∧ Y < 4294967296 := fun _ h => by
    have h1 := d32_rd Y 0
    have h2 := L32_lt Y
    rw [h] at h2
    have h3 := hY0 () (by omega)
    refine ⟨?_, by omega, h2⟩
    rw [show ((0 : Nat) : Int) = 0 by rfl] at h1
    rw [h1, Nat.pow_zero, Nat.div_one]
    omega
  have hcl : Unit → ¬ cmpN X Y < 0 → Y ≤ X ∧ L32 Y ≤ L32 X := fun _ h => by
    have : Y ≤ X := by
      unfold cmpN at h
      split at h
      · exact absurd (by decide) h
      · omega
    exact ⟨this, lenB_mono (by decide) this⟩
  have hVpp : Unit → Y ≠ 0 → (0 : Int) < ((Y * 2 ^ s : Nat) : Int) := fun _ h => by
    have : 0 < Y * 2 ^ s := Nat.mul_pos (by omega) (Nat.pow_pos (by decide))
    omega
  have hVpq : Unit → Y ≠ 0 → ((Y * 2 ^ s : Nat) : Int) < 4294967296 ^ L32 Y := fun _ h => by
    have h1 := (hV () h).1
    rw [← pow32] at h1
    have h2 := Int.ofNat_lt.2 h1
    simpa using h2
  have hml : Unit → L32 (X % Y * 2 ^ s) ≤ L32 X + 1 := fun _ => Nat.le_trans (lenB_mono (by decide) (Nat.mul_le_mul_right _ (Nat.mod_le _ _))) hUl
  have hcmp := r_cmp (G := G) X Y (by omega) (by omega)
  have hw0 := r_word (G := G) 0 (by decide)
  have hbits := r_bits (G := G) T hTl
  have hdr : (d32 Y).drop (L32 Y - 1) = d32 T := by rw [d32_drop, hT]
  refine ax_i Tryd.func84 Tryd.ntmps84 (by rw [Tryd.results84]) ?_; intro F hG hO
  rw [← hG] at hcmp hw0 hbits
  repeat' ((try (conv => whnf)); first
  | ((with_reducible refine cg ?_); first | refine ceq hw0 rfl ?_)
  | ((with_reducible refine cg ?_); refine call_eq (r_word ((X : Int) % Y) (by omega)) (LpL.refl _) rfl ?_)
  | ((with_reducible refine cg ?_); first | refine ceq hcmp rfl ?_)
  | ((with_reducible refine cg ?_); refine call_eq (r_normN X (by omega)) (LpL.refl _) rfl ?_)
  | ((with_reducible refine cg ?_); have hr1 := hr0 () (by omega); have hmm := Int.emod_nonneg (X : Int) (b := (Y : Int)) (by omega); have hml := Int.emod_lt_of_pos (X : Int) (b := (Y : Int)) (by omega); rw [hr1.1]; refine call_eq (r_divs X Y (by omega) (by omega)) (LpL.refl _) rfl ?_)
  | ((with_reducible refine cg ?_); rw [hly, show ((L32 Y : Int) - 1).toNat = L32 Y - 1 by omega, hdr]; refine call_eq hbits (LpL.refl _) rfl ?_)
  | ((with_reducible refine cg ?_); refine call_eq (r_shl Y (32 - (bl T : Int)) (by omega) (by dsimp only [inR]; omega) (by omega)) (LpL.refl _) rfl ?_; rw [hes])
  | ((with_reducible refine cg ?_); refine call_own (m := 0) (m_shl X (32 - (bl T : Int)) (by omega) (by dsimp only [inR]; omega) (by omega)) rfl rfl rfl ?_; rw [hes])
  | ((with_reducible refine lg ?_); refine loop_g (A := List Int × List Int × Nat) (fun (u, q, m) => DivI X Y s u q m) (fun (u, q, m) => m) (fun (u, q, m) => [(8, .val (.int .i64 (32 - (bl T : Int)))), (9, D (Y * 2 ^ s)), (10, .arr 0 0 (L32 X + 1)), (11, .val (.int .i64 (L32 Y : Int))), (12, .arr 1 0 (L32 X + 1 - L32 Y)), (13, .val (.int .i64 ((m : Int) - 1)))]) (fun _ => []) (fun (u, q, m) => [some ⟨1, 90, .w .u32 u⟩, some ⟨1, 90, .w .u32 q⟩]) (d32 (X * 2 ^ s) ++ List.replicate k 0, List.replicate (L32 X + 1 - L32 Y) 0, L32 X + 1 - L32 Y) tok (fun (u, q, m) => ⟨⟨trivial, trivial, Nat.zero_lt_succ _, trivial, Nat.lt_succ_self 1, trivial, trivial⟩, trivial, by simp only [List.length_cons, List.length_nil]; omega⟩) ?_ ⟨rfl, rfl, congrArg (PV.arr 0 0) (by omega), iv_eq (by omega), congrArg (PV.arr 1 0) (by omega), iv_eq (by omega), trivial⟩ ⟨[], rfl⟩ ⟨[], (by rw [show (((L32 (X * 2 ^ s) + k : Nat) : Int) - ((d32 (Y * 2 ^ s)).length : Int)).toNat = L32 X + 1 - L32 Y by omega]; rfl)⟩ ?_; rotate_left; rintro ⟨u, q, m⟩ hI; have hI2 := hI; obtain ⟨i1, i2, i3, i4, i5, i6, i7⟩ := hI2)
  | ((with_reducible refine lg ?_); refine loop_g (A := Nat) (fun k => L32 (X * 2 ^ s) + k ≤ L32 X + 1) (fun k => L32 X + 1 - k) (fun k => [(0, D X), (8, .val (.int .i64 (32 - (bl T : Int)))), (9, D (Y * 2 ^ s)), (10, .arr 0 0 (L32 (X * 2 ^ s) + k))]) (fun _ => []) (fun k => [some ⟨1, 90, .w .u32 (d32 (X * 2 ^ s) ++ List.replicate k 0)⟩]) 0 tok (fun k => ⟨⟨trivial, trivial, trivial, Nat.one_pos, trivial⟩, trivial, by simp only [List.length_cons, List.length_nil]; omega⟩) ?_ ⟨rfl, rfl, rfl, rfl, trivial⟩ ⟨[], rfl⟩ ⟨[], (by simp)⟩ ?_; rotate_left; rintro k h1; have hlu : (d32 (X * 2 ^ s)).length = L32 (X * 2 ^ s) := rfl; have hlv : (d32 (Y * 2 ^ s)).length = L32 (Y * 2 ^ s) := rfl; have hYn := hVl () (hY0 () (by omega)); have hVp := hVpp () (hY0 () (by omega)); have hVq := hVpq () (hY0 () (by omega)); have hXY := hcl () (by omega))
  | ((with_reducible refine cg ?_); have hst := hI.step hVp hVq; rw [show 0 + ((m : Int) - 1).toNat = m - 1 by omega, show ((m : Int) - 1 + (L32 Y : Int) + 1).toNat - ((m : Int) - 1).toNat = L32 Y + 1 by omega]; refine call_pm [0] (m_digit u (m - 1) (Y * 2 ^ s) (L32 Y) hYn (by omega) (by omega) (by omega) i2 (hst (by omega)).1) rfl rfl rfl (by simp) ?_; rintro r rs ⟨rfl, w, j1, j2, j3, rfl⟩)
  | ((with_reducible refine cg ?_); refine call_fz 0 (B := q) rfl rfl (by omega) (by rw [List.drop_zero]; exact List.take_of_length_le (by omega)) (by omega) ?_; refine call_eq (r_normD q (by omega) i4) (LpL.refl _) rfl ?_)
  | ((with_reducible refine cg ?_); obtain rfl : m = 0 := (by omega); have hdone := hI.done hVp hVq hXY.2; refine call_fz 0 (B := u.take (L32 Y)) rfl rfl (by omega) (by rw [List.drop_zero, Int.toNat_natCast]) (by omega) ?_; refine call_eq (r_normD (u.take (L32 Y)) (by rw [List.length_take]; omega) (i2.take _)) (LpL.refl _) rfl ?_; rw [hdone.2])
  | ((with_reducible refine cg ?_); refine call_eq (r_shr (X % Y * 2 ^ s) (32 - (bl T : Int)) (by have := hml (); omega) (by dsimp only [inR]; omega)) (LpL.refl _) rfl ?_)
  
  | (with_reducible refine draw_g (id := 19) [[0, 2, 3, 4, 6, 1, 5, 7, 8, 9]] tok mixed (by kernel_rfl) ?_)
  | with_reducible first | refine ax_s ?_ | refine BothG.mk ?_ ?_ | (refine ax_f ?_ ?_ <;> intro hc) | refine smk ?_ | fail)
  · have : Y = 0 := (lenB_eq_zero (B := 4294967296) (by decide)).1 (by unfold L32 at hly; omega)
    subst this
    exact ⟨ret_e (by rw [Nat.div_zero, if_pos rfl]; rfl)⟩
  · have : X < Y := by
      unfold cmpN at hc
      split at hc
      · assumption
      · split at hc <;> omega
    exact ⟨ret_e (by rw [Nat.div_eq_of_lt this, if_neg (by omega), Nat.mod_eq_of_lt this]; rfl)⟩
  · refine ⟨ret_e ?_⟩
    rw [if_neg (by omega), ← Int.natCast_ediv, ← Int.natCast_emod, Int.toNat_natCast, Int.toNat_natCast]; rfl
  · refine ⟨again (k + 1) (by omega) (by omega) ⟨rfl, rfl, rfl, rfl, trivial⟩ ⟨[], rfl⟩ ⟨[], ?_⟩⟩
    rw [List.replicate_succ', ← List.append_assoc]; rfl
  · refine ⟨again (ins u (m - 1) w, q.set (m - 1) (vl 4294967296 (List.take (L32 Y + 1) (List.drop (m - 1) u)) / ((Y * 2 ^ s : Nat) : Int)), m - 1) ((hst (by omega)).2 w _ j2 j1 j3 rfl) (by dsimp only; omega) ⟨rfl, rfl, rfl, rfl, rfl, iv_eq (by omega), trivial⟩ ⟨[], rfl⟩ ⟨[], ?_⟩⟩
    dsimp only
    rw [show 0 + ((m : Int) - 1).toNat = m - 1 by omega]; rfl
  · refine ⟨ret_e ?_⟩
    rw [hes, Nat.mul_div_cancel _ (Nat.pow_pos (by decide)), hdone.1, if_neg (hY0 () (by omega))]; rfl
  · exact DivI.init (by omega) hXY.2 (by omega) hUlt (hV () (hY0 () (by omega))).2
  · omega
theorem L32_p2 (n : Nat) : L32 (2 ^ n) ≤ n / 32 + 1 := by
  have := L32_shl 1 n
  rw [Nat.one_mul] at this
  have h1 : L32 1 ≤ 1 := L32_le (by decide)
  apply L32_le
  exact Nat.pow_lt_pow_right (by decide) (by omega)
theorem L32_mul (x y : Nat) : L32 (x * y) ≤ L32 x + L32 y := lenB_mul (by decide) x y
theorem L32_mono {x y : Nat} (h : x ≤ y) : L32 x ≤ L32 y := lenB_mono (by decide) h
theorem L32_add (x y : Nat) : L32 (x + y) ≤ max (L32 x) (L32 y) + 1 := lenB_add (by decide) x y
def ZI (a : Int) : PV := .agg [.val (.bool (decide (a < 0))), .ws .u32 (d32 a.natAbs)]
def LZ (a : Int) : Nat := L32 a.natAbs
def sg (b : Bool) (m : Nat) : Int := match b with
  | true => -(m : Int)
  | false => m
theorem sg_abs (b : Bool) (m : Nat) : (sg b m).natAbs = m := by cases b <;> simp [sg]
theorem L32_pos (m : Nat) : 0 < L32 m ↔ 0 < m := by
  have h := lenB_eq_zero (B := 4294967296) (by decide) (x := m)
  unfold L32
  omega
theorem zi_sg (b : Bool) (m : Nat) (c : Bool) (h : c = (b && decide (0 < m))) : PV.agg [.val (.bool c), .ws .u32 (d32 m)] = ZI (sg b m) := by
  subst h
  unfold ZI
  rw [sg_abs]
  congr 4
  cases b
  · simp only [sg, Bool.false_and]
    exact (decide_eq_false (by omega)).symm
  · simp [sg]
theorem sg_of (a : Int) : sg (decide (a < 0)) a.natAbs = a := by
  by_cases h : a < 0
  · simp only [h, decide_true, sg]; omega
  · simp only [h, decide_false, sg]; omega
theorem r_mk (b : Bool) (m : Nat) (h : L32 m ≤ 1099511627776) : FC Tryd.prog G 24 [.val (.bool b), D m] (· = ZI (sg b m)) := by
  have hl : (d32 m).length = L32 m := rfl
  have hp := L32_pos m
  cases b
  · refine ax_i Tryd.func24 Tryd.ntmps24 (by rw [Tryd.results24]) ?_; intro F hG hO
    repeat' ((try (conv => whnf)); first
  | ((with_reducible refine cg ?_); refine call_eq (r_normN m h) (LpL.refl _) rfl ?_)
  
  | with_reducible first | refine ax_s ?_ | refine BothG.mk ?_ ?_ | (refine ax_f ?_ ?_ <;> intro hc) | refine smk ?_ | fail)
    all_goals exact ⟨ret_e (zi_sg _ m _ (by simp))⟩
  · refine ax_i Tryd.func24 Tryd.ntmps24 (by rw [Tryd.results24]) ?_; intro F hG hO
    repeat' ((try (conv => whnf)); first
  | ((with_reducible refine cg ?_); refine call_eq (r_normN m h) (LpL.refl _) rfl ?_)
  
  | with_reducible first | refine ax_s ?_ | refine BothG.mk ?_ ?_ | (refine ax_f ?_ ?_ <;> intro hc) | refine smk ?_ | fail)
    all_goals exact ⟨ret_e (zi_sg _ m _ (by rw [Bool.true_and]; exact decide_eq_decide.2 (by omega)))⟩
theorem zi_neg {a : Int} (h : a < 0) : ZI a = .agg [.val (.bool true), D a.natAbs] := by unfold ZI; rw [decide_eq_true h]; rfl
theorem zi_pos {a : Int} (h : ¬ a < 0) : ZI a = .agg [.val (.bool false), D a.natAbs] := by unfold ZI; rw [decide_eq_false h]; rfl
theorem by_sign {a : Int} {p : PV → Prop} (h1 : a < 0 → p (.agg [.val (.bool true), D a.natAbs])) (h2 : ¬ a < 0 → p (.agg [.val (.bool false), D a.natAbs])) : p (ZI a) := by
  by_cases h : a < 0
  · rw [zi_neg h]; exact h1 h
  · rw [zi_pos h]; exact h2 h
theorem zi_eq {a b : Int} (h : a = b) : ZI a = ZI b := by rw [h]
theorem len_pos (m : Nat) : (0 : Int) < ((d32 m).length : Int) ↔ 0 < m := by
  have hl : (d32 m).length = L32 m := rfl
  have hp := L32_pos m
  omega
theorem r_of (n : Int) (h : inR .i64 n) : FC Tryd.prog G 27 [.val (.int .i64 n)] (· = ZI n) := by
  dsimp only [inR] at h
  have l1 : L32 1 ≤ 1 := L32_le (by decide)
  have ln : L32 (0 - (n + 1)).toNat ≤ 2 ∨ 0 ≤ n := by
    rcases Int.lt_or_le n 0 with h1 | h1
    · exact .inl (L32_le (show (0 - (n + 1)).toNat < 2 ^ (32 * 2) by omega))
    · exact .inr h1
  have ln2 : L32 n.toNat ≤ 2 := L32_le (show n.toNat < 2 ^ (32 * 2) by omega)
  have la := L32_add (0 - (n + 1)).toNat 1
  refine ax_i Tryd.func27 Tryd.ntmps27 (by rw [Tryd.results27]) ?_; intro F hG hO
  repeat' ((try (conv => whnf)); first
  | ((with_reducible refine cg ?_); refine call_eq (r_word (0 - (n + 1)) (by omega)) (LpL.refl _) rfl ?_)
  | ((with_reducible refine cg ?_); refine call_eq (r_word 1 (by decide)) (LpL.refl _) rfl ?_)
  | ((with_reducible refine cg ?_); refine call_eq (r_add (0 - (n + 1)).toNat 1 (by omega) (by omega)) (LpL.refl _) rfl ?_)
  | ((with_reducible refine cg ?_); refine call_eq (r_mk true ((0 - (n + 1)).toNat + 1) (by omega)) (LpL.refl _) rfl ?_)
  | ((with_reducible refine cg ?_); refine call_eq (r_word n (by omega)) (LpL.refl _) rfl ?_)
  | ((with_reducible refine cg ?_); refine call_eq (r_mk false n.toNat (by omega)) (LpL.refl _) rfl ?_)
  
  | with_reducible first | refine ax_s ?_ | refine BothG.mk ?_ ?_ | (refine ax_f ?_ ?_ <;> intro hc) | refine smk ?_ | fail)
  · exact ⟨ret_e (zi_eq (a := sg true ((0 - (n + 1)).toNat + 1)) (by simp only [sg]; omega))⟩
  · exact ⟨ret_e (zi_eq (a := sg false n.toNat) (by simp only [sg]; omega))⟩
theorem r_sign (a : Int) : FC Tryd.prog G 69 [ZI a] (· = .val (.int .i64 a.sign)) := by
  refine by_sign (a := a) (p := fun p => FC _ _ _ [p] _) (fun hs => ?_) (fun hs => ?_)
  all_goals
    have hp := len_pos a.natAbs
    refine ax_i Tryd.func69 Tryd.ntmps69 (by rw [Tryd.results69]) ?_; intro F hG hO
    repeat' ((try (conv => whnf)); first
  
  | with_reducible first | refine ax_s ?_ | refine BothG.mk ?_ ?_ | (refine ax_f ?_ ?_ <;> intro hc) | refine smk ?_ | fail)
  · exact ⟨ret_e (iv_eq (Int.sign_eq_neg_one_of_neg hs).symm)⟩
  · exact ⟨ret_e (iv_eq (by rw [show a = 0 by omega]; rfl))⟩
  · exact ⟨ret_e (iv_eq (Int.sign_eq_one_of_pos (by omega)).symm)⟩
theorem r_flip (a : Int) (h : LZ a ≤ 1099511627776) : FC Tryd.prog G 47 [ZI a] (· = ZI (-a)) := by
  unfold LZ at h
  refine by_sign (a := a) (p := fun p => FC _ _ _ [p] _) (fun hs => ?_) (fun hs => ?_)
  all_goals
    refine ax_i Tryd.func47 Tryd.ntmps47 (by rw [Tryd.results47]) ?_; intro F hG hO
    repeat' ((try (conv => whnf)); first
  | ((with_reducible refine cg ?_); refine call_eq (r_mk _ a.natAbs h) (LpL.refl _) rfl ?_)
  
  | with_reducible first | refine ax_s ?_ | refine BothG.mk ?_ ?_ | (refine ax_f ?_ ?_ <;> intro hc) | refine smk ?_ | fail)
  · exact ⟨ret_e (zi_eq (a := sg false a.natAbs) (by simp only [sg]; omega))⟩
  · exact ⟨ret_e (zi_eq (a := sg true a.natAbs) (by simp only [sg]; omega))⟩
theorem cmpN_ge (X Y : Nat) : 0 ≤ cmpN X Y ↔ Y ≤ X := by
  unfold cmpN
  split
  · exact ⟨fun h => by omega, fun h => by omega⟩
  · split
    · exact ⟨fun h => by omega, fun h => by omega⟩
    · exact ⟨fun h => by omega, fun h => by omega⟩
theorem LZ_neg (a : Int) : LZ (-a) = LZ a := by unfold LZ; rw [Int.natAbs_neg]
theorem LZ_mono {a b : Int} (h : a.natAbs ≤ b.natAbs) : LZ a ≤ LZ b := L32_mono h
theorem LZ_add (a b : Int) : LZ (a + b) ≤ max (LZ a) (LZ b) + 1 := Nat.le_trans (L32_mono (Int.natAbs_add_le a b)) (L32_add _ _)
theorem r_zadd (a b : Int) (ha : LZ a ≤ 1073741824) (hb : LZ b ≤ 1073741824) : FC Tryd.prog G 22 [ZI a, ZI b] (· = ZI (a + b)) := by
  unfold LZ at ha hb
  refine by_sign (a := a) (p := fun p => FC _ _ _ [p, _] _) (fun hs => ?_) (fun hs => ?_)
  all_goals
    refine by_sign (a := b) (p := fun p => FC _ _ _ [_, p] _) (fun ht => ?_) (fun ht => ?_)
  all_goals
    have hl := L32_add a.natAbs b.natAbs
    have hc1 := L32_mono (Nat.sub_le a.natAbs b.natAbs)
    have hc2 := L32_mono (Nat.sub_le b.natAbs a.natAbs)
    have hcm := cmpN_ge a.natAbs b.natAbs
    refine ax_i Tryd.func22 Tryd.ntmps22 (by rw [Tryd.results22]) ?_; intro F hG hO
    repeat' ((try (conv => whnf)); first
  | ((with_reducible refine cg ?_); refine call_eq (r_add a.natAbs b.natAbs ha hb) (LpL.refl _) rfl ?_)
  | ((with_reducible refine cg ?_); refine call_eq (r_cmp a.natAbs b.natAbs ha hb) (LpL.refl _) rfl ?_)
  | ((with_reducible refine cg ?_); refine call_eq (r_sub a.natAbs b.natAbs ha hb) (LpL.refl _) rfl ?_)
  | ((with_reducible refine cg ?_); refine call_eq (r_sub b.natAbs a.natAbs hb ha) (LpL.refl _) rfl ?_)
  | ((with_reducible refine cg ?_); refine call_eq (r_mk _ (a.natAbs + b.natAbs) (by omega)) (LpL.refl _) rfl ?_)
  | ((with_reducible refine cg ?_); refine call_eq (r_mk _ (a.natAbs - b.natAbs) (by omega)) (LpL.refl _) rfl ?_)
  | ((with_reducible refine cg ?_); refine call_eq (r_mk _ (b.natAbs - a.natAbs) (by omega)) (LpL.refl _) rfl ?_)
  
  | (with_reducible refine draw_g (id := 2) [[0, 1, 2, 3, 4, 5, 6, 7], [8]] tok mixed (by kernel_rfl) ?_)
  | (with_reducible refine draw_g (id := 4) [[0, 1, 2, 3, 4, 5, 6, 7], [8]] tok mixed (by kernel_rfl) ?_)
  | (with_reducible refine draw_g (id := 5) [[0, 1, 2, 3, 4, 5, 6, 7], [8]] tok mixed (by kernel_rfl) ?_)
  | with_reducible first | refine ax_s ?_ | refine BothG.mk ?_ ?_ | (refine ax_f ?_ ?_ <;> intro hc) | refine smk ?_ | fail)
  all_goals first
    | exact ⟨ret_e (zi_eq (a := sg true (a.natAbs + b.natAbs)) (by simp only [sg]; omega))⟩
    | exact ⟨ret_e (zi_eq (a := sg false (a.natAbs + b.natAbs)) (by simp only [sg]; omega))⟩
    | exact ⟨ret_e (zi_eq (a := sg true (a.natAbs - b.natAbs)) (by have := hcm.1 (by omega); simp only [sg]; omega))⟩
    | exact ⟨ret_e (zi_eq (a := sg false (a.natAbs - b.natAbs)) (by have := hcm.1 (by omega); simp only [sg]; omega))⟩
    | exact ⟨ret_e (zi_eq (a := sg true (b.natAbs - a.natAbs)) (by have : ¬ b.natAbs ≤ a.natAbs := fun h => (by have := hcm.2 h; omega); simp only [sg]; omega))⟩
    | exact ⟨ret_e (zi_eq (a := sg false (b.natAbs - a.natAbs)) (by have : ¬ b.natAbs ≤ a.natAbs := fun h => (by have := hcm.2 h; omega); simp only [sg]; omega))⟩
theorem r_zsub (a b : Int) (ha : LZ a ≤ 1073741824) (hb : LZ b ≤ 1073741824) : FC Tryd.prog G 29 [ZI a, ZI b] (· = ZI (a - b)) := by
  have hn := LZ_neg b
  refine ax_i Tryd.func29 Tryd.ntmps29 (by rw [Tryd.results29]) ?_; intro F hG hO
  repeat' ((try (conv => whnf)); first
  | ((with_reducible refine cg ?_); refine call_eq (r_flip b (by omega)) (LpL.refl _) rfl ?_)
  | ((with_reducible refine cg ?_); refine call_eq (r_zadd a (-b) (by omega) (by omega)) (LpL.refl _) rfl ?_)
  
  | (with_reducible refine draw_g (id := 1) [[0, 1, 2, 3], [4]] tok mixed (by kernel_rfl) ?_)
  | with_reducible first | refine ax_s ?_ | refine BothG.mk ?_ ?_ | (refine ax_f ?_ ?_ <;> intro hc) | refine smk ?_ | fail)
  exact ⟨ret_e (zi_eq (by omega))⟩
theorem sg_mul (x y : Nat) (s t : Bool) : sg (s != t) (x * y) = sg s x * sg t y := by
  cases s <;> cases t <;> simp [sg, Int.neg_mul, Int.mul_neg, Int.neg_neg]
theorem r_zmul (a b : Int) (ha : LZ a ≤ 536870912) (hb : LZ b ≤ 536870912) : FC Tryd.prog G 67 [ZI a, ZI b] (· = ZI (a * b)) := by
  unfold LZ at ha hb
  have ea := sg_of a
  have eb := sg_of b
  refine by_sign (a := a) (p := fun p => FC _ _ _ [p, _] _) (fun hs => ?_) (fun hs => ?_)
  all_goals
    refine by_sign (a := b) (p := fun p => FC _ _ _ [_, p] _) (fun ht => ?_) (fun ht => ?_)
  all_goals
    have hl := L32_mul a.natAbs b.natAbs
    refine ax_i Tryd.func67 Tryd.ntmps67 (by rw [Tryd.results67]) ?_; intro F hG hO
    repeat' ((try (conv => whnf)); first
  | ((with_reducible refine cg ?_); refine call_eq (r_mul a.natAbs b.natAbs (by omega) (by omega)) (LpL.refl _) rfl ?_)
  | ((with_reducible refine cg ?_); refine call_eq (r_mk _ (a.natAbs * b.natAbs) (by omega)) (LpL.refl _) rfl ?_)
  
  | (with_reducible refine draw_g (id := 1) [[0, 1, 2, 3, 4, 5, 6, 7, 8, 9, 10], [11]] tok mixed (by kernel_rfl) ?_)
  | with_reducible first | refine ax_s ?_ | refine BothG.mk ?_ ?_ | (refine ax_f ?_ ?_ <;> intro hc) | refine smk ?_ | fail)
  · rw [decide_eq_true hs] at ea
    rw [decide_eq_true ht] at eb
    exact ⟨ret_e (zi_eq (a := sg (true != true) (a.natAbs * b.natAbs)) (by rw [sg_mul, ea, eb]))⟩
  · rw [decide_eq_true hs] at ea
    rw [decide_eq_false ht] at eb
    exact ⟨ret_e (zi_eq (a := sg (true != false) (a.natAbs * b.natAbs)) (by rw [sg_mul, ea, eb]))⟩
  · rw [decide_eq_false hs] at ea
    rw [decide_eq_true ht] at eb
    exact ⟨ret_e (zi_eq (a := sg (false != true) (a.natAbs * b.natAbs)) (by rw [sg_mul, ea, eb]))⟩
  · rw [decide_eq_false hs] at ea
    rw [decide_eq_false ht] at eb
    exact ⟨ret_e (zi_eq (a := sg (false != false) (a.natAbs * b.natAbs)) (by rw [sg_mul, ea, eb]))⟩
theorem r_zcmp (a b : Int) (ha : LZ a ≤ 1073741824) (hb : LZ b ≤ 1073741824) : FC Tryd.prog G 63 [ZI a, ZI b] (· = .val (.int .i64 (a - b).sign)) := by
  refine ax_i Tryd.func63 Tryd.ntmps63 (by rw [Tryd.results63]) ?_; intro F hG hO
  repeat' ((try (conv => whnf)); first
  | ((with_reducible refine cg ?_); refine call_eq (r_zsub a b ha hb) (LpL.refl _) rfl ?_)
  | ((with_reducible refine cg ?_); refine call_eq (r_sign (a - b)) (LpL.refl _) rfl ?_)
  
  | with_reducible first | refine ax_s ?_ | refine BothG.mk ?_ ?_ | (refine ax_f ?_ ?_ <;> intro hc) | refine smk ?_ | fail)
  exact ⟨ret_e rfl⟩
theorem sg_pow (x k : Nat) (s : Bool) : sg s (x * 2 ^ k) = sg s x * 2 ^ k := by
  cases s <;> simp [sg, Int.neg_mul]
theorem r_zshl (a : Int) (n : Int) (ha : LZ a ≤ 268435456) (hn : inR .i64 n) (hn2 : n ≤ 8589934592) : FC Tryd.prog G 23 [ZI a, .val (.int .i64 n)] (· = ZI (a * 2 ^ n.toNat)) := by
  unfold LZ at ha
  have ea := sg_of a
  refine by_sign (a := a) (p := fun p => FC _ _ _ [p, _] _) (fun hs => ?_) (fun hs => ?_)
  all_goals
    have hl := L32_shl a.natAbs n.toNat
    refine ax_i Tryd.func23 Tryd.ntmps23 (by rw [Tryd.results23]) ?_; intro F hG hO
    repeat' ((try (conv => whnf)); first
  | ((with_reducible refine cg ?_); refine call_eq (r_shl a.natAbs n (by omega) hn hn2) (LpL.refl _) rfl ?_)
  | ((with_reducible refine cg ?_); refine call_eq (r_mk _ (a.natAbs * 2 ^ n.toNat) (by omega)) (LpL.refl _) rfl ?_)
  
  | (with_reducible refine draw_g (id := 1) [[0, 1, 2, 3, 4, 5, 6], [7]] tok mixed (by kernel_rfl) ?_)
  | with_reducible first | refine ax_s ?_ | refine BothG.mk ?_ ?_ | (refine ax_f ?_ ?_ <;> intro hc) | refine smk ?_ | fail)
  · rw [decide_eq_true hs] at ea
    exact ⟨ret_e (zi_eq (a := sg true (a.natAbs * 2 ^ n.toNat)) (by rw [sg_pow, ea]))⟩
  · rw [decide_eq_false hs] at ea
    exact ⟨ret_e (zi_eq (a := sg false (a.natAbs * 2 ^ n.toNat)) (by rw [sg_pow, ea]))⟩
theorem div_of {a b q r : Int} (hb : 0 < b) (h : r + b * q = a) (h0 : 0 ≤ r) (h1 : r < b) : a / b = q ∧ a % b = r := (Int.ediv_emod_unique hb).2 ⟨h, h0, h1⟩
theorem nat_dm (x y : Nat) (hy : 0 < y) : ((x % y : Nat) : Int) + (y : Int) * ((x / y : Nat) : Int) = x ∧ ((x % y : Nat) : Int) < y := by
  have := Nat.mod_add_div x y
  have h2 := Nat.mod_lt x hy
  refine ⟨?_, by omega⟩
  have h3 : ((x % y + y * (x / y) : Nat) : Int) = (x : Int) := by rw [this]
  simpa using h3
theorem zi_zero : ZI 0 = .agg [.val (.bool false), .ws .u32 []] := by
  unfold ZI
  rw [show d32 (Int.natAbs 0) = [] from dgs_nil (B := 4294967296) (by decide)]
  rfl
theorem lp_zi0 : Lp (.agg [.val (.bool false), .nil]) (ZI 0) := by
  rw [zi_zero]
  exact .agg (.cons (.refl _) (.cons (.nil _) .nil))
theorem tup_zi {a b c d : Int} (h1 : a = c) (h2 : b = d) : PV.tup [ZI a, ZI b] = .tup [ZI c, ZI d] := by rw [h1, h2]
theorem r_zfloor (a b : Int) (ha : LZ a ≤ 268435454) (hb : LZ b ≤ 268435454) : FC Tryd.prog G 82 [ZI a, ZI b] (· = .tup [ZI (if 0 < b then a / b else 0), ZI (if 0 < b then a % b else 0)]) := by
  unfold LZ at ha hb
  have hsb := r_sign (G := G) b
  by_cases h0 : 0 < b
  · have h0' := h0
    rw [if_pos h0, if_pos h0]
    have hsg : 0 < b.sign := by rw [Int.sign_eq_one_of_pos h0]; decide
    rw [zi_pos (show ¬ b < 0 by omega)] at hsb ⊢
    obtain ⟨d1, d2⟩ := nat_dm a.natAbs b.natAbs (by omega)
    have hbn : ((b.natAbs : Nat) : Int) = b := by omega
    rw [hbn] at d1 d2
    have l1 : L32 1 ≤ 1 := L32_le (by decide)
    have lq := L32_mono (Nat.div_le_self a.natAbs b.natAbs)
    have lr := L32_mono (Nat.mod_le a.natAbs b.natAbs)
    have lq1 := L32_add (a.natAbs / b.natAbs) 1
    have lb := L32_mono (Nat.sub_le b.natAbs (a.natAbs % b.natAbs))
    have hp := len_pos (a.natAbs % b.natAbs)
    have hdm := r_divmod (G := G) a.natAbs b.natAbs (by omega) (by omega)
    rw [if_neg (show ¬ b.natAbs = 0 by omega)] at hdm
    obtain ⟨q, hq⟩ : ∃ q, q = a.natAbs / b.natAbs := ⟨_, rfl⟩
    obtain ⟨r, hr⟩ : ∃ r, r = a.natAbs % b.natAbs := ⟨_, rfl⟩
    rw [← hq] at d1 lq lq1 hdm
    rw [← hr] at d1 d2 lr lb hp hdm
    refine by_sign (a := a) (p := fun p => FC _ _ _ [p, _] _) (fun hs => ?_) (fun hs => ?_)
    all_goals
      refine ax_i Tryd.func82 Tryd.ntmps82 (by rw [Tryd.results82]) ?_; intro F hG hO
      rw [← hG] at hsb hdm
      repeat' ((try (conv => whnf)); first
  | ((with_reducible refine cg ?_); first | refine ceq hsb rfl ?_ | refine ceq hdm rfl ?_)
  | ((with_reducible refine cg ?_); refine call_eq (r_mk _ q (by omega)) (LpL.refl _) rfl ?_)
  | ((with_reducible refine cg ?_); refine call_eq (r_mk _ r (by omega)) (LpL.refl _) rfl ?_)
  | ((with_reducible refine cg ?_); refine call_eq (r_word 1 (by decide)) (LpL.refl _) rfl ?_)
  | ((with_reducible refine cg ?_); refine call_eq (r_add q 1 (by omega) (by omega)) (LpL.refl _) rfl ?_)
  | ((with_reducible refine cg ?_); refine call_eq (r_mk _ (q + 1) (by omega)) (LpL.refl _) rfl ?_)
  | ((with_reducible refine cg ?_); refine call_eq (r_sub b.natAbs r (by omega) (by omega)) (LpL.refl _) rfl ?_)
  | ((with_reducible refine cg ?_); refine call_eq (r_mk _ (b.natAbs - r) (by omega)) (LpL.refl _) rfl ?_)
  
  | (with_reducible refine draw_g (id := 6) [[0, 4, 5, 6, 1, 2, 3, 7, 8], [9], [10]] tok mixed (by kernel_rfl) ?_)
  | with_reducible first | refine ax_s ?_ | refine BothG.mk ?_ ?_ | (refine ax_f ?_ ?_ <;> intro hc) | refine smk ?_ | fail)
    · have h0 : r = 0 := by omega
      have := div_of (a := a) (b := b) (q := sg true q) (r := sg false r) h0' (by simp only [sg, Int.mul_neg]; omega) (by simp only [sg]; omega) (by simp only [sg]; omega)
      exact ⟨ret_e (tup_zi (a := sg true q) (b := sg false r) this.1.symm this.2.symm)⟩
    · have := div_of (a := a) (b := b) (q := sg true (q + 1)) (r := sg false (b.natAbs - r)) h0' (by simp only [sg, Int.mul_neg, Int.natCast_add, Int.mul_add, Int.mul_one]; omega) (by simp only [sg]; omega) (by simp only [sg]; omega)
      exact ⟨ret_e (tup_zi (a := sg true (q + 1)) (b := sg false (b.natAbs - r)) this.1.symm this.2.symm)⟩
    · have := div_of (a := a) (b := b) (q := sg false q) (r := sg false r) h0' (by simp only [sg]; omega) (by simp only [sg]; omega) (by simp only [sg]; omega)
      exact ⟨ret_e (tup_zi (a := sg false q) (b := sg false r) this.1.symm this.2.symm)⟩
  · rw [if_neg h0, if_neg h0]
    have hsg : b.sign ≤ 0 := Int.not_lt.1 fun h => h0 (Int.sign_pos_iff.1 h)
    refine by_sign (a := b) (p := fun p => FC _ _ _ [p] _ → FC _ _ _ [_, p] _) (fun hs hsb => ?_) (fun hs hsb => ?_) hsb
    all_goals
      refine ax_i Tryd.func82 Tryd.ntmps82 (by rw [Tryd.results82]) ?_; intro F hG hO
      rw [← hG] at hsb
      repeat' ((try (conv => whnf)); first
  | ((with_reducible refine cg ?_); first | refine ceq hsb rfl ?_)
  
  | (with_reducible refine draw_g (id := 6) [[0, 4, 5, 6, 1, 2, 3, 7, 8], [9], [10]] tok mixed (by kernel_rfl) ?_)
  | with_reducible first | refine ax_s ?_ | refine BothG.mk ?_ ?_ | (refine ax_f ?_ ?_ <;> intro hc) | refine smk ?_ | fail)
    all_goals exact ⟨ret_l (.tup [ZI 0, ZI 0]) (.tup (.cons lp_zi0 (.cons lp_zi0 .nil))) rfl⟩
theorem fdiv_if (a b : Int) : (if b < 0 then (if 0 < -b then (-a) / (-b) else 0) else (if 0 < b then a / b else 0)) = a.fdiv b := by
  by_cases h : b < 0
  · rw [if_pos h, if_pos (by omega), ← Int.neg_fdiv_neg, Int.fdiv_eq_ediv_of_nonneg _ (by omega)]
  · rw [if_neg h]
    by_cases h2 : 0 < b
    · rw [if_pos h2, Int.fdiv_eq_ediv_of_nonneg _ (by omega)]
    · rw [if_neg h2, show b = 0 by omega, Int.fdiv_zero]
theorem r_zfdiv (a b : Int) (ha : LZ a ≤ 268435454) (hb : LZ b ≤ 268435454) : FC Tryd.prog G 72 [ZI a, ZI b] (· = ZI (a.fdiv b)) := by
  have ha' := LZ_neg a
  have hb' := LZ_neg b
  have f1 := r_flip (G := G) a (by omega)
  have f2 := r_flip (G := G) b (by omega)
  have f3 := r_zfloor (G := G) (-a) (-b) (by omega) (by omega)
  have f4 := r_zfloor (G := G) a b ha hb
  have e := fdiv_if a b
  by_cases h : b < 0
  · rw [if_pos h] at e
    rw [e] at f3
    refine ax_i Tryd.func72 Tryd.ntmps72 (by rw [Tryd.results72]) ?_; intro F hG hO
    rw [← hG] at f1 f2 f3 f4
    rw [zi_neg h] at f2 ⊢
    repeat' ((try (conv => whnf)); first
  | ((with_reducible refine cg ?_); first | refine ceq f1 rfl ?_ | refine ceq f2 rfl ?_ | refine ceq f3 rfl ?_)
  
  | (with_reducible refine draw_g (id := 2) [[0, 2, 1, 3], [4], [5]] tok mixed (by kernel_rfl) ?_)
  | with_reducible first | refine ax_s ?_ | refine BothG.mk ?_ ?_ | (refine ax_f ?_ ?_ <;> intro hc) | refine smk ?_ | fail)
    exact ⟨ret_e rfl⟩
  · rw [if_neg h] at e
    rw [e] at f4
    refine ax_i Tryd.func72 Tryd.ntmps72 (by rw [Tryd.results72]) ?_; intro F hG hO
    rw [← hG] at f1 f2 f3 f4
    rw [zi_pos h] at f4 ⊢
    repeat' ((try (conv => whnf)); first
  | ((with_reducible refine cg ?_); first | refine ceq f4 rfl ?_)
  
  | (with_reducible refine draw_g (id := 2) [[0, 2, 1, 3], [4], [5]] tok mixed (by kernel_rfl) ?_)
  | with_reducible first | refine ax_s ?_ | refine BothG.mk ?_ ?_ | (refine ax_f ?_ ?_ <;> intro hc) | refine smk ?_ | fail)
    exact ⟨ret_e rfl⟩
theorem r_zfshr (a n : Int) (ha : LZ a ≤ 268435454) (hn : inR .i64 n) : FC Tryd.prog G 21 [ZI a, .val (.int .i64 n)] (· = ZI (a / 2 ^ n.toNat)) := by
  unfold LZ at ha
  have l1 : L32 1 ≤ 1 := L32_le (by decide)
  have lq := L32_mono (Nat.div_le_self a.natAbs (2 ^ n.toNat))
  have lr := L32_mono (Nat.mod_le a.natAbs (2 ^ n.toNat))
  have hp := len_pos (a.natAbs % 2 ^ n.toNat)
  obtain ⟨P, hP⟩ : ∃ P, P = 2 ^ n.toNat := ⟨_, rfl⟩
  have hP0 : 0 < P := by rw [hP]; exact Nat.pow_pos (by decide)
  have hPi : (2 : Int) ^ n.toNat = (P : Int) := by rw [hP]; simp
  obtain ⟨d1, d2⟩ := nat_dm a.natAbs P hP0
  have f1 := r_shr (G := G) a.natAbs n (by omega) hn
  have f2 := r_low (G := G) a.natAbs n (by omega) hn
  rw [hPi]
  rw [← hP] at lq lr hp f1 f2
  obtain ⟨q, hq⟩ : ∃ q, q = a.natAbs / P := ⟨_, rfl⟩
  obtain ⟨r, hr⟩ : ∃ r, r = a.natAbs % P := ⟨_, rfl⟩
  rw [← hq] at d1 lq f1
  rw [← hr] at d1 d2 lr hp f2
  have hle : Unit → n ≤ 0 → P = 1 := fun _ h => by rw [hP, show n.toNat = 0 by omega]
  have ls : ∀ b, LZ (sg b q) ≤ 268435454 := fun b => by unfold LZ; rw [sg_abs]; omega
  refine by_sign (a := a) (p := fun p => FC _ _ _ [p, _] _) (fun hs => ?_) (fun hs => ?_)
  all_goals
    refine ax_i Tryd.func21 Tryd.ntmps21 (by rw [Tryd.results21]) ?_; intro F hG hO
    rw [← hG] at f1 f2
    repeat' ((try (conv => whnf)); first
  | ((with_reducible refine cg ?_); first | refine ceq f1 rfl ?_ | refine ceq f2 rfl ?_)
  | ((with_reducible refine cg ?_); refine call_eq (r_mk _ a.natAbs (by omega)) (LpL.refl _) rfl ?_)
  | ((with_reducible refine cg ?_); refine call_eq (r_mk _ q (by omega)) (LpL.refl _) rfl ?_)
  | ((with_reducible refine cg ?_); refine call_eq (r_of 1 (by dsimp only [inR]; omega)) (LpL.refl _) rfl ?_)
  | ((with_reducible refine cg ?_); refine call_eq (r_zsub (sg true q) 1 (by have := ls true; omega) (by have : LZ 1 = L32 1 := rfl; omega)) (LpL.refl _) rfl ?_)
  
  | (with_reducible refine draw_t (id := 3) (.one 0 (.one 1 (.one 2 (.one 3 (.one 4 (.two (.one 5 (.two (.one 6 (.one 7 (.st (.one 8 (.fin))))) (.one 7 (.one 6 (.st (.one 8 (.fin))))))) (.one 7 (.one 5 (.one 6 (.st (.one 8 (.fin)))))))))))) tok mixed (by kernel_rfl) (by kernel_rfl) ?_)
  | (with_reducible refine draw_g (id := 5) [[0, 1, 2], [3]] tok mixed (by kernel_rfl) ?_)
  | with_reducible first | refine ax_s ?_ | refine BothG.mk ?_ ?_ | (refine ax_f ?_ ?_ <;> intro hc) | refine smk ?_ | fail)
  all_goals first
    | (exact ⟨ret_e (zi_eq (a := sg true a.natAbs) (by rw [hle () (by omega)]; simp only [sg]; omega))⟩)
    | (exact ⟨ret_e (zi_eq (a := sg false a.natAbs) (by rw [hle () (by omega)]; simp only [sg]; omega))⟩)
    | (exact ⟨ret_e (zi_eq (a := sg true q - 1) (div_of (a := a) (b := (P : Int)) (q := sg true q - 1) (r := (P : Int) - r) (by omega) (by simp only [sg, Int.mul_sub, Int.mul_neg, Int.mul_one]; omega) (by omega) (by omega)).1.symm)⟩)
    | (exact ⟨ret_e (zi_eq (a := sg true q) (div_of (a := a) (b := (P : Int)) (q := sg true q) (r := r) (by omega) (by simp only [sg, Int.mul_neg]; omega) (by omega) (by omega)).1.symm)⟩)
    | (exact ⟨ret_e (zi_eq (a := sg false q) (div_of (a := a) (b := (P : Int)) (q := sg false q) (r := r) (by omega) (by simp only [sg]; omega) (by omega) (by omega)).1.symm)⟩)
end Go.Proofs.YtfnmlikgdfmcbaaDoor.Sim
namespace Go.Proofs.YtfnmlikgdfmcbaaDoor.Sim
open Go.RowKit
set_option linter.unusedVariables false
def okN (n : Nat) : Prop := n < 2 ^ 1984
def okZ (n : Int) : Prop := n.natAbs < 2 ^ 1984
instance (n : Nat) : Decidable (okN n) := inferInstanceAs (Decidable (n < 2 ^ 1984))
instance (n : Int) : Decidable (okZ n) := inferInstanceAs (Decidable (n.natAbs < 2 ^ 1984))
def atL (k : Nat) : Nat → Nat → Nat → Nat → Nat → Nat → Option (Nat × Nat)
  | 0, _, _, _, _, _ => none
  | f + 1, i, t, p, m, n =>
    if okN t ∧ okN p ∧ okN m then
      if t = 0 then some (p - m, n)
      else if i % 4 = 1 then atL k f (i + 2) (t / k / k) (p + t / i) m (n + 1)
      else atL k f (i + 2) (t / k / k) p (m + t / i) (n + 1)
    else none
def atS (k q : Nat) : Option (Nat × Nat) := atL k 1000 1 (2 ^ q / k) 0 0 0
def piL (q : Nat) : Nat → Nat → Option Nat
  | 0, _ => none
  | f + 1, g =>
    if g ≤ 2000 then
      (atS 18 (q + g)).bind fun a => (atS 57 (q + g)).bind fun b => (atS 239 (q + g)).bind fun c =>
        if okN a.1 ∧ okN b.1 ∧ okN c.1 then
          if (a.1 * 48 + b.1 * 32 - c.1 * 20 - 4 * (48 * (a.2 + 2) + 32 * (b.2 + 2) + 20 * (c.2 + 2))) / 2 ^ g = (a.1 * 48 + b.1 * 32 - c.1 * 20 + 4 * (48 * (a.2 + 2) + 32 * (b.2 + 2) + 20 * (c.2 + 2))) / 2 ^ g then
            some ((a.1 * 48 + b.1 * 32 - c.1 * 20 - 4 * (48 * (a.2 + 2) + 32 * (b.2 + 2) + 20 * (c.2 + 2))) / 2 ^ g)
          else piL q f (2 * g)
        else none
    else none
def piS (q : Nat) : Option Nat := if q ≤ 4000 then piL q 5 64 else none
def hvL (q : Nat) : Nat → Nat → Option Nat
  | 0, _ => none
  | f + 1, h => if 4 * h * h < q then hvL q f (h + 1) else some h
def hvS (q : Nat) : Option Nat := hvL q 100 8
def turnS (a t : Int) (less : Bool) : Int := if less then a - t else a + t
def mulS7 (a b : Int) (w : Nat) : Int := a * b / 2 ^ w
def snL (A w : Nat) : Nat → Nat → Nat → Int → Int → Option (Int × Int)
  | 0, _, _, _, _ => none
  | f + 1, i, t, s, c =>
    if okN t ∧ okZ s ∧ okZ c then
      if t = 0 then some (s, c)
      else if i % 2 = 0 then snL A w f (i + 1) (t * A / 2 ^ w / (i + 1)) s (turnS c t (decide (i % 4 = 2)))
      else snL A w f (i + 1) (t * A / 2 ^ w / (i + 1)) (turnS s t (decide (i % 4 = 3))) c
    else none
def dbL (w : Nat) : Nat → Int → Int → Option (Int × Int)
  | 0, s, c => if okZ s ∧ okZ c then some (s, c) else none
  | h + 1, s, c => if okZ s ∧ okZ c then dbL w h (mulS7 s c w * 2) (2 ^ w - mulS7 s s w * 2) else none
def scS (y : Int) (q : Nat) : Option (Int × Int) :=
  (hvS q).bind fun h =>
    if okZ y ∧ okN (y.natAbs * 2 ^ (64 + 3 * h)) ∧ q + 64 + 4 * h ≤ 4000 then
      (snL (y.natAbs * 2 ^ (64 + 3 * h)) (q + 64 + 4 * h) 1000 0 (2 ^ (q + 64 + 4 * h)) 0 0).bind fun r =>
        (dbL (q + 64 + 4 * h) h r.1 r.2).map fun u => ((if y < 0 then -(u.1.natAbs : Int) else u.1.natAbs) / 2 ^ (64 + 4 * h), u.2 / 2 ^ (64 + 4 * h))
    else none
def nearS (a b : Int) : Int := if 0 < 2 * (a % b) - b ∨ (2 * (a % b) - b = 0 ∧ a / b % 2 = 1) then a / b + 1 else a / b
def scaS (m e : Int) : Int := if 0 ≤ e then m * 2 ^ e.toNat else m / 2 ^ (-e).toNat
def rsS (m e : Int) (q : Nat) : Option (Int × Int) :=
  if okZ m ∧ -2000 ≤ e ∧ e ≤ 2000 ∧ q ≤ 3000 then
    let t := (max 0 ((bl m.natAbs : Int) + e) + 4).toNat
    if t ≤ 1000 then
      if t = 4 ∧ (scaS m (e + (q + t : Nat))).natAbs * 4 ≤ 2 ^ (q + t) * 3 then some (0, scaS m (e + q))
      else (piS (q + t)).bind fun p =>
        if okN p ∧ 0 < p then
          some (nearS (scaS m (e + (q + t : Nat)) * 2) p, (scaS m (e + (q + t : Nat)) * 2 - nearS (scaS m (e + (q + t : Nat)) * 2) p * p) / 2 ^ (t + 1))
        else none
    else none
  else none
def thinS (lo hi : Int) (p : Nat) : Bool := decide (lo.sign = hi.sign) && decide (lo.sign ≠ 0) && decide ((hi - lo) * 2 ^ p ≤ if lo < 0 then hi.natAbs else lo.natAbs)
def rotS : Nat → Int → Int → Int × Int
  | 0, s, c => (s, c)
  | n + 1, s, c => rotS n c (-s)
def enL (sine : Bool) (m e : Int) (p : Nat) : Nat → Nat → Option (Int × Int × Nat)
  | 0, _ => none
  | f + 1, q =>
    (rsS m e q).bind fun k => (scS k.2 q).bind fun r =>
      if okZ k.1 ∧ okZ k.2 ∧ okZ r.1 ∧ okZ r.2 then
        let u := rotS (k.1 % 4).toNat r.1 r.2
        let v := if sine then u.1 else u.2
        if thinS (v - 8) (v + 8) p then some (v - 8, v + 8, q) else enL sine m e p f (q + q / 2 + 64)
      else none
def enS (sine : Bool) (m e : Int) (p : Nat) : Option (Int × Int × Nat) :=
  if okZ m ∧ -2000 ≤ e ∧ e ≤ 2000 ∧ p ≤ 2000 then enL sine m e p 5 (p + 80 + (max 0 (-((bl m.natAbs : Int) + e))).toNat) else none
def prS (s : Nat) : Nat × Int := if s / 4503599627370496 = 0 then (s % 4503599627370496, -1074) else (4503599627370496 + s % 4503599627370496, -1074 + (s / 4503599627370496 : Nat) - 1)
def ordS (a : Nat) (e : Int) (b : Nat) (f : Int) : Int :=
  if (bl a : Int) + e < bl b + f then -1 else if (bl b : Int) + f < bl a + e then 1 else cmpN (a * 2 ^ (e - min e f).toNat) (b * 2 ^ (f - min e f).toNat)
def hoS (num den : Nat) (ve : Int) (m : Nat) (e : Int) : Int := if m = 0 then -1 else ordS (m * den) e num ve
def szL (num den : Nat) (ve : Int) : Nat → Nat → Nat → Option Nat
  | 0, _, _ => none
  | f + 1, lo, hi =>
    if 1 < hi - lo then
      if hoS num den ve (prS (lo + (hi - lo) / 2)).1 (prS (lo + (hi - lo) / 2)).2 ≤ 0 then szL num den ve f (lo + (hi - lo) / 2) hi else szL num den ve f lo (lo + (hi - lo) / 2)
    else some lo
def szS (num den : Nat) (ve : Int) : Option Nat :=
  (szL num den ve 70 0 9218868437227405313).map fun lo =>
    if lo = 9218868437227405312 then lo
    else if hoS num den ve (2 * (prS lo).1 + 1) ((prS lo).2 - 1) < 0 ∨ (hoS num den ve (2 * (prS lo).1 + 1) ((prS lo).2 - 1) = 0 ∧ lo % 2 = 1) then lo + 1 else lo
def tdS (m : Int) (e : Int) : Option Nat := if m = 0 then some 0 else (szS m.natAbs 1 e).map fun s => if m < 0 then 9223372036854775808 + s else s
def s23 (b : Nat) (q : Int) : Int :=
  let pr := prS (b % 9223372036854775808)
  if pr.2 + q < 0 then (if 9223372036854775808 ≤ b then -(pr.1 : Int) else pr.1) / 2 ^ (-pr.2 - q).toNat else (if 9223372036854775808 ≤ b then -(pr.1 : Int) else pr.1) * 2 ^ (pr.2 + q).toNat
def haL (sine : Bool) (j : Int) : Nat → Nat → Option (Nat × Nat)
  | 0, _ => none
  | f + 1, p =>
    (enS sine j (-6) p).bind fun v =>
      if okZ v.1 ∧ okZ v.2.1 ∧ v.2.2 ≤ 4000 then
        (tdS v.1 (-v.2.2)).bind fun hi => (tdS v.2.1 (-v.2.2)).bind fun hj =>
          if hi = hj then
            (tdS (v.1 - s23 hi v.2.2) (-v.2.2)).bind fun lo => (tdS (v.2.1 - s23 hi v.2.2) (-v.2.2)).bind fun lp => if lo = lp then some (hi, lo) else haL sine j f (2 * p)
          else haL sine j f (2 * p)
      else none
def haS (sine : Bool) (j : Int) : Option (Nat × Nat) := haL sine j 3 300
--END
theorem okN_L {n : Nat} (h : okN n) : L32 n ≤ 62 := by
  unfold okN at h
  refine L32_le ?_
  rw [show 32 * 62 = 1984 from rfl]
  exact h
theorem okZ_L {n : Int} (h : okZ n) : LZ n ≤ 62 := okN_L (n := n.natAbs) h
variable {G : List (Nat × List Value)}
set_option linter.unusedSimpArgs false
set_option maxRecDepth 10000
set_option maxHeartbeats 8000000
theorem r_long (X Y : Nat) (hX : L32 X ≤ 63) (hY : L32 Y ≤ 1048576) : FC Tryd.prog G 81 [D X, D Y] (· = D (X * Y)) := by
  have hlx : (d32 X).length = L32 X := rfl
  have hly : (d32 Y).length = L32 Y := rfl
  refine ax_i Tryd.func81 Tryd.ntmps81 (by rw [Tryd.results81]) ?_; intro F hG hO
  repeat' ((try (conv => whnf)); first
  | ((with_reducible refine cg ?_); refine call_eq (r_mul X Y (by omega) (by omega)) (LpL.refl _) rfl ?_)
  
  | (with_reducible refine draw_g (id := 7) [[0, 1, 2, 4, 5, 6, 8, 9, 10, 12, 13, 14, 3, 7, 11, 15, 16, 17, 18, 19]] tok mixed (by kernel_rfl) ?_)
  | with_reducible first | refine ax_s ?_ | refine BothG.mk ?_ ?_ | (refine ax_f ?_ ?_ <;> intro hc) | refine smk ?_ | fail)
  all_goals exact ⟨ret_e rfl⟩
theorem r_zabs (a : Int) (h : LZ a ≤ 1099511627776) : FC Tryd.prog G 64 [ZI a] (· = ZI (a.natAbs : Int)) := by
  unfold LZ at h
  refine by_sign (a := a) (p := fun p => FC _ _ _ [p] _) (fun hs => ?_) (fun hs => ?_)
  all_goals
    refine ax_i Tryd.func64 Tryd.ntmps64 (by rw [Tryd.results64]) ?_; intro F hG hO
    repeat' ((try (conv => whnf)); first
  | ((with_reducible refine cg ?_); refine call_eq (r_mk _ a.natAbs h) (LpL.refl _) rfl ?_)
  
  | with_reducible first | refine ax_s ?_ | refine BothG.mk ?_ ?_ | (refine ax_f ?_ ?_ <;> intro hc) | refine smk ?_ | fail)
  all_goals exact ⟨ret_e rfl⟩
theorem r_zeven (a : Int) (h : LZ a ≤ 536870912) : FC Tryd.prog G 83 [ZI a] (· = .val (.bool (decide (a % 2 = 0)))) := by
  unfold LZ at h
  have f := r_bit (G := G) a.natAbs 0 h (by dsimp only [inR]; omega)
  rw [if_neg (by decide), show a.natAbs / 2 ^ (0 : Int).toNat % 2 = a.natAbs % 2 by simp] at f
  refine by_sign (a := a) (p := fun p => FC _ _ _ [p] _) (fun hs => ?_) (fun hs => ?_)
  all_goals
    refine ax_i Tryd.func83 Tryd.ntmps83 (by rw [Tryd.results83]) ?_; intro F hG hO
    rw [← hG] at f
    repeat' ((try (conv => whnf)); first
  | ((with_reducible refine cg ?_); first | refine ceq f rfl ?_)
  
  | with_reducible first | refine ax_s ?_ | refine BothG.mk ?_ ?_ | (refine ax_f ?_ ?_ <;> intro hc) | refine smk ?_ | fail)
  all_goals exact ⟨ret_e (congrArg (fun b => PV.val (.bool b)) (decide_eq_decide.2 (by omega)))⟩
theorem LZ_ediv {a b : Int} (hb : 0 < b) : LZ (a / b) ≤ LZ a := by
  apply LZ_mono
  have h1 := Int.mul_ediv_add_emod a b
  have h2 := Int.emod_nonneg a (show b ≠ 0 by omega)
  have h3 := Int.emod_lt_of_pos a hb
  rcases Int.lt_or_le (a / b) 0 with h | h
  · have h4 : a ≤ a / b := by
      have h5 : (a / b) * (b - 1) ≤ -(b - 1) := by
        have := Int.mul_le_mul_of_nonneg_right (show a / b ≤ -1 by omega) (show 0 ≤ b - 1 by omega)
        omega
      rw [Int.mul_sub, Int.mul_one, Int.mul_comm] at h5
      omega
    omega
  · have h4 : a / b ≤ b * (a / b) := by
      have := Int.mul_le_mul_of_nonneg_right (show 1 ≤ b by omega) h
      omega
    omega
theorem LZ_emod {a b : Int} (hb : 0 < b) : LZ (a % b) ≤ LZ b := by
  apply LZ_mono
  have h2 := Int.emod_nonneg a (show b ≠ 0 by omega)
  have h3 := Int.emod_lt_of_pos a hb
  omega
theorem LZ_mul (a b : Int) : LZ (a * b) ≤ LZ a + LZ b := by unfold LZ; rw [Int.natAbs_mul]; exact L32_mul _ _
theorem LZ_shl (a : Int) (n : Nat) : LZ (a * 2 ^ n) ≤ LZ a + n / 32 + 1 := by
  unfold LZ
  rw [Int.natAbs_mul, Int.natAbs_pow]
  exact L32_shl a.natAbs n
theorem LZ_one : LZ 1 ≤ 1 := L32_le (by decide)
theorem LZ_two : LZ 2 ≤ 1 := L32_le (by decide)
theorem r_znear (a b : Int) (hb : 0 < b) (h1 : LZ a ≤ 1048576) (h2 : LZ b ≤ 1048576) : FC Tryd.prog G 80 [ZI a, ZI b] (· = ZI (nearS a b)) := by
  have f1 := r_zfloor (G := G) a b (by omega) (by omega)
  rw [if_pos hb, if_pos hb] at f1
  have l1 := LZ_ediv (a := a) hb
  have l2 := LZ_emod (a := a) hb
  have l3 := LZ_mul (a % b) 2
  have l4 := LZ_two
  have l5 := LZ_one
  have f2 := r_zshl (G := G) (a % b) 1 (by omega) (by dsimp only [inR]; omega) (by decide)
  rw [show a % b * 2 ^ (1 : Int).toNat = a % b * 2 by rfl] at f2
  have f3 := r_zcmp (G := G) (a % b * 2) b (by omega) (by omega)
  have f4 := r_zeven (G := G) (a / b) (by omega)
  have f5 := r_of (G := G) 1 (by dsimp only [inR]; omega)
  have f6 := r_zadd (G := G) (a / b) 1 (by omega) (by omega)
  unfold nearS
  rw [show 2 * (a % b) - b = a % b * 2 - b by omega]
  have s1 := Int.sign_pos_iff (x := a % b * 2 - b)
  have s2 := Int.sign_eq_zero_iff_zero (a := a % b * 2 - b)
  obtain ⟨q, hq⟩ : ∃ q, q = a / b := ⟨_, rfl⟩
  obtain ⟨r, hr⟩ : ∃ r, r = a % b := ⟨_, rfl⟩
  rw [← hq, ← hr] at f1
  rw [← hq] at f4 f6 ⊢
  rw [← hr] at f2 f3 s1 s2 ⊢
  clear hq hr l1 l2 l3
  obtain ⟨d, hd⟩ : ∃ d, d = r * 2 - b := ⟨_, rfl⟩
  rw [← hd] at f3 s1 s2 ⊢
  obtain ⟨s, hs⟩ : ∃ s, s = d.sign := ⟨_, rfl⟩
  rw [← hs] at f3 s1 s2
  clear hs hd
  refine ax_i Tryd.func80 Tryd.ntmps80 (by rw [Tryd.results80]) ?_; intro F hG hO
  rw [← hG] at f1 f2 f3 f4 f5 f6
  repeat' ((try (conv => whnf)); first
  | ((with_reducible refine cg ?_); first | refine ceq f1 rfl ?_ | refine ceq f2 rfl ?_ | refine ceq f3 rfl ?_ | refine ceq f4 rfl ?_ | refine ceq f5 rfl ?_ | refine ceq f6 rfl ?_)
  
  | (with_reducible refine draw_g (id := 2) [[0, 2, 1, 3, 4]] tok mixed (by kernel_rfl) ?_)
  | (with_reducible refine draw_g (id := 4) [[0, 1, 2], [3]] tok mixed (by kernel_rfl) ?_)
  | with_reducible first | refine ax_s ?_ | refine BothG.mk ?_ ?_ | (refine ax_f ?_ ?_ <;> intro hc) | refine smk ?_ | fail)
  all_goals first
    | exact ⟨ret_e (zi_eq (a := q + 1) (if_pos (by omega)).symm)⟩
    | exact ⟨ret_e (zi_eq (a := q) (if_neg (by omega)).symm)⟩
theorem r_zneardiv (a b : Int) (hb : 0 < b) (h1 : LZ a ≤ 1048576) (h2 : LZ b ≤ 1048576) : FC Tryd.prog G 66 [ZI a, ZI b] (· = ZI (nearS a b)) := by
  have f := r_znear (G := G) a b hb h1 h2
  rw [zi_pos (show ¬ b < 0 by omega)] at f ⊢
  refine ax_i Tryd.func66 Tryd.ntmps66 (by rw [Tryd.results66]) ?_; intro F hG hO
  rw [← hG] at f
  repeat' ((try (conv => whnf)); first
  | ((with_reducible refine cg ?_); first | refine ceq f rfl ?_)
  
  | (with_reducible refine draw_g (id := 2) [[0, 2, 1, 3], [4], [5]] tok mixed (by kernel_rfl) ?_)
  | with_reducible first | refine ax_s ?_ | refine BothG.mk ?_ ?_ | (refine ax_f ?_ ?_ <;> intro hc) | refine smk ?_ | fail)
  all_goals exact ⟨ret_e rfl⟩
theorem r_zmod4 (a : Int) (h : LZ a ≤ 1048576) : FC Tryd.prog G 55 [ZI a, ZI 4] (· = ZI (a % 4)) := by
  have l4 : LZ 4 ≤ 1 := L32_le (by decide)
  have f1 := r_zfdiv (G := G) a 4 (by omega) (by omega)
  rw [Int.fdiv_eq_ediv_of_nonneg _ (by decide)] at f1
  have l1 := LZ_ediv (a := a) (b := 4) (by decide)
  have l2 := LZ_mul 4 (a / 4)
  have f2 := r_zmul (G := G) 4 (a / 4) (by omega) (by omega)
  have f3 := r_zsub (G := G) a (4 * (a / 4)) (by omega) (by omega)
  refine ax_i Tryd.func55 Tryd.ntmps55 (by rw [Tryd.results55]) ?_; intro F hG hO
  rw [← hG] at f1 f2 f3
  repeat' ((try (conv => whnf)); first
  | ((with_reducible refine cg ?_); first | refine ceq f1 rfl ?_ | refine ceq f2 rfl ?_ | refine ceq f3 rfl ?_)
  
  | (with_reducible refine draw_g (id := 1) [[0, 1, 2, 3, 4, 5, 6], [7]] tok mixed (by kernel_rfl) ?_)
  | with_reducible first | refine ax_s ?_ | refine BothG.mk ?_ ?_ | (refine ax_f ?_ ?_ <;> intro hc) | refine smk ?_ | fail)
  all_goals exact ⟨ret_e (zi_eq (by omega))⟩
theorem r_zint (a : Int) (h : 0 ≤ a ∧ a < 4611686018427387904) : FC Tryd.prog G 20 [ZI a] (· = .tup [.val (.int .i64 a), .val (.bool true)]) := by
  have f := r_fits (G := G) a.natAbs (Nat.le_trans (L32_le (n := 2) (by omega)) (by decide))
  rw [if_pos (by omega), decide_eq_true (by omega), show ((a.natAbs : Nat) : Int) = a by omega] at f
  rw [zi_pos (show ¬ a < 0 by omega)]
  refine ax_i Tryd.func20 Tryd.ntmps20 (by rw [Tryd.results20]) ?_; intro F hG hO
  rw [← hG] at f
  repeat' ((try (conv => whnf)); first
  | ((with_reducible refine cg ?_); first | refine ceq f rfl ?_)
  
  | with_reducible first | refine ax_s ?_ | refine BothG.mk ?_ ?_ | (refine ax_f ?_ ?_ <;> intro hc) | refine smk ?_ | fail)
  all_goals exact ⟨ret_e rfl⟩
theorem r_divsN (X w : Nat) (hX : L32 X ≤ 1073741824) (hw : 0 < w ∧ w < 4294967296) : FC Tryd.prog G 50 [D X, .val (.int .u32 (w : Int))] (· = .tup [D (X / w), .val (.int .u32 ((X % w : Nat) : Int))]) := by
  have f := r_divs (G := G) X (w : Int) hX (by omega)
  rw [← Int.natCast_ediv, Int.toNat_natCast, ← Int.natCast_emod] at f
  exact f
theorem r_mulsN (X w : Nat) (hX : L32 X ≤ 1073741824) (hw : w < 4294967296) : FC Tryd.prog G 51 [D X, .val (.int .u32 (w : Int)), .val (.int .u32 0)] (· = D (X * w)) := by
  have f := r_muls (G := G) X (w : Int) 0 hX (by omega) (by decide)
  rw [show ((X : Int) * (w : Int) + 0).toNat = X * w by rw [Int.add_zero, ← Int.natCast_mul, Int.toNat_natCast]] at f
  exact f
theorem r_pow2N (n : Nat) (h : n ≤ 8589934592) : FC Tryd.prog G 25 [.val (.int .i64 (n : Int))] (· = D (2 ^ n)) := by
  have f := r_pow2 (G := G) (n : Int) (by dsimp only [inR]; omega) (by omega)
  rw [Int.toNat_natCast] at f
  exact f
theorem r_shrN (X n : Nat) (hX : L32 X ≤ 536870912) (h : n ≤ 8589934592) : FC Tryd.prog G 37 [D X, .val (.int .i64 (n : Int))] (· = D (X / 2 ^ n)) := by
  have f := r_shr (G := G) X (n : Int) hX (by dsimp only [inR]; omega)
  rw [Int.toNat_natCast] at f
  exact f
theorem r_zshlN (a : Int) (n : Nat) (ha : LZ a ≤ 268435456) (h : n ≤ 8589934592) : FC Tryd.prog G 23 [ZI a, .val (.int .i64 (n : Int))] (· = ZI (a * 2 ^ n)) := by
  have f := r_zshl (G := G) a (n : Int) ha (by dsimp only [inR]; omega) (by omega)
  rw [Int.toNat_natCast] at f
  exact f
theorem r_zfshrN (a : Int) (n : Nat) (ha : LZ a ≤ 268435454) (h : n ≤ 8589934592) : FC Tryd.prog G 21 [ZI a, .val (.int .i64 (n : Int))] (· = ZI (a / 2 ^ n)) := by
  have f := r_zfshr (G := G) a (n : Int) ha (by dsimp only [inR]; omega)
  rw [Int.toNat_natCast] at f
  exact f
theorem at_step {k f i t p m n : Nat} {r : Nat × Nat} (h : atL k f i t p m n = some r) : (okN t ∧ okN p ∧ okN m) ∧ (Unit → (t = 0 → r = (p - m, n)) ∧ (t ≠ 0 → ∃ f', f = f' + 1 ∧ (i % 4 = 1 → atL k f' (i + 2) (t / k / k) (p + t / i) m (n + 1) = some r) ∧ (i % 4 ≠ 1 → atL k f' (i + 2) (t / k / k) p (m + t / i) (n + 1) = some r))) := by
  cases f with
  | zero => cases h
  | succ f =>
    rw [atL] at h
    by_cases hb : okN t ∧ okN p ∧ okN m
    · rw [if_pos hb] at h
      refine ⟨hb, fun _ => ⟨fun h0 => ?_, fun h0 => ⟨f, rfl, fun h1 => ?_, fun h1 => ?_⟩⟩⟩
      · rw [if_pos h0] at h
        exact (Option.some.inj h).symm
      · rw [if_neg h0, if_pos h1] at h
        exact h
      · rw [if_neg h0, if_neg h1] at h
        exact h
    · rw [if_neg hb] at h
      cases h
theorem atL_cnt {k : Nat} {r : Nat × Nat} : ∀ {f i t p m n : Nat}, atL k f i t p m n = some r → r.2 ≤ n + f
  | 0, _, _, _, _, _, h => by cases h
  | f + 1, i, t, p, m, n, h => by
    rw [atL] at h
    split at h
    · split at h
      · obtain rfl := Option.some.inj h; exact Nat.le_add_right _ _
      · split at h
        · have := atL_cnt h; omega
        · have := atL_cnt h; omega
    · cases h
theorem atS_cnt {k q : Nat} {r : Nat × Nat} (h : atS k q = some r) : r.2 ≤ 1000 := by have := atL_cnt h; omega
theorem t_arctan (k q : Nat) (hk : 2 ≤ k ∧ k < 65536) (hq : q ≤ 8000) {r : Nat × Nat} (h : atS k q = some r) : FC Tryd.prog G 78 [.val (.int .u32 (k : Int)), .val (.int .i64 (q : Int))] (· = .tup [D r.1, .val (.int .i64 (r.2 : Int))]) := by
  have lq := L32_p2 q
  unfold atS at h
  have f1 := r_pow2N (G := G) q (by omega)
  have f2 := r_divsN (G := G) (2 ^ q) k (by omega) (by omega)
  have f3 := r_word (G := G) 0 (by decide)
  refine ax_i Tryd.func78 Tryd.ntmps78 (by rw [Tryd.results78]) ?_; intro F hG hO
  rw [← hG] at f1 f2 f3
  repeat' ((try (conv => whnf)); first
  | ((with_reducible refine cg ?_); first | refine ceq f1 rfl ?_ | refine ceq f2 rfl ?_ | refine ceq f3 rfl ?_)
  | ((with_reducible refine lg ?_); refine loop_g (A := Nat × Nat × Nat × Nat × Nat × Nat) (fun (f, i, t, p, m, n) => atL k f i t p m n = some r ∧ i = 2 * n + 1 ∧ f + n = 1000) (fun (f, i, t, p, m, n) => f) (fun (f, i, t, p, m, n) => [(0, .val (.int .u32 (k : Int))), (6, D t), (8, D p), (9, D m), (10, .val (.int .i64 (n : Int))), (11, .val (.int .u32 (i : Int)))]) (fun _ => []) (fun _ => []) (1000, 1, 2 ^ q / k, 0, 0, 0) tok (fun (f, i, t, p, m, n) => ⟨⟨trivial, trivial, trivial, trivial, trivial, trivial, trivial⟩, trivial, by simp only [List.length_nil]; omega⟩) ?_ ⟨rfl, rfl, rfl, rfl, rfl, rfl, trivial⟩ ⟨[], rfl⟩ ⟨[], rfl⟩ ?_; rotate_left; rintro ⟨f, i, t, p, m, n⟩ ⟨h1, h2, h3⟩; obtain ⟨⟨b1, b2, b3⟩, hU⟩ := at_step h1; have lt := okN_L b1; have lp := okN_L b2; have lm := okN_L b3; have hlt : (d32 t).length = L32 t := rfl; have ld := L32_mono (Nat.div_le_self t i); have ld2 := L32_mono (Nat.div_le_self t k))
  | ((with_reducible refine cg ?_); first | refine call_eq (r_divsN t i (by omega) (by omega)) (LpL.refl _) rfl ?_ | refine call_eq (r_divsN t k (by omega) (by omega)) (LpL.refl _) rfl ?_ | refine call_eq (r_divsN (t / k) k (by omega) (by omega)) (LpL.refl _) rfl ?_)
  | ((with_reducible refine cg ?_); first | refine call_eq (r_add p (t / i) (by omega) (by omega)) (LpL.refl _) rfl ?_ | refine call_eq (r_add m (t / i) (by omega) (by omega)) (LpL.refl _) rfl ?_ | refine call_eq (r_sub p m (by omega) (by omega)) (LpL.refl _) rfl ?_)
  
  | with_reducible first | refine ax_s ?_ | refine BothG.mk ?_ ?_ | (refine ax_f ?_ ?_ <;> intro hc) | refine smk ?_ | fail)
  · obtain ⟨f', rfl, h5, h6⟩ := (hU ()).2 (by have := (L32_pos t).1 (by omega); omega)
    exact ⟨again (f', i + 2, t / k / k, p + t / i, m, n + 1) ⟨h5 (by omega), by omega, by omega⟩ (by dsimp only; omega) ⟨rfl, rfl, rfl, rfl, rfl, rfl, trivial⟩ ⟨[], rfl⟩ ⟨[], rfl⟩⟩
  · obtain ⟨f', rfl, h5, h6⟩ := (hU ()).2 (by have := (L32_pos t).1 (by omega); omega)
    exact ⟨again (f', i + 2, t / k / k, p, m + t / i, n + 1) ⟨h6 (by omega), by omega, by omega⟩ (by dsimp only; omega) ⟨rfl, rfl, rfl, rfl, rfl, rfl, trivial⟩ ⟨[], rfl⟩ ⟨[], rfl⟩⟩
  · obtain rfl := (hU ()).1 (by have := L32_pos t; omega)
    exact ⟨ret_e rfl⟩
  · exact ⟨h, rfl, rfl⟩
theorem pi_step {q f g r : Nat} (h : piL q f g = some r) : ∃ f', f = f' + 1 ∧ g ≤ 2000 ∧ ∃ a b c : Nat × Nat, atS 18 (q + g) = some a ∧ atS 57 (q + g) = some b ∧ atS 239 (q + g) = some c ∧ okN a.1 ∧ okN b.1 ∧ okN c.1 ∧
    ∃ S W : Nat, S = a.1 * 48 + b.1 * 32 - c.1 * 20 ∧ W = 4 * (48 * (a.2 + 2) + 32 * (b.2 + 2) + 20 * (c.2 + 2)) ∧ (Unit → ((S - W) / 2 ^ g = (S + W) / 2 ^ g → r = (S - W) / 2 ^ g) ∧ ((S - W) / 2 ^ g ≠ (S + W) / 2 ^ g → piL q f' (2 * g) = some r)) := by
  cases f with
  | zero => cases h
  | succ f =>
    rw [piL] at h
    by_cases hg : g ≤ 2000
    · rw [if_pos hg] at h
      obtain ⟨a, ha, h⟩ := Option.bind_eq_some_iff.1 h
      obtain ⟨b, hb, h⟩ := Option.bind_eq_some_iff.1 h
      obtain ⟨c, hc, h⟩ := Option.bind_eq_some_iff.1 h
      by_cases ho : okN a.1 ∧ okN b.1 ∧ okN c.1
      · rw [if_pos ho] at h
        refine ⟨f, rfl, hg, a, b, c, ha, hb, hc, ho.1, ho.2.1, ho.2.2, _, _, rfl, rfl, fun _ => ⟨fun e => ?_, fun e => ?_⟩⟩
        · rw [if_pos e] at h; exact (Option.some.inj h).symm
        · rw [if_neg e] at h; exact h
      · rw [if_neg ho] at h; cases h
    · rw [if_neg hg] at h; cases h
theorem cmpN_zero (X Y : Nat) : cmpN X Y = 0 ↔ X = Y := by unfold cmpN; split <;> omega
theorem t_pifloor (q : Nat) {r : Nat} (h : piS q = some r) : FC Tryd.prog G 65 [.val (.int .i64 (q : Int))] (· = D r) := by
  unfold piS at h
  by_cases hq : q ≤ 4000
  · rw [if_pos hq] at h
    refine ax_i Tryd.func65 Tryd.ntmps65 (by rw [Tryd.results65]) ?_; intro F hG hO
    repeat' ((try (conv => whnf)); first
  | ((with_reducible refine lg ?_); refine loop_g (A := Nat × Nat) (fun (f, g) => piL q f g = some r) (fun (f, g) => f) (fun (f, g) => [(0, .val (.int .i64 (q : Int))), (3, .val (.int .i64 (g : Int)))]) (fun _ => []) (fun _ => []) (5, 64) tok (fun (f, g) => ⟨⟨trivial, trivial, trivial⟩, trivial, by simp only [List.length_nil]; omega⟩) ?_ ⟨by first | rfl | exact iv_eq (by omega), rfl, trivial⟩ ⟨[], rfl⟩ ⟨[], rfl⟩ ?_; rotate_left; rintro ⟨f, g⟩ h1; obtain ⟨f', rfl, hg, a, b, c, ha, hb, hc, oa, ob, oc, S, W, hS, hW, hU⟩ := pi_step h1; have la := okN_L oa; have lb := okN_L ob; have lc := okN_L oc; have ca := atS_cnt ha; have cb := atS_cnt hb; have cc := atS_cnt hc; have fa := t_arctan (G := F.G) 18 (q + g) (by omega) (by omega) ha; have fb := t_arctan (G := F.G) 57 (q + g) (by omega) (by omega) hb; have fc := t_arctan (G := F.G) 239 (q + g) (by omega) (by omega) hc; have z1 : L32 48 ≤ 1 := L32_le (by decide); have z2 : L32 32 ≤ 1 := L32_le (by decide); have z3 : L32 20 ≤ 1 := L32_le (by decide); have m1 := L32_mul a.1 48; have m2 := L32_mul b.1 32; have m3 := L32_mul c.1 20; have m4 := L32_add (a.1 * 48) (b.1 * 32); have m5 := L32_mono (Nat.sub_le (a.1 * 48 + b.1 * 32) (c.1 * 20)); have m6 : L32 W ≤ 1 := L32_le (by omega); rw [← hS] at m5; have m7 := L32_add S W; have m8 := L32_mono (Nat.sub_le S W); have m9 := L32_mono (Nat.div_le_self (S - W) (2 ^ g)); have m0 := L32_mono (Nat.div_le_self (S + W) (2 ^ g)); have v1 := r_mulsN (G := F.G) a.1 48 (by omega) (by omega); have v2 := r_mulsN (G := F.G) b.1 32 (by omega) (by omega); have v3 := r_mulsN (G := F.G) c.1 20 (by omega) (by omega); have v4 := r_add (G := F.G) (a.1 * 48) (b.1 * 32) (by omega) (by omega); have v5 := r_sub (G := F.G) (a.1 * 48 + b.1 * 32) (c.1 * 20) (by omega) (by omega); rw [← hS] at v5; have v6 := r_sub (G := F.G) S W (by omega) (by omega); have v7 := r_add (G := F.G) S W (by omega) (by omega); have v8 := r_shrN (G := F.G) (S - W) g (by omega) (by omega); have v9 := r_shrN (G := F.G) (S + W) g (by omega) (by omega); have v0 := r_cmp (G := F.G) ((S - W) / 2 ^ g) ((S + W) / 2 ^ g) (by omega) (by omega); have hz := cmpN_zero ((S - W) / 2 ^ g) ((S + W) / 2 ^ g))
  | ((with_reducible refine cg ?_); first | refine ceq fa rfl ?_ | refine ceq fb rfl ?_ | refine ceq fc rfl ?_ | refine ceq v1 rfl ?_ | refine ceq v2 rfl ?_ | refine ceq v3 rfl ?_ | refine ceq v4 rfl ?_ | refine ceq v5 rfl ?_)
  | ((with_reducible refine cg ?_); have vw := r_small (G := F.G) (4 * (48 * ((a.2 : Int) + 2) + 32 * ((b.2 : Int) + 2) + 20 * ((c.2 : Int) + 2))) (by dsimp only [inR]; omega); rw [show (4 * (48 * ((a.2 : Int) + 2) + 32 * ((b.2 : Int) + 2) + 20 * ((c.2 : Int) + 2))).toNat = W by omega] at vw; refine call_eq vw (LpL.refl _) rfl ?_)
  | ((with_reducible refine cg ?_); first | refine ceq v6 rfl ?_ | refine ceq v7 rfl ?_ | refine ceq v8 rfl ?_ | refine ceq v9 rfl ?_ | refine ceq v0 rfl ?_)
  
  | with_reducible first | refine ax_s ?_ | refine BothG.mk ?_ ?_ | (refine ax_f ?_ ?_ <;> intro hc) | refine smk ?_ | fail)
    · obtain rfl := (hU ()).1 (hz.1 (by assumption))
      exact ⟨ret_e rfl⟩
    · exact ⟨again (f', 2 * g) ((hU ()).2 fun e => absurd (hz.2 e) (by assumption)) (by dsimp only; omega) ⟨rfl, iv_eq (by omega), trivial⟩ ⟨[], rfl⟩ ⟨[], rfl⟩⟩
    · exact h
  · rw [if_neg hq] at h; cases h
theorem hv_step {q f h r : Nat} (e : hvL q f h = some r) : ∃ f', f = f' + 1 ∧ (Unit → (4 * h * h < q → hvL q f' (h + 1) = some r) ∧ (¬ 4 * h * h < q → r = h)) := by
  cases f with
  | zero => cases e
  | succ f =>
    rw [hvL] at e
    refine ⟨f, rfl, fun _ => ⟨fun h1 => ?_, fun h1 => ?_⟩⟩
    · rw [if_pos h1] at e; exact e
    · rw [if_neg h1] at e; exact (Option.some.inj e).symm
theorem hv_le {q r : Nat} : ∀ {f h : Nat}, hvL q f h = some r → r ≤ h + f
  | 0, _, e => by cases e
  | f + 1, h, e => by
    rw [hvL] at e
    split at e
    · have := hv_le e; omega
    · obtain rfl := Option.some.inj e; omega
theorem hvS_le {q r : Nat} (e : hvS q = some r) : r ≤ 108 := hv_le e
theorem t_halvings (q : Nat) (hq : q ≤ 100000) {r : Nat} (e : hvS q = some r) : FC Tryd.prog G 68 [.val (.int .i64 (q : Int))] (· = .val (.int .i64 (r : Int))) := by
  unfold hvS at e
  refine ax_i Tryd.func68 Tryd.ntmps68 (by rw [Tryd.results68]) ?_; intro F hG hO
  repeat' ((try (conv => whnf)); first
  | ((with_reducible refine lg ?_); refine loop_g (A := Nat × Nat) (fun (f, h) => hvL q f h = some r ∧ f + h = 108) (fun (f, h) => f) (fun (f, h) => [(0, .val (.int .i64 (q : Int))), (3, .val (.int .i64 (h : Int)))]) (fun _ => []) (fun _ => []) (100, 8) tok (fun (f, h) => ⟨⟨trivial, trivial, trivial⟩, trivial, by simp only [List.length_nil]; omega⟩) ?_ ⟨rfl, rfl, trivial⟩ ⟨[], rfl⟩ ⟨[], rfl⟩ ?_; rotate_left; rintro ⟨f, h⟩ ⟨h1, h2⟩; obtain ⟨f', rfl, hU⟩ := hv_step h1; have hm : 0 ≤ 4 * (h : Int) * h ∧ 4 * (h : Int) * h ≤ 50000 := (by have : 4 * h * h ≤ 4 * 108 * 108 := Nat.mul_le_mul (by omega) (by omega); rw [show 4 * (h : Int) * h = ((4 * h * h : Nat) : Int) by simp]; omega))
  
  | with_reducible first | refine ax_s ?_ | refine BothG.mk ?_ ?_ | (refine ax_f ?_ ?_ <;> intro hc) | refine smk ?_ | fail)
  · have e4 : ((4 * h * h : Nat) : Int) = 4 * (h : Int) * h := by simp
    exact ⟨again (f', h + 1) ⟨(hU ()).1 (by omega), by omega⟩ (by dsimp only; omega) ⟨rfl, rfl, trivial⟩ ⟨[], rfl⟩ ⟨[], rfl⟩⟩
  · have e4 : ((4 * h * h : Nat) : Int) = 4 * (h : Int) * h := by simp
    obtain rfl := (hU ()).2 (by omega)
    exact ⟨ret_e rfl⟩
  · exact ⟨e, rfl⟩
theorem t_turn (a t : Int) (b : Bool) (ha : LZ a ≤ 1048576) (ht : LZ t ≤ 1048576) : FC Tryd.prog G 70 [ZI a, ZI t, .val (.bool b)] (· = ZI (turnS a t b)) := by
  have f1 := r_zadd (G := G) a t (by omega) (by omega)
  have f2 := r_zsub (G := G) a t (by omega) (by omega)
  unfold turnS
  cases b
  all_goals
    refine ax_i Tryd.func70 Tryd.ntmps70 (by rw [Tryd.results70]) ?_; intro F hG hO
    rw [← hG] at f1 f2
    repeat' ((try (conv => whnf)); first
  | ((with_reducible refine cg ?_); first | refine ceq f1 rfl ?_ | refine ceq f2 rfl ?_)
  
  | with_reducible first | refine ax_s ?_ | refine BothG.mk ?_ ?_ | (refine ax_f ?_ ?_ <;> intro hc) | refine smk ?_ | fail)
  all_goals exact ⟨ret_e rfl⟩
theorem t_mul (a b : Int) (w : Nat) (ha : LZ a ≤ 63) (hb : LZ b ≤ 1024) (hw : w ≤ 8589934592) : FC Tryd.prog G 71 [ZI a, ZI b, .val (.int .i64 (w : Int))] (· = ZI (mulS7 a b w)) := by
  have lm := LZ_mul a b
  have f3 := r_zfshrN (G := G) (a * b) w (by omega) hw
  unfold mulS7
  unfold LZ at ha hb
  have lk := L32_mul a.natAbs b.natAbs
  have ea := sg_of a
  have eb := sg_of b
  have f1 := r_long (G := G) a.natAbs b.natAbs ha (by omega)
  refine by_sign (a := a) (p := fun p => FC _ _ _ [p, _, _] _) (fun hs => ?_) (fun hs => ?_)
  all_goals
    refine by_sign (a := b) (p := fun p => FC _ _ _ [_, p, _] _) (fun ht => ?_) (fun ht => ?_)
  · rw [decide_eq_true hs] at ea
    rw [decide_eq_true ht] at eb
    have f2 := r_mk (G := G) (true != true) (a.natAbs * b.natAbs) (by omega)
    rw [sg_mul, ea, eb] at f2
    refine ax_i Tryd.func71 Tryd.ntmps71 (by rw [Tryd.results71]) ?_; intro F hG hO
    rw [← hG] at f1 f2 f3
    repeat' ((try (conv => whnf)); first
  | ((with_reducible refine cg ?_); first | refine ceq f1 rfl ?_ | refine ceq f2 rfl ?_ | refine ceq f3 rfl ?_)
  
  | (with_reducible refine draw_g (id := 1) [[0, 1, 2, 3, 4, 5, 6, 7, 8, 11, 9, 10, 12], [13]] tok mixed (by kernel_rfl) ?_)
  | with_reducible first | refine ax_s ?_ | refine BothG.mk ?_ ?_ | (refine ax_f ?_ ?_ <;> intro hc) | refine smk ?_ | fail)
    all_goals exact ⟨ret_e rfl⟩
  · rw [decide_eq_true hs] at ea
    rw [decide_eq_false ht] at eb
    have f2 := r_mk (G := G) (true != false) (a.natAbs * b.natAbs) (by omega)
    rw [sg_mul, ea, eb] at f2
    refine ax_i Tryd.func71 Tryd.ntmps71 (by rw [Tryd.results71]) ?_; intro F hG hO
    rw [← hG] at f1 f2 f3
    repeat' ((try (conv => whnf)); first
  | ((with_reducible refine cg ?_); first | refine ceq f1 rfl ?_ | refine ceq f2 rfl ?_ | refine ceq f3 rfl ?_)
  
  | (with_reducible refine draw_g (id := 1) [[0, 1, 2, 3, 4, 5, 6, 7, 8, 11, 9, 10, 12], [13]] tok mixed (by kernel_rfl) ?_)
  | with_reducible first | refine ax_s ?_ | refine BothG.mk ?_ ?_ | (refine ax_f ?_ ?_ <;> intro hc) | refine smk ?_ | fail)
    all_goals exact ⟨ret_e rfl⟩
  · rw [decide_eq_false hs] at ea
    rw [decide_eq_true ht] at eb
    have f2 := r_mk (G := G) (false != true) (a.natAbs * b.natAbs) (by omega)
    rw [sg_mul, ea, eb] at f2
    refine ax_i Tryd.func71 Tryd.ntmps71 (by rw [Tryd.results71]) ?_; intro F hG hO
    rw [← hG] at f1 f2 f3
    repeat' ((try (conv => whnf)); first
  | ((with_reducible refine cg ?_); first | refine ceq f1 rfl ?_ | refine ceq f2 rfl ?_ | refine ceq f3 rfl ?_)
  
  | (with_reducible refine draw_g (id := 1) [[0, 1, 2, 3, 4, 5, 6, 7, 8, 11, 9, 10, 12], [13]] tok mixed (by kernel_rfl) ?_)
  | with_reducible first | refine ax_s ?_ | refine BothG.mk ?_ ?_ | (refine ax_f ?_ ?_ <;> intro hc) | refine smk ?_ | fail)
    all_goals exact ⟨ret_e rfl⟩
  · rw [decide_eq_false hs] at ea
    rw [decide_eq_false ht] at eb
    have f2 := r_mk (G := G) (false != false) (a.natAbs * b.natAbs) (by omega)
    rw [sg_mul, ea, eb] at f2
    refine ax_i Tryd.func71 Tryd.ntmps71 (by rw [Tryd.results71]) ?_; intro F hG hO
    rw [← hG] at f1 f2 f3
    repeat' ((try (conv => whnf)); first
  | ((with_reducible refine cg ?_); first | refine ceq f1 rfl ?_ | refine ceq f2 rfl ?_ | refine ceq f3 rfl ?_)
  
  | (with_reducible refine draw_g (id := 1) [[0, 1, 2, 3, 4, 5, 6, 7, 8, 11, 9, 10, 12], [13]] tok mixed (by kernel_rfl) ?_)
  | with_reducible first | refine ax_s ?_ | refine BothG.mk ?_ ?_ | (refine ax_f ?_ ?_ <;> intro hc) | refine smk ?_ | fail)
    all_goals exact ⟨ret_e rfl⟩
theorem sn_step {A w f i t : Nat} {s c : Int} {r : Int × Int} (h : snL A w f i t s c = some r) : (okN t ∧ okZ s ∧ okZ c) ∧ (Unit → (t = 0 → r = (s, c)) ∧ (t ≠ 0 → ∃ f', f = f' + 1 ∧ (i % 2 = 0 → snL A w f' (i + 1) (t * A / 2 ^ w / (i + 1)) s (turnS c t (decide (i % 4 = 2))) = some r) ∧ (i % 2 ≠ 0 → snL A w f' (i + 1) (t * A / 2 ^ w / (i + 1)) (turnS s t (decide (i % 4 = 3))) c = some r))) := by
  cases f with
  | zero => cases h
  | succ f =>
    rw [snL] at h
    by_cases hb : okN t ∧ okZ s ∧ okZ c
    · rw [if_pos hb] at h
      refine ⟨hb, fun _ => ⟨fun h0 => ?_, fun h0 => ⟨f, rfl, fun h1 => ?_, fun h1 => ?_⟩⟩⟩
      · rw [if_pos h0] at h
        exact (Option.some.inj h).symm
      · rw [if_neg h0, if_pos h1] at h
        exact h
      · rw [if_neg h0, if_neg h1] at h
        exact h
    · rw [if_neg hb] at h
      cases h
theorem db_step {w h : Nat} {s c : Int} {r : Int × Int} (e : dbL w h s c = some r) : (okZ s ∧ okZ c) ∧ (Unit → (h = 0 → r = (s, c)) ∧ (h ≠ 0 → dbL w (h - 1) (mulS7 s c w * 2) (2 ^ w - mulS7 s s w * 2) = some r)) := by
  cases h with
  | zero =>
    rw [dbL] at e
    by_cases hb : okZ s ∧ okZ c
    · rw [if_pos hb] at e; exact ⟨hb, fun _ => ⟨fun _ => (Option.some.inj e).symm, fun h => absurd rfl h⟩⟩
    · rw [if_neg hb] at e; cases e
  | succ h =>
    rw [dbL] at e
    by_cases hb : okZ s ∧ okZ c
    · rw [if_pos hb] at e; exact ⟨hb, fun _ => ⟨fun h => by omega, fun _ => e⟩⟩
    · rw [if_neg hb] at e; cases e
theorem bx_nil : LpL [.val (.bool false), .nil] [.val (.bool (decide ((0 : Int) < 0))), .ws .u32 (d32 (0 : Int).natAbs)] := by
  have h := lp_zi0
  cases h with
  | agg h => exact h
inductive BxL : List (List PV) → List (List PV) → Prop
  | nil : BxL [] []
  | cons {l l' : List PV} {b b' : List (List PV)} (h : LpL l l') (t : BxL b b') : BxL (l :: b) (l' :: b')
theorem BxL.len : ∀ {b b' : List (List PV)}, BxL b b' → b.length = b'.length
  | _, _, .nil => rfl
  | _, _, .cons _ t => congrArg (· + 1) t.len
theorem BxL.get : ∀ {b b' : List (List PV)}, BxL b b' → ∀ {i : Nat} {l' : List PV}, b'[i]? = some l' → ∃ l, b[i]? = some l ∧ LpL l l'
  | _, _, .nil, i, l', h => by simp at h
  | _, _, .cons h t, 0, l', e => by simp only [List.getElem?_cons_zero, Option.some.injEq] at e ⊢; subst e; exact ⟨_, rfl, h⟩
  | _, _, .cons h t, i + 1, l', e => by simp only [List.getElem?_cons_succ] at e ⊢; exact t.get e
theorem BxL.sim {c : Cx} {b b' : List (List PV)} {ob : List (Option Row)} {w : World} (h : BxL b b') (hw : SimW c b ob w) : SimW c b' ob w :=
  ⟨hw.mem, hw.bl.trans h.len, hw.ol, fun i l' hi => by
    obtain ⟨l, h1, h2⟩ := h.get hi
    obtain ⟨g, us, T, h3, h4, h5⟩ := hw.box i l h1
    exact ⟨g, us, T, h3, h4, h2.rep h5⟩, hw.obj, hw.nb, hw.no, hw.nbo, hw.sb, hw.so⟩
theorem loop_bx {P : Program} {F : Fr} {TT : List TI} {X : List FuncId} {c : Code} {kr : St → Prop} {kx : Nat → St → Prop} {N : Nat} {t : Nat → PV} {b b' : List (List PV)} {ob : List (Option Row)} (h : BxL b b') (k : LoopG P F TT X c kr kx ⟨N, t, b', ob⟩) : LoopG P F TT X c kr kx ⟨N, t, b, ob⟩ :=
  ⟨fun cx a w hi => k.h cx a w ⟨h.sim hi.W, hi.nd, hi.sz, hi.tm, hi.kp, hi.rho, hi.new, hi.obp, hi.obB, hi.bbB⟩⟩
theorem sg_neg (y : Int) (n : Nat) : sg (decide (y < 0)) n = if y < 0 then -(n : Int) else n := by
  by_cases h : y < 0
  · rw [if_pos h, decide_eq_true h]; rfl
  · rw [if_neg h, decide_eq_false h]; rfl
theorem sc_step {y : Int} {q : Nat} {r : Int × Int} (h : scS y q = some r) : ∃ k : Nat, hvS q = some k ∧ okZ y ∧ okN (y.natAbs * 2 ^ (64 + 3 * k)) ∧ q + 64 + 4 * k ≤ 4000 ∧ ∃ u v : Int × Int,
    snL (y.natAbs * 2 ^ (64 + 3 * k)) (q + 64 + 4 * k) 1000 0 (2 ^ (q + 64 + 4 * k)) 0 0 = some u ∧ dbL (q + 64 + 4 * k) k u.1 u.2 = some v ∧ r = ((if y < 0 then -(v.1.natAbs : Int) else v.1.natAbs) / 2 ^ (64 + 4 * k), v.2 / 2 ^ (64 + 4 * k)) := by
  unfold scS at h
  obtain ⟨k, hk, h⟩ := Option.bind_eq_some_iff.1 h
  by_cases hb : okZ y ∧ okN (y.natAbs * 2 ^ (64 + 3 * k)) ∧ q + 64 + 4 * k ≤ 4000
  · rw [if_pos hb] at h
    obtain ⟨u, hu, h⟩ := Option.bind_eq_some_iff.1 h
    obtain ⟨v, hv, h⟩ := Option.map_eq_some_iff.1 h
    exact ⟨k, hk, hb.1, hb.2.1, hb.2.2, u, v, hu, hv, h.symm⟩
  · rw [if_neg hb] at h; cases h
theorem sign_nat (t : Nat) : Int.sign (t : Int) = 0 ↔ t = 0 := by rw [Int.sign_eq_zero_iff_zero]; omega
theorem t_mulN (a b w : Nat) (ha : L32 a ≤ 63) (hb : L32 b ≤ 1024) (hw : w ≤ 8589934592) : FC Tryd.prog G 71 [ZI (a : Int), ZI (b : Int), .val (.int .i64 (w : Int))] (· = ZI ((a * b / 2 ^ w : Nat) : Int)) := by
  have f := t_mul (G := G) (a : Int) (b : Int) w ha hb hw
  rw [show mulS7 (a : Int) (b : Int) w = ((a * b / 2 ^ w : Nat) : Int) by unfold mulS7; simp] at f
  exact f
theorem t_sincos (y : Int) (q : Nat) {r : Int × Int} (h : scS y q = some r) : FC Tryd.prog G 54 [ZI y, .val (.int .i64 (q : Int))] (· = .tup [ZI r.1, ZI r.2]) := by
  obtain ⟨k, hk, oy, oA, hw, u, v, hu, hv, rfl⟩ := sc_step h
  have k1 := hvS_le hk
  have fk := t_halvings (G := G) q (by omega) hk
  have ly := okZ_L oy
  have lA := okN_L oA
  obtain ⟨a, ha⟩ : ∃ a, a = y * 2 ^ (64 + 3 * k) := ⟨_, rfl⟩
  have hA : y.natAbs * 2 ^ (64 + 3 * k) = a.natAbs := by rw [ha, Int.natAbs_mul, Int.natAbs_pow]; rfl
  rw [hA] at hu lA
  obtain ⟨w, ew⟩ : ∃ w, w = q + 64 + 4 * k := ⟨_, rfl⟩
  rw [← ew] at hu hv hw
  have f1 := r_zshlN (G := G) y (64 + 3 * k) (by omega) (by omega)
  rw [← ha, show ((64 + 3 * k : Nat) : Int) = 64 + 3 * (k : Int) by omega] at f1
  have f2 := r_pow2N (G := G) w (by omega)
  have lw := L32_p2 w
  have f3 := r_mk (G := G) false (2 ^ w) (by omega)
  rw [show ((w : Nat) : Int) = (q : Int) + 64 + 4 * (k : Int) by omega] at f2
  have f4 := r_zabs (G := G) a (by unfold LZ; omega)
  have lW : LZ (2 ^ w) ≤ w / 32 + 1 := by unfold LZ; rw [Int.natAbs_pow]; exact lw
  refine ax_i Tryd.func54 Tryd.ntmps54 (by rw [Tryd.results54]) ?_; intro F hG hO
  rw [← hG] at fk f1 f2 f3 f4
  repeat' ((try (conv => whnf)); first
  | ((with_reducible refine cg ?_); first | refine ceq fk rfl ?_ | refine ceq f1 rfl ?_ | refine ceq f2 rfl ?_ | refine ceq f3 rfl ?_ | refine ceq f4 rfl ?_)
  | ((with_reducible refine lg ?_); refine loop_bx (b' := [[.val (.bool (decide (y < 0))), .ws .u32 (d32 (y).natAbs)], [.val (.bool false), .nil], [.val (.bool false), .nil], [.val (.bool (decide (a < 0))), .ws .u32 (d32 (a).natAbs)], [.val (.bool (decide (((2 ^ w : Nat) : Int) < 0))), .ws .u32 (d32 ((2 ^ w : Nat) : Int).natAbs)], [.val (.bool (decide ((0 : Int) < 0))), .ws .u32 (d32 ((0 : Int)).natAbs)], [.val (.bool (decide ((0 : Int) < 0))), .ws .u32 (d32 ((0 : Int)).natAbs)], [.val (.bool (decide (((2 ^ w : Nat) : Int) < 0))), .ws .u32 (d32 ((2 ^ w : Nat) : Int).natAbs)]]) (.cons (LpL.refl _) (.cons (LpL.refl _) (.cons (LpL.refl _) (.cons (LpL.refl _) (.cons (LpL.refl _) (.cons bx_nil (.cons bx_nil (.cons (LpL.refl _) .nil)))))))) ?_; refine loop_g (A := Nat × Nat × Nat × Int × Int) (fun (f, i, t, s, c) => snL a.natAbs w f i t s c = some u ∧ i + f = 1000) (fun (f, i, t, s, c) => f) (fun (f, i, t, s, c) => [(1, .val (.int .i64 (q : Int))), (2, .ptr 0 0), (4, .ptr 1 0), (5, .ptr 2 0), (6, .val (.int .i64 (k : Int))), (7, .val (.int .i64 ((q : Int) + 64 + 4 * (k : Int)))), (8, .ptr 3 0), (9, .ptr 4 0), (10, .ptr 5 0), (11, .ptr 6 0), (12, .ptr 7 0), (13, .val (.int .i64 (i : Int)))]) (fun (f, i, t, s, c) => [[.val (.bool (decide (y < 0))), .ws .u32 (d32 (y).natAbs)], [.val (.bool false), .nil], [.val (.bool false), .nil], [.val (.bool (decide (a < 0))), .ws .u32 (d32 (a).natAbs)], [.val (.bool (decide (((2 ^ w : Nat) : Int) < 0))), .ws .u32 (d32 ((2 ^ w : Nat) : Int).natAbs)], [.val (.bool (decide (s < 0))), .ws .u32 (d32 (s).natAbs)], [.val (.bool (decide (c < 0))), .ws .u32 (d32 (c).natAbs)], [.val (.bool (decide ((t : Int) < 0))), .ws .u32 (d32 (t : Int).natAbs)]]) (fun _ => []) (1000, 0, 2 ^ w, 0, 0) tok (by rintro ⟨f, i, t, s, c⟩; (refine ⟨?_, ?_, ?_⟩ <;> simp [inS, inBB, inBL, inB, hO])) ?_ ⟨rfl, rfl, rfl, rfl, rfl, rfl, rfl, rfl, rfl, rfl, rfl, rfl, trivial⟩ ⟨[], rfl⟩ ⟨[], rfl⟩ ?_; rotate_left; rintro ⟨f, i, t, s, c⟩ ⟨h1, h2⟩; obtain ⟨⟨b1, b2, b3⟩, hU⟩ := sn_step h1; have lt := okN_L b1; have ls := okZ_L b2; have lc := okZ_L b3; have hs := sign_nat t; have e2 : decide ((i : Int) % 4 = 2) = decide (i % 4 = 2) := decide_eq_decide.2 (by omega); have e3 : decide ((i : Int) % 4 = 3) = decide (i % 4 = 3) := decide_eq_decide.2 (by omega); rw [← e2, ← e3] at hU; have ltA := L32_mul t a.natAbs; have lq := L32_mono (Nat.div_le_self (t * a.natAbs) (2 ^ w)); have lr := L32_mono (Nat.div_le_self (t * a.natAbs / 2 ^ w) (i + 1)); have ltz : LZ (t : Int) = L32 t := rfl; have v1 := t_turn (G := F.G) c t (decide ((i : Int) % 4 = 2)) (by omega) (by omega); have v2 := t_turn (G := F.G) s t (decide ((i : Int) % 4 = 3)) (by omega) (by omega); have v3 := r_sign (G := F.G) (t : Int); have v4 := t_mulN (G := F.G) t a.natAbs w (by omega) (by omega) (by omega); rw [show ((w : Nat) : Int) = (q : Int) + 64 + 4 * (k : Int) by omega] at v4; have v5 := r_divsN (G := F.G) (t * a.natAbs / 2 ^ w) (i + 1) (by omega) (by omega); have v6 := r_mk (G := F.G) false (t * a.natAbs / 2 ^ w / (i + 1)) (by omega))
  | ((with_reducible refine cg ?_); first | refine ceq v1 rfl ?_ | refine ceq v2 rfl ?_ | refine ceq v3 rfl ?_ | refine ceq v4 rfl ?_ | refine ceq v5 rfl ?_ | refine ceq v6 rfl ?_)
  | ((with_reducible refine lg ?_); obtain rfl := (hU ()).1 (by omega); refine loop_g (A := Nat × Int × Int) (fun (n, s, c) => dbL w n s c = some v ∧ n ≤ k) (fun (n, s, c) => n) (fun (n, s, c) => [(1, .val (.int .i64 (q : Int))), (2, .ptr 0 0), (4, .ptr 1 0), (5, .ptr 2 0), (7, .val (.int .i64 ((q : Int) + 64 + 4 * (k : Int)))), (9, .ptr 4 0), (10, .ptr 5 0), (11, .ptr 6 0), (70, .val (.int .i64 (k : Int))), (71, .val (.int .i64 ((k : Int) - (n : Int))))]) (fun (n, s, c) => [[.val (.bool (decide (y < 0))), .ws .u32 (d32 (y).natAbs)], [.val (.bool false), .nil], [.val (.bool false), .nil], [.val (.bool (decide (a < 0))), .ws .u32 (d32 (a).natAbs)], [.val (.bool (decide (((2 ^ w : Nat) : Int) < 0))), .ws .u32 (d32 ((2 ^ w : Nat) : Int).natAbs)], [.val (.bool (decide (s < 0))), .ws .u32 (d32 (s).natAbs)], [.val (.bool (decide (c < 0))), .ws .u32 (d32 (c).natAbs)]]) (fun _ => []) (k, s, c) tok (by rintro ⟨n, s, c⟩; (refine ⟨?_, ?_, ?_⟩ <;> simp [inS, inBB, inBL, inB, hO])) ?_ ⟨rfl, rfl, rfl, rfl, rfl, rfl, rfl, rfl, rfl, iv_eq (by first | omega | (dsimp only; omega)), trivial⟩ ⟨_, rfl⟩ ⟨_, rfl⟩ ?_; rotate_left; rintro ⟨n, s, c⟩ ⟨n1, n2⟩; obtain ⟨⟨b1, b2⟩, hV⟩ := db_step n1; have ls := okZ_L b1; have lc := okZ_L b2; have e5 : ((q : Int) + 64 + 4 * (k : Int)) = ((w : Nat) : Int) := (by omega); have m1 := LZ_mul s c; have m2 := LZ_mul s s; have d1 := LZ_ediv (a := s * c) (b := 2 ^ w) (Int.pow_pos (by decide)); have d2 := LZ_ediv (a := s * s) (b := 2 ^ w) (Int.pow_pos (by decide)); have s1 := LZ_shl (s * c / 2 ^ w) 1; have s2 := LZ_shl (s * s / 2 ^ w) 1; have w1 := t_mul (G := F.G) s c w (by omega) (by omega) (by omega); have w2 := t_mul (G := F.G) s s w (by omega) (by omega) (by omega); have w3 := r_zshlN (G := F.G) (mulS7 s c w) 1 (by unfold mulS7; omega) (by decide); have w4 := r_zshlN (G := F.G) (mulS7 s s w) 1 (by unfold mulS7; omega) (by decide); have w5 := r_zsub (G := F.G) ((2 ^ w : Nat) : Int) (mulS7 s s w * 2 ^ 1) (by have : LZ ((2 ^ w : Nat) : Int) = L32 (2 ^ w) := rfl; omega) (by unfold mulS7; omega); rw [← e5] at w1 w2)
  | ((with_reducible refine cg ?_); first | refine ceq w1 rfl ?_ | refine ceq w2 rfl ?_ | refine ceq w3 rfl ?_ | refine ceq w4 rfl ?_ | refine ceq w5 rfl ?_)
  | ((with_reducible refine cg ?_); have x1 := r_mk (G := F.G) (decide (y < 0)) s.natAbs (by unfold LZ at ls; omega); refine call_eq x1 (LpL.refl _) rfl ?_)
  | ((with_reducible refine cg ?_); have x2 := r_zfshr (G := F.G) (sg (decide (y < 0)) s.natAbs) ((q : Int) + 64 + 4 * (k : Int) - (q : Int)) (by unfold LZ; rw [sg_abs]; unfold LZ at ls; omega) (by dsimp only [inR]; omega); refine call_eq x2 (LpL.refl _) rfl ?_)
  | ((with_reducible refine cg ?_); have x3 := r_zfshr (G := F.G) c ((q : Int) + 64 + 4 * (k : Int) - (q : Int)) (by omega) (by dsimp only [inR]; omega); refine call_eq x3 (LpL.refl _) rfl ?_)
  
  | (with_reducible refine draw_g (id := 13) [[0, 1, 3, 2, 4], [5]] tok mixed (by kernel_rfl) ?_)
  | (with_reducible refine draw_g (id := 18) [[0, 1, 2, 5, 6, 7, 8, 3, 4, 9, 10, 11], [12], [13]] tok mixed (by kernel_rfl) ?_)
  | (with_reducible refine draw_g (id := 21) [[0, 1, 2, 3, 5, 6, 7, 8, 4, 9], [10], [11]] tok mixed (by kernel_rfl) ?_)
  | with_reducible first | refine ax_s ?_ | refine BothG.mk ?_ ?_ | (refine ax_f ?_ ?_ <;> intro hc) | refine smk ?_ | fail)
  · obtain ⟨f', rfl, h5, h6⟩ := (hU ()).2 (by omega)
    exact ⟨again (f', i + 1, t * a.natAbs / 2 ^ w / (i + 1), s, turnS c t (decide ((i : Int) % 4 = 2))) ⟨h5 (by omega), by omega⟩ (by dsimp only; omega) ⟨rfl, rfl, rfl, rfl, rfl, rfl, rfl, rfl, rfl, rfl, rfl, rfl, trivial⟩ ⟨_, rfl⟩ ⟨[], rfl⟩⟩
  · obtain ⟨f', rfl, h5, h6⟩ := (hU ()).2 (by omega)
    exact ⟨again (f', i + 1, t * a.natAbs / 2 ^ w / (i + 1), turnS s t (decide ((i : Int) % 4 = 3)), c) ⟨h6 (by omega), by omega⟩ (by dsimp only; omega) ⟨rfl, rfl, rfl, rfl, rfl, rfl, rfl, rfl, rfl, rfl, rfl, rfl, trivial⟩ ⟨_, rfl⟩ ⟨[], rfl⟩⟩
  · have e6 : ((2 ^ w : Nat) : Int) = 2 ^ w := by simp
    refine ⟨again (n - 1, mulS7 s c w * 2 ^ 1, ((2 ^ w : Nat) : Int) - mulS7 s s w * 2 ^ 1) ⟨?_, by omega⟩ (by dsimp only; omega) ⟨rfl, rfl, rfl, rfl, rfl, rfl, rfl, rfl, rfl, iv_eq (by omega), trivial⟩ ⟨_, rfl⟩ ⟨[], rfl⟩⟩
    rw [e6]
    exact (hV ()).2 (by omega)
  · obtain rfl := (hV ()).1 (by omega)
    have e7 : ((q : Int) + 64 + 4 * (k : Int) - (q : Int)).toNat = 64 + 4 * k := by omega
    exact ⟨ret_e (tup_zi (by rw [sg_neg, e7]) (by rw [e7]))⟩
  · exact ⟨hv, Nat.le_refl _⟩
  · exact ⟨hu, by omega⟩
theorem LZ_scaS (m e : Int) : LZ (scaS m e) ≤ LZ m + e.toNat / 32 + 1 := by
  unfold scaS
  split
  · exact LZ_shl _ _
  · have := LZ_ediv (a := m) (b := 2 ^ (-e).toNat) (Int.pow_pos (by decide)); omega
theorem LZ_near (a b : Int) (hb : 0 < b) : LZ (nearS a b) ≤ LZ a + 2 := by
  have h := LZ_ediv (a := a) hb
  have h1 := LZ_add (a / b) 1
  have h2 := LZ_one
  unfold nearS
  split
  · omega
  · omega
theorem t_scaled (m e : Int) (hm : LZ m ≤ 1048576) (he : -1073741824 ≤ e ∧ e ≤ 1073741824) : FC Tryd.prog G 62 [ZI m, .val (.int .i64 e)] (· = ZI (scaS m e)) := by
  unfold scaS
  by_cases h : 0 ≤ e
  · have f := r_zshl (G := G) m e (by omega) (by dsimp only [inR]; omega) (by omega)
    rw [if_pos h]
    refine ax_i Tryd.func62 Tryd.ntmps62 (by rw [Tryd.results62]) ?_; intro F hG hO
    rw [← hG] at f
    repeat' ((try (conv => whnf)); first
  | ((with_reducible refine cg ?_); first | refine ceq f rfl ?_)
  
  | with_reducible first | refine ax_s ?_ | refine BothG.mk ?_ ?_ | (refine ax_f ?_ ?_ <;> intro hc) | refine smk ?_ | fail)
    all_goals exact ⟨ret_e rfl⟩
  · have f := r_zfshr (G := G) m (0 - e) (by omega) (by dsimp only [inR]; omega)
    rw [if_neg h]
    refine ax_i Tryd.func62 Tryd.ntmps62 (by rw [Tryd.results62]) ?_; intro F hG hO
    rw [← hG] at f
    repeat' ((try (conv => whnf)); first
  | ((with_reducible refine cg ?_); first | refine ceq f rfl ?_)
  
  | with_reducible first | refine ax_s ?_ | refine BothG.mk ?_ ?_ | (refine ax_f ?_ ?_ <;> intro hc) | refine smk ?_ | fail)
    all_goals exact ⟨ret_e (zi_eq (a := m / 2 ^ (0 - e).toNat) (by rw [Int.zero_sub]))⟩
def NR (lo hi : Int) (q : Int) : PV := .agg [.val (.bool (decide (lo < 0))), .ws .u32 (d32 lo.natAbs), .val (.bool (decide (hi < 0))), .ws .u32 (d32 hi.natAbs), .val (.int .i64 q)]
theorem t_around (v off q : Int) (hv : LZ v ≤ 1048576) (ho : 0 ≤ off ∧ off < 4294967296) : FC Tryd.prog G 56 [ZI v, .val (.int .i64 off), .val (.int .i64 q)] (· = NR (v - off) (v + off) q) := by
  have lo : LZ off ≤ 1 := L32_le (by omega)
  have f1 := r_of (G := G) off (by dsimp only [inR]; omega)
  have f2 := r_zsub (G := G) v off (by omega) (by omega)
  have f3 := r_zadd (G := G) v off (by omega) (by omega)
  refine ax_i Tryd.func56 Tryd.ntmps56 (by rw [Tryd.results56]) ?_; intro F hG hO
  rw [← hG] at f1 f2 f3
  repeat' ((try (conv => whnf)); first
  | ((with_reducible refine cg ?_); first | refine ceq f1 rfl ?_ | refine ceq f2 rfl ?_ | refine ceq f3 rfl ?_)
  
  | (with_reducible refine draw_g (id := 1) [[0, 1, 4, 5, 8, 2, 3, 6, 7, 9], [10]] tok mixed (by kernel_rfl) ?_)
  | with_reducible first | refine ax_s ?_ | refine BothG.mk ?_ ?_ | (refine ax_f ?_ ?_ <;> intro hc) | refine smk ?_ | fail)
  all_goals exact ⟨ret_e rfl⟩
theorem t_thin (lo hi q : Int) (p : Nat) (hl : LZ lo ≤ 1048576) (hh : LZ hi ≤ 1048576) (hp : p ≤ 33554432) : FC Tryd.prog G 57 [NR lo hi q, .val (.int .i64 (p : Int))] (· = .val (.bool (thinS lo hi p))) := by
  have l1 := LZ_add hi (-lo)
  rw [LZ_neg, ← Int.sub_eq_add_neg] at l1
  have l2 := LZ_shl (hi - lo) p
  have f1 := r_sign (G := G) lo
  have f2 := r_sign (G := G) hi
  have f3 := r_zabs (G := G) lo (by omega)
  have f4 := r_zabs (G := G) hi (by omega)
  have f5 := r_zsub (G := G) hi lo (by omega) (by omega)
  have f6 := r_zshlN (G := G) (hi - lo) p (by omega) (by omega)
  have la : LZ (lo.natAbs : Int) = LZ lo := rfl
  have lb : LZ (hi.natAbs : Int) = LZ hi := rfl
  have f7 := r_zcmp (G := G) ((hi - lo) * 2 ^ p) (lo.natAbs : Int) (by omega) (by omega)
  have f8 := r_zcmp (G := G) ((hi - lo) * 2 ^ p) (hi.natAbs : Int) (by omega) (by omega)
  have g7 := Int.sign_pos_iff (x := (hi - lo) * 2 ^ p - (lo.natAbs : Int))
  have g8 := Int.sign_pos_iff (x := (hi - lo) * 2 ^ p - (hi.natAbs : Int))
  have ht : thinS lo hi p = (decide (lo.sign = hi.sign) && decide (lo.sign ≠ 0) && decide ((hi - lo) * 2 ^ p ≤ if lo < 0 then hi.natAbs else lo.natAbs)) := rfl
  obtain ⟨D1, hD1⟩ : ∃ D1, D1 = (hi - lo) * 2 ^ p := ⟨_, rfl⟩
  rw [← hD1] at f6 f7 f8 g7 g8 ht
  clear l2 hD1 l1
  obtain ⟨s1, hs1⟩ : ∃ s, s = lo.sign := ⟨_, rfl⟩
  obtain ⟨s2, hs2⟩ : ∃ s, s = hi.sign := ⟨_, rfl⟩
  obtain ⟨s7, hs7⟩ : ∃ s, s = (D1 - (lo.natAbs : Int)).sign := ⟨_, rfl⟩
  obtain ⟨s8, hs8⟩ : ∃ s, s = (D1 - (hi.natAbs : Int)).sign := ⟨_, rfl⟩
  rw [← hs1] at f1 ht
  rw [← hs2] at f2 ht
  rw [← hs7] at f7 g7
  rw [← hs8] at f8 g8
  clear hs1 hs2 hs7 hs8
  rw [ht]
  by_cases e1 : s1 = s2
  · by_cases e2 : s1 = 0
    · rw [decide_eq_false (p := s1 ≠ 0) (fun h => h e2), Bool.and_false, Bool.false_and]
      refine ax_i Tryd.func57 Tryd.ntmps57 (by rw [Tryd.results57]) ?_; intro F hG hO
      rw [← hG] at f1 f2
      repeat' ((try (conv => whnf)); first
  | ((with_reducible refine cg ?_); first | refine ceq f1 rfl ?_ | refine ceq f2 rfl ?_)
  
  | (with_reducible refine draw_g (id := 1) [[0, 1, 3, 4, 2, 5, 6, 7, 8, 9, 10, 11, 12]] tok mixed (by kernel_rfl) ?_)
  | (with_reducible refine draw_g (id := 6) [[0, 1, 2, 3, 5, 7, 4, 6, 8, 9, 10]] tok mixed (by kernel_rfl) ?_)
  | with_reducible first | refine ax_s ?_ | refine BothG.mk ?_ ?_ | (refine ax_f ?_ ?_ <;> intro hc) | refine smk ?_ | fail)
      all_goals exact ⟨ret_e rfl⟩
    · rw [decide_eq_true (p := s1 ≠ 0) e2, decide_eq_true e1, Bool.and_true, Bool.true_and]
      by_cases e3 : lo < 0
      · rw [if_pos e3]
        refine ax_i Tryd.func57 Tryd.ntmps57 (by rw [Tryd.results57]) ?_; intro F hG hO
        rw [← hG] at f1 f2 f3 f4 f5 f6 f8
        repeat' ((try (conv => whnf)); first
  | ((with_reducible refine cg ?_); first | refine ceq f1 rfl ?_ | refine ceq f2 rfl ?_ | refine ceq f3 rfl ?_ | refine ceq f4 rfl ?_ | refine ceq f5 rfl ?_ | refine ceq f6 rfl ?_ | refine ceq f8 rfl ?_)
  
  | (with_reducible refine draw_g (id := 1) [[0, 1, 3, 4, 2, 5, 6, 7, 8, 9, 10, 11, 12]] tok mixed (by kernel_rfl) ?_)
  | (with_reducible refine draw_g (id := 6) [[0, 1, 2, 3, 5, 7, 4, 6, 8, 9, 10]] tok mixed (by kernel_rfl) ?_)
  | with_reducible first | refine ax_s ?_ | refine BothG.mk ?_ ?_ | (refine ax_f ?_ ?_ <;> intro hc) | refine smk ?_ | fail)
        all_goals exact ⟨ret_e (congrArg (fun b => PV.val (.bool b)) (decide_eq_decide.2 (by omega)))⟩
      · rw [if_neg e3]
        refine ax_i Tryd.func57 Tryd.ntmps57 (by rw [Tryd.results57]) ?_; intro F hG hO
        rw [← hG] at f1 f2 f3 f4 f5 f6 f7
        repeat' ((try (conv => whnf)); first
  | ((with_reducible refine cg ?_); first | refine ceq f1 rfl ?_ | refine ceq f2 rfl ?_ | refine ceq f3 rfl ?_ | refine ceq f4 rfl ?_ | refine ceq f5 rfl ?_ | refine ceq f6 rfl ?_ | refine ceq f7 rfl ?_)
  
  | (with_reducible refine draw_g (id := 1) [[0, 1, 3, 4, 2, 5, 6, 7, 8, 9, 10, 11, 12]] tok mixed (by kernel_rfl) ?_)
  | (with_reducible refine draw_g (id := 6) [[0, 1, 2, 3, 5, 7, 4, 6, 8, 9, 10]] tok mixed (by kernel_rfl) ?_)
  | with_reducible first | refine ax_s ?_ | refine BothG.mk ?_ ?_ | (refine ax_f ?_ ?_ <;> intro hc) | refine smk ?_ | fail)
        all_goals exact ⟨ret_e (congrArg (fun b => PV.val (.bool b)) (decide_eq_decide.2 (by omega)))⟩
  · rw [decide_eq_false e1, Bool.false_and, Bool.false_and]
    refine ax_i Tryd.func57 Tryd.ntmps57 (by rw [Tryd.results57]) ?_; intro F hG hO
    rw [← hG] at f1 f2
    repeat' ((try (conv => whnf)); first
  | ((with_reducible refine cg ?_); first | refine ceq f1 rfl ?_ | refine ceq f2 rfl ?_)
  
  | (with_reducible refine draw_g (id := 1) [[0, 1, 3, 4, 2, 5, 6, 7, 8, 9, 10, 11, 12]] tok mixed (by kernel_rfl) ?_)
  | (with_reducible refine draw_g (id := 6) [[0, 1, 2, 3, 5, 7, 4, 6, 8, 9, 10]] tok mixed (by kernel_rfl) ?_)
  | with_reducible first | refine ax_s ?_ | refine BothG.mk ?_ ?_ | (refine ax_f ?_ ?_ <;> intro hc) | refine smk ?_ | fail)
    all_goals exact ⟨ret_e rfl⟩
theorem rs_step {m e : Int} {q : Nat} {r : Int × Int} (h : rsS m e q = some r) : (okZ m ∧ -2000 ≤ e ∧ e ≤ 2000 ∧ q ≤ 3000) ∧ ∃ t : Nat, (t : Int) = max 0 ((bl m.natAbs : Int) + e) + 4 ∧ t ≤ 1000 ∧
    (((t = 4 ∧ (scaS m (e + (q + t : Nat))).natAbs * 4 ≤ 2 ^ (q + t) * 3) ∧ r = (0, scaS m (e + q))) ∨ (¬ (t = 4 ∧ (scaS m (e + (q + t : Nat))).natAbs * 4 ≤ 2 ^ (q + t) * 3) ∧ ∃ p, piS (q + t) = some p ∧ okN p ∧ 0 < p ∧
      r = (nearS (scaS m (e + (q + t : Nat)) * 2) p, (scaS m (e + (q + t : Nat)) * 2 - nearS (scaS m (e + (q + t : Nat)) * 2) p * p) / 2 ^ (t + 1)))) := by
  unfold rsS at h
  by_cases hb : okZ m ∧ -2000 ≤ e ∧ e ≤ 2000 ∧ q ≤ 3000
  · rw [if_pos hb] at h
    refine ⟨hb, (max 0 ((bl m.natAbs : Int) + e) + 4).toNat, by omega, ?_⟩
    generalize (max 0 ((bl m.natAbs : Int) + e) + 4).toNat = t at h ⊢
    dsimp only at h
    by_cases ht : t ≤ 1000
    · rw [if_pos ht] at h
      refine ⟨ht, ?_⟩
      by_cases h4 : t = 4 ∧ (scaS m (e + (q + t : Nat))).natAbs * 4 ≤ 2 ^ (q + t) * 3
      · rw [if_pos h4] at h
        exact .inl ⟨h4, (Option.some.inj h).symm⟩
      · rw [if_neg h4] at h
        obtain ⟨p, hp, h⟩ := Option.bind_eq_some_iff.1 h
        by_cases hq : okN p ∧ 0 < p
        · rw [if_pos hq] at h
          exact .inr ⟨h4, p, hp, hq.1, hq.2, (Option.some.inj h).symm⟩
        · rw [if_neg hq] at h; cases h
    · rw [if_neg ht] at h; cases h
  · rw [if_neg hb] at h; cases h
theorem bl_L32' (m : Int) : bl m.natAbs ≤ 32 * LZ m := bl_le (L32_lt _)
theorem t_rest (m e : Int) (q : Nat) {r : Int × Int} (h : rsS m e q = some r) : FC Tryd.prog G 53 [ZI m, .val (.int .i64 e), .val (.int .i64 (q : Int))] (· = .tup [ZI r.1, ZI r.2]) := by
  obtain ⟨⟨om, e1, e2, hq⟩, t, ht, ht1, hc0⟩ := rs_step h
  have lm := okZ_L om
  have hbl := bl_L32' m
  have f1 := r_bits (G := G) m.natAbs (by unfold LZ at lm; omega)
  obtain ⟨E, hE⟩ : ∃ E : Int, E = e + ((q + t : Nat) : Int) := ⟨_, rfl⟩
  have f2 := t_scaled (G := G) m E (by omega) (by omega)
  have f2' := t_scaled (G := G) m (e + q) (by omega) (by omega)
  have lx := LZ_scaS m E
  rw [← hE] at hc0
  obtain ⟨x, hx⟩ : ∃ x, x = scaS m E := ⟨_, rfl⟩
  rw [← hx] at f2 lx hc0
  clear hx
  rw [hE, show ((q + t : Nat) : Int) = (q : Int) + (max 0 ((bl m.natAbs : Int) + e) + 4) by omega] at f2
  have lax : LZ (x.natAbs : Int) = LZ x := rfl
  have l1 := LZ_shl (x.natAbs : Int) 2
  have l2 := LZ_shl x 1
  rw [show x * 2 ^ 1 = x * 2 from rfl] at l2
  have lw := L32_p2 (q + t)
  have l3 := L32_mul (2 ^ (q + t)) 3
  have z3 : L32 3 ≤ 1 := L32_le (by decide)
  have f3 := r_zabs (G := G) x (by omega)
  have f4 := r_zshlN (G := G) (x.natAbs : Int) 2 (by omega) (by omega)
  have f5 := r_pow2N (G := G) (q + t) (by omega)
  rw [show ((q + t : Nat) : Int) = (q : Int) + (max 0 ((bl m.natAbs : Int) + e) + 4) by omega] at f5
  have f6 := r_mulsN (G := G) (2 ^ (q + t)) 3 (by omega) (by omega)
  have f7 := r_mk (G := G) false (2 ^ (q + t) * 3) (by omega)
  have f8 := r_zcmp (G := G) ((x.natAbs : Int) * 2 ^ 2) ((2 ^ (q + t) * 3 : Nat) : Int) (by omega) (by show L32 (2 ^ (q + t) * 3) ≤ _; omega)
  have g8 := Int.sign_pos_iff (x := (x.natAbs : Int) * 2 ^ 2 - ((2 ^ (q + t) * 3 : Nat) : Int))
  obtain ⟨s8, hs8⟩ : ∃ s, s = ((x.natAbs : Int) * 2 ^ 2 - ((2 ^ (q + t) * 3 : Nat) : Int)).sign := ⟨_, rfl⟩
  rw [← hs8] at f8 g8
  rcases hc0 with ⟨⟨t4, hle⟩, rfl⟩ | ⟨hn, p, hp, op, pp, rfl⟩
  · refine ax_i Tryd.func53 Tryd.ntmps53 (by rw [Tryd.results53]) ?_; intro F hG hO
    rw [← hG] at f1 f2 f2' f3 f4 f5 f6 f7 f8
    repeat' ((try (conv => whnf)); first
  | ((with_reducible refine cg ?_); first | refine ceq f1 rfl ?_ | refine ceq f2 rfl ?_ | refine ceq f2' rfl ?_ | refine ceq f3 rfl ?_ | refine ceq f4 rfl ?_ | refine ceq f5 rfl ?_ | refine ceq f6 rfl ?_ | refine ceq f7 rfl ?_ | refine ceq f8 rfl ?_)
  
  | (with_reducible refine draw_t (id := 7) (.one 0 (.one 2 (.two (.one 1 (.two (.one 3 (.one 4 (.st (.one 5 (.fin))))) (.one 4 (.one 3 (.st (.one 5 (.fin))))))) (.one 4 (.one 1 (.one 3 (.st (.one 5 (.fin))))))))) tok mixed (by kernel_rfl) (by kernel_rfl) ?_)
  | (with_reducible refine draw_g (id := 8) [[0, 1, 3, 4, 7, 8, 2, 5, 6, 9], [10], [11]] tok mixed (by kernel_rfl) ?_)
  | with_reducible first | refine ax_s ?_ | refine BothG.mk ?_ ?_ | (refine ax_f ?_ ?_ <;> intro hc) | refine smk ?_ | fail)
    all_goals exact ⟨ret_l (.tup [ZI 0, ZI (scaS m (e + q))]) (.tup (.cons lp_zi0 (.cons (.refl _) .nil))) rfl⟩
  · have fp := t_pifloor (G := G) (q + t) hp
    rw [show ((q + t : Nat) : Int) = (q : Int) + (max 0 ((bl m.natAbs : Int) + e) + 4) by omega] at fp
    have lp := okN_L op
    have lpz : LZ (p : Int) = L32 p := rfl
    have f9 := r_mk (G := G) false p (by omega)
    have g1 := r_zshlN (G := G) x 1 (by omega) (by omega)
    rw [show x * 2 ^ 1 = x * 2 from rfl] at g1
    have g2 := r_zneardiv (G := G) (x * 2) (p : Int) (by omega) (by omega) (by omega)
    have lk := LZ_near (x * 2) (p : Int) (by omega)
    obtain ⟨k, hk⟩ : ∃ k, k = nearS (x * 2) (p : Int) := ⟨_, rfl⟩
    rw [← hk] at g2 lk
    have lkp := LZ_mul k (p : Int)
    have g3 := r_zmul (G := G) k (p : Int) (by omega) (by omega)
    have ls := LZ_add (x * 2) (-(k * (p : Int)))
    rw [LZ_neg, ← Int.sub_eq_add_neg] at ls
    have g4 := r_zsub (G := G) (x * 2) (k * (p : Int)) (by omega) (by omega)
    have g5 := r_zfshrN (G := G) (x * 2 - k * (p : Int)) (t + 1) (by omega) (by omega)
    rw [show ((t + 1 : Nat) : Int) = max 0 ((bl m.natAbs : Int) + e) + 4 + 1 by omega] at g5
    have hk2 : nearS (x * 2) (p : Int) = k := hk.symm
    refine ax_i Tryd.func53 Tryd.ntmps53 (by rw [Tryd.results53]) ?_; intro F hG hO
    rw [← hG] at f1 f2 f2' f3 f4 f5 f6 f7 f8 f9 fp g1 g2 g3 g4 g5
    repeat' ((try (conv => whnf)); first
  | ((with_reducible refine cg ?_); first | refine ceq f1 rfl ?_ | refine ceq f2 rfl ?_ | refine ceq f3 rfl ?_ | refine ceq f4 rfl ?_ | refine ceq f5 rfl ?_ | refine ceq f6 rfl ?_ | refine ceq f7 rfl ?_ | refine ceq f8 rfl ?_ | refine ceq fp rfl ?_ | refine ceq f9 rfl ?_ | refine ceq g1 rfl ?_ | refine ceq g2 rfl ?_ | refine ceq g3 rfl ?_ | refine ceq g4 rfl ?_ | refine ceq g5 rfl ?_)
  
  | (with_reducible refine draw_t (id := 7) (.one 0 (.one 2 (.two (.one 1 (.two (.one 3 (.one 4 (.st (.one 5 (.fin))))) (.one 4 (.one 3 (.st (.one 5 (.fin))))))) (.one 4 (.one 1 (.one 3 (.st (.one 5 (.fin))))))))) tok mixed (by kernel_rfl) (by kernel_rfl) ?_)
  | (with_reducible refine draw_g (id := 8) [[0, 1, 3, 4, 7, 8, 2, 5, 6, 9], [10], [11]] tok mixed (by kernel_rfl) ?_)
  | with_reducible first | refine ax_s ?_ | refine BothG.mk ?_ ?_ | (refine ax_f ?_ ?_ <;> intro hc) | refine smk ?_ | fail)
    all_goals exact ⟨ret_e (tup_zi hk (by rw [hk2]))⟩
def enV (sine : Bool) (u : Int × Int) : Int := if sine then u.1 else u.2
theorem en_step {sine : Bool} {m e : Int} {p f q : Nat} {r : Int × Int × Nat} (h : enL sine m e p f q = some r) : ∃ f', f = f' + 1 ∧ ∃ k s : Int × Int, rsS m e q = some k ∧ scS k.2 q = some s ∧ okZ k.1 ∧ okZ k.2 ∧ okZ s.1 ∧ okZ s.2 ∧
    (Unit → (thinS (enV sine (rotS (k.1 % 4).toNat s.1 s.2) - 8) (enV sine (rotS (k.1 % 4).toNat s.1 s.2) + 8) p = true → r = (enV sine (rotS (k.1 % 4).toNat s.1 s.2) - 8, enV sine (rotS (k.1 % 4).toNat s.1 s.2) + 8, q)) ∧ (thinS (enV sine (rotS (k.1 % 4).toNat s.1 s.2) - 8) (enV sine (rotS (k.1 % 4).toNat s.1 s.2) + 8) p = false → enL sine m e p f' (q + q / 2 + 64) = some r)) := by
  cases f with
  | zero => cases h
  | succ f =>
    rw [enL] at h
    obtain ⟨k, hk, h⟩ := Option.bind_eq_some_iff.1 h
    obtain ⟨s, hs, h⟩ := Option.bind_eq_some_iff.1 h
    by_cases ho : okZ k.1 ∧ okZ k.2 ∧ okZ s.1 ∧ okZ s.2
    · rw [if_pos ho] at h
      dsimp only at h
      refine ⟨f, rfl, k, s, hk, hs, ho.1, ho.2.1, ho.2.2.1, ho.2.2.2, fun _ => ⟨fun e1 => ?_, fun e1 => ?_⟩⟩
      · unfold enV at e1 ⊢
        rw [if_pos e1] at h
        exact (Option.some.inj h).symm
      · unfold enV at e1
        rw [if_neg (fun h2 => by rw [e1] at h2; cases h2)] at h
        exact h
    · rw [if_neg ho] at h; cases h
theorem rot_step {n : Nat} {s c : Int} (h : 0 < n) : rotS (n - 1) c (-s) = rotS n s c := by
  cases n with
  | zero => omega
  | succ n => rfl
theorem rs_q {m e : Int} {q : Nat} {r : Int × Int} (h : rsS m e q = some r) : q ≤ 3000 := (rs_step h).1.2.2.2
theorem t_encS (m e : Int) (p : Nat) {r : Int × Int × Nat} (h : enS true m e p = some r) : FC Tryd.prog G 44 [.val (.int .i64 1), ZI m, .val (.int .i64 e), .val (.int .i64 (p : Int))] (· = NR r.1 r.2.1 (r.2.2 : Int)) := by
  unfold enS at h
  by_cases hb : okZ m ∧ -2000 ≤ e ∧ e ≤ 2000 ∧ p ≤ 2000
  · rw [if_pos hb] at h
    obtain ⟨om, e1, e2, hp⟩ := hb
    have lm := okZ_L om
    have hbl := bl_L32' m
    have f1 := r_bits (G := G) m.natAbs (by unfold LZ at lm; omega)
    have f2 := r_of (G := G) 4 (by dsimp only [inR]; omega)
    obtain ⟨q0, hq0⟩ : ∃ q0 : Nat, q0 = p + 80 + (max 0 (-((bl m.natAbs : Int) + e))).toNat := ⟨_, rfl⟩
    rw [← hq0] at h
    refine ax_i Tryd.func44 Tryd.ntmps44 (by rw [Tryd.results44]) ?_; intro F hG hO
    rw [← hG] at f1 f2
    repeat' ((try (conv => whnf)); first
  | ((with_reducible refine cg ?_); first | refine ceq f1 rfl ?_ | refine ceq f2 rfl ?_)
  | ((with_reducible refine lg ?_); refine loop_g (A := Nat × Nat) (fun (f, q) => enL true m e p f q = some r) (fun (f, q) => f) (fun (f, q) => [(0, .val (.int .i64 1)), (2, .val (.int .i64 e)), (3, .val (.int .i64 (p : Int))), (5, .ptr 0 0), (8, .ptr 1 0), (10, .val (.int .i64 (q : Int)))]) (fun (f, q) => [[.val (.bool (decide (m < 0))), .ws .u32 (d32 (m).natAbs)], [.val (.bool false), .nil, .val (.bool false), .nil, .val (.int .i64 0)]]) (fun _ => []) (5, q0) tok (by rintro ⟨f, q⟩; (refine ⟨?_, ?_, ?_⟩ <;> simp [inS, inBB, inBL, inB, hO])) ?_ ⟨rfl, rfl, rfl, rfl, rfl, iv_eq (by first | omega | (dsimp only; omega)), trivial⟩ ⟨_, rfl⟩ ⟨[], rfl⟩ ?_; rotate_left; rintro ⟨f, q⟩ h1; obtain ⟨f', rfl, k, s, hk, hs, o1, o2, o3, o4, hU⟩ := en_step h1; have lk := okZ_L o1; have ls := okZ_L o3; have lc := okZ_L o4; have hq := rs_q hk; have v1 := t_rest (G := F.G) m e q hk; have v2 := t_sincos (G := F.G) k.2 q hs; have v3 := r_zmod4 (G := F.G) k.1 (by omega); have v4 := r_zint (G := F.G) (k.1 % 4) (by omega); obtain ⟨τ, hτ⟩ : ∃ τ : Nat, τ = (k.1 % 4).toNat := ⟨_, rfl⟩; rw [← hτ] at hU)
  | ((with_reducible refine cg ?_); first | refine ceq v1 rfl ?_ | refine ceq v2 rfl ?_ | refine ceq v3 rfl ?_ | refine ceq v4 rfl ?_)
  | ((with_reducible refine lg ?_); refine loop_g (A := Nat × Int × Int) (fun (n, s2, c2) => rotS n s2 c2 = rotS τ s.1 s.2 ∧ n ≤ τ ∧ LZ s2 ≤ 62 ∧ LZ c2 ≤ 62) (fun (n, s2, c2) => n) (fun (n, s2, c2) => [(0, .val (.int .i64 1)), (2, .val (.int .i64 e)), (3, .val (.int .i64 (p : Int))), (5, .ptr 0 0), (8, .ptr 1 0), (10, .val (.int .i64 (q : Int))), (13, .ptr 4 0), (14, .ptr 5 0), (57, .val (.int .i64 (k.1 % 4))), (58, .val (.int .i64 ((k.1 % 4) - (n : Int))))]) (fun (n, s2, c2) => [[.val (.bool (decide (m < 0))), .ws .u32 (d32 (m).natAbs)], [.val (.bool false), .nil, .val (.bool false), .nil, .val (.int .i64 0)], [.val (.bool (decide (k.1 < 0))), .ws .u32 (d32 (k.1).natAbs)], [.val (.bool (decide (k.2 < 0))), .ws .u32 (d32 (k.2).natAbs)], [.val (.bool (decide (s2 < 0))), .ws .u32 (d32 (s2).natAbs)], [.val (.bool (decide (c2 < 0))), .ws .u32 (d32 (c2).natAbs)], [.val (.bool (decide (k.1 % 4 < 0))), .ws .u32 (d32 (k.1 % 4).natAbs)]]) (fun _ => []) (τ, s.1, s.2) tok (by rintro ⟨n, s2, c2⟩; (refine ⟨?_, ?_, ?_⟩ <;> simp [inS, inBB, inBL, inB, hO])) ?_ ⟨rfl, rfl, rfl, rfl, rfl, rfl, rfl, rfl, rfl, iv_eq (by first | omega | (dsimp only; omega)), trivial⟩ ⟨_, rfl⟩ ⟨_, rfl⟩ ?_; rotate_left; rintro ⟨n, s2, c2⟩ ⟨n1, n2, n3, n4⟩; have l8 : LZ 8 ≤ 1 := L32_le (by decide); have a1 := LZ_add s2 8; have a2 := LZ_add s2 (-8); have w1 := r_flip (G := F.G) s2 (by omega); have w2 := t_around (G := F.G) s2 8 (q : Int) (by omega) (by omega); have w3 := t_around (G := F.G) c2 8 (q : Int) (by omega) (by omega); have w4 := t_thin (G := F.G) (s2 - 8) (s2 + 8) (q : Int) p (by rw [Int.sub_eq_add_neg]; have : LZ (-8) = LZ 8 := LZ_neg 8; omega) (by omega) (by omega))
  | ((with_reducible refine cg ?_); first | refine ceq w1 rfl ?_ | refine ceq w2 rfl ?_ | refine ceq w3 rfl ?_ | refine ceq w4 rfl ?_)
  
  | (with_reducible refine draw_t (id := 6) (.one 0 (.two (.one 1 (.two (.one 2 (.one 3 (.st (.one 4 (.fin))))) (.one 3 (.one 2 (.st (.one 4 (.fin))))))) (.one 3 (.one 1 (.one 2 (.st (.one 4 (.fin)))))))) tok mixed (by kernel_rfl) (by kernel_rfl) ?_)
  | (with_reducible refine draw_g (id := 10) [[0, 1, 2], [3], [4]] tok mixed (by kernel_rfl) ?_)
  | with_reducible first | refine ax_s ?_ | refine BothG.mk ?_ ?_ | (refine ax_f ?_ ?_ <;> intro hc) | refine smk ?_ | fail)
    all_goals first
      | exact ⟨again (n - 1, c2, -s2) ⟨(rot_step (by omega)).trans n1, by omega, n4, by rw [LZ_neg]; exact n3⟩ (by dsimp only; omega) ⟨rfl, rfl, rfl, rfl, rfl, rfl, rfl, rfl, rfl, iv_eq (by omega), trivial⟩ ⟨_, rfl⟩ ⟨_, rfl⟩⟩
      | (have hn : n = 0 := (by omega); subst hn; rw [← n1] at hU; obtain rfl := (hU ()).1 (by assumption); exact ⟨ret_e rfl⟩)
      | (have hn : n = 0 := (by omega); subst hn; rw [← n1] at hU; exact ⟨again (f', q + q / 2 + 64) ((hU ()).2 (by assumption)) (by dsimp only; omega) ⟨rfl, rfl, rfl, rfl, rfl, iv_eq (by omega), trivial⟩ ⟨_, rfl⟩ ⟨[], rfl⟩⟩)
      | exact ⟨rfl, Nat.le_refl _, ls, lc⟩
      | exact h
  · rw [if_neg hb] at h; cases h
theorem t_encC (m e : Int) (p : Nat) {r : Int × Int × Nat} (h : enS false m e p = some r) : FC Tryd.prog G 44 [.val (.int .i64 2), ZI m, .val (.int .i64 e), .val (.int .i64 (p : Int))] (· = NR r.1 r.2.1 (r.2.2 : Int)) := by
  unfold enS at h
  by_cases hb : okZ m ∧ -2000 ≤ e ∧ e ≤ 2000 ∧ p ≤ 2000
  · rw [if_pos hb] at h
    obtain ⟨om, e1, e2, hp⟩ := hb
    have lm := okZ_L om
    have hbl := bl_L32' m
    have f1 := r_bits (G := G) m.natAbs (by unfold LZ at lm; omega)
    have f2 := r_of (G := G) 4 (by dsimp only [inR]; omega)
    obtain ⟨q0, hq0⟩ : ∃ q0 : Nat, q0 = p + 80 + (max 0 (-((bl m.natAbs : Int) + e))).toNat := ⟨_, rfl⟩
    rw [← hq0] at h
    refine ax_i Tryd.func44 Tryd.ntmps44 (by rw [Tryd.results44]) ?_; intro F hG hO
    rw [← hG] at f1 f2
    repeat' ((try (conv => whnf)); first
  | ((with_reducible refine cg ?_); first | refine ceq f1 rfl ?_ | refine ceq f2 rfl ?_)
  | ((with_reducible refine lg ?_); refine loop_g (A := Nat × Nat) (fun (f, q) => enL false m e p f q = some r) (fun (f, q) => f) (fun (f, q) => [(0, .val (.int .i64 2)), (2, .val (.int .i64 e)), (3, .val (.int .i64 (p : Int))), (5, .ptr 0 0), (8, .ptr 1 0), (10, .val (.int .i64 (q : Int)))]) (fun (f, q) => [[.val (.bool (decide (m < 0))), .ws .u32 (d32 (m).natAbs)], [.val (.bool false), .nil, .val (.bool false), .nil, .val (.int .i64 0)]]) (fun _ => []) (5, q0) tok (by rintro ⟨f, q⟩; (refine ⟨?_, ?_, ?_⟩ <;> simp [inS, inBB, inBL, inB, hO])) ?_ ⟨rfl, rfl, rfl, rfl, rfl, iv_eq (by first | omega | (dsimp only; omega)), trivial⟩ ⟨_, rfl⟩ ⟨[], rfl⟩ ?_; rotate_left; rintro ⟨f, q⟩ h1; obtain ⟨f', rfl, k, s, hk, hs, o1, o2, o3, o4, hU⟩ := en_step h1; have lk := okZ_L o1; have ls := okZ_L o3; have lc := okZ_L o4; have hq := rs_q hk; have v1 := t_rest (G := F.G) m e q hk; have v2 := t_sincos (G := F.G) k.2 q hs; have v3 := r_zmod4 (G := F.G) k.1 (by omega); have v4 := r_zint (G := F.G) (k.1 % 4) (by omega); obtain ⟨τ, hτ⟩ : ∃ τ : Nat, τ = (k.1 % 4).toNat := ⟨_, rfl⟩; rw [← hτ] at hU)
  | ((with_reducible refine cg ?_); first | refine ceq v1 rfl ?_ | refine ceq v2 rfl ?_ | refine ceq v3 rfl ?_ | refine ceq v4 rfl ?_)
  | ((with_reducible refine lg ?_); refine loop_g (A := Nat × Int × Int) (fun (n, s2, c2) => rotS n s2 c2 = rotS τ s.1 s.2 ∧ n ≤ τ ∧ LZ s2 ≤ 62 ∧ LZ c2 ≤ 62) (fun (n, s2, c2) => n) (fun (n, s2, c2) => [(0, .val (.int .i64 2)), (2, .val (.int .i64 e)), (3, .val (.int .i64 (p : Int))), (5, .ptr 0 0), (8, .ptr 1 0), (10, .val (.int .i64 (q : Int))), (13, .ptr 4 0), (14, .ptr 5 0), (57, .val (.int .i64 (k.1 % 4))), (58, .val (.int .i64 ((k.1 % 4) - (n : Int))))]) (fun (n, s2, c2) => [[.val (.bool (decide (m < 0))), .ws .u32 (d32 (m).natAbs)], [.val (.bool false), .nil, .val (.bool false), .nil, .val (.int .i64 0)], [.val (.bool (decide (k.1 < 0))), .ws .u32 (d32 (k.1).natAbs)], [.val (.bool (decide (k.2 < 0))), .ws .u32 (d32 (k.2).natAbs)], [.val (.bool (decide (s2 < 0))), .ws .u32 (d32 (s2).natAbs)], [.val (.bool (decide (c2 < 0))), .ws .u32 (d32 (c2).natAbs)], [.val (.bool (decide (k.1 % 4 < 0))), .ws .u32 (d32 (k.1 % 4).natAbs)]]) (fun _ => []) (τ, s.1, s.2) tok (by rintro ⟨n, s2, c2⟩; (refine ⟨?_, ?_, ?_⟩ <;> simp [inS, inBB, inBL, inB, hO])) ?_ ⟨rfl, rfl, rfl, rfl, rfl, rfl, rfl, rfl, rfl, iv_eq (by first | omega | (dsimp only; omega)), trivial⟩ ⟨_, rfl⟩ ⟨_, rfl⟩ ?_; rotate_left; rintro ⟨n, s2, c2⟩ ⟨n1, n2, n3, n4⟩; have l8 : LZ 8 ≤ 1 := L32_le (by decide); have a1 := LZ_add c2 8; have a2 := LZ_add c2 (-8); have w1 := r_flip (G := F.G) s2 (by omega); have w2 := t_around (G := F.G) s2 8 (q : Int) (by omega) (by omega); have w3 := t_around (G := F.G) c2 8 (q : Int) (by omega) (by omega); have w4 := t_thin (G := F.G) (c2 - 8) (c2 + 8) (q : Int) p (by rw [Int.sub_eq_add_neg]; have : LZ (-8) = LZ 8 := LZ_neg 8; omega) (by omega) (by omega))
  | ((with_reducible refine cg ?_); first | refine ceq w1 rfl ?_ | refine ceq w2 rfl ?_ | refine ceq w3 rfl ?_ | refine ceq w4 rfl ?_)
  
  | (with_reducible refine draw_t (id := 6) (.one 0 (.two (.one 1 (.two (.one 2 (.one 3 (.st (.one 4 (.fin))))) (.one 3 (.one 2 (.st (.one 4 (.fin))))))) (.one 3 (.one 1 (.one 2 (.st (.one 4 (.fin)))))))) tok mixed (by kernel_rfl) (by kernel_rfl) ?_)
  | (with_reducible refine draw_g (id := 10) [[0, 1, 2], [3], [4]] tok mixed (by kernel_rfl) ?_)
  | with_reducible first | refine ax_s ?_ | refine BothG.mk ?_ ?_ | (refine ax_f ?_ ?_ <;> intro hc) | refine smk ?_ | fail)
    all_goals first
      | exact ⟨again (n - 1, c2, -s2) ⟨(rot_step (by omega)).trans n1, by omega, n4, by rw [LZ_neg]; exact n3⟩ (by dsimp only; omega) ⟨rfl, rfl, rfl, rfl, rfl, rfl, rfl, rfl, rfl, iv_eq (by omega), trivial⟩ ⟨_, rfl⟩ ⟨_, rfl⟩⟩
      | (have hn : n = 0 := (by omega); subst hn; rw [← n1] at hU; obtain rfl := (hU ()).1 (by assumption); exact ⟨ret_e rfl⟩)
      | (have hn : n = 0 := (by omega); subst hn; rw [← n1] at hU; exact ⟨again (f', q + q / 2 + 64) ((hU ()).2 (by assumption)) (by dsimp only; omega) ⟨rfl, rfl, rfl, rfl, rfl, iv_eq (by omega), trivial⟩ ⟨_, rfl⟩ ⟨[], rfl⟩⟩)
      | exact ⟨rfl, Nat.le_refl _, ls, lc⟩
      | exact h
  · rw [if_neg hb] at h; cases h
def fnI (sine : Bool) : Int := if sine then 1 else 2
theorem t_of (sine : Bool) (m e : Int) (p : Nat) {r : Int × Int × Nat} (h : enS sine m e p = some r) : FC Tryd.prog G 26 [.val (.int .i64 (fnI sine)), ZI m, .val (.int .i64 e), .val (.int .i64 (p : Int))] (· = NR r.1 r.2.1 (r.2.2 : Int)) := by
  have f : FC Tryd.prog G 44 [.val (.int .i64 (fnI sine)), ZI m, .val (.int .i64 e), .val (.int .i64 (p : Int))] (· = NR r.1 r.2.1 (r.2.2 : Int)) := by
    cases sine
    · exact t_encC m e p h
    · exact t_encS m e p h
  refine ax_i Tryd.func26 Tryd.ntmps26 (by rw [Tryd.results26]) ?_; intro F hG hO
  rw [← hG] at f
  repeat' ((try (conv => whnf)); first
  | ((with_reducible refine cg ?_); first | refine ceq f rfl ?_)
  
  | with_reducible first | refine ax_s ?_ | refine BothG.mk ?_ ?_ | (refine ax_f ?_ ?_ <;> intro hc) | refine smk ?_ | fail)
  all_goals exact ⟨ret_e rfl⟩
def FD : PV := .agg [.val (.int .u64 9223372036854775808), .val (.int .i64 53), .val (.int .i64 (-1074)), .val (.int .i64 971), .val (.int .u64 9218868437227405312), .val (.int .u64 9221120237041090561)]
theorem t_form : FC Tryd.prog G 32 [.val (.int .i64 64)] (· = .tup [FD, .val (.bool true)]) := by
  refine ax_i Tryd.func32 Tryd.ntmps32 (by rw [Tryd.results32]) ?_; intro F hG hO
  repeat' ((try (conv => whnf)); first
  
  | with_reducible first | refine ax_s ?_ | refine BothG.mk ?_ ?_ | (refine ax_f ?_ ?_ <;> intro hc) | refine smk ?_ | fail)
  all_goals exact ⟨ret_e rfl⟩
theorem tup_ui {a b c d : Int} (h1 : a = c) (h2 : b = d) : PV.tup [.val (.int .u64 a), .val (.int .i64 b)] = .tup [.val (.int .u64 c), .val (.int .i64 d)] := by rw [h1, h2]
theorem prS_lt {s : Nat} (h : s < 18446744073709551616) : (prS s).1 < 9007199254740992 ∧ -1074 ≤ (prS s).2 ∧ (prS s).2 ≤ 4096 := by
  unfold prS
  split
  · dsimp only; omega
  · dsimp only; omega
theorem bl_L32 (x : Nat) : bl x ≤ 32 * L32 x := bl_le (L32_lt x)
theorem t_parts (s : Nat) (h : s < 18446744073709551616) : FC Tryd.prog G 34 [FD, .val (.int .u64 s)] (· = .tup [.val (.int .u64 (prS s).1), .val (.int .i64 (prS s).2)]) := by
  unfold FD
  obtain ⟨z, hz⟩ : ∃ z : Int, z = (s : Int) := ⟨_, rfl⟩
  rw [← hz]
  by_cases h0 : s / 4503599627370496 = 0
  · have e : prS s = (s % 4503599627370496, -1074) := if_pos h0
    rw [e]
    refine ax_i Tryd.func34 Tryd.ntmps34 (by rw [Tryd.results34]) ?_; intro F hG hO
    repeat' ((try (conv => whnf)); first
  | (with_reducible refine shl_g (m := 4503599627370496) 52 (by decide) (by decide) (by decide +kernel) (by dsimp only [inR]; omega) ?_)
  
  | (with_reducible refine draw_g (id := 2) [[0, 1, 2, 3, 4, 5, 6, 7]] tok mixed (by kernel_rfl) ?_)
  | (with_reducible refine draw_g (id := 4) [[0, 1, 2, 3, 4]] tok mixed (by kernel_rfl) ?_)
  | (with_reducible refine draw_g (id := 5) [[0, 1, 2, 3, 4, 5, 6, 7, 8, 9, 10]] tok mixed (by kernel_rfl) ?_)
  | with_reducible first | refine ax_s ?_ | refine BothG.mk ?_ ?_ | (refine ax_f ?_ ?_ <;> intro hc) | refine smk ?_ | fail)
    all_goals exact ⟨ret_e (tup_ui (by omega) rfl)⟩
  · have e : prS s = (4503599627370496 + s % 4503599627370496, -1074 + ((s / 4503599627370496 : Nat) : Int) - 1) := if_neg h0
    rw [e]
    refine ax_i Tryd.func34 Tryd.ntmps34 (by rw [Tryd.results34]) ?_; intro F hG hO
    repeat' ((try (conv => whnf)); first
  | (with_reducible refine shl_g (m := 4503599627370496) 52 (by decide) (by decide) (by decide +kernel) (by dsimp only [inR]; omega) ?_)
  
  | (with_reducible refine draw_g (id := 2) [[0, 1, 2, 3, 4, 5, 6, 7]] tok mixed (by kernel_rfl) ?_)
  | (with_reducible refine draw_g (id := 4) [[0, 1, 2, 3, 4]] tok mixed (by kernel_rfl) ?_)
  | (with_reducible refine draw_g (id := 5) [[0, 1, 2, 3, 4, 5, 6, 7, 8, 9, 10]] tok mixed (by kernel_rfl) ?_)
  | with_reducible first | refine ax_s ?_ | refine BothG.mk ?_ ?_ | (refine ax_f ?_ ?_ <;> intro hc) | refine smk ?_ | fail)
    all_goals exact ⟨ret_e (tup_ui (by omega) (by omega))⟩
theorem ord_sh {a b : Nat} {e f : Int} (ha : L32 a ≤ 1048576) (hb : L32 b ≤ 1048576) (h1 : ¬ (bl a : Int) + e < bl b + f) (h2 : ¬ (bl b : Int) + f < bl a + e) : e - min e f ≤ 33554432 ∧ f - min e f ≤ 33554432 ∧ 0 ≤ e - min e f ∧ 0 ≤ f - min e f := by
  have := bl_L32 a
  have := bl_L32 b
  omega
theorem t_order (a b : Nat) (e f : Int) (ha : L32 a ≤ 1048576) (hb : L32 b ≤ 1048576) (he : -1073741824 ≤ e ∧ e ≤ 1073741824) (hf : -1073741824 ≤ f ∧ f ≤ 1073741824) : FC Tryd.prog G 75 [D a, .val (.int .i64 e), D b, .val (.int .i64 f)] (· = .val (.int .i64 (ordS a e b f))) := by
  have b1 := bl_L32 a
  have b2 := bl_L32 b
  have f1 := r_bits (G := G) a (by omega)
  have f2 := r_bits (G := G) b (by omega)
  unfold ordS
  by_cases h1 : (bl a : Int) + e < bl b + f
  · rw [if_pos h1]
    refine ax_i Tryd.func75 Tryd.ntmps75 (by rw [Tryd.results75]) ?_; intro F hG hO
    rw [← hG] at f1 f2
    repeat' ((try (conv => whnf)); first
  | ((with_reducible refine cg ?_); first | refine ceq f1 rfl ?_ | refine ceq f2 rfl ?_)
  
  | with_reducible first | refine ax_s ?_ | refine BothG.mk ?_ ?_ | (refine ax_f ?_ ?_ <;> intro hc) | refine smk ?_ | fail)
    all_goals exact ⟨ret_e rfl⟩
  · rw [if_neg h1]
    by_cases h2 : (bl b : Int) + f < bl a + e
    · rw [if_pos h2]
      refine ax_i Tryd.func75 Tryd.ntmps75 (by rw [Tryd.results75]) ?_; intro F hG hO
      rw [← hG] at f1 f2
      repeat' ((try (conv => whnf)); first
  | ((with_reducible refine cg ?_); first | refine ceq f1 rfl ?_ | refine ceq f2 rfl ?_)
  
  | with_reducible first | refine ax_s ?_ | refine BothG.mk ?_ ?_ | (refine ax_f ?_ ?_ <;> intro hc) | refine smk ?_ | fail)
      all_goals exact ⟨ret_e rfl⟩
    · rw [if_neg h2]
      obtain ⟨m1, m2, m3, m4⟩ := ord_sh ha hb h1 h2
      have l1 := L32_shl a (e - min e f).toNat
      have l2 := L32_shl b (f - min e f).toNat
      have f3 := r_shl (G := G) a (e - min e f) (by omega) (by dsimp only [inR]; omega) (by omega)
      have f4 := r_shl (G := G) b (f - min e f) (by omega) (by dsimp only [inR]; omega) (by omega)
      have f5 := r_cmp (G := G) (a * 2 ^ (e - min e f).toNat) (b * 2 ^ (f - min e f).toNat) (by omega) (by omega)
      refine ax_i Tryd.func75 Tryd.ntmps75 (by rw [Tryd.results75]) ?_; intro F hG hO
      rw [← hG] at f1 f2 f3 f4 f5
      repeat' ((try (conv => whnf)); first
  | ((with_reducible refine cg ?_); first | refine ceq f1 rfl ?_ | refine ceq f2 rfl ?_ | refine ceq f3 rfl ?_ | refine ceq f4 rfl ?_ | refine ceq f5 rfl ?_)
  
  | with_reducible first | refine ax_s ?_ | refine BothG.mk ?_ ?_ | (refine ax_f ?_ ?_ <;> intro hc) | refine smk ?_ | fail)
      all_goals exact ⟨ret_e rfl⟩
def RL (num den : Nat) (ve : Int) : PV := .agg [D num, D den, .val (.int .i64 ve), .val (.bool false)]
theorem t_hold (num den m : Nat) (ve e : Int) (hn : L32 num ≤ 1048576) (hd : L32 den ≤ 1024) (hm : L32 m ≤ 1024) (hv : -1073741824 ≤ ve ∧ ve ≤ 1073741824) (he : -1073741824 ≤ e ∧ e ≤ 1073741824) : FC Tryd.prog G 59 [RL num den ve, D m, .val (.int .i64 e)] (· = .val (.int .i64 (hoS num den ve m e))) := by
  have hl := len_pos m
  have l1 := L32_mul m den
  have f1 := r_mul (G := G) m den (by omega) (by omega)
  have f2 := t_order (G := G) (m * den) num e ve (by omega) hn he hv
  unfold RL hoS
  by_cases h0 : m = 0
  · rw [if_pos h0]
    refine ax_i Tryd.func59 Tryd.ntmps59 (by rw [Tryd.results59]) ?_; intro F hG hO
    repeat' ((try (conv => whnf)); first
  
  | (with_reducible refine draw_g (id := 5) [[0, 1, 2, 4, 5, 6, 7, 8, 3, 9, 10]] tok mixed (by kernel_rfl) ?_)
  | with_reducible first | refine ax_s ?_ | refine BothG.mk ?_ ?_ | (refine ax_f ?_ ?_ <;> intro hc) | refine smk ?_ | fail)
    all_goals exact ⟨ret_e rfl⟩
  · rw [if_neg h0]
    refine ax_i Tryd.func59 Tryd.ntmps59 (by rw [Tryd.results59]) ?_; intro F hG hO
    rw [← hG] at f1 f2
    repeat' ((try (conv => whnf)); first
  | ((with_reducible refine cg ?_); first | refine ceq f1 rfl ?_ | refine ceq f2 rfl ?_)
  
  | (with_reducible refine draw_g (id := 5) [[0, 1, 2, 4, 5, 6, 7, 8, 3, 9, 10]] tok mixed (by kernel_rfl) ?_)
  | with_reducible first | refine ax_s ?_ | refine BothG.mk ?_ ?_ | (refine ax_f ?_ ?_ <;> intro hc) | refine smk ?_ | fail)
    all_goals exact ⟨ret_e rfl⟩
end Go.Proofs.YtfnmlikgdfmcbaaDoor.Sim
