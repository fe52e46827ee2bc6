/-
  Lemmas of SintablePlacesCardSaid, part 9.
-/
import Derived.Test.YtfnmlikgdfmcbaaDoorPkSintablePlacesCardSaidH
import Derived.Test.YtfnmlikgdfmcbaaDoorProg
namespace Go.Proofs.YtfnmlikgdfmcbaaDoor.Sim
set_option maxRecDepth 100000
def TT : List TI := [⟨2, .int .i64, 1, 8, [.val (.int .i64 0)]⟩, ⟨3, .int .i64, 1, 8, [.val (.int .i64 0)]⟩, ⟨4, .bool, 1, 1, [.val (.bool false)]⟩, ⟨5, .int .u8, 1, 1, [.val (.int .u8 0)]⟩, ⟨12, .int .u64, 1, 8, [.val (.int .u64 0)]⟩, ⟨21, .int .i32, 1, 4, [.val (.int .i32 0)]⟩, ⟨22, .slice 3 1, 1, 24, [.nil]⟩, ⟨24, .flt .f64, 1, 8, [.val (.float .f64 0)]⟩, ⟨25, .str [(24, 0, 1), (24, 1, 1)], 2, 16, [.val (.float .f64 0), .val (.float .f64 0)]⟩, ⟨26, .str [(24, 0, 1), (24, 1, 1)], 2, 16, [.val (.float .f64 0), .val (.float .f64 0)]⟩, ⟨27, .int .i64, 1, 8, [.val (.int .i64 0)]⟩, ⟨30, .int .u64, 1, 8, [.val (.int .u64 0)]⟩, ⟨31, .str [(30, 0, 1), (30, 1, 1), (30, 2, 1), (30, 3, 1)], 4, 32, [.val (.int .u64 0), .val (.int .u64 0), .val (.int .u64 0), .val (.int .u64 0)]⟩, ⟨32, .str [(30, 0, 1), (30, 1, 1), (30, 2, 1), (30, 3, 1)], 4, 32, [.val (.int .u64 0), .val (.int .u64 0), .val (.int .u64 0), .val (.int .u64 0)]⟩, ⟨37, .slice 30 1, 1, 24, [.nil]⟩, ⟨45, .arr 53 30 1, 53, 424, [.val (.int .u64 0), .val (.int .u64 0), .val (.int .u64 0), .val (.int .u64 0), .val (.int .u64 0), .val (.int .u64 0), .val (.int .u64 0), .val (.int .u64 0), .val (.int .u64 0), .val (.int .u64 0), .val (.int .u64 0), .val (.int .u64 0), .val (.int .u64 0), .val (.int .u64 0), .val (.int .u64 0), .val (.int .u64 0), .val (.int .u64 0), .val (.int .u64 0), .val (.int .u64 0), .val (.int .u64 0), .val (.int .u64 0), .val (.int .u64 0), .val (.int .u64 0), .val (.int .u64 0), .val (.int .u64 0), .val (.int .u64 0), .val (.int .u64 0), .val (.int .u64 0), .val (.int .u64 0), .val (.int .u64 0), .val (.int .u64 0), .val (.int .u64 0), .val (.int .u64 0), .val (.int .u64 0), .val (.int .u64 0), .val (.int .u64 0), .val (.int .u64 0), .val (.int .u64 0), .val (.int .u64 0), .val (.int .u64 0), .val (.int .u64 0), .val (.int .u64 0), .val (.int .u64 0), .val (.int .u64 0), .val (.int .u64 0), .val (.int .u64 0), .val (.int .u64 0), .val (.int .u64 0), .val (.int .u64 0), .val (.int .u64 0), .val (.int .u64 0), .val (.int .u64 0), .val (.int .u64 0)]⟩, ⟨52, .slice 90 1, 1, 24, [.nil]⟩, ⟨53, .str [(4, 0, 1), (52, 1, 1)], 2, 32, [.val (.bool false), .nil]⟩, ⟨54, .str [(4, 0, 1), (52, 1, 1)], 2, 32, [.val (.bool false), .nil]⟩, ⟨62, .str [(54, 0, 2), (54, 2, 2), (3, 4, 1)], 5, 72, [.val (.bool false), .nil, .val (.bool false), .nil, .val (.int .i64 0)]⟩, ⟨63, .str [(54, 0, 2), (54, 2, 2), (3, 4, 1)], 5, 72, [.val (.bool false), .nil, .val (.bool false), .nil, .val (.int .i64 0)]⟩, ⟨67, .int .i64, 1, 8, [.val (.int .i64 0)]⟩, ⟨68, .str [(30, 0, 1), (3, 1, 1), (3, 2, 1), (3, 3, 1), (30, 4, 1), (30, 5, 1)], 6, 48, [.val (.int .u64 0), .val (.int .i64 0), .val (.int .i64 0), .val (.int .i64 0), .val (.int .u64 0), .val (.int .u64 0)]⟩, ⟨69, .str [(30, 0, 1), (3, 1, 1), (3, 2, 1), (3, 3, 1), (30, 4, 1), (30, 5, 1)], 6, 48, [.val (.int .u64 0), .val (.int .i64 0), .val (.int .i64 0), .val (.int .i64 0), .val (.int .u64 0), .val (.int .u64 0)]⟩, ⟨85, .str [(52, 0, 1), (52, 1, 1), (3, 2, 1), (4, 3, 1)], 4, 64, [.nil, .nil, .val (.int .i64 0), .val (.bool false)]⟩, ⟨86, .str [(52, 0, 1), (52, 1, 1), (3, 2, 1), (4, 3, 1)], 4, 64, [.nil, .nil, .val (.int .i64 0), .val (.bool false)]⟩, ⟨90, .int .u32, 1, 4, [.val (.int .u32 0)]⟩, ⟨91, .int .u64, 1, 8, [.val (.int .u64 0)]⟩]
theorem tok : TOk Tryd.prog TT := ⟨⟨by kernel_rfl, by kernel_rfl, by kernel_rfl, by kernel_rfl, (show Tryd.prog.underlying 2 = some (.int .i64) by kernel_rfl)⟩, ⟨by kernel_rfl, by kernel_rfl, by kernel_rfl, by kernel_rfl, (show Tryd.prog.underlying 3 = some (.int .i64) by kernel_rfl)⟩, ⟨by kernel_rfl, by kernel_rfl, by kernel_rfl, by kernel_rfl, (show Tryd.prog.underlying 4 = some .bool by kernel_rfl)⟩, ⟨by kernel_rfl, by kernel_rfl, by kernel_rfl, by kernel_rfl, (show Tryd.prog.underlying 5 = some (.int .u8) by kernel_rfl)⟩, ⟨by kernel_rfl, by kernel_rfl, by kernel_rfl, by kernel_rfl, (show Tryd.prog.underlying 12 = some (.int .u64) by kernel_rfl)⟩, ⟨by kernel_rfl, by kernel_rfl, by kernel_rfl, by kernel_rfl, (show Tryd.prog.underlying 21 = some (.int .i32) by kernel_rfl)⟩, ⟨by kernel_rfl, by kernel_rfl, by kernel_rfl, by kernel_rfl, (show elT Tryd.prog 22 = some (3, 1) by kernel_rfl)⟩, ⟨by kernel_rfl, by kernel_rfl, by kernel_rfl, by kernel_rfl, (show Tryd.prog.underlying 24 = some (.float .f64) by kernel_rfl)⟩, ⟨by kernel_rfl, by kernel_rfl, by kernel_rfl, by kernel_rfl, (show strT Tryd.prog 25 = some [(24, 0, 1), (24, 1, 1)] by kernel_rfl)⟩, ⟨by kernel_rfl, by kernel_rfl, by kernel_rfl, by kernel_rfl, (show strT Tryd.prog 26 = some [(24, 0, 1), (24, 1, 1)] by kernel_rfl)⟩, ⟨by kernel_rfl, by kernel_rfl, by kernel_rfl, by kernel_rfl, (show Tryd.prog.underlying 27 = some (.int .i64) by kernel_rfl)⟩, ⟨by kernel_rfl, by kernel_rfl, by kernel_rfl, by kernel_rfl, (show Tryd.prog.underlying 30 = some (.int .u64) by kernel_rfl)⟩, ⟨by kernel_rfl, by kernel_rfl, by kernel_rfl, by kernel_rfl, (show strT Tryd.prog 31 = some [(30, 0, 1), (30, 1, 1), (30, 2, 1), (30, 3, 1)] by kernel_rfl)⟩, ⟨by kernel_rfl, by kernel_rfl, by kernel_rfl, by kernel_rfl, (show strT Tryd.prog 32 = some [(30, 0, 1), (30, 1, 1), (30, 2, 1), (30, 3, 1)] by kernel_rfl)⟩, ⟨by kernel_rfl, by kernel_rfl, by kernel_rfl, by kernel_rfl, (show elT Tryd.prog 37 = some (30, 1) by kernel_rfl)⟩, ⟨by kernel_rfl, by kernel_rfl, by kernel_rfl, by kernel_rfl, (show arT Tryd.prog 45 = some (53, 30, 1) by kernel_rfl)⟩, ⟨by kernel_rfl, by kernel_rfl, by kernel_rfl, by kernel_rfl, (show elT Tryd.prog 52 = some (90, 1) by kernel_rfl)⟩, ⟨by kernel_rfl, by kernel_rfl, by kernel_rfl, by kernel_rfl, (show strT Tryd.prog 53 = some [(4, 0, 1), (52, 1, 1)] by kernel_rfl)⟩, ⟨by kernel_rfl, by kernel_rfl, by kernel_rfl, by kernel_rfl, (show strT Tryd.prog 54 = some [(4, 0, 1), (52, 1, 1)] by kernel_rfl)⟩, ⟨by kernel_rfl, by kernel_rfl, by kernel_rfl, by kernel_rfl, (show strT Tryd.prog 62 = some [(54, 0, 2), (54, 2, 2), (3, 4, 1)] by kernel_rfl)⟩, ⟨by kernel_rfl, by kernel_rfl, by kernel_rfl, by kernel_rfl, (show strT Tryd.prog 63 = some [(54, 0, 2), (54, 2, 2), (3, 4, 1)] by kernel_rfl)⟩, ⟨by kernel_rfl, by kernel_rfl, by kernel_rfl, by kernel_rfl, (show Tryd.prog.underlying 67 = some (.int .i64) by kernel_rfl)⟩, ⟨by kernel_rfl, by kernel_rfl, by kernel_rfl, by kernel_rfl, (show strT Tryd.prog 68 = some [(30, 0, 1), (3, 1, 1), (3, 2, 1), (3, 3, 1), (30, 4, 1), (30, 5, 1)] by kernel_rfl)⟩, ⟨by kernel_rfl, by kernel_rfl, by kernel_rfl, by kernel_rfl, (show strT Tryd.prog 69 = some [(30, 0, 1), (3, 1, 1), (3, 2, 1), (3, 3, 1), (30, 4, 1), (30, 5, 1)] by kernel_rfl)⟩, ⟨by kernel_rfl, by kernel_rfl, by kernel_rfl, by kernel_rfl, (show strT Tryd.prog 85 = some [(52, 0, 1), (52, 1, 1), (3, 2, 1), (4, 3, 1)] by kernel_rfl)⟩, ⟨by kernel_rfl, by kernel_rfl, by kernel_rfl, by kernel_rfl, (show strT Tryd.prog 86 = some [(52, 0, 1), (52, 1, 1), (3, 2, 1), (4, 3, 1)] by kernel_rfl)⟩, ⟨by kernel_rfl, by kernel_rfl, by kernel_rfl, by kernel_rfl, (show Tryd.prog.underlying 90 = some (.int .u32) by kernel_rfl)⟩, ⟨by kernel_rfl, by kernel_rfl, by kernel_rfl, by kernel_rfl, (show Tryd.prog.underlying 91 = some (.int .u64) by kernel_rfl)⟩, trivial⟩
theorem mixed : Tryd.prog.follows .mixedOrders = true := by kernel_rfl
def XX : List FuncId := [14, 10, 30, 76]
theorem ax_i {G : List (Nat × List Value)} {f : FuncId} {fn : Func} {cd : Code} {args : List PV} {Q : PV → Prop} {N : Nat} {rs : List ResultVar} (hf : Tryd.prog.funcs[f]? = some fn) (hN : fn.ntmps = N) (hrs : fn.results.toList = rs) (h : ∀ F : Fr, F.G = G → F.c0.ob.length = 0 → vC Tryd.prog F TT XX cd (vEnd TT rs Q) (vEnd TT rs Q) (fun _ _ => False) ⟨N, argT args, [], []⟩) (hb : fn.body = some cd := by exact rfl) (hc : callable Tryd.prog f = true := by kernel_rfl) (hn : Nat.ble args.length N = true := by exact rfl) : FC Tryd.prog G f args Q := FC.intro (X := XX) tok hf hb hN hrs hc hn h
set_option linter.unusedVariables false
set_option linter.unusedSimpArgs false
def vl (B : Int) : List Int → Int
  | [] => 0
  | x :: l => x + B * vl B l
def okD (B : Int) (l : List Int) : Prop := ∀ x ∈ l, 0 ≤ x ∧ x < B
def trim : List Int → List Int
  | [] => []
  | x :: l => match trim l with
    | [] => if x = 0 then [] else [x]
    | l => x :: l
def dgs (B n : Nat) : List Int := if h : n = 0 ∨ B ≤ 1 then [] else ((n % B : Nat) : Int) :: dgs B (n / B)
termination_by n
decreasing_by exact Nat.div_lt_self (by omega) (by omega)
theorem vl_append (B : Int) (l m : List Int) : vl B (l ++ m) = vl B l + B ^ l.length * vl B m := by
  induction l with
  | nil => simp [vl]
  | cons x l ih =>
    have e : B ^ (l.length + 1) * vl B m = B * (B ^ l.length * vl B m) := by rw [Int.pow_succ, Int.mul_comm (B ^ l.length) B, Int.mul_assoc]
    simp only [List.cons_append, vl, ih, List.length_cons, e, Int.mul_add, Int.add_assoc]
theorem vl_snoc (B : Int) (l : List Int) (x : Int) : vl B (l ++ [x]) = vl B l + B ^ l.length * x := by simp [vl_append, vl]
theorem take_succ_rd (a : List Int) (i : Nat) (h : i < a.length) : a.take (i + 1) = a.take i ++ [rd a i] := by
  rw [List.take_succ_eq_append_getElem h]
  simp [rd, List.getD_eq_getElem?_getD, h]
theorem vl_take_succ (B : Int) (a : List Int) (i : Nat) (h : i < a.length) : vl B (a.take (i + 1)) = vl B (a.take i) + B ^ i * rd a i := by
  rw [take_succ_rd a i h, vl_snoc]
  have : min i a.length = i := by omega
  simp [this]
theorem okD_nil (B : Int) : okD B [] := fun x h => by simp at h
theorem okD_cons {B x : Int} {l : List Int} : okD B (x :: l) ↔ (0 ≤ x ∧ x < B) ∧ okD B l := by simp [okD]
theorem okD_append {B : Int} {l m : List Int} : okD B (l ++ m) ↔ okD B l ∧ okD B m := by
  simp only [okD, List.mem_append]
  exact ⟨fun h => ⟨fun x hx => h x (.inl hx), fun x hx => h x (.inr hx)⟩, fun h x hx => hx.elim (h.1 x) (h.2 x)⟩
theorem okD.take {B : Int} {l : List Int} (h : okD B l) (n : Nat) : okD B (l.take n) := fun x hx => h x (List.mem_of_mem_take hx)
theorem okD.drop {B : Int} {l : List Int} (h : okD B l) (n : Nat) : okD B (l.drop n) := fun x hx => h x (List.mem_of_mem_drop hx)
theorem vl_nonneg {B : Int} (hB : 0 ≤ B) : ∀ {l : List Int}, okD B l → 0 ≤ vl B l
  | [], _ => Int.le_refl 0
  | x :: l, h => by
    have h1 := (okD_cons.1 h).1.1
    have h2 := vl_nonneg hB (okD_cons.1 h).2
    have h3 := Int.mul_nonneg hB h2
    simp only [vl]; omega
theorem vl_lt {B : Int} (hB : 0 < B) : ∀ {l : List Int}, okD B l → vl B l < B ^ l.length
  | [], _ => by simp [vl]
  | x :: l, h => by
    have h1 := (okD_cons.1 h).1.2
    have h2 := vl_lt hB (okD_cons.1 h).2
    have h3 : B * vl B l ≤ B * (B ^ l.length - 1) := Int.mul_le_mul_of_nonneg_left (by omega) (by omega)
    have e : B ^ (l.length + 1) = B * B ^ l.length := by rw [Int.pow_succ, Int.mul_comm]
    have e2 : B * (B ^ l.length - 1) = B * B ^ l.length - B := by rw [Int.mul_sub, Int.mul_one]
    simp only [vl, List.length_cons, e]; omega
theorem okD.trim {B : Int} : ∀ {l : List Int}, okD B l → okD B (trim l)
  | [], _ => okD_nil B
  | x :: l, h => by
    have ih := okD.trim (okD_cons.1 h).2
    simp only [Sim.trim]
    split
    · split
      · exact okD_nil B
      · exact okD_cons.2 ⟨(okD_cons.1 h).1, okD_nil B⟩
    · exact okD_cons.2 ⟨(okD_cons.1 h).1, ih⟩
theorem trim_dgs {B : Nat} (hB : 2 ≤ B) : ∀ {l : List Int}, okD B l → trim l = dgs B (vl B l).toNat
  | [], _ => by unfold dgs; simp [trim, vl]
  | x :: l, h => by
    obtain ⟨hx, hl⟩ := okD_cons.1 h
    have ih := trim_dgs hB hl
    have h0 := vl_nonneg (B := (B : Int)) (by omega) hl
    obtain ⟨n, hn⟩ : ∃ n : Nat, vl B l = n := ⟨(vl B l).toNat, by omega⟩
    obtain ⟨y, rfl⟩ : ∃ y : Nat, x = y := ⟨x.toNat, by omega⟩
    have hy : y < B := by omega
    have e : (vl B ((y : Int) :: l)).toNat = y + B * n := by
      simp only [vl, hn]
      have : ((y : Int) + (B : Int) * (n : Int)) = ((y + B * n : Nat) : Int) := by simp
      rw [this, Int.toNat_natCast]
    rw [e]
    rw [hn] at ih
    simp only [Int.toNat_natCast] at ih
    have hm : (y + B * n) % B = y := by rw [Nat.add_mul_mod_self_left, Nat.mod_eq_of_lt hy]
    have hd : (y + B * n) / B = n := by rw [Nat.add_mul_div_left _ _ (by omega), Nat.div_eq_of_lt hy, Nat.zero_add]
    simp only [trim]
    by_cases hz : y + B * n = 0
    · have hy0 : y = 0 := by omega
      have hn0 : n = 0 := by
        have h1 : B * n = 0 := by omega
        rcases Nat.mul_eq_zero.1 h1 with h | h <;> omega
      subst hy0 hn0
      have : dgs B 0 = [] := by unfold dgs; simp
      rw [ih, this]
      simp [this]
    · have hu : dgs B (y + B * n) = (y : Int) :: dgs B n := by
        rw [dgs, dif_neg (by omega), hm, hd]
      rw [hu, ih]
      split
      · rename_i h0'
        split
        · rename_i hy0
          have hy0 : y = 0 := by omega
          exfalso
          subst hy0
          have hnn : n ≠ 0 := by intro e; subst e; simp at hz
          rw [dgs, dif_neg (by omega)] at h0'
          cases h0'
        · rw [h0']
      · rfl
def d32 (n : Nat) : List Int := dgs 4294967296 n
def d64 (n : Nat) : List Int := dgs 18446744073709551616 n
theorem dgs_ok {B : Nat} (hB : 2 ≤ B) (n : Nat) : okD B (dgs B n) ∧ vl B (dgs B n) = n ∧ trim (dgs B n) = dgs B n := by
  induction n using Nat.strongRecOn with
  | _ n ih =>
    by_cases h0 : n = 0
    · subst h0
      have : dgs B 0 = [] := by unfold dgs; simp
      rw [this]; exact ⟨okD_nil _, rfl, rfl⟩
    · obtain ⟨h1, h2, h3⟩ := ih (n / B) (Nat.div_lt_self (by omega) (by omega))
      have e : dgs B n = ((n % B : Nat) : Int) :: dgs B (n / B) := by rw [dgs, dif_neg (by omega)]
      have hm := Nat.mod_lt n (show 0 < B by omega)
      have hok : okD B (dgs B n) := by rw [e]; exact okD_cons.2 ⟨by omega, h1⟩
      have hv : vl B (dgs B n) = n := by
        rw [e]; simp only [vl, h2]
        have := Nat.mod_add_div n B
        exact_mod_cast this
      refine ⟨hok, hv, ?_⟩
      rw [trim_dgs hB hok, hv]; simp
theorem rd_bd {B : Int} (hB : 0 < B) {a : List Int} (h : okD B a) (i : Int) : 0 ≤ rd a i ∧ rd a i < B := by
  unfold rd
  rw [List.getD_eq_getElem?_getD]
  cases hq : a[i.toNat]? with
  | none => simpa using hB
  | some x => exact h x (List.mem_of_getElem? hq)
theorem rd_out (a : List Int) (i : Nat) (h : a.length ≤ i) : rd a i = 0 := by simp [rd, List.getD_eq_getElem?_getD, h]
theorem vl_take_step (B : Int) (a : List Int) (i : Nat) : vl B (a.take (i + 1)) = vl B (a.take i) + B ^ i * rd a i := by
  by_cases h : i < a.length
  · exact vl_take_succ B a i h
  · rw [rd_out a i (by omega), List.take_of_length_le (by omega), List.take_of_length_le (by omega)]; simp
theorem d32_ok (n : Nat) : okD 4294967296 (d32 n) ∧ vl 4294967296 (d32 n) = n := ⟨(dgs_ok (B := 4294967296) (by decide) n).1, (dgs_ok (B := 4294967296) (by decide) n).2.1⟩
theorem sum_step {B vs d c2 T : Int} (i : Nat) (h : d + B * c2 = T) : vs + B ^ i * d + B ^ (i + 1) * c2 = vs + B ^ i * T := by
  rw [Int.pow_succ, Int.mul_assoc, Int.add_assoc, ← Int.mul_add, h]
theorem drop_rd (a : List Int) (i : Nat) (h : i < a.length) : a.drop i = rd a i :: a.drop (i + 1) := by
  rw [List.drop_eq_getElem_cons h]
  simp [rd, List.getD_eq_getElem?_getD, h]
theorem vl_split (B : Int) (a : List Int) (i : Nat) (h : i ≤ a.length) : vl B a = vl B (a.take i) + B ^ i * vl B (a.drop i) := by
  have := vl_append B (a.take i) (a.drop i)
  rw [List.take_append_drop] at this
  rw [this]; simp [Nat.min_eq_left h]
theorem vl_lt_of {B : Int} (hB : 0 < B) {a b : List Int} (oka : okD B a) (okb : okD B b) (hl : a.length = b.length) (i : Nat) (hi : i < a.length) (hd : a.drop (i + 1) = b.drop (i + 1)) (h : rd a i < rd b i) : vl B a < vl B b := by
  rw [vl_split B a i (by omega), vl_split B b i (by omega), drop_rd a i hi, drop_rd b i (by omega), hd]
  simp only [vl]
  have h1 := vl_lt hB (oka.take i)
  have h2 := vl_nonneg (Int.le_of_lt hB) (okb.take i)
  have hlen : (a.take i).length = i := by simp; omega
  rw [hlen] at h1
  have hp : 0 ≤ B ^ i := Int.pow_nonneg (Int.le_of_lt hB)
  have h3 : B ^ i * (rd a i + 1) ≤ B ^ i * rd b i := Int.mul_le_mul_of_nonneg_left (by omega) hp
  rw [Int.mul_add, Int.mul_one] at h3
  rw [Int.mul_add, Int.mul_add]
  omega
theorem dgs_len {B : Nat} (hB : 2 ≤ B) (n : Nat) : n < B ^ (dgs B n).length ∧ (n ≠ 0 → 0 < (dgs B n).length ∧ B ^ ((dgs B n).length - 1) ≤ n) := by
  induction n using Nat.strongRecOn with
  | _ n ih =>
    by_cases h0 : n = 0
    · subst h0
      have : dgs B 0 = [] := by unfold dgs; simp
      rw [this]; simp
    · obtain ⟨h1, h2⟩ := ih (n / B) (Nat.div_lt_self (by omega) (by omega))
      have e : dgs B n = ((n % B : Nat) : Int) :: dgs B (n / B) := by rw [dgs, dif_neg (by omega)]
      have hdm := Nat.div_add_mod n B
      have hm := Nat.mod_lt n (show 0 < B by omega)
      rw [e]
      simp only [List.length_cons, Nat.add_sub_cancel]
      refine ⟨?_, fun _ => ⟨Nat.succ_pos _, ?_⟩⟩
      · rw [Nat.pow_succ, Nat.mul_comm]
        have : B * (n / B + 1) ≤ B * B ^ (dgs B (n / B)).length := Nat.mul_le_mul_left _ h1
        rw [Nat.mul_add] at this; omega
      · by_cases hq : n / B = 0
        · have : dgs B (n / B) = [] := by rw [hq]; unfold dgs; simp
          rw [this]; simp; omega
        · obtain ⟨g1, g2⟩ := h2 hq
          have e2 : (dgs B (n / B)).length = (dgs B (n / B)).length - 1 + 1 := by omega
          rw [e2, Nat.pow_succ, Nat.mul_comm]
          have := Nat.mul_le_mul_left B g2
          omega
theorem dgs_lt {B : Nat} (hB : 2 ≤ B) {x y : Nat} (h : (dgs B x).length < (dgs B y).length) : x < y := by
  have h1 := (dgs_len hB x).1
  have hy : y ≠ 0 := by
    intro e
    subst e
    have : dgs B 0 = [] := by unfold dgs; simp
    rw [this] at h; simp at h
  obtain ⟨h2, h3⟩ := (dgs_len hB y).2 hy
  exact Nat.lt_of_lt_of_le h1 (Nat.le_trans (Nat.pow_le_pow_right (by omega) (by omega)) h3)
def lenB (B n : Nat) : Nat := (dgs B n).length
theorem lenB_le {B : Nat} (hB : 2 ≤ B) {x n : Nat} (h : x < B ^ n) : lenB B x ≤ n := by
  rcases Nat.lt_or_ge n (lenB B x) with h1 | h1
  · obtain ⟨_, h2⟩ := dgs_len hB x
    by_cases hx : x = 0
    · subst hx
      have : dgs B 0 = [] := by unfold dgs; simp
      simp [lenB, this] at h1
    · obtain ⟨h3, h4⟩ := h2 hx
      have h5 : B ^ n ≤ B ^ ((dgs B x).length - 1) := Nat.pow_le_pow_right (by omega) (by unfold lenB at h1; omega)
      omega
  · exact h1
theorem lenB_lt {B : Nat} (hB : 2 ≤ B) (x : Nat) : x < B ^ lenB B x := (dgs_len hB x).1
theorem lenB_mono {B : Nat} (hB : 2 ≤ B) {x y : Nat} (h : x ≤ y) : lenB B x ≤ lenB B y := lenB_le hB (Nat.lt_of_le_of_lt h (lenB_lt hB y))
theorem lenB_add {B : Nat} (hB : 2 ≤ B) (x y : Nat) : lenB B (x + y) ≤ max (lenB B x) (lenB B y) + 1 := by
  refine lenB_le hB ?_
  have h1 : B ^ lenB B x ≤ B ^ max (lenB B x) (lenB B y) := Nat.pow_le_pow_right (by omega) (by omega)
  have h2 : B ^ lenB B y ≤ B ^ max (lenB B x) (lenB B y) := Nat.pow_le_pow_right (by omega) (by omega)
  have h3 := lenB_lt hB x
  have h4 := lenB_lt hB y
  have h5 : B ^ max (lenB B x) (lenB B y) * 2 ≤ B ^ (max (lenB B x) (lenB B y) + 1) := by rw [Nat.pow_succ]; exact Nat.mul_le_mul_left _ hB
  omega
theorem lenB_zero (B : Nat) : lenB B 0 = 0 := by unfold lenB dgs; simp
theorem lenB_pos {B : Nat} (hB : 2 ≤ B) {x : Nat} (h : x ≠ 0) : 0 < lenB B x := ((dgs_len hB x).2 h).1
theorem lenB_eq_zero {B : Nat} (hB : 2 ≤ B) {x : Nat} : lenB B x = 0 ↔ x = 0 := ⟨fun h => by
  rcases Nat.eq_zero_or_pos x with h0 | h0
  · exact h0
  · have := lenB_pos hB (x := x) (by omega); omega, fun h => by subst h; exact lenB_zero B⟩
theorem lenB_ge {B : Nat} (hB : 2 ≤ B) {x n : Nat} (h : B ^ n ≤ x) : n < lenB B x := by
  rcases Nat.lt_or_ge n (lenB B x) with h1 | h1
  · exact h1
  · have h2 := lenB_lt hB x
    have h3 : B ^ lenB B x ≤ B ^ n := Nat.pow_le_pow_right (by omega) h1
    omega
abbrev L32 (n : Nat) : Nat := lenB 4294967296 n
abbrev L64 (n : Nat) : Nat := lenB 18446744073709551616 n
theorem pow32 (n : Nat) : (4294967296 : Nat) ^ n = 2 ^ (32 * n) := by rw [Nat.pow_mul]
theorem pow64 (n : Nat) : (18446744073709551616 : Nat) ^ n = 2 ^ (64 * n) := by rw [Nat.pow_mul]
theorem L32_le {x n : Nat} (h : x < 2 ^ (32 * n)) : L32 x ≤ n := lenB_le (by decide) (by rw [pow32]; exact h)
theorem L32_lt (x : Nat) : x < 2 ^ (32 * L32 x) := by rw [← pow32]; exact lenB_lt (by decide) x
theorem L64_le {x n : Nat} (h : x < 2 ^ (64 * n)) : L64 x ≤ n := lenB_le (by decide) (by rw [pow64]; exact h)
theorem L64_lt (x : Nat) : x < 2 ^ (64 * L64 x) := by rw [← pow64]; exact lenB_lt (by decide) x
theorem L32_shl (x n : Nat) : L32 (x * 2 ^ n) ≤ L32 x + n / 32 + 1 := by
  refine L32_le ?_
  have h := L32_lt x
  have h2 : x * 2 ^ n < 2 ^ (32 * L32 x) * 2 ^ n := Nat.mul_lt_mul_of_pos_right h (Nat.pow_pos (by decide))
  rw [← Nat.pow_add] at h2
  exact Nat.lt_of_lt_of_le h2 (Nat.pow_le_pow_right (by decide) (by omega))
end Go.Proofs.YtfnmlikgdfmcbaaDoor.Sim
namespace Go.Proofs.YtfnmlikgdfmcbaaDoor.Sim
open Go.RowKit
set_option linter.unusedVariables false
set_option linter.unusedSimpArgs false
set_option maxRecDepth 10000
set_option maxHeartbeats 2000000
theorem trim_take : ∀ (a : List Int) (m : Nat), m ≤ a.length → (∀ j, m ≤ j → a.getD j 0 = 0) → (m = 0 ∨ a.getD (m - 1) 0 ≠ 0) → trim a = a.take m
  | [], m, _, _, _ => by simp [trim]
  | x :: l, 0, h1, h2, h3 => by
    have := trim_take l 0 (Nat.zero_le _) (fun j _ => by simpa using h2 (j + 1) (Nat.zero_le _)) (.inl rfl)
    have hx : x = 0 := by simpa using h2 0 (Nat.le_refl _)
    simp [trim, this, hx]
  | x :: l, 1, h1, h2, h3 => by
    have := trim_take l 0 (Nat.zero_le _) (fun j _ => by simpa using h2 (j + 1) (by omega)) (.inl rfl)
    have hx : x ≠ 0 := by simpa using h3
    simp [trim, this, hx]
  | x :: l, m + 2, h1, h2, h3 => by
    have := trim_take l (m + 1) (by simpa using h1) (fun j hj => by simpa using h2 (j + 1) (by omega)) (.inr (by simpa using h3))
    cases l with
    | nil => simp at h1
    | cons y l =>
      have e : trim (x :: y :: l) = (match trim (y :: l) with | [] => if x = 0 then [] else [x] | l => x :: l) := rfl
      rw [e, this]; rfl
theorem copied (a : List Int) (m : Nat) (h : m ≤ a.length) : List.take 0 (List.replicate (m : Int).toNat (0 : Int)) ++ List.take (m : Int).toNat (List.take (m : Int).toNat a) ++ List.drop (0 + min (m : Int).toNat (List.take (m : Int).toNat a).length) (List.replicate (m : Int).toNat 0) = a.take m := by
  have : min m (min m a.length) = m := by omega
  simp [this, List.take_take]
def D (n : Nat) : PV := .ws .u32 (d32 n)
theorem iv_eq {k : IntKind} {a b : Int} (h : a = b) : PV.val (.int k a) = .val (.int k b) := by rw [h]
variable {G : List (Nat × List Value)}
theorem m_norm (a : List Int) (h : a.length ≤ 1099511627776) : PM Tryd.prog G 43 [.ws .u32 a] [] (Own 90 .u32 (trim a)) := by
  refine PM.intro (X := XX) tok Tryd.func43 rfl Tryd.ntmps43 (by rw [Tryd.results43]) (by kernel_rfl) rfl ?_; intro F hG hO; simp only [List.length_cons, List.length_nil, Nat.zero_add, Nat.reduceAdd] at hO
  repeat' ((try (conv => whnf)); first
  | ((with_reducible refine lg ?_); refine loop_g (A := Nat) (fun m => m ≤ a.length ∧ ∀ j : Nat, m ≤ j → rd a j = 0) id (fun m => [(0, .ws .u32 a), (3, .val (.int .i64 (m : Int)))]) (fun _ => []) (fun _ => []) a.length tok (fun _ => ⟨⟨trivial, trivial, trivial⟩, trivial, by simp only [List.length_nil]; omega⟩) ?_ ⟨rfl, rfl, trivial⟩ ⟨[], rfl⟩ ⟨[], rfl⟩ ?_; rotate_left; rintro m ⟨h1, h2⟩)
  
  | with_reducible first | refine ax_s ?_ | refine BothG.mk ?_ ?_ | (refine ax_f ?_ ?_ <;> intro hc) | refine smk ?_ | fail)
  · exact ⟨again (m - 1) ⟨by omega, fun j hj => by
      rcases Nat.lt_or_ge j m with hjm | hjm
      · rw [show (j : Int) = m - 1 by omega]; assumption
      · exact h2 j hjm⟩ (by simp only [id]; omega) ⟨rfl, iv_eq (by omega), trivial⟩ ⟨[], rfl⟩ ⟨[], rfl⟩⟩
  · have e : trim a = a.take m := trim_take a m h1 (fun j hj => by simpa [rd] using h2 j hj) (.inr (by
      have : ((m : Int) - 1).toNat = m - 1 := by omega
      simpa [rd, this] using hc))
    rw [e]
    exact ⟨ret_own (by simp; omega) (by rw [← copied a m h1]; rfl)⟩
  · have e : trim a = a.take m := trim_take a m h1 (fun j hj => by simpa [rd] using h2 j hj) (.inl (by omega))
    rw [e]
    exact ⟨ret_own (by simp; omega) (by rw [← copied a m h1]; rfl)⟩
  · exact ⟨Nat.le_refl _, fun j hj => by simp [rd, List.getD_eq_getElem?_getD, hj]⟩
theorem r_norm (a : List Int) (h : a.length ≤ 1099511627776) : FC Tryd.prog G 43 [.ws .u32 a] (· = .ws .u32 (trim a)) := Own.fc (m_norm a h)
theorem r_normD (a : List Int) (h : a.length ≤ 1099511627776) (ok : okD 4294967296 a) : FC Tryd.prog G 43 [.ws .u32 a] (· = D (vl 4294967296 a).toNat) :=
  (r_norm a h).mono fun r hr => by rw [hr, D, d32, trim_dgs (B := 4294967296) (by decide) ok]; rfl
end Go.Proofs.YtfnmlikgdfmcbaaDoor.Sim
namespace Go.Proofs.YtfnmlikgdfmcbaaDoor.Sim
open Go.RowKit
set_option linter.unusedVariables false
set_option linter.unusedSimpArgs false
set_option maxRecDepth 10000
set_option maxHeartbeats 4000000
variable {G : List (Nat × List Value)}
theorem r_word (w : Int) (h : 0 ≤ w ∧ w < 18446744073709551616) : FC Tryd.prog G 35 [.val (.int .u64 w)] (· = D w.toNat) := by
  refine ax_i Tryd.func35 Tryd.ntmps35 (by rw [Tryd.results35]) ?_; intro F hG hO
  repeat' ((try (conv => whnf)); first
  | ((with_reducible refine cg ?_); refine call_eq (r_normD [w % 4294967296, w / 4294967296] (by simp) (okD_cons.2 ⟨by omega, okD_cons.2 ⟨by omega, okD_nil _⟩⟩)) (LpL.refl _) rfl ?_)
  
  | with_reducible first | refine ax_s ?_ | refine BothG.mk ?_ ?_ | (refine ax_f ?_ ?_ <;> intro hc) | refine smk ?_ | fail)
  refine ⟨ret_e ?_⟩
  show D _ = D _
  congr 2
  simp only [vl]; omega
theorem add_round {a b s : List Int} {i : Nat} {c T : Int} (h2 : 0 ≤ c) (h3 : c ≤ 1) (h5 : s.length = i) (h6 : okD 4294967296 s) (h7 : vl 4294967296 s + 4294967296 ^ i * c = vl 4294967296 (a.take i) + vl 4294967296 (b.take i)) (ra : 0 ≤ rd a i ∧ rd a i < 4294967296) (rb : 0 ≤ rd b i ∧ rd b i < 4294967296)
    (hT : T = c + rd a i + rd b i) : 0 ≤ T / 4294967296 ∧ T / 4294967296 ≤ 1 ∧ (s ++ [T % 4294967296]).length = i + 1 ∧ okD 4294967296 (s ++ [T % 4294967296]) ∧
      vl 4294967296 (s ++ [T % 4294967296]) + 4294967296 ^ (i + 1) * (T / 4294967296) = vl 4294967296 (a.take (i + 1)) + vl 4294967296 (b.take (i + 1)) := by
  refine ⟨by omega, by omega, by simp [h5], okD_append.2 ⟨h6, okD_cons.2 ⟨by omega, okD_nil _⟩⟩, ?_⟩
  rw [vl_snoc, h5, sum_step (T := T) i (by omega), vl_take_step, vl_take_step, hT, Int.mul_add, Int.mul_add]
  omega
theorem r_add (X Y : Nat) (hX : L32 X ≤ 1073741824) (hY : L32 Y ≤ 1073741824) : FC Tryd.prog G 39 [D X, D Y] (· = D (X + Y)) := by
  obtain ⟨a, ea⟩ : ∃ a, a = d32 X := ⟨_, rfl⟩
  obtain ⟨b, eb⟩ : ∃ b, b = d32 Y := ⟨_, rfl⟩
  obtain ⟨oka, va⟩ := d32_ok X
  obtain ⟨okb, vb⟩ := d32_ok Y
  replace hX : (d32 X).length ≤ 1073741824 := hX
  replace hY : (d32 Y).length ≤ 1073741824 := hY
  unfold D
  rw [← ea] at hX oka va
  rw [← eb] at hY okb vb
  rw [← ea, ← eb]
  refine ax_i Tryd.func39 Tryd.ntmps39 (by rw [Tryd.results39]) ?_; intro F hG hO
  repeat' ((try (conv => whnf)); first
  | ((with_reducible refine lg ?_); refine loop_g (A := Nat × List Int × Int) (fun (i, s, c) => i ≤ max a.length b.length + 1 ∧ 0 ≤ c ∧ c ≤ 1 ∧ (i = max a.length b.length + 1 → c = 0) ∧ s.length = i ∧ okD 4294967296 s ∧ vl 4294967296 s + 4294967296 ^ i * c = vl 4294967296 (a.take i) + vl 4294967296 (b.take i)) (fun (i, s, c) => max a.length b.length + 2 - i) (fun (i, s, c) => [(0, .ws .u32 a), (1, .ws .u32 b), (5, .arr 0 0 i), (6, .val (.int .u64 c)), (7, .val (.int .i64 (i : Int)))]) (fun _ => []) (fun (i, s, c) => [some ⟨1, 90, .w .u32 s⟩]) (0, [], 0) tok (fun (i, s, c) => ⟨⟨trivial, trivial, Nat.one_pos, trivial, trivial, trivial⟩, trivial, by simp only [List.length_cons]; omega⟩) ?_ ⟨rfl, rfl, rfl, rfl, rfl, trivial⟩ ⟨[], rfl⟩ ⟨[], rfl⟩ ?_; rotate_left; rintro ⟨i, s, c⟩ ⟨h1, h2, h3, h4, h5, h6, h7⟩; have ra := rd_bd (by decide) oka (i : Int); have rb := rd_bd (by decide) okb (i : Int))
  | ((with_reducible refine cg ?_); refine call_fz 0 (B := s) rfl rfl (by omega) (by rw [List.drop_zero, ← h5, List.take_length]) (by omega) ?_; refine call_eq (r_normD s (by omega) h6) (LpL.refl _) rfl ?_)
  
  | with_reducible first | refine ax_s ?_ | refine BothG.mk ?_ ?_ | (refine ax_f ?_ ?_ <;> intro hc) | refine smk ?_ | fail)
  · obtain ⟨g1, g2, g3, g4, g5⟩ := add_round (T := c + rd a i + rd b i) h2 h3 h5 h6 h7 ra rb rfl
    exact ⟨again (i + 1, _, _) ⟨by omega, g1, g2, by omega, g3, g4, g5⟩ (by dsimp only; omega) ⟨rfl, rfl, rfl, rfl, rfl, trivial⟩ ⟨[], rfl⟩ ⟨[], rfl⟩⟩
  · obtain ⟨g1, g2, g3, g4, g5⟩ := add_round (T := c + rd a i) h2 h3 h5 h6 h7 ra rb (by rw [rd_out b i (by omega)]; omega)
    exact ⟨again (i + 1, _, _) ⟨by omega, g1, g2, by omega, g3, g4, g5⟩ (by dsimp only; omega) ⟨rfl, rfl, rfl, rfl, rfl, trivial⟩ ⟨[], rfl⟩ ⟨[], rfl⟩⟩
  · obtain ⟨g1, g2, g3, g4, g5⟩ := add_round (T := c + rd b i) h2 h3 h5 h6 h7 ra rb (by rw [rd_out a i (by omega)]; omega)
    exact ⟨again (i + 1, _, _) ⟨by omega, g1, g2, by omega, g3, g4, g5⟩ (by dsimp only; omega) ⟨rfl, rfl, rfl, rfl, rfl, trivial⟩ ⟨[], rfl⟩ ⟨[], rfl⟩⟩
  · obtain ⟨g1, g2, g3, g4, g5⟩ := add_round (T := c) h2 h3 h5 h6 h7 ra rb (by rw [rd_out a i (by omega), rd_out b i (by omega)]; omega)
    exact ⟨again (i + 1, _, _) ⟨by omega, g1, g2, by omega, g3, g4, g5⟩ (by dsimp only; omega) ⟨rfl, rfl, rfl, rfl, rfl, trivial⟩ ⟨[], rfl⟩ ⟨[], rfl⟩⟩
  · refine ⟨ret_e ?_⟩
    show D _ = D (X + Y)
    have hc0 : c = 0 := by omega
    rw [hc0, List.take_of_length_le (by omega), List.take_of_length_le (by omega), va, vb] at h7
    congr 1
    simp at h7
    omega
  · exact ⟨by omega, by omega, by omega, fun _ => rfl, rfl, okD_nil _, by simp [vl]⟩
def cmpN (X Y : Nat) : Int := if X < Y then -1 else if X = Y then 0 else 1
theorem r_cmp (X Y : Nat) (hX : L32 X ≤ 1073741824) (hY : L32 Y ≤ 1073741824) : FC Tryd.prog G 40 [D X, D Y] (· = .val (.int .i64 (cmpN X Y))) := by
  obtain ⟨a, ea⟩ : ∃ a, a = d32 X := ⟨_, rfl⟩
  obtain ⟨b, eb⟩ : ∃ b, b = d32 Y := ⟨_, rfl⟩
  obtain ⟨oka, va⟩ := d32_ok X
  obtain ⟨okb, vb⟩ := d32_ok Y
  replace hX : (d32 X).length ≤ 1073741824 := hX
  replace hY : (d32 Y).length ≤ 1073741824 := hY
  have hlt : a.length < b.length → X < Y := fun h => dgs_lt (B := 4294967296) (by decide) (by rw [ea, eb] at h; exact h)
  have hgt : b.length < a.length → Y < X := fun h => dgs_lt (B := 4294967296) (by decide) (by rw [ea, eb] at h; exact h)
  unfold D
  rw [← ea] at hX oka va
  rw [← eb] at hY okb vb
  rw [← ea, ← eb]
  refine ax_i Tryd.func40 Tryd.ntmps40 (by rw [Tryd.results40]) ?_; intro F hG hO
  repeat' ((try (conv => whnf)); first
  | ((with_reducible refine lg ?_); refine loop_g (A := Nat) (fun m => m ≤ a.length ∧ a.drop m = b.drop m) (fun m => m) (fun m => [(0, .ws .u32 a), (1, .ws .u32 b), (5, .val (.int .i64 ((m : Int) - 1)))]) (fun _ => []) (fun _ => []) a.length tok (fun _ => ⟨⟨trivial, trivial, trivial, trivial⟩, trivial, by simp only [List.length_nil]; omega⟩) ?_ ⟨rfl, rfl, rfl, trivial⟩ ⟨[], rfl⟩ ⟨[], rfl⟩ ?_; rotate_left; rintro m ⟨h1, h2⟩)
  
  | (with_reducible refine draw_g (id := 8) [[0, 1, 2, 3, 4, 5, 6, 7, 8]] tok mixed (by kernel_rfl) ?_)
  | (with_reducible refine draw_g (id := 10) [[0, 1, 2, 3, 4, 5, 6, 7, 8]] tok mixed (by kernel_rfl) ?_)
  | with_reducible first | refine ax_s ?_ | refine BothG.mk ?_ ?_ | (refine ax_f ?_ ?_ <;> intro hc) | refine smk ?_ | fail)
  · have h := hlt (by omega)
    exact ⟨ret_e (by rw [cmpN, if_pos h])⟩
  · have h := hgt (by omega)
    exact ⟨ret_e (by rw [cmpN, if_neg (by omega), if_neg (by omega)])⟩
  · have hi : ((m - 1 : Nat) : Int) = (m : Int) - 1 := by omega
    have h := vl_lt_of (by decide) oka okb (by omega) (m - 1) (by omega) (by rw [show m - 1 + 1 = m by omega]; exact h2) (by rw [hi]; assumption)
    exact ⟨ret_e (by rw [cmpN, if_pos (by omega)])⟩
  · have hi : ((m - 1 : Nat) : Int) = (m : Int) - 1 := by omega
    have h := vl_lt_of (by decide) okb oka (by omega) (m - 1) (by omega) (by rw [show m - 1 + 1 = m by omega]; exact h2.symm) (by rw [hi]; assumption)
    exact ⟨ret_e (by rw [cmpN, if_neg (by omega), if_neg (by omega)])⟩
  · have hi : ((m - 1 : Nat) : Int) = (m : Int) - 1 := by omega
    have hdr : a.drop (m - 1) = b.drop (m - 1) := by
      rw [drop_rd a (m - 1) (by omega), drop_rd b (m - 1) (by omega), show m - 1 + 1 = m by omega, h2, hi]
      congr 1; omega
    exact ⟨again (m - 1) ⟨by omega, hdr⟩ (by omega) ⟨rfl, rfl, iv_eq (by omega), trivial⟩ ⟨[], rfl⟩ ⟨[], rfl⟩⟩
  · have hm : m = 0 := by omega
    subst hm
    have hab : a = b := by simpa using h2
    have hXY : X = Y := by rw [hab] at va; omega
    exact ⟨ret_e (by rw [cmpN, if_neg (by omega), if_pos hXY])⟩
  · exact ⟨Nat.le_refl _, by rw [List.drop_length, List.drop_eq_nil_of_le (by omega)]⟩
theorem sub_round {a b s : List Int} {i : Nat} {c d e : Int} (h5 : s.length = i) (h6 : okD 4294967296 s) (h7 : vl 4294967296 s - 4294967296 ^ i * c = vl 4294967296 (a.take i) - vl 4294967296 (b.take i)) (hd : 0 ≤ d ∧ d < 4294967296) (hT : d - 4294967296 * e = rd a i - c - rd b i) :
    (s ++ [d]).length = i + 1 ∧ okD 4294967296 (s ++ [d]) ∧ vl 4294967296 (s ++ [d]) - 4294967296 ^ (i + 1) * e = vl 4294967296 (a.take (i + 1)) - vl 4294967296 (b.take (i + 1)) := by
  refine ⟨by simp [h5], okD_append.2 ⟨h6, okD_cons.2 ⟨hd, okD_nil _⟩⟩, ?_⟩
  have h := sum_step (B := 4294967296) (vs := vl 4294967296 s) (d := d) (c2 := -e) (T := rd a i - c - rd b i) i (by omega)
  rw [Int.mul_neg, Int.mul_sub, Int.mul_sub] at h
  rw [vl_snoc, h5, vl_take_step, vl_take_step]
  omega
theorem r_sub (X Y : Nat) (hX : L32 X ≤ 1073741824) (hY : L32 Y ≤ 1073741824) : FC Tryd.prog G 41 [D X, D Y] (· = D (X - Y)) := by
  have hcmp := r_cmp (G := G) X Y hX hY
  have hw0 := r_word (G := G) 0 (by decide)
  obtain ⟨a, ea⟩ : ∃ a, a = d32 X := ⟨_, rfl⟩
  obtain ⟨b, eb⟩ : ∃ b, b = d32 Y := ⟨_, rfl⟩
  obtain ⟨oka, va⟩ := d32_ok X
  obtain ⟨okb, vb⟩ := d32_ok Y
  replace hX : (d32 X).length ≤ 1073741824 := hX
  replace hY : (d32 Y).length ≤ 1073741824 := hY
  have hlt : a.length < b.length → X < Y := fun h => dgs_lt (B := 4294967296) (by decide) (by rw [ea, eb] at h; exact h)
  unfold D at hcmp ⊢
  rw [← ea] at hX oka va
  rw [← eb] at hY okb vb
  rw [← ea, ← eb] at hcmp ⊢
  refine ax_i Tryd.func41 Tryd.ntmps41 (by rw [Tryd.results41]) ?_; intro F hG hO
  rw [← hG] at hcmp hw0
  repeat' ((try (conv => whnf)); first
  | ((with_reducible refine cg ?_); first | refine ceq hcmp rfl ?_ | refine ceq hw0 rfl ?_)
  | ((with_reducible refine cg ?_); refine call_fz 0 (B := s) rfl rfl (by omega) (by rw [List.drop_zero, ← h5, List.take_length]) (by omega) ?_; refine call_eq (r_normD s (by omega) h6) (LpL.refl _) rfl ?_)
  | ((with_reducible refine lg ?_); refine loop_g (A := Nat × List Int × Int) (fun (i, s, c) => i ≤ a.length ∧ 0 ≤ c ∧ c ≤ 1 ∧ s.length = i ∧ okD 4294967296 s ∧ vl 4294967296 s - 4294967296 ^ i * c = vl 4294967296 (a.take i) - vl 4294967296 (b.take i)) (fun (i, s, c) => a.length - i) (fun (i, s, c) => [(0, .ws .u32 a), (1, .ws .u32 b), (5, .arr 0 0 i), (6, .val (.int .u64 c)), (7, .val (.int .i64 (i : Int)))]) (fun _ => []) (fun (i, s, c) => [some ⟨1, 90, .w .u32 s⟩]) (0, [], 0) tok (fun (i, s, c) => ⟨⟨trivial, trivial, Nat.one_pos, trivial, trivial, trivial⟩, trivial, by simp only [List.length_cons]; omega⟩) ?_ ⟨rfl, rfl, rfl, rfl, rfl, trivial⟩ ⟨[], rfl⟩ ⟨[], rfl⟩ ?_; rotate_left; rintro ⟨i, s, c⟩ ⟨h1, h2, h3, h5, h6, h7⟩; have ra := rd_bd (by decide) oka (i : Int); have rb := rd_bd (by decide) okb (i : Int))
  
  | with_reducible first | refine ax_s ?_ | refine BothG.mk ?_ ?_ | (refine ax_f ?_ ?_ <;> intro hc) | refine smk ?_ | fail)
  · have hle : X - Y = 0 := by
      unfold cmpN at hc
      split at hc
      · omega
      · split at hc
        · omega
        · simp at hc
    exact ⟨ret_e (by rw [hle]; rfl)⟩
  · obtain ⟨g3, g4, g5⟩ := sub_round (d := rd a i + 4294967296 - (c + rd b i)) (e := 1) h5 h6 h7 (by omega) (by omega)
    exact ⟨again (i + 1, _, _) ⟨by omega, by decide, by decide, g3, g4, g5⟩ (by dsimp only; omega) ⟨rfl, rfl, rfl, rfl, rfl, trivial⟩ ⟨[], rfl⟩ ⟨[], rfl⟩⟩
  · obtain ⟨g3, g4, g5⟩ := sub_round (d := rd a i - (c + rd b i)) (e := 0) h5 h6 h7 (by omega) (by omega)
    exact ⟨again (i + 1, _, _) ⟨by omega, by decide, by decide, g3, g4, g5⟩ (by dsimp only; omega) ⟨rfl, rfl, rfl, rfl, rfl, trivial⟩ ⟨[], rfl⟩ ⟨[], rfl⟩⟩
  · obtain ⟨g3, g4, g5⟩ := sub_round (d := rd a i + 4294967296 - c) (e := 1) h5 h6 h7 (by omega) (by rw [rd_out b i (by omega)]; omega)
    exact ⟨again (i + 1, _, _) ⟨by omega, by decide, by decide, g3, g4, g5⟩ (by dsimp only; omega) ⟨rfl, rfl, rfl, rfl, rfl, trivial⟩ ⟨[], rfl⟩ ⟨[], rfl⟩⟩
  · obtain ⟨g3, g4, g5⟩ := sub_round (d := rd a i - c) (e := 0) h5 h6 h7 (by omega) (by rw [rd_out b i (by omega)]; omega)
    exact ⟨again (i + 1, _, _) ⟨by omega, by decide, by decide, g3, g4, g5⟩ (by dsimp only; omega) ⟨rfl, rfl, rfl, rfl, rfl, trivial⟩ ⟨[], rfl⟩ ⟨[], rfl⟩⟩
  · have h8 : ¬ cmpN X Y ≤ 0 := by assumption
    have hgtXY : Y < X := by
      unfold cmpN at h8
      split at h8
      · simp at h8
      · split at h8
        · simp at h8
        · omega
    have hbl : ¬ a.length < b.length := fun h => by have := hlt h; omega
    rw [List.take_of_length_le (by omega), List.take_of_length_le (by omega), va, vb] at h7
    have hv := vl_lt (B := 4294967296) (by decide) h6
    rw [h5] at hv
    have hc01 : c = 0 ∨ c = 1 := by omega
    refine ⟨ret_e ?_⟩
    show D _ = D (X - Y)
    congr 1
    rcases hc01 with e | e
    · rw [e, Int.mul_zero] at h7; omega
    · rw [e, Int.mul_one] at h7; omega
  · exact ⟨by omega, by omega, by omega, rfl, okD_nil _, by simp [vl]⟩
theorem mul_bd {x w : Int} (hx : 0 ≤ x ∧ x < 4294967296) (hw : 0 ≤ w ∧ w < 4294967296) : 0 ≤ x * w ∧ x * w ≤ 18446744065119617025 := by
  refine ⟨Int.mul_nonneg hx.1 hw.1, ?_⟩
  have h1 : x * w ≤ 4294967295 * w := Int.mul_le_mul_of_nonneg_right (by omega) hw.1
  omega
theorem muls_round {a s : List Int} {i : Nat} {c c0 w : Int} (hc : 0 ≤ c ∧ c < 4294967296) (h5 : s.length = i) (h6 : okD 4294967296 s) (h7 : vl 4294967296 s + 4294967296 ^ i * c = vl 4294967296 (a.take i) * w + c0) (hm : 0 ≤ rd a i * w ∧ rd a i * w ≤ 18446744065119617025) :
    0 ≤ (c + rd a i * w) / 4294967296 ∧ (c + rd a i * w) / 4294967296 < 4294967296 ∧ (s ++ [(c + rd a i * w) % 4294967296]).length = i + 1 ∧ okD 4294967296 (s ++ [(c + rd a i * w) % 4294967296]) ∧
      vl 4294967296 (s ++ [(c + rd a i * w) % 4294967296]) + 4294967296 ^ (i + 1) * ((c + rd a i * w) / 4294967296) = vl 4294967296 (a.take (i + 1)) * w + c0 := by
  refine ⟨by omega, by omega, by simp [h5], okD_append.2 ⟨h6, okD_cons.2 ⟨by omega, okD_nil _⟩⟩, ?_⟩
  rw [vl_snoc, h5, sum_step (T := c + rd a i * w) i (by omega), vl_take_step, Int.mul_add, Int.add_mul, Int.mul_assoc]
  omega
theorem r_muls (X : Nat) (w c0 : Int) (hX : L32 X ≤ 1073741824) (hw : 0 ≤ w ∧ w < 4294967296) (hc0 : 0 ≤ c0 ∧ c0 < 4294967296) : FC Tryd.prog G 51 [D X, .val (.int .u32 w), .val (.int .u32 c0)] (· = D (X * w + c0).toNat) := by
  obtain ⟨a, ea⟩ : ∃ a, a = d32 X := ⟨_, rfl⟩
  obtain ⟨oka, va⟩ := d32_ok X
  replace hX : (d32 X).length ≤ 1073741824 := hX
  unfold D
  rw [← ea] at hX oka va
  rw [← ea]
  refine ax_i Tryd.func51 Tryd.ntmps51 (by rw [Tryd.results51]) ?_; intro F hG hO
  repeat' ((try (conv => whnf)); first
  | ((with_reducible refine cg ?_); refine call_fz 0 (B := s ++ [c]) rfl rfl (by simp only [List.length_append, List.length_cons, List.length_nil]; omega) (by rw [List.drop_zero]; exact List.take_of_length_le (by simp only [List.length_append, List.length_cons, List.length_nil]; omega)) (by omega) ?_; refine call_eq (r_normD (s ++ [c]) (by simp only [List.length_append, List.length_cons, List.length_nil]; omega) (okD_append.2 ⟨h6, okD_cons.2 ⟨h2, okD_nil _⟩⟩)) (LpL.refl _) rfl ?_)
  | ((with_reducible refine lg ?_); refine loop_g (A := Nat × List Int × Int) (fun (i, s, c) => i ≤ a.length ∧ (0 ≤ c ∧ c < 4294967296) ∧ s.length = i ∧ okD 4294967296 s ∧ vl 4294967296 s + 4294967296 ^ i * c = vl 4294967296 (a.take i) * w + c0) (fun (i, s, c) => a.length - i) (fun (i, s, c) => [(0, .ws .u32 a), (1, .val (.int .u32 w)), (7, .arr 0 0 i), (8, .val (.int .u64 c)), (9, .val (.int .i64 (i : Int)))]) (fun _ => []) (fun (i, s, c) => [some ⟨1, 90, .w .u32 s⟩]) (0, [], c0) tok (fun (i, s, c) => ⟨⟨trivial, trivial, Nat.one_pos, trivial, trivial, trivial⟩, trivial, by simp only [List.length_cons]; omega⟩) ?_ ⟨rfl, rfl, rfl, rfl, rfl, trivial⟩ ⟨[], rfl⟩ ⟨[], rfl⟩ ?_; rotate_left; rintro ⟨i, s, c⟩ ⟨h1, h2, h5, h6, h7⟩; have ra := rd_bd (by decide) oka (i : Int); have rm := mul_bd ra hw)
  
  | with_reducible first | refine ax_s ?_ | refine BothG.mk ?_ ?_ | (refine ax_f ?_ ?_ <;> intro hc) | refine smk ?_ | fail)
  · obtain ⟨g1, g2, g3, g4, g5⟩ := muls_round h2 h5 h6 h7 rm
    exact ⟨again (i + 1, _, _) ⟨by omega, ⟨g1, g2⟩, g3, g4, g5⟩ (by dsimp only; omega) ⟨rfl, rfl, rfl, rfl, rfl, trivial⟩ ⟨[], rfl⟩ ⟨[], rfl⟩⟩
  · refine ⟨ret_e ?_⟩
    rw [vl_snoc, h5, h7, List.take_of_length_le (by omega), va]
  · exact ⟨by omega, hc0, rfl, okD_nil _, by simp [vl]⟩
theorem div_bd {l x w : Int} (hl : 0 ≤ l ∧ l < w) (hx : 0 ≤ x ∧ x < 4294967296) (hw : 0 < w) : 0 ≤ (l * 4294967296 + x) / w ∧ (l * 4294967296 + x) / w < 4294967296 := by
  refine ⟨Int.ediv_nonneg (by omega) (by omega), Int.ediv_lt_of_lt_mul hw ?_⟩
  have : (l + 1) * 4294967296 ≤ w * 4294967296 := Int.mul_le_mul_of_nonneg_right (by omega) (by decide)
  rw [Int.mul_comm 4294967296 w]
  omega
theorem div_round {a q : List Int} {m : Nat} {l w : Int} (hm : 0 < m ∧ m ≤ a.length) (hq : q.length = a.length) (hw : 0 < w) (h : vl 4294967296 (a.drop m) = vl 4294967296 (q.drop m) * w + l) :
    vl 4294967296 (a.drop (m - 1)) = vl 4294967296 ((q.set (m - 1) ((l * 4294967296 + rd a ((m : Int) - 1)) / w)).drop (m - 1)) * w + (l * 4294967296 + rd a ((m : Int) - 1)) % w := by
  have hi : ((m - 1 : Nat) : Int) = (m : Int) - 1 := by omega
  have e1 := drop_rd a (m - 1) (by omega)
  rw [show m - 1 + 1 = m by omega, hi] at e1
  have e2 : (q.set (m - 1) ((l * 4294967296 + rd a ((m : Int) - 1)) / w)).drop (m - 1) = (l * 4294967296 + rd a ((m : Int) - 1)) / w :: q.drop m := by
    rw [List.drop_eq_getElem_cons (by simp; omega)]
    simp [show m - 1 + 1 = m by omega]
    exact List.drop_set_of_lt (by omega)
  rw [e1, e2]
  simp only [vl]
  rw [h]
  have hd := Int.mul_ediv_add_emod (l * 4294967296 + rd a ((m : Int) - 1)) w
  rw [Int.mul_comm w] at hd
  rw [Int.add_mul, Int.mul_add, Int.mul_assoc]
  omega
theorem r_divs (X : Nat) (w : Int) (hX : L32 X ≤ 1073741824) (hw : 0 < w ∧ w < 4294967296) : FC Tryd.prog G 50 [D X, .val (.int .u32 w)] (· = .tup [D (X / w).toNat, .val (.int .u32 (X % w))]) := by
  obtain ⟨a, ea⟩ : ∃ a, a = d32 X := ⟨_, rfl⟩
  obtain ⟨oka, va⟩ := d32_ok X
  replace hX : (d32 X).length ≤ 1073741824 := hX
  unfold D
  rw [← ea] at hX oka va
  rw [← ea]
  refine ax_i Tryd.func50 Tryd.ntmps50 (by rw [Tryd.results50]) ?_; intro F hG hO
  repeat' ((try (conv => whnf)); first
  | (with_reducible refine shl_g (m := 4294967296) 32 rfl (by decide) rfl (by dsimp only [inR]; omega) ?_)
  | ((with_reducible refine cg ?_); refine call_fz 0 (B := q) rfl rfl (by omega) (by rw [List.drop_zero, ← h5, List.take_length]) (by omega) ?_; refine call_eq (r_normD q (by omega) h6) (LpL.refl _) rfl ?_)
  | ((with_reducible refine lg ?_); refine loop_g (A := Nat × List Int × Int) (fun (m, q, l) => m ≤ a.length ∧ (0 ≤ l ∧ l < w) ∧ q.length = a.length ∧ okD 4294967296 q ∧ vl 4294967296 (a.drop m) = vl 4294967296 (q.drop m) * w + l) (fun (m, q, l) => m) (fun (m, q, l) => [(0, .ws .u32 a), (1, .val (.int .u32 w)), (6, .arr 0 0 a.length), (7, .val (.int .u64 l)), (8, .val (.int .i64 ((m : Int) - 1)))]) (fun _ => []) (fun (m, q, l) => [some ⟨1, 90, .w .u32 q⟩]) (a.length, List.replicate a.length 0, 0) tok (fun (m, q, l) => ⟨⟨trivial, trivial, Nat.one_pos, trivial, trivial, trivial⟩, trivial, by simp only [List.length_cons]; omega⟩) ?_ ⟨rfl, rfl, rfl, rfl, rfl, trivial⟩ ⟨[], rfl⟩ ⟨[], rfl⟩ ?_; rotate_left; rintro ⟨m, q, l⟩ ⟨h1, h2, h5, h6, h7⟩; have ra := rd_bd (by decide) oka ((m : Int) - 1); have rq := div_bd h2 ra hw.1)
  
  | with_reducible first | refine ax_s ?_ | refine BothG.mk ?_ ?_ | (refine ax_f ?_ ?_ <;> intro hc) | refine smk ?_ | fail)
  · have hr := div_round (m := m) (by omega) h5 hw.1 h7
    have hmod := Int.emod_nonneg (l * 4294967296 + rd a ((m : Int) - 1)) (show w ≠ 0 by omega)
    have hmod2 := Int.emod_lt_of_pos (l * 4294967296 + rd a ((m : Int) - 1)) hw.1
    refine ⟨again (m - 1, q.set (m - 1) ((l * 4294967296 + rd a ((m : Int) - 1)) / w), (l * 4294967296 + rd a ((m : Int) - 1)) % w) ⟨by omega, ⟨hmod, hmod2⟩, by simpa using h5, fun x hx => ?_, hr⟩ (by dsimp only; omega) ⟨rfl, rfl, rfl, rfl, iv_eq (by omega), trivial⟩ ⟨[], rfl⟩ ⟨[], ?_⟩⟩
    · rcases List.mem_or_eq_of_mem_set hx with h | h
      · exact h6 x h
      · rw [h]; exact rq
    · have ht : 0 + ((m : Int) - 1).toNat = m - 1 := by omega
      rw [ht]; rfl
  · have hm : m = 0 := by omega
    subst hm
    rw [List.drop_zero, List.drop_zero, va] at h7
    have hq0 := vl_nonneg (B := 4294967296) (by decide) h6
    have e2 : (X : Int) / w = vl 4294967296 q := by
      rw [h7, Int.mul_comm, Int.add_comm, Int.add_mul_ediv_left _ _ (by omega), Int.ediv_eq_zero_of_lt h2.1 h2.2, Int.zero_add]
    have e3 : (X : Int) % w = l := by
      rw [h7, Int.mul_comm, Int.add_comm, Int.add_mul_emod_self_left, Int.emod_eq_of_lt h2.1 h2.2]
    exact ⟨ret_e (by rw [e2, e3])⟩
  · refine ⟨Nat.le_refl _, ⟨by omega, by omega⟩, by simp, fun x hx => ?_, by simp [vl]⟩
    have := List.eq_of_mem_replicate hx
    subst this; decide
end Go.Proofs.YtfnmlikgdfmcbaaDoor.Sim
namespace Go.Proofs.YtfnmlikgdfmcbaaDoor.Sim
set_option linter.unusedVariables false
set_option linter.unusedSectionVars false
set_option linter.unusedSimpArgs false
def bl (n : Nat) : Nat := if n = 0 then 0 else Nat.log2 n + 1
theorem lt_bl (n : Nat) : n < 2 ^ bl n := by
  unfold bl
  split
  · rename_i h; subst h; decide
  · rename_i h; exact (Nat.log2_lt h).1 (Nat.lt_succ_self _)
theorem bl_le {n k : Nat} (h : n < 2 ^ k) : bl n ≤ k := by
  unfold bl
  split
  · omega
  · rename_i h0; exact (Nat.log2_lt h0).2 h
theorem bl_pos {n : Nat} (h : n ≠ 0) : 0 < bl n := by unfold bl; rw [if_neg h]; omega
theorem le_of_bl {n : Nat} (h : n ≠ 0) : 2 ^ (bl n - 1) ≤ n := by
  rcases Nat.lt_or_ge n (2 ^ (bl n - 1)) with h1 | h1
  · have := bl_le h1; have := bl_pos h; omega
  · exact h1
section
variable {B : Nat} (hB : 2 ≤ B)
include hB
theorem dgs_cons {n : Nat} (h : n ≠ 0) : dgs B n = ((n % B : Nat) : Int) :: dgs B (n / B) := by
  rw [dgs, dif_neg (by omega)]
theorem dgs_nil : dgs B 0 = [] := by rw [dgs, dif_pos (by omega)]
theorem dgs_drop : ∀ (k n : Nat), (dgs B n).drop k = dgs B (n / B ^ k)
  | 0, n => by simp
  | k + 1, n => by
    by_cases h : n = 0
    · subst h; rw [dgs_nil hB, Nat.zero_div, dgs_nil hB, List.drop_nil]
    · rw [dgs_cons hB h, List.drop_succ_cons, dgs_drop k, Nat.div_div_eq_div_mul, Nat.pow_succ, Nat.mul_comm B]
theorem dgs_take : ∀ (k n : Nat), vl B ((dgs B n).take k) = ((n % B ^ k : Nat) : Int)
  | 0, n => by simp [vl, Nat.mod_one]
  | k + 1, n => by
    by_cases h : n = 0
    · subst h; rw [dgs_nil hB]; simp [vl]
    · rw [dgs_cons hB h, List.take_succ_cons]
      simp only [vl]
      rw [dgs_take k]
      have e : n % B ^ (k + 1) = n % B + B * (n / B % B ^ k) := by rw [Nat.pow_succ, Nat.mul_comm (B ^ k), Nat.mod_mul]
      rw [e]
      simp
theorem dgs_rd (n i : Nat) : rd (dgs B n) i = ((n / B ^ i % B : Nat) : Int) := by
  have h := dgs_drop hB i n
  have e : rd (dgs B n) i = rd ((dgs B n).drop i) (0 : Nat) := by simp [rd, List.getD_eq_getElem?_getD]
  rw [e, h]
  by_cases h0 : n / B ^ i = 0
  · rw [h0, dgs_nil hB]; simp [rd]
  · rw [dgs_cons hB h0]; simp [rd]
end
theorem d32_drop (n k : Nat) : (d32 n).drop k = d32 (n / 2 ^ (32 * k)) := by
  have := dgs_drop (B := 4294967296) (by decide) k n
  rw [pow32] at this
  exact this
theorem d32_take (n k : Nat) : vl 4294967296 ((d32 n).take k) = ((n % 2 ^ (32 * k) : Nat) : Int) := by
  have := dgs_take (B := 4294967296) (by decide) k n
  rw [pow32] at this
  exact this
theorem d32_rd (n i : Nat) : rd (d32 n) i = ((n / 2 ^ (32 * i) % 4294967296 : Nat) : Int) := by
  have := dgs_rd (B := 4294967296) (by decide) n i
  rw [pow32] at this
  exact this
theorem d64_rd (n i : Nat) : rd (d64 n) i = ((n / 2 ^ (64 * i) % 18446744073709551616 : Nat) : Int) := by
  have := dgs_rd (B := 18446744073709551616) (by decide) n i
  rw [pow64] at this
  exact this
theorem L32_bl (n : Nat) : L32 n = (bl n + 31) / 32 := by
  by_cases h : n = 0
  · subst h; exact lenB_zero _
  · have h1 := lt_bl n
    have h2 := le_of_bl h
    have h3 := bl_pos h
    have a : L32 n ≤ (bl n + 31) / 32 := L32_le (Nat.lt_of_lt_of_le h1 (Nat.pow_le_pow_right (by decide) (by omega)))
    have b : (bl n - 1) / 32 < L32 n := lenB_ge (by decide) (by rw [pow32]; exact Nat.le_trans (Nat.pow_le_pow_right (by decide) (by omega)) h2)
    omega
theorem L64_bl (n : Nat) : L64 n = (bl n + 63) / 64 := by
  by_cases h : n = 0
  · subst h; exact lenB_zero _
  · have h1 := lt_bl n
    have h2 := le_of_bl h
    have h3 := bl_pos h
    have a : L64 n ≤ (bl n + 63) / 64 := L64_le (Nat.lt_of_lt_of_le h1 (Nat.pow_le_pow_right (by decide) (by omega)))
    have b : (bl n - 1) / 64 < L64 n := lenB_ge (by decide) (by rw [pow64]; exact Nat.le_trans (Nat.pow_le_pow_right (by decide) (by omega)) h2)
    omega
theorem pw32 {n : Nat} (h : n < 32) : 0 < (2 : Int) ^ n ∧ (2 : Int) ^ n < 4294967296 := by
  have h2 : (2 : Nat) ^ n < 2 ^ 32 := Nat.pow_lt_pow_right (by decide) h
  have h1 : 0 < (2 : Nat) ^ n := Nat.pow_pos (by decide)
  have h3 : ((2 : Int) ^ n) = ((2 ^ n : Nat) : Int) := by simp
  obtain ⟨m, hm⟩ : ∃ m : Nat, m = 2 ^ n := ⟨_, rfl⟩
  rw [h3]
  rw [← hm] at h1 h2 ⊢
  have : m < 4294967296 := h2
  omega
theorem d64_two (X j : Nat) : rd (d64 X) j = rd (d32 X) (2 * (j : Int)) + rd (d32 X) (2 * (j : Int) + 1) * 4294967296 := by
  have h0 := d32_rd X (2 * j)
  have h1 := d32_rd X (2 * j + 1)
  rw [show ((2 * j : Nat) : Int) = 2 * (j : Int) by omega] at h0
  rw [show ((2 * j + 1 : Nat) : Int) = 2 * (j : Int) + 1 by omega] at h1
  rw [d64_rd, h0, h1]
  have e1 : X / 2 ^ (32 * (2 * j)) = X / 2 ^ (64 * j) := by congr 2; omega
  have e2 : X / 2 ^ (32 * (2 * j + 1)) = X / 2 ^ (64 * j) / 4294967296 := by
    have : (4294967296 : Nat) = 2 ^ 32 := by decide
    rw [this, Nat.div_div_eq_div_mul, ← Nat.pow_add]; congr 2; omega
  rw [e1, e2]
  omega
end Go.Proofs.YtfnmlikgdfmcbaaDoor.Sim
namespace Go.Proofs.YtfnmlikgdfmcbaaDoor.Sim
set_option linter.unusedVariables false
set_option linter.unusedSimpArgs false
end Go.Proofs.YtfnmlikgdfmcbaaDoor.Sim
namespace Go.Proofs.YtfnmlikgdfmcbaaDoor.Sim
open Go.RowKit
set_option linter.unusedVariables false
set_option linter.unusedSimpArgs false
set_option maxRecDepth 10000
set_option maxHeartbeats 4000000
variable {G : List (Nat × List Value)}
theorem vl_zero (B : Int) : ∀ n, vl B (List.replicate n 0) = 0
  | 0 => rfl
  | n + 1 => by simp [List.replicate_succ, vl, vl_zero B n]
theorem trim_d32 (n : Nat) : trim (d32 n) = d32 n := (dgs_ok (B := 4294967296) (by decide) n).2.2
theorem r_normN (X : Nat) (h : L32 X ≤ 1099511627776) : FC Tryd.prog G 43 [D X] (· = D X) :=
  (r_norm (d32 X) h).mono fun r hr => by rw [hr, trim_d32]; rfl
theorem trim_okD {a : List Int} (ok : okD 4294967296 a) : trim a = d32 (vl 4294967296 a).toNat := trim_dgs (B := 4294967296) (by decide) ok
abbrev OwnD (n : Nat) : PV → List (Option Row) → Prop := Own 90 .u32 (d32 n)
theorem m_normN (X : Nat) (h : L32 X ≤ 1099511627776) : PM Tryd.prog G 43 [.ws .u32 (d32 X)] [] (OwnD X) := by
  have := m_norm (G := G) (d32 X) h
  rwa [trim_d32] at this
theorem m_normD (a : List Int) (h : a.length ≤ 1099511627776) (ok : okD 4294967296 a) : PM Tryd.prog G 43 [.ws .u32 a] [] (OwnD (vl 4294967296 a).toNat) := by
  have := m_norm (G := G) a h
  rwa [trim_okD ok] at this
theorem vl_zeros (k : Nat) (l : List Int) : vl 4294967296 (List.replicate k 0 ++ l) = 4294967296 ^ k * vl 4294967296 l := by
  rw [vl_append, vl_zero, List.length_replicate, Int.zero_add]
theorem shl_val (X : Nat) (n : Int) (h : 0 < n) : (vl 4294967296 (List.replicate (n / 32).toNat 0 ++ d32 ((X : Int) * 2 ^ (n % 32).toNat + 0).toNat)).toNat = X * 2 ^ n.toNat := by
  have e1 : ((X : Int) * 2 ^ (n % 32).toNat + 0).toNat = X * 2 ^ (n % 32).toNat := by
    have : ((X : Int) * 2 ^ (n % 32).toNat + 0) = ((X * 2 ^ (n % 32).toNat : Nat) : Int) := by simp
    rw [this, Int.toNat_natCast]
  rw [e1, vl_zeros, (d32_ok _).2]
  have e2 : ((4294967296 : Int) ^ (n / 32).toNat * ((X * 2 ^ (n % 32).toNat : Nat) : Int)) = ((4294967296 ^ (n / 32).toNat * (X * 2 ^ (n % 32).toNat) : Nat) : Int) := by simp
  rw [e2, Int.toNat_natCast, pow32, Nat.mul_left_comm, ← Nat.pow_add]
  congr 2
  omega
theorem okD_zeros {k : Nat} {l : List Int} (h : okD 4294967296 l) : okD 4294967296 (List.replicate k 0 ++ l) :=
  okD_append.2 ⟨fun x hx => by rw [List.eq_of_mem_replicate hx]; decide, h⟩
theorem m_shl (X : Nat) (n : Int) (hX : L32 X ≤ 536870912) (hn : inR .i64 n) (hn2 : n ≤ 8589934592) : PM Tryd.prog G 42 [D X, .val (.int .i64 n)] [] (OwnD (X * 2 ^ n.toNat)) := by
  dsimp only [inR] at hn
  have hlen : (d32 X).length = L32 X := rfl
  have hM : (d32 ((X : Int) * 2 ^ (n % 32).toNat + 0).toNat).length ≤ L32 X + 1 := by
    have h1 := L32_shl X (n % 32).toNat
    have e1 : ((X : Int) * 2 ^ (n % 32).toNat + 0).toNat = X * 2 ^ (n % 32).toNat := by
      have : ((X : Int) * 2 ^ (n % 32).toNat + 0) = ((X * 2 ^ (n % 32).toNat : Nat) : Int) := by simp
      rw [this, Int.toNat_natCast]
    rw [e1]
    have h2 : (n % 32).toNat / 32 = 0 := by omega
    rw [h2] at h1
    exact h1
  have hw := pw32 (n := (n % 32).toNat) (by omega)
  refine PM.intro (X := XX) tok Tryd.func42 rfl Tryd.ntmps42 (by rw [Tryd.results42]) (by kernel_rfl) rfl ?_; intro F hG hO; simp only [List.length_cons, List.length_nil, Nat.zero_add, Nat.reduceAdd] at hO
  repeat' ((try (conv => whnf)); first
  | (with_reducible refine shl1_g (.inl rfl) (by dsimp only [IntKind.bits]; omega) ?_)
  | ((with_reducible refine cg ?_); refine call_own (m := 0) (m_normN X (by omega)) rfl rfl rfl ?_)
  | ((with_reducible refine cg ?_); refine call_eq (r_muls X (2 ^ (n % 32).toNat) 0 (by omega) ⟨Int.le_of_lt hw.1, hw.2⟩ (by decide)) (LpL.refl _) rfl ?_)
  | (with_reducible refine AppG.mk (by simp) (by dsimp only; omega) (by omega) ?_)
  | ((with_reducible refine cg ?_); refine call_fz 0 (B := List.replicate (n / 32).toNat 0 ++ d32 ((X : Int) * 2 ^ (n % 32).toNat + 0).toNat) rfl rfl (by simp) (by rw [List.drop_zero]; exact List.take_of_length_le (by simp)) (by omega) ?_; refine call_own (m := 1) (m_normD (List.replicate (n / 32).toNat 0 ++ d32 ((X : Int) * 2 ^ (n % 32).toNat + 0).toNat) (by simp only [List.length_append, List.length_replicate]; omega) (okD_zeros (d32_ok _).1)) rfl rfl rfl ?_)
  
  | with_reducible first | refine ax_s ?_ | refine BothG.mk ?_ ?_ | (refine ax_f ?_ ?_ <;> intro hc) | refine smk ?_ | fail)
  · have : n.toNat = 0 := by omega
    rw [this, Nat.pow_zero, Nat.mul_one]
    exact ⟨ret_own rfl rfl⟩
  · have : X = 0 := (lenB_eq_zero (B := 4294967296) (by decide)).1 (by unfold L32 at hlen; omega)
    subst this
    rw [Nat.zero_mul]
    exact ⟨ret_own rfl rfl⟩
  · rw [← shl_val X n (by omega)]
    exact ⟨ret_own rfl rfl⟩
theorem r_shl (X : Nat) (n : Int) (hX : L32 X ≤ 536870912) (hn : inR .i64 n) (hn2 : n ≤ 8589934592) : FC Tryd.prog G 42 [D X, .val (.int .i64 n)] (· = D (X * 2 ^ n.toNat)) := Own.fc (m_shl X n hX hn hn2)
theorem r_shr (X : Nat) (n : Int) (hX : L32 X ≤ 536870912) (hn : inR .i64 n) : FC Tryd.prog G 37 [D X, .val (.int .i64 n)] (· = D (X / 2 ^ n.toNat)) := by
  dsimp only [inR] at hn
  have hlen : (d32 X).length = L32 X := rfl
  have hw := pw32 (n := (n % 32).toNat) (by omega)
  have hY : L32 (X / 2 ^ (32 * (n / 32).toNat)) ≤ L32 X := lenB_mono (by decide) (Nat.div_le_self _ _)
  have hd := r_divs (G := G) (X / 2 ^ (32 * (n / 32).toNat)) (2 ^ (n % 32).toNat) (by omega) hw
  unfold D at hd
  rw [← d32_drop] at hd
  refine ax_i Tryd.func37 Tryd.ntmps37 (by rw [Tryd.results37]) ?_; intro F hG hO
  rw [← hG] at hd
  repeat' ((try (conv => whnf)); first
  | (with_reducible refine shl1_g (.inl rfl) (by dsimp only [IntKind.bits]; omega) ?_)
  | ((with_reducible refine cg ?_); refine call_eq (r_normN X (by omega)) (LpL.refl _) rfl ?_)
  | ((with_reducible refine cg ?_); refine call_eq (r_word 0 (by decide)) (LpL.refl _) rfl ?_)
  | ((with_reducible refine cg ?_); first | refine ceq hd rfl ?_)
  
  | (with_reducible refine draw_g (id := 5) [[0, 1, 2, 3, 4, 5, 6, 7, 8, 9, 10, 11, 12]] tok mixed (by kernel_rfl) ?_)
  | with_reducible first | refine ax_s ?_ | refine BothG.mk ?_ ?_ | (refine ax_f ?_ ?_ <;> intro hc) | refine smk ?_ | fail)
  · have : n.toNat = 0 := by omega
    exact ⟨ret_e (by rw [this, Nat.pow_zero, Nat.div_one]; rfl)⟩
  · refine ⟨ret_e ?_⟩
    have h1 := L32_lt X
    have h2 : X < 2 ^ n.toNat := Nat.lt_of_lt_of_le h1 (Nat.pow_le_pow_right (by decide) (by omega))
    rw [Nat.div_eq_of_lt h2]; rfl
  · refine ⟨ret_e ?_⟩
    show D _ = D _
    congr 1
    have h3 : ((2 : Int) ^ (n % 32).toNat) = ((2 ^ (n % 32).toNat : Nat) : Int) := by simp
    rw [h3, ← Int.natCast_ediv, Int.toNat_natCast, Nat.div_div_eq_div_mul, ← Nat.pow_add]
    congr 2; omega
def N64 (n : Nat) : PV := .ws .u64 (d64 n)
theorem low_val (X k r : Nat) (h : r < 32) : X % 2 ^ (32 * k) + 2 ^ (32 * k) * (X / 2 ^ (32 * k) % 4294967296 % 2 ^ r) = X % 2 ^ (32 * k + r) := by
  have e : X / 2 ^ (32 * k) % 4294967296 % 2 ^ r = X / 2 ^ (32 * k) % 2 ^ r := Nat.mod_mod_of_dvd _ ⟨2 ^ (32 - r), by rw [← Nat.pow_add]; rw [show r + (32 - r) = 32 by omega]⟩
  rw [e, Nat.pow_add, Nat.mod_mul]
theorem r_low (X : Nat) (n : Int) (hX : L32 X ≤ 536870912) (hn : inR .i64 n) : FC Tryd.prog G 38 [D X, .val (.int .i64 n)] (· = D (X % 2 ^ n.toNat)) := by
  dsimp only [inR] at hn
  have hlen : (d32 X).length = L32 X := rfl
  have hw := pw32 (n := (n % 32).toNat) (by omega)
  have hw0 := r_word (G := G) 0 (by decide)
  have hb := rd_bd (by decide) (d32_ok X).1 (n / 32)
  have hm1 := Int.emod_nonneg (rd (d32 X) (n / 32)) (show (2 : Int) ^ (n % 32).toNat ≠ 0 by omega)
  have hm2 := Int.emod_lt_of_pos (rd (d32 X) (n / 32)) hw.1
  have hN : 0 < n → (vl 4294967296 ((d32 X).take (n / 32).toNat)).toNat = X % 2 ^ (32 * (n / 32).toNat) := fun _ => by rw [d32_take, Int.toNat_natCast]
  have hL : L32 (vl 4294967296 ((d32 X).take (n / 32).toNat)).toNat ≤ (n / 32).toNat := by
    rw [d32_take, Int.toNat_natCast]
    exact L32_le (Nat.mod_lt _ (Nat.pow_pos (by decide)))
  have hL2 : (d32 (vl 4294967296 ((d32 X).take (n / 32).toNat)).toNat).length = L32 (vl 4294967296 ((d32 X).take (n / 32).toNat)).toNat := rfl
  refine ax_i Tryd.func38 Tryd.ntmps38 (by rw [Tryd.results38]) ?_; intro F hG hO
  rw [← hG] at hw0
  repeat' ((try (conv => whnf)); first
  | (with_reducible refine shl1_g (.inl rfl) (by dsimp only [IntKind.bits]; omega) ?_)
  | ((with_reducible refine cg ?_); refine call_eq (r_normN X (by omega)) (LpL.refl _) rfl ?_)
  | ((with_reducible refine cg ?_); first | refine ceq hw0 rfl ?_)
  | ((with_reducible refine cg ?_); refine call_own (m := 0) (m_normD ((d32 X).take (n / 32).toNat) (by rw [List.length_take]; omega) ((d32_ok X).1.take _)) rfl rfl rfl ?_)
  | ((with_reducible refine lg ?_); refine loop_g (A := List Int) (fun s => s.length ≤ (n / 32).toNat ∧ okD 4294967296 s ∧ vl 4294967296 s = ((X % 2 ^ (32 * (n / 32).toNat) : Nat) : Int)) (fun s => (n / 32).toNat - s.length) (fun s => [(0, .ws .u32 (d32 X)), (1, .val (.int .i64 n)), (5, .arr 0 0 s.length)]) (fun _ => []) (fun s => [some ⟨1, 90, .w .u32 s⟩]) (d32 (vl 4294967296 ((d32 X).take (n / 32).toNat)).toNat) tok (fun s => ⟨⟨trivial, trivial, Nat.one_pos, trivial⟩, trivial, by simp only [List.length_cons]; omega⟩) ?_ ⟨rfl, rfl, rfl, trivial⟩ ⟨[], rfl⟩ ⟨[], rfl⟩ ?_; rotate_left; rintro s ⟨h1, h2, h3⟩)
  | ((with_reducible refine cg ?_); refine call_fz 0 (B := s ++ [rd (d32 X) (n / 32) % 2 ^ (n % 32).toNat]) rfl rfl (by simp) (by rw [List.drop_zero]; exact List.take_of_length_le (by simp)) (by omega) ?_; refine call_eq (r_normD (s ++ [rd (d32 X) (n / 32) % 2 ^ (n % 32).toNat]) (by simp only [List.length_append, List.length_cons, List.length_nil]; omega) (okD_append.2 ⟨h2, okD_cons.2 ⟨by omega, okD_nil _⟩⟩)) (LpL.refl _) rfl ?_)
  
  | (with_reducible refine draw_g (id := 8) [[0, 1, 2, 3, 4, 5, 6, 7, 8, 9, 10], [11, 12, 13]] tok mixed (by kernel_rfl) ?_)
  | with_reducible first | refine ax_s ?_ | refine BothG.mk ?_ ?_ | (refine ax_f ?_ ?_ <;> intro hc) | refine smk ?_ | fail)
  · exact ⟨ret_e (by rw [show n.toNat = 0 by omega, Nat.pow_zero, Nat.mod_one]; rfl)⟩
  · refine ⟨ret_e ?_⟩
    have h1 := L32_lt X
    have h2 : X < 2 ^ n.toNat := Nat.lt_of_lt_of_le h1 (Nat.pow_le_pow_right (by decide) (by omega))
    rw [Nat.mod_eq_of_lt h2]; rfl
  · refine ⟨again (s ++ [0]) ⟨by simp only [List.length_append, List.length_cons, List.length_nil]; omega, okD_append.2 ⟨h2, okD_cons.2 ⟨by decide, okD_nil _⟩⟩, by rw [vl_snoc, h3]; simp⟩ (by simp only [List.length_append, List.length_cons, List.length_nil]; omega) ⟨rfl, rfl, ?_, trivial⟩ ⟨[], rfl⟩ ⟨[], rfl⟩⟩
    rw [List.length_append]; rfl
  · refine ⟨ret_e ?_⟩
    show D _ = D _
    congr 1
    have hs : s.length = (n / 32).toNat := by omega
    have hr := d32_rd X (n / 32).toNat
    rw [show (((n / 32).toNat : Nat) : Int) = n / 32 by omega] at hr
    have hv := low_val X (n / 32).toNat (n % 32).toNat (by omega)
    rw [show 32 * (n / 32).toNat + (n % 32).toNat = n.toNat by omega] at hv
    have h3' : ((2 : Int) ^ (n % 32).toNat) = ((2 ^ (n % 32).toNat : Nat) : Int) := by simp
    rw [vl_snoc, hs, h3, hr, h3', ← Int.natCast_emod]
    have e2 : ((4294967296 : Int) ^ (n / 32).toNat) = ((2 ^ (32 * (n / 32).toNat) : Nat) : Int) := by rw [← pow32]; simp
    rw [e2, ← Int.natCast_mul, ← Int.natCast_add, Int.toNat_natCast, hv]
  · refine ⟨by omega, (d32_ok _).1, ?_⟩
    rw [(d32_ok _).2, hN (by omega)]
theorem r_pow2 (n : Int) (hn : inR .i64 n) (hn2 : n ≤ 8589934592) : FC Tryd.prog G 25 [.val (.int .i64 n)] (· = D (2 ^ n.toNat)) := by
  have h1 : L32 1 ≤ 536870912 := Nat.le_trans (L32_le (n := 1) (by decide)) (by decide)
  refine ax_i Tryd.func25 Tryd.ntmps25 (by rw [Tryd.results25]) ?_; intro F hG hO
  repeat' ((try (conv => whnf)); first
  | ((with_reducible refine cg ?_); refine call_eq (r_word 1 (by decide)) (LpL.refl _) rfl ?_)
  | ((with_reducible refine cg ?_); refine call_eq (r_shl 1 n h1 hn hn2) (LpL.refl _) rfl ?_)
  
  | with_reducible first | refine ax_s ?_ | refine BothG.mk ?_ ?_ | (refine ax_f ?_ ?_ <;> intro hc) | refine smk ?_ | fail)
  exact ⟨ret_e (by rw [Nat.one_mul]; rfl)⟩
theorem r_to (X : Nat) (hX : L32 X ≤ 536870912) : FC Tryd.prog G 49 [D X] (· = N64 X) := by
  have hlen : (d32 X).length = L32 X := rfl
  have hlen4 : (d64 X).length = L64 X := rfl
  have hb2 := L32_bl X
  have hb4 := L64_bl X
  refine ax_i Tryd.func49 Tryd.ntmps49 (by rw [Tryd.results49]) ?_; intro F hG hO
  repeat' ((try (conv => whnf)); first
  | (with_reducible refine shl_g (m := 4294967296) 32 rfl (by decide) rfl (by dsimp only [inR]; omega) ?_)
  | ((with_reducible refine cg ?_); refine call_eq (r_normN X (by omega)) (LpL.refl _) rfl ?_)
  | ((with_reducible refine lg ?_); refine loop_g (A := Nat) (fun j => j ≤ L64 X) (fun j => L64 X - j) (fun j => [(3, .ws .u32 (d32 X)), (4, .arr 0 0 j), (5, .val (.int .i64 (2 * (j : Int))))]) (fun _ => []) (fun j => [some ⟨1, 30, .w .u64 ((d64 X).take j)⟩]) 0 tok (fun s => ⟨⟨trivial, Nat.one_pos, trivial, trivial⟩, trivial, by simp only [List.length_cons]; omega⟩) ?_ ⟨rfl, rfl, iv_eq (by omega), trivial⟩ ⟨[], rfl⟩ ⟨[], rfl⟩ ?_; rotate_left; rintro j h1; have ht : ((d64 X).take j).length = j := (by rw [List.length_take]; omega); have r0 := rd_bd (by decide) (d32_ok X).1 (2 * (j : Int)); have r1 := rd_bd (by decide) (d32_ok X).1 (2 * (j : Int) + 1))
  
  | with_reducible first | refine ax_s ?_ | refine BothG.mk ?_ ?_ | (refine ax_f ?_ ?_ <;> intro hc) | refine smk ?_ | fail)
  · refine ⟨again (j + 1) (by first | omega | (dsimp only; omega) | (simp only [id]; omega)) (by omega) ⟨rfl, rfl, iv_eq (by omega), trivial⟩ ⟨[], rfl⟩ ⟨[], ?_⟩⟩
    rw [take_succ_rd _ _ (by omega), d64_two]; rfl
  · refine ⟨again (j + 1) (by first | omega | (dsimp only; omega) | (simp only [id]; omega)) (by omega) ⟨rfl, rfl, iv_eq (by omega), trivial⟩ ⟨[], rfl⟩ ⟨[], ?_⟩⟩
    have := rd_out (d32 X) (2 * j + 1) (by omega)
    rw [show ((2 * j + 1 : Nat) : Int) = 2 * (j : Int) + 1 by omega] at this
    rw [take_succ_rd _ _ (by omega), d64_two, this, Int.zero_mul, Int.add_zero]; rfl
  · refine ⟨ret_e ?_⟩
    rw [List.take_of_length_le (by omega)]; rfl
  · exact Nat.zero_le _
theorem r_fits (X : Nat) (hX : L32 X ≤ 536870912) : FC Tryd.prog G 36 [D X] (· = .tup [.val (.int .u64 (if X < 18446744073709551616 then (X : Int) else 0)), .val (.bool (decide (X < 18446744073709551616)))]) := by
  have hlen4 : (d64 X).length = L64 X := rfl
  refine ax_i Tryd.func36 Tryd.ntmps36 (by rw [Tryd.results36]) ?_; intro F hG hO
  repeat' ((try (conv => whnf)); first
  | ((with_reducible refine cg ?_); refine call_eq (r_to X hX) (LpL.refl _) rfl ?_)
  
  | with_reducible first | refine ax_s ?_ | refine BothG.mk ?_ ?_ | (refine ax_f ?_ ?_ <;> intro hc) | refine smk ?_ | fail)
  · have h0 : X = 0 := (lenB_eq_zero (B := 18446744073709551616) (by decide)).1 (by unfold L64 at hlen4; omega)
    subst h0
    exact ⟨ret_e rfl⟩
  · have h1 := L64_lt X
    have h2 : X < 18446744073709551616 := by rw [show L64 X = 1 by omega] at h1; exact h1
    refine ⟨ret_e ?_⟩
    have hr := d64_rd X 0
    have e0 : rd (d64 X) 0 = (X : Int) := by
      rw [show (0 : Int) = ((0 : Nat) : Int) by rfl, hr, Nat.mul_zero, Nat.pow_zero, Nat.div_one, Nat.mod_eq_of_lt h2]
    rw [e0, if_pos h2, decide_eq_true h2]
  · have h2 : ¬ X < 18446744073709551616 := fun h => by
      have := L64_le (x := X) (n := 1) h
      omega
    exact ⟨ret_e (by rw [if_neg h2, decide_eq_false h2])⟩
set_option maxHeartbeats 8000000
theorem L32_p2 (n : Nat) : L32 (2 ^ n) ≤ n / 32 + 1 := by
  have := L32_shl 1 n
  rw [Nat.one_mul] at this
  have h1 : L32 1 ≤ 1 := L32_le (by decide)
  apply L32_le
  exact Nat.pow_lt_pow_right (by decide) (by omega)
theorem L32_mono {x y : Nat} (h : x ≤ y) : L32 x ≤ L32 y := lenB_mono (by decide) h
theorem L32_add (x y : Nat) : L32 (x + y) ≤ max (L32 x) (L32 y) + 1 := lenB_add (by decide) x y
def ZI (a : Int) : PV := .agg [.val (.bool (decide (a < 0))), .ws .u32 (d32 a.natAbs)]
def LZ (a : Int) : Nat := L32 a.natAbs
def sg (b : Bool) (m : Nat) : Int := match b with
  | true => -(m : Int)
  | false => m
theorem sg_abs (b : Bool) (m : Nat) : (sg b m).natAbs = m := by cases b <;> simp [sg]
theorem L32_pos (m : Nat) : 0 < L32 m ↔ 0 < m := by
  have h := lenB_eq_zero (B := 4294967296) (by decide) (x := m)
  unfold L32
  omega
theorem zi_sg (b : Bool) (m : Nat) (c : Bool) (h : c = (b && decide (0 < m))) : PV.agg [.val (.bool c), .ws .u32 (d32 m)] = ZI (sg b m) := by
  subst h
  unfold ZI
  rw [sg_abs]
  congr 4
  cases b
  · simp only [sg, Bool.false_and]
    exact (decide_eq_false (by omega)).symm
  · simp [sg]
theorem sg_of (a : Int) : sg (decide (a < 0)) a.natAbs = a := by
  by_cases h : a < 0
  · simp only [h, decide_true, sg]; omega
  · simp only [h, decide_false, sg]; omega
theorem r_mk (b : Bool) (m : Nat) (h : L32 m ≤ 1099511627776) : FC Tryd.prog G 24 [.val (.bool b), D m] (· = ZI (sg b m)) := by
  have hl : (d32 m).length = L32 m := rfl
  have hp := L32_pos m
  cases b
  · refine ax_i Tryd.func24 Tryd.ntmps24 (by rw [Tryd.results24]) ?_; intro F hG hO
    repeat' ((try (conv => whnf)); first
  | ((with_reducible refine cg ?_); refine call_eq (r_normN m h) (LpL.refl _) rfl ?_)
  
  | with_reducible first | refine ax_s ?_ | refine BothG.mk ?_ ?_ | (refine ax_f ?_ ?_ <;> intro hc) | refine smk ?_ | fail)
    all_goals exact ⟨ret_e (zi_sg _ m _ (by simp))⟩
  · refine ax_i Tryd.func24 Tryd.ntmps24 (by rw [Tryd.results24]) ?_; intro F hG hO
    repeat' ((try (conv => whnf)); first
  | ((with_reducible refine cg ?_); refine call_eq (r_normN m h) (LpL.refl _) rfl ?_)
  
  | with_reducible first | refine ax_s ?_ | refine BothG.mk ?_ ?_ | (refine ax_f ?_ ?_ <;> intro hc) | refine smk ?_ | fail)
    all_goals exact ⟨ret_e (zi_sg _ m _ (by rw [Bool.true_and]; exact decide_eq_decide.2 (by omega)))⟩
theorem zi_neg {a : Int} (h : a < 0) : ZI a = .agg [.val (.bool true), D a.natAbs] := by unfold ZI; rw [decide_eq_true h]; rfl
theorem zi_pos {a : Int} (h : ¬ a < 0) : ZI a = .agg [.val (.bool false), D a.natAbs] := by unfold ZI; rw [decide_eq_false h]; rfl
theorem by_sign {a : Int} {p : PV → Prop} (h1 : a < 0 → p (.agg [.val (.bool true), D a.natAbs])) (h2 : ¬ a < 0 → p (.agg [.val (.bool false), D a.natAbs])) : p (ZI a) := by
  by_cases h : a < 0
  · rw [zi_neg h]; exact h1 h
  · rw [zi_pos h]; exact h2 h
theorem zi_eq {a b : Int} (h : a = b) : ZI a = ZI b := by rw [h]
theorem len_pos (m : Nat) : (0 : Int) < ((d32 m).length : Int) ↔ 0 < m := by
  have hl : (d32 m).length = L32 m := rfl
  have hp := L32_pos m
  omega
theorem r_of (n : Int) (h : inR .i64 n) : FC Tryd.prog G 27 [.val (.int .i64 n)] (· = ZI n) := by
  dsimp only [inR] at h
  have l1 : L32 1 ≤ 1 := L32_le (by decide)
  have ln : L32 (0 - (n + 1)).toNat ≤ 2 ∨ 0 ≤ n := by
    rcases Int.lt_or_le n 0 with h1 | h1
    · exact .inl (L32_le (show (0 - (n + 1)).toNat < 2 ^ (32 * 2) by omega))
    · exact .inr h1
  have ln2 : L32 n.toNat ≤ 2 := L32_le (show n.toNat < 2 ^ (32 * 2) by omega)
  have la := L32_add (0 - (n + 1)).toNat 1
  refine ax_i Tryd.func27 Tryd.ntmps27 (by rw [Tryd.results27]) ?_; intro F hG hO
  repeat' ((try (conv => whnf)); first
  | ((with_reducible refine cg ?_); refine call_eq (r_word (0 - (n + 1)) (by omega)) (LpL.refl _) rfl ?_)
  | ((with_reducible refine cg ?_); refine call_eq (r_word 1 (by decide)) (LpL.refl _) rfl ?_)
  | ((with_reducible refine cg ?_); refine call_eq (r_add (0 - (n + 1)).toNat 1 (by omega) (by omega)) (LpL.refl _) rfl ?_)
  | ((with_reducible refine cg ?_); refine call_eq (r_mk true ((0 - (n + 1)).toNat + 1) (by omega)) (LpL.refl _) rfl ?_)
  | ((with_reducible refine cg ?_); refine call_eq (r_word n (by omega)) (LpL.refl _) rfl ?_)
  | ((with_reducible refine cg ?_); refine call_eq (r_mk false n.toNat (by omega)) (LpL.refl _) rfl ?_)
  
  | with_reducible first | refine ax_s ?_ | refine BothG.mk ?_ ?_ | (refine ax_f ?_ ?_ <;> intro hc) | refine smk ?_ | fail)
  · exact ⟨ret_e (zi_eq (a := sg true ((0 - (n + 1)).toNat + 1)) (by simp only [sg]; omega))⟩
  · exact ⟨ret_e (zi_eq (a := sg false n.toNat) (by simp only [sg]; omega))⟩
theorem r_flip (a : Int) (h : LZ a ≤ 1099511627776) : FC Tryd.prog G 47 [ZI a] (· = ZI (-a)) := by
  unfold LZ at h
  refine by_sign (a := a) (p := fun p => FC _ _ _ [p] _) (fun hs => ?_) (fun hs => ?_)
  all_goals
    refine ax_i Tryd.func47 Tryd.ntmps47 (by rw [Tryd.results47]) ?_; intro F hG hO
    repeat' ((try (conv => whnf)); first
  | ((with_reducible refine cg ?_); refine call_eq (r_mk _ a.natAbs h) (LpL.refl _) rfl ?_)
  
  | with_reducible first | refine ax_s ?_ | refine BothG.mk ?_ ?_ | (refine ax_f ?_ ?_ <;> intro hc) | refine smk ?_ | fail)
  · exact ⟨ret_e (zi_eq (a := sg false a.natAbs) (by simp only [sg]; omega))⟩
  · exact ⟨ret_e (zi_eq (a := sg true a.natAbs) (by simp only [sg]; omega))⟩
theorem cmpN_ge (X Y : Nat) : 0 ≤ cmpN X Y ↔ Y ≤ X := by
  unfold cmpN
  split
  · exact ⟨fun h => by omega, fun h => by omega⟩
  · split
    · exact ⟨fun h => by omega, fun h => by omega⟩
    · exact ⟨fun h => by omega, fun h => by omega⟩
theorem LZ_neg (a : Int) : LZ (-a) = LZ a := by unfold LZ; rw [Int.natAbs_neg]
theorem LZ_mono {a b : Int} (h : a.natAbs ≤ b.natAbs) : LZ a ≤ LZ b := L32_mono h
theorem LZ_add (a b : Int) : LZ (a + b) ≤ max (LZ a) (LZ b) + 1 := Nat.le_trans (L32_mono (Int.natAbs_add_le a b)) (L32_add _ _)
theorem r_zadd (a b : Int) (ha : LZ a ≤ 1073741824) (hb : LZ b ≤ 1073741824) : FC Tryd.prog G 22 [ZI a, ZI b] (· = ZI (a + b)) := by
  unfold LZ at ha hb
  refine by_sign (a := a) (p := fun p => FC _ _ _ [p, _] _) (fun hs => ?_) (fun hs => ?_)
  all_goals
    refine by_sign (a := b) (p := fun p => FC _ _ _ [_, p] _) (fun ht => ?_) (fun ht => ?_)
  all_goals
    have hl := L32_add a.natAbs b.natAbs
    have hc1 := L32_mono (Nat.sub_le a.natAbs b.natAbs)
    have hc2 := L32_mono (Nat.sub_le b.natAbs a.natAbs)
    have hcm := cmpN_ge a.natAbs b.natAbs
    refine ax_i Tryd.func22 Tryd.ntmps22 (by rw [Tryd.results22]) ?_; intro F hG hO
    repeat' ((try (conv => whnf)); first
  | ((with_reducible refine cg ?_); refine call_eq (r_add a.natAbs b.natAbs ha hb) (LpL.refl _) rfl ?_)
  | ((with_reducible refine cg ?_); refine call_eq (r_cmp a.natAbs b.natAbs ha hb) (LpL.refl _) rfl ?_)
  | ((with_reducible refine cg ?_); refine call_eq (r_sub a.natAbs b.natAbs ha hb) (LpL.refl _) rfl ?_)
  | ((with_reducible refine cg ?_); refine call_eq (r_sub b.natAbs a.natAbs hb ha) (LpL.refl _) rfl ?_)
  | ((with_reducible refine cg ?_); refine call_eq (r_mk _ (a.natAbs + b.natAbs) (by omega)) (LpL.refl _) rfl ?_)
  | ((with_reducible refine cg ?_); refine call_eq (r_mk _ (a.natAbs - b.natAbs) (by omega)) (LpL.refl _) rfl ?_)
  | ((with_reducible refine cg ?_); refine call_eq (r_mk _ (b.natAbs - a.natAbs) (by omega)) (LpL.refl _) rfl ?_)
  
  | (with_reducible refine draw_g (id := 2) [[0, 1, 2, 3, 4, 5, 6, 7], [8]] tok mixed (by kernel_rfl) ?_)
  | (with_reducible refine draw_g (id := 4) [[0, 1, 2, 3, 4, 5, 6, 7], [8]] tok mixed (by kernel_rfl) ?_)
  | (with_reducible refine draw_g (id := 5) [[0, 1, 2, 3, 4, 5, 6, 7], [8]] tok mixed (by kernel_rfl) ?_)
  | with_reducible first | refine ax_s ?_ | refine BothG.mk ?_ ?_ | (refine ax_f ?_ ?_ <;> intro hc) | refine smk ?_ | fail)
  all_goals first
    | exact ⟨ret_e (zi_eq (a := sg true (a.natAbs + b.natAbs)) (by simp only [sg]; omega))⟩
    | exact ⟨ret_e (zi_eq (a := sg false (a.natAbs + b.natAbs)) (by simp only [sg]; omega))⟩
    | exact ⟨ret_e (zi_eq (a := sg true (a.natAbs - b.natAbs)) (by have := hcm.1 (by omega); simp only [sg]; omega))⟩
    | exact ⟨ret_e (zi_eq (a := sg false (a.natAbs - b.natAbs)) (by have := hcm.1 (by omega); simp only [sg]; omega))⟩
    | exact ⟨ret_e (zi_eq (a := sg true (b.natAbs - a.natAbs)) (by have : ¬ b.natAbs ≤ a.natAbs := fun h => (by have := hcm.2 h; omega); simp only [sg]; omega))⟩
    | exact ⟨ret_e (zi_eq (a := sg false (b.natAbs - a.natAbs)) (by have : ¬ b.natAbs ≤ a.natAbs := fun h => (by have := hcm.2 h; omega); simp only [sg]; omega))⟩
theorem r_zsub (a b : Int) (ha : LZ a ≤ 1073741824) (hb : LZ b ≤ 1073741824) : FC Tryd.prog G 29 [ZI a, ZI b] (· = ZI (a - b)) := by
  have hn := LZ_neg b
  refine ax_i Tryd.func29 Tryd.ntmps29 (by rw [Tryd.results29]) ?_; intro F hG hO
  repeat' ((try (conv => whnf)); first
  | ((with_reducible refine cg ?_); refine call_eq (r_flip b (by omega)) (LpL.refl _) rfl ?_)
  | ((with_reducible refine cg ?_); refine call_eq (r_zadd a (-b) (by omega) (by omega)) (LpL.refl _) rfl ?_)
  
  | (with_reducible refine draw_g (id := 1) [[0, 1, 2, 3], [4]] tok mixed (by kernel_rfl) ?_)
  | with_reducible first | refine ax_s ?_ | refine BothG.mk ?_ ?_ | (refine ax_f ?_ ?_ <;> intro hc) | refine smk ?_ | fail)
  exact ⟨ret_e (zi_eq (by omega))⟩
theorem sg_pow (x k : Nat) (s : Bool) : sg s (x * 2 ^ k) = sg s x * 2 ^ k := by
  cases s <;> simp [sg, Int.neg_mul]
theorem r_zshl (a : Int) (n : Int) (ha : LZ a ≤ 268435456) (hn : inR .i64 n) (hn2 : n ≤ 8589934592) : FC Tryd.prog G 23 [ZI a, .val (.int .i64 n)] (· = ZI (a * 2 ^ n.toNat)) := by
  unfold LZ at ha
  have ea := sg_of a
  refine by_sign (a := a) (p := fun p => FC _ _ _ [p, _] _) (fun hs => ?_) (fun hs => ?_)
  all_goals
    have hl := L32_shl a.natAbs n.toNat
    refine ax_i Tryd.func23 Tryd.ntmps23 (by rw [Tryd.results23]) ?_; intro F hG hO
    repeat' ((try (conv => whnf)); first
  | ((with_reducible refine cg ?_); refine call_eq (r_shl a.natAbs n (by omega) hn hn2) (LpL.refl _) rfl ?_)
  | ((with_reducible refine cg ?_); refine call_eq (r_mk _ (a.natAbs * 2 ^ n.toNat) (by omega)) (LpL.refl _) rfl ?_)
  
  | (with_reducible refine draw_g (id := 1) [[0, 1, 2, 3, 4, 5, 6], [7]] tok mixed (by kernel_rfl) ?_)
  | with_reducible first | refine ax_s ?_ | refine BothG.mk ?_ ?_ | (refine ax_f ?_ ?_ <;> intro hc) | refine smk ?_ | fail)
  · rw [decide_eq_true hs] at ea
    exact ⟨ret_e (zi_eq (a := sg true (a.natAbs * 2 ^ n.toNat)) (by rw [sg_pow, ea]))⟩
  · rw [decide_eq_false hs] at ea
    exact ⟨ret_e (zi_eq (a := sg false (a.natAbs * 2 ^ n.toNat)) (by rw [sg_pow, ea]))⟩
theorem div_of {a b q r : Int} (hb : 0 < b) (h : r + b * q = a) (h0 : 0 ≤ r) (h1 : r < b) : a / b = q ∧ a % b = r := (Int.ediv_emod_unique hb).2 ⟨h, h0, h1⟩
theorem nat_dm (x y : Nat) (hy : 0 < y) : ((x % y : Nat) : Int) + (y : Int) * ((x / y : Nat) : Int) = x ∧ ((x % y : Nat) : Int) < y := by
  have := Nat.mod_add_div x y
  have h2 := Nat.mod_lt x hy
  refine ⟨?_, by omega⟩
  have h3 : ((x % y + y * (x / y) : Nat) : Int) = (x : Int) := by rw [this]
  simpa using h3
theorem r_zfshr (a n : Int) (ha : LZ a ≤ 268435454) (hn : inR .i64 n) : FC Tryd.prog G 21 [ZI a, .val (.int .i64 n)] (· = ZI (a / 2 ^ n.toNat)) := by
  unfold LZ at ha
  have l1 : L32 1 ≤ 1 := L32_le (by decide)
  have lq := L32_mono (Nat.div_le_self a.natAbs (2 ^ n.toNat))
  have lr := L32_mono (Nat.mod_le a.natAbs (2 ^ n.toNat))
  have hp := len_pos (a.natAbs % 2 ^ n.toNat)
  obtain ⟨P, hP⟩ : ∃ P, P = 2 ^ n.toNat := ⟨_, rfl⟩
  have hP0 : 0 < P := by rw [hP]; exact Nat.pow_pos (by decide)
  have hPi : (2 : Int) ^ n.toNat = (P : Int) := by rw [hP]; simp
  obtain ⟨d1, d2⟩ := nat_dm a.natAbs P hP0
  have f1 := r_shr (G := G) a.natAbs n (by omega) hn
  have f2 := r_low (G := G) a.natAbs n (by omega) hn
  rw [hPi]
  rw [← hP] at lq lr hp f1 f2
  obtain ⟨q, hq⟩ : ∃ q, q = a.natAbs / P := ⟨_, rfl⟩
  obtain ⟨r, hr⟩ : ∃ r, r = a.natAbs % P := ⟨_, rfl⟩
  rw [← hq] at d1 lq f1
  rw [← hr] at d1 d2 lr hp f2
  have hle : Unit → n ≤ 0 → P = 1 := fun _ h => by rw [hP, show n.toNat = 0 by omega]
  have ls : ∀ b, LZ (sg b q) ≤ 268435454 := fun b => by unfold LZ; rw [sg_abs]; omega
  refine by_sign (a := a) (p := fun p => FC _ _ _ [p, _] _) (fun hs => ?_) (fun hs => ?_)
  all_goals
    refine ax_i Tryd.func21 Tryd.ntmps21 (by rw [Tryd.results21]) ?_; intro F hG hO
    rw [← hG] at f1 f2
    repeat' ((try (conv => whnf)); first
  | ((with_reducible refine cg ?_); first | refine ceq f1 rfl ?_ | refine ceq f2 rfl ?_)
  | ((with_reducible refine cg ?_); refine call_eq (r_mk _ a.natAbs (by omega)) (LpL.refl _) rfl ?_)
  | ((with_reducible refine cg ?_); refine call_eq (r_mk _ q (by omega)) (LpL.refl _) rfl ?_)
  | ((with_reducible refine cg ?_); refine call_eq (r_of 1 (by dsimp only [inR]; omega)) (LpL.refl _) rfl ?_)
  | ((with_reducible refine cg ?_); refine call_eq (r_zsub (sg true q) 1 (by have := ls true; omega) (by have : LZ 1 = L32 1 := rfl; omega)) (LpL.refl _) rfl ?_)
  
  | (with_reducible refine draw_t (id := 3) (.one 0 (.one 1 (.one 2 (.one 3 (.one 4 (.two (.one 5 (.two (.one 6 (.one 7 (.st (.one 8 (.fin))))) (.one 7 (.one 6 (.st (.one 8 (.fin))))))) (.one 7 (.one 5 (.one 6 (.st (.one 8 (.fin)))))))))))) tok mixed (by kernel_rfl) (by kernel_rfl) ?_)
  | (with_reducible refine draw_g (id := 5) [[0, 1, 2], [3]] tok mixed (by kernel_rfl) ?_)
  | with_reducible first | refine ax_s ?_ | refine BothG.mk ?_ ?_ | (refine ax_f ?_ ?_ <;> intro hc) | refine smk ?_ | fail)
  all_goals first
    | (exact ⟨ret_e (zi_eq (a := sg true a.natAbs) (by rw [hle () (by omega)]; simp only [sg]; omega))⟩)
    | (exact ⟨ret_e (zi_eq (a := sg false a.natAbs) (by rw [hle () (by omega)]; simp only [sg]; omega))⟩)
    | (exact ⟨ret_e (zi_eq (a := sg true q - 1) (div_of (a := a) (b := (P : Int)) (q := sg true q - 1) (r := (P : Int) - r) (by omega) (by simp only [sg, Int.mul_sub, Int.mul_neg, Int.mul_one]; omega) (by omega) (by omega)).1.symm)⟩)
    | (exact ⟨ret_e (zi_eq (a := sg true q) (div_of (a := a) (b := (P : Int)) (q := sg true q) (r := r) (by omega) (by simp only [sg, Int.mul_neg]; omega) (by omega) (by omega)).1.symm)⟩)
    | (exact ⟨ret_e (zi_eq (a := sg false q) (div_of (a := a) (b := (P : Int)) (q := sg false q) (r := r) (by omega) (by simp only [sg]; omega) (by omega) (by omega)).1.symm)⟩)
end Go.Proofs.YtfnmlikgdfmcbaaDoor.Sim
namespace Go.Proofs.YtfnmlikgdfmcbaaDoor.Sim
open Go.RowKit
set_option linter.unusedVariables false
def okN (n : Nat) : Prop := n < 2 ^ 1984
def okZ (n : Int) : Prop := n.natAbs < 2 ^ 1984
instance (n : Nat) : Decidable (okN n) := inferInstanceAs (Decidable (n < 2 ^ 1984))
instance (n : Int) : Decidable (okZ n) := inferInstanceAs (Decidable (n.natAbs < 2 ^ 1984))
def prS (s : Nat) : Nat × Int := if s / 4503599627370496 = 0 then (s % 4503599627370496, -1074) else (4503599627370496 + s % 4503599627370496, -1074 + (s / 4503599627370496 : Nat) - 1)
def s23 (b : Nat) (q : Int) : Int :=
  let pr := prS (b % 9223372036854775808)
  if pr.2 + q < 0 then (if 9223372036854775808 ≤ b then -(pr.1 : Int) else pr.1) / 2 ^ (-pr.2 - q).toNat else (if 9223372036854775808 ≤ b then -(pr.1 : Int) else pr.1) * 2 ^ (pr.2 + q).toNat
--END
variable {G : List (Nat × List Value)}
set_option linter.unusedSimpArgs false
set_option maxRecDepth 10000
set_option maxHeartbeats 8000000
theorem LZ_ediv {a b : Int} (hb : 0 < b) : LZ (a / b) ≤ LZ a := by
  apply LZ_mono
  have h1 := Int.mul_ediv_add_emod a b
  have h2 := Int.emod_nonneg a (show b ≠ 0 by omega)
  have h3 := Int.emod_lt_of_pos a hb
  rcases Int.lt_or_le (a / b) 0 with h | h
  · have h4 : a ≤ a / b := by
      have h5 : (a / b) * (b - 1) ≤ -(b - 1) := by
        have := Int.mul_le_mul_of_nonneg_right (show a / b ≤ -1 by omega) (show 0 ≤ b - 1 by omega)
        omega
      rw [Int.mul_sub, Int.mul_one, Int.mul_comm] at h5
      omega
    omega
  · have h4 : a / b ≤ b * (a / b) := by
      have := Int.mul_le_mul_of_nonneg_right (show 1 ≤ b by omega) h
      omega
    omega
theorem LZ_shl (a : Int) (n : Nat) : LZ (a * 2 ^ n) ≤ LZ a + n / 32 + 1 := by
  unfold LZ
  rw [Int.natAbs_mul, Int.natAbs_pow]
  exact L32_shl a.natAbs n
theorem r_zint (a : Int) (h : 0 ≤ a ∧ a < 4611686018427387904) : FC Tryd.prog G 20 [ZI a] (· = .tup [.val (.int .i64 a), .val (.bool true)]) := by
  have f := r_fits (G := G) a.natAbs (Nat.le_trans (L32_le (n := 2) (by omega)) (by decide))
  rw [if_pos (by omega), decide_eq_true (by omega), show ((a.natAbs : Nat) : Int) = a by omega] at f
  rw [zi_pos (show ¬ a < 0 by omega)]
  refine ax_i Tryd.func20 Tryd.ntmps20 (by rw [Tryd.results20]) ?_; intro F hG hO
  rw [← hG] at f
  repeat' ((try (conv => whnf)); first
  | ((with_reducible refine cg ?_); first | refine ceq f rfl ?_)
  
  | with_reducible first | refine ax_s ?_ | refine BothG.mk ?_ ?_ | (refine ax_f ?_ ?_ <;> intro hc) | refine smk ?_ | fail)
  all_goals exact ⟨ret_e rfl⟩
theorem r_pow2N (n : Nat) (h : n ≤ 8589934592) : FC Tryd.prog G 25 [.val (.int .i64 (n : Int))] (· = D (2 ^ n)) := by
  have f := r_pow2 (G := G) (n : Int) (by dsimp only [inR]; omega) (by omega)
  rw [Int.toNat_natCast] at f
  exact f
theorem r_zshlN (a : Int) (n : Nat) (ha : LZ a ≤ 268435456) (h : n ≤ 8589934592) : FC Tryd.prog G 23 [ZI a, .val (.int .i64 (n : Int))] (· = ZI (a * 2 ^ n)) := by
  have f := r_zshl (G := G) a (n : Int) ha (by dsimp only [inR]; omega) (by omega)
  rw [Int.toNat_natCast] at f
  exact f
theorem r_zfshrN (a : Int) (n : Nat) (ha : LZ a ≤ 268435454) (h : n ≤ 8589934592) : FC Tryd.prog G 21 [ZI a, .val (.int .i64 (n : Int))] (· = ZI (a / 2 ^ n)) := by
  have f := r_zfshr (G := G) a (n : Int) ha (by dsimp only [inR]; omega)
  rw [Int.toNat_natCast] at f
  exact f
inductive BxL : List (List PV) → List (List PV) → Prop
  | nil : BxL [] []
  | cons {l l' : List PV} {b b' : List (List PV)} (h : LpL l l') (t : BxL b b') : BxL (l :: b) (l' :: b')
theorem BxL.len : ∀ {b b' : List (List PV)}, BxL b b' → b.length = b'.length
  | _, _, .nil => rfl
  | _, _, .cons _ t => congrArg (· + 1) t.len
def FD : PV := .agg [.val (.int .u64 9223372036854775808), .val (.int .i64 53), .val (.int .i64 (-1074)), .val (.int .i64 971), .val (.int .u64 9218868437227405312), .val (.int .u64 9221120237041090561)]
theorem t_form : FC Tryd.prog G 32 [.val (.int .i64 64)] (· = .tup [FD, .val (.bool true)]) := by
  refine ax_i Tryd.func32 Tryd.ntmps32 (by rw [Tryd.results32]) ?_; intro F hG hO
  repeat' ((try (conv => whnf)); first
  
  | with_reducible first | refine ax_s ?_ | refine BothG.mk ?_ ?_ | (refine ax_f ?_ ?_ <;> intro hc) | refine smk ?_ | fail)
  all_goals exact ⟨ret_e rfl⟩
theorem tup_ui {a b c d : Int} (h1 : a = c) (h2 : b = d) : PV.tup [.val (.int .u64 a), .val (.int .i64 b)] = .tup [.val (.int .u64 c), .val (.int .i64 d)] := by rw [h1, h2]
theorem prS_lt {s : Nat} (h : s < 18446744073709551616) : (prS s).1 < 9007199254740992 ∧ -1074 ≤ (prS s).2 ∧ (prS s).2 ≤ 4096 := by
  unfold prS
  split
  · dsimp only; omega
  · dsimp only; omega
theorem t_parts (s : Nat) (h : s < 18446744073709551616) : FC Tryd.prog G 34 [FD, .val (.int .u64 s)] (· = .tup [.val (.int .u64 (prS s).1), .val (.int .i64 (prS s).2)]) := by
  unfold FD
  obtain ⟨z, hz⟩ : ∃ z : Int, z = (s : Int) := ⟨_, rfl⟩
  rw [← hz]
  by_cases h0 : s / 4503599627370496 = 0
  · have e : prS s = (s % 4503599627370496, -1074) := if_pos h0
    rw [e]
    refine ax_i Tryd.func34 Tryd.ntmps34 (by rw [Tryd.results34]) ?_; intro F hG hO
    repeat' ((try (conv => whnf)); first
  | (with_reducible refine shl_g (m := 4503599627370496) 52 (by decide) (by decide) (by decide +kernel) (by dsimp only [inR]; omega) ?_)
  
  | (with_reducible refine draw_g (id := 2) [[0, 1, 2, 3, 4, 5, 6, 7]] tok mixed (by kernel_rfl) ?_)
  | (with_reducible refine draw_g (id := 4) [[0, 1, 2, 3, 4]] tok mixed (by kernel_rfl) ?_)
  | (with_reducible refine draw_g (id := 5) [[0, 1, 2, 3, 4, 5, 6, 7, 8, 9, 10]] tok mixed (by kernel_rfl) ?_)
  | with_reducible first | refine ax_s ?_ | refine BothG.mk ?_ ?_ | (refine ax_f ?_ ?_ <;> intro hc) | refine smk ?_ | fail)
    all_goals exact ⟨ret_e (tup_ui (by omega) rfl)⟩
  · have e : prS s = (4503599627370496 + s % 4503599627370496, -1074 + ((s / 4503599627370496 : Nat) : Int) - 1) := if_neg h0
    rw [e]
    refine ax_i Tryd.func34 Tryd.ntmps34 (by rw [Tryd.results34]) ?_; intro F hG hO
    repeat' ((try (conv => whnf)); first
  | (with_reducible refine shl_g (m := 4503599627370496) 52 (by decide) (by decide) (by decide +kernel) (by dsimp only [inR]; omega) ?_)
  
  | (with_reducible refine draw_g (id := 2) [[0, 1, 2, 3, 4, 5, 6, 7]] tok mixed (by kernel_rfl) ?_)
  | (with_reducible refine draw_g (id := 4) [[0, 1, 2, 3, 4]] tok mixed (by kernel_rfl) ?_)
  | (with_reducible refine draw_g (id := 5) [[0, 1, 2, 3, 4, 5, 6, 7, 8, 9, 10]] tok mixed (by kernel_rfl) ?_)
  | with_reducible first | refine ax_s ?_ | refine BothG.mk ?_ ?_ | (refine ax_f ?_ ?_ <;> intro hc) | refine smk ?_ | fail)
    all_goals exact ⟨ret_e (tup_ui (by omega) (by omega))⟩
theorem tup_bu {a c : Bool} {b d : Int} (h1 : a = c) (h2 : b = d) : PV.tup [.val (.bool a), .val (.int .u64 b)] = .tup [.val (.bool c), .val (.int .u64 d)] := by rw [h1, h2]
theorem t_cut (b : Nat) (h : b < 18446744073709551616) : FC Tryd.prog G 33 [FD, .val (.int .u64 (b : Int))] (· = .tup [.val (.bool (decide (9223372036854775808 ≤ b))), .val (.int .u64 ((b % 9223372036854775808 : Nat) : Int))]) := by
  unfold FD
  refine ax_i Tryd.func33 Tryd.ntmps33 (by rw [Tryd.results33]) ?_; intro F hG hO
  repeat' ((try (conv => whnf)); first
  
  | (with_reducible refine draw_g (id := 1) [[0, 1, 2, 3, 4, 5, 6, 7, 8, 9]] tok mixed (by kernel_rfl) ?_)
  | with_reducible first | refine ax_s ?_ | refine BothG.mk ?_ ?_ | (refine ax_f ?_ ?_ <;> intro hc) | refine smk ?_ | fail)
  all_goals exact ⟨ret_e (tup_bu (decide_eq_decide.2 (by omega)) (by omega))⟩
theorem LZ_s23 (b : Nat) (q : Int) (hq : q ≤ 4000) : LZ (s23 b q) ≤ 260 := by
  have h := prS_lt (s := b % 9223372036854775808) (by omega)
  have h1 : L32 (prS (b % 9223372036854775808)).1 ≤ 2 := L32_le (by omega)
  unfold s23
  dsimp only
  generalize prS (b % 9223372036854775808) = pr at h h1 ⊢
  have hz : LZ (if 9223372036854775808 ≤ b then -(pr.1 : Int) else pr.1) ≤ 2 := by
    split
    · rw [LZ_neg]; exact h1
    · exact h1
  generalize (if 9223372036854775808 ≤ b then -(pr.1 : Int) else pr.1) = z at hz ⊢
  split
  · have := LZ_ediv (a := z) (b := 2 ^ (-pr.2 - q).toNat) (Int.pow_pos (by decide)); omega
  · have := LZ_shl z (pr.2 + q).toNat; omega
theorem t_scaled23 (b : Nat) (q : Int) (hb : b < 18446744073709551616) (hq : 0 ≤ q ∧ q ≤ 4000) : FC Tryd.prog G 19 [.val (.int .u64 (b : Int)), .val (.int .i64 q)] (· = ZI (s23 b q)) := by
  have h := prS_lt (s := b % 9223372036854775808) (by omega)
  have h1 : L32 (prS (b % 9223372036854775808)).1 ≤ 2 := L32_le (by omega)
  have f1 := t_form (G := G)
  have f2 := t_cut (G := G) b hb
  have f3 := t_parts (G := G) (b % 9223372036854775808) (by omega)
  unfold s23
  dsimp only
  generalize prS (b % 9223372036854775808) = pr at h h1 f3 ⊢
  have hz : LZ (if 9223372036854775808 ≤ b then -(pr.1 : Int) else pr.1) ≤ 2 := by
    split
    · rw [LZ_neg]; exact h1
    · exact h1
  have f4 := r_word (G := G) (pr.1 : Int) (by omega)
  rw [Int.toNat_natCast] at f4
  have f5 := r_mk (G := G) (decide (9223372036854775808 ≤ b)) pr.1 (by omega)
  rw [show sg (decide (9223372036854775808 ≤ b)) pr.1 = if 9223372036854775808 ≤ b then -(pr.1 : Int) else pr.1 by
    by_cases hb2 : 9223372036854775808 ≤ b
    · rw [if_pos hb2, decide_eq_true hb2]; rfl
    · rw [if_neg hb2, decide_eq_false hb2]; rfl] at f5
  generalize (if 9223372036854775808 ≤ b then -(pr.1 : Int) else pr.1) = z at hz f5 ⊢
  by_cases hc0 : pr.2 + q < 0
  · have f6 := r_zfshr (G := G) z (0 - pr.2 - q) (by omega) (by dsimp only [inR]; omega)
    rw [if_pos hc0]
    refine ax_i Tryd.func19 Tryd.ntmps19 (by rw [Tryd.results19]) ?_; intro F hG hO
    rw [← hG] at f1 f2 f3 f4 f5 f6
    repeat' ((try (conv => whnf)); first
  | ((with_reducible refine cg ?_); first | refine ceq f1 rfl ?_ | refine ceq f2 rfl ?_ | refine ceq f3 rfl ?_ | refine ceq f4 rfl ?_ | refine ceq f5 rfl ?_ | refine ceq f6 rfl ?_)
  
  | with_reducible first | refine ax_s ?_ | refine BothG.mk ?_ ?_ | (refine ax_f ?_ ?_ <;> intro hc) | refine smk ?_ | fail)
    all_goals exact ⟨ret_e (zi_eq (a := z / 2 ^ (0 - pr.2 - q).toNat) (by rw [Int.zero_sub]))⟩
  · have f6 := r_zshl (G := G) z (pr.2 + q) (by omega) (by dsimp only [inR]; omega) (by omega)
    rw [if_neg hc0]
    refine ax_i Tryd.func19 Tryd.ntmps19 (by rw [Tryd.results19]) ?_; intro F hG hO
    rw [← hG] at f1 f2 f3 f4 f5 f6
    repeat' ((try (conv => whnf)); first
  | ((with_reducible refine cg ?_); first | refine ceq f1 rfl ?_ | refine ceq f2 rfl ?_ | refine ceq f3 rfl ?_ | refine ceq f4 rfl ?_ | refine ceq f5 rfl ?_ | refine ceq f6 rfl ?_)
  
  | with_reducible first | refine ax_s ?_ | refine BothG.mk ?_ ?_ | (refine ax_f ?_ ?_ <;> intro hc) | refine smk ?_ | fail)
    all_goals exact ⟨ret_e rfl⟩
end Go.Proofs.YtfnmlikgdfmcbaaDoor.Sim
