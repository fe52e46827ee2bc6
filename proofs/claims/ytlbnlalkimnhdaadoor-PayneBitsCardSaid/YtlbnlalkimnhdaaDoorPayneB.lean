/-
  The law PayneBits on pure values: a window is the words' bits. Condition: the package table 'words' holds the 20 words (the row's 'laid').
-/
import Derived.Test.YtlbnlalkimnhdaaDoorPayneA
namespace Go.Proofs.YtlbnlalkimnhdaaDoor.Sim
open Go.RowKit
set_option linter.unusedVariables false
set_option linter.unusedSimpArgs false
set_option maxRecDepth 100000
theorem awake21 : PC Tryd.prog GW 18 [] (· = .val (.bool true)) := reckon xok mixed 500 (by kernel_rfl)
def bitW (x : Int) (i : Int) : Int := IntKind.u64.wrap (BitVec.ofInt 64 (x.fdiv (2 ^ min (63 - i).toNat 64)) &&& BitVec.ofInt 64 1).toNat
def ww (at_ : Int) (j : Int) : Int := win (at_ / 64) (at_ % 64) j
theorem wrap_u64 (n : Int) : IntKind.u64.wrap n = n % 18446744073709551616 := by
  simp only [IntKind.wrap, IntKind.bits, IntKind.signed]; rfl
theorem bitW_nat (V : Nat) (i : Int) (h : 0 ≤ i ∧ i < 64) : bitW (V : Int) i = if V.testBit (63 - i).toNat then 1 else 0 := by
  obtain ⟨n, hn⟩ : ∃ n, n = (63 - i).toNat := ⟨_, rfl⟩
  have hn2 : min n 64 = n := by omega
  unfold bitW
  rw [← hn, hn2, wrap_u64]
  have e1 : (V : Int).fdiv (2 ^ n) = ((V / 2 ^ n : Nat) : Int) := by
    rw [Int.fdiv_eq_ediv_of_nonneg _ (by exact_mod_cast Nat.zero_le _)]; simp
  rw [e1, BitVec.toNat_and, BitVec.ofInt_natCast, BitVec.toNat_ofNat]
  have e2 : (BitVec.ofInt 64 1).toNat = 1 := by decide
  rw [e2, Nat.and_one_is_mod]
  have e3 : V.testBit n = decide (V / 2 ^ n % 2 = 1) := Nat.testBit_eq_decide_div_mod_eq
  rw [e3]
  by_cases hb : V / 2 ^ n % 2 = 1
  · simp only [hb, decide_true, if_true]; omega
  · simp only [hb, decide_false, if_false, Bool.false_eq_true]; omega
theorem words_nat (f : Int) : ∃ X : Nat, rd wordsT f = (X : Int) ∧ X < 2 ^ 64 := by
  have h : ∀ x ∈ wordsT, 0 ≤ x ∧ x < 18446744073709551616 := by decide
  have : 0 ≤ rd wordsT f ∧ rd wordsT f < 18446744073709551616 := by
    unfold rd
    rw [List.getD_eq_getElem?_getD]
    cases hq : wordsT[f.toNat]? with
    | none => simp
    | some x => exact h x (List.mem_of_getElem? hq)
  exact ⟨(rd wordsT f).toNat, by omega, by omega⟩
theorem win_nat (f s j : Int) (hs : 0 ≤ s ∧ s < 64) {X Y : Nat} (hX : rd wordsT (f + j) = (X : Int)) (hY : rd wordsT (f + j + 1) = (Y : Int)) (hX2 : X < 2 ^ 64) (hY2 : Y < 2 ^ 64) :
    win f s j = ((if 0 < s then (X * 2 ^ s.toNat % 2 ^ 64 ||| Y / 2 ^ (64 - s.toNat)) else X : Nat) : Int) := by
  unfold win
  rw [hX, hY]
  split
  · rename_i h0
    have e1 : min s.toNat 64 = s.toNat := by omega
    have e2 : min (64 - s).toNat 64 = 64 - s.toNat := by omega
    rw [e1, e2, wrap_u64, wrap_u64]
    have e3 : ((X : Int) * 2 ^ s.toNat) % 18446744073709551616 = ((X * 2 ^ s.toNat % 2 ^ 64 : Nat) : Int) := by simp
    have e4 : (Y : Int).fdiv (2 ^ (64 - s.toNat)) = ((Y / 2 ^ (64 - s.toNat) : Nat) : Int) := by
      rw [Int.fdiv_eq_ediv_of_nonneg _ (by exact_mod_cast Nat.zero_le _)]; simp
    rw [e3, e4, BitVec.toNat_or, BitVec.ofInt_natCast, BitVec.ofInt_natCast, BitVec.toNat_ofNat, BitVec.toNat_ofNat, Nat.mod_mod, Nat.mod_eq_of_lt (a := Y / _) (by have := Nat.div_le_self Y (2 ^ (64 - s.toNat)); omega)]
    have : (X * 2 ^ s.toNat % 2 ^ 64 ||| Y / 2 ^ (64 - s.toNat)) < 2 ^ 64 := Nat.or_lt_two_pow (Nat.mod_lt _ (by decide)) (by have := Nat.div_le_self Y (2 ^ (64 - s.toNat)); omega)
    omega
  · rfl
theorem bits_law (at_ i : Int) (h : 0 ≤ at_ ∧ at_ ≤ 1024) (hi : 0 ≤ i ∧ i < 256) : bitW (rd wordsT ((at_ + i) / 64)) ((at_ + i) % 64) = bitW ([ww at_ 0, ww at_ 1, ww at_ 2, ww at_ 3].getD (i / 64).toNat 0) (i % 64) := by
  have hj : [ww at_ 0, ww at_ 1, ww at_ 2, ww at_ 3].getD (i / 64).toNat 0 = ww at_ (i / 64) := by
    have : i / 64 = 0 ∨ i / 64 = 1 ∨ i / 64 = 2 ∨ i / 64 = 3 := by omega
    rcases this with e | e | e | e <;> rw [e] <;> rfl
  rw [hj]
  unfold ww
  obtain ⟨f, hf⟩ : ∃ f, f = at_ / 64 := ⟨_, rfl⟩
  obtain ⟨s, hs⟩ : ∃ s, s = at_ % 64 := ⟨_, rfl⟩
  obtain ⟨j, hj⟩ : ∃ j, j = i / 64 := ⟨_, rfl⟩
  obtain ⟨r, hr⟩ : ∃ r, r = i % 64 := ⟨_, rfl⟩
  rw [← hf, ← hs, ← hj, ← hr]
  obtain ⟨X, hX, hX2⟩ := words_nat (f + j)
  obtain ⟨Y, hY, hY2⟩ := words_nat (f + j + 1)
  rw [win_nat f s j (by omega) hX hY hX2 hY2, bitW_nat _ r (by omega)]
  by_cases hc : s + r < 64
  · have e1 : (at_ + i) / 64 = f + j := by omega
    have e2 : (at_ + i) % 64 = s + r := by omega
    rw [e1, e2, hX, bitW_nat _ _ (by omega)]
    have key : X.testBit (63 - (s + r)).toNat = (if 0 < s then (X * 2 ^ s.toNat % 2 ^ 64 ||| Y / 2 ^ (64 - s.toNat)) else X).testBit (63 - r).toNat := by
      split
      · have h1 : (63 - r).toNat < 64 := by omega
        have h2 : s.toNat ≤ (63 - r).toNat := by omega
        have h3 : (63 - r).toNat - s.toNat = (63 - (s + r)).toNat := by omega
        have h4 : Y.testBit (64 - s.toNat + (63 - r).toNat) = false := Nat.testBit_lt_two_pow (Nat.lt_of_lt_of_le hY2 (Nat.pow_le_pow_right (by decide) (by omega)))
        rw [Nat.testBit_or, Nat.testBit_mod_two_pow, Nat.testBit_mul_two_pow, Nat.testBit_div_two_pow]
        simp [h1, h2, h3]
        intro hb; rw [Nat.add_comm, h4] at hb; cases hb
      · have : s = 0 := by omega
        subst this
        simp
    rw [key]
  · have e1 : (at_ + i) / 64 = f + j + 1 := by omega
    have e2 : (at_ + i) % 64 = s + r - 64 := by omega
    rw [e1, e2, hY, bitW_nat _ _ (by omega)]
    have key : Y.testBit (63 - (s + r - 64)).toNat = (if 0 < s then (X * 2 ^ s.toNat % 2 ^ 64 ||| Y / 2 ^ (64 - s.toNat)) else X).testBit (63 - r).toNat := by
      rw [if_pos (by omega)]
      have h2 : ¬ s.toNat ≤ (63 - r).toNat := by omega
      have h4 : 64 - s.toNat + (63 - r).toNat = (63 - (s + r - 64)).toNat := by omega
      rw [Nat.testBit_or, Nat.testBit_mod_two_pow, Nat.testBit_mul_two_pow, Nat.testBit_div_two_pow]
      simp [h2]
      rw [Nat.add_comm, h4]
    rw [key]
section
variable {P : Program} {F : Fr} {s : St} {o : Oper}
theorem still_loadBW {t : TypeId} {x : Operand} {b n : Nat} {k : IntKind} {a : List Int} (ho : o.op = .load t x) (hx : pev s x = .ptr b n) (hb : s.bx[b]? = some (a.map (wv k))) (ha : aggT P t = some false) (h : n < a.length) : Still P F o s (.val (.int k (a.getD n 0))) := by
  refine still_load1 ho (l := (a.map (wv k)).drop n) (by rw [hx]; simp [cells, hb]) ha ?_
  simp [List.getElem?_drop, List.getD_eq_getElem?_getD, h, wv]
end
set_option maxHeartbeats 1000000
theorem bits_in (at_ : Int) (h : 0 ≤ at_ ∧ at_ ≤ 1024) : PC Tryd.prog GW 8 [.val (.int .i64 at_)] (· = .val (.bool true)) := by
  refine PC.intro Tryd.func8 rfl Tryd.ntmps8 (by rw [Tryd.results8]) (by simp) ?_; intro F hG hO
  repeat' (first
    | (refine Ops.now (still_loadBW (a := [ww at_ 0, ww at_ 1, ww at_ 2, ww at_ 3]) (k := .u64) rfl rfl rfl (by exact ag30) (by simp only [List.length_cons, List.length_nil]; omega)) rfl trivial rfl rfl ?_)
    | (rw [hG]; refine PC.mono awake21 ?_; intro r hr; subst hr)
    | (rw [hG]; refine PC.mono (window_in _ h) ?_; intro r hr; subst hr)
    | (rw [hG]; refine PC.mono (word_in _ (by omega)) ?_; intro r hr; subst hr)
    | (refine Cd.loop (fun n s => ∃ i t, n = (256 - i).toNat ∧ 0 ≤ i ∧ i ≤ 256 ∧ s = ⟨66, keep [(0, .val (.int .i64 at_)), (3, .ptr 0 0), (5, .val (.int .i64 i))] t, [[wv .u64 (ww at_ 0), wv .u64 (ww at_ 1), wv .u64 (ww at_ 2), wv .u64 (ww at_ 3)]], []⟩) 256 ?_ ?_; rotate_left; rintro n s' ⟨i, t, hn, h0, h1, rfl⟩)
  
    | (with_reducible (first | refine Cd.seq ?_ | refine Cd.region ?_ | refine Cd.block ?_ | refine Cd.skip ?_ | refine Cd.ret ?_ | refine Cd.exit ?_ | refine thn_n ?_ | refine thn_r ?_ | refine thn_x ?_ | refine blk_n ?_ | refine blk_r ?_ | refine blk_x ?_ | refine blk_y rfl ?_ | refine rnd_r ?_ | refine rnd_x ?_ | refine rds_n ?_ | refine rds_r ?_ | refine rds_x ?_ | refine Rounds.go ?_))
    | refine Ops.skip rfl (by first | exact trivial | exact And.intro rfl (by kernel_rfl)) rfl rfl ?_ | refine Ops.skip0 rfl (by first | exact trivial | exact And.intro rfl (by kernel_rfl)) rfl ?_ | refine Ops.nil ?_ (by first | exact trivial | exact And.intro rfl (by kernel_rfl))
    | (refine Ops.nowq (still_move rfl) rfl (by first | exact trivial | exact And.intro rfl (by kernel_rfl)) rfl rfl ?_; intro q hq; dsimp only [pev, pcon, upd, argT, List.length_cons, List.length_nil, List.nil_append, List.cons_append, List.map_cons, List.map_nil, cond_true, cond_false] at hq; subst hq)
    | (refine Ops.nowq (still_assign rfl) rfl (by first | exact trivial | exact And.intro rfl (by kernel_rfl)) rfl rfl ?_; intro q hq; dsimp only [pev, pcon, upd, argT, List.length_cons, List.length_nil, List.nil_append, List.cons_append, List.map_cons, List.map_nil, cond_true, cond_false] at hq; subst hq)
    | (refine Ops.now (still_fieldAddr rfl (by with_reducible first | exact fl25_0 | exact fl25_1 | exact fl26_0 | exact fl26_1 | exact fl31_0 | exact fl31_1 | exact fl31_2 | exact fl31_3 | exact fl32_0 | exact fl32_1 | exact fl32_2 | exact fl32_3 | exact fl68_0 | exact fl68_1 | exact fl69_0 | exact fl69_1 | exact fl93_0 | exact fl93_1 | exact fl93_2 | exact fl93_3 | exact fl93_4 | exact fl93_5 | exact fl94_0 | exact fl94_1 | exact fl94_2 | exact fl94_3 | exact fl94_4 | exact fl94_5 | exact fl96_0 | exact fl96_1 | exact fl96_2 | exact fl97_0 | exact fl97_1 | exact fl97_2 | exact fl125_0 | exact fl125_1 | exact fl125_2 | exact fl125_3 | exact fl126_0 | exact fl126_1 | exact fl126_2 | exact fl126_3) rfl) rfl (by first | exact trivial | exact And.intro rfl (by kernel_rfl)) rfl rfl ?_)
    | (refine Ops.now (still_load1 rfl rfl (by with_reducible first | exact ag2 | exact ag3 | exact ag4 | exact ag5 | exact ag12 | exact ag21 | exact ag22 | exact ag24 | exact ag25 | exact ag26 | exact ag27 | exact ag30 | exact ag31 | exact ag32 | exact ag37 | exact ag49 | exact ag54 | exact ag61 | exact ag67 | exact ag68 | exact ag69 | exact ag77 | exact ag85 | exact ag86 | exact ag93 | exact ag94 | exact ag96 | exact ag97 | exact ag101 | exact ag111 | exact ag125 | exact ag126) rfl) rfl (by first | exact trivial | exact And.intro rfl (by kernel_rfl)) rfl rfl ?_)
    | (refine Ops.nowq (still_loadA rfl rfl (by with_reducible first | exact ag2 | exact ag3 | exact ag4 | exact ag5 | exact ag12 | exact ag21 | exact ag22 | exact ag24 | exact ag25 | exact ag26 | exact ag27 | exact ag30 | exact ag31 | exact ag32 | exact ag37 | exact ag49 | exact ag54 | exact ag61 | exact ag67 | exact ag68 | exact ag69 | exact ag77 | exact ag85 | exact ag86 | exact ag93 | exact ag94 | exact ag96 | exact ag97 | exact ag101 | exact ag111 | exact ag125 | exact ag126) (by with_reducible first | exact sz25 | exact sz26 | exact sz31 | exact sz32 | exact sz49 | exact sz61 | exact sz68 | exact sz69 | exact sz77 | exact sz85 | exact sz86 | exact sz93 | exact sz94 | exact sz96 | exact sz97 | exact sz125 | exact sz126) (Nat.le_of_ble_eq_true rfl)) rfl (by first | exact trivial | exact And.intro rfl (by kernel_rfl)) rfl rfl ?_; intro q hq; dsimp only [List.drop, List.take] at hq; subst hq)
    | (refine Ops.now (still_lenW rfl rfl (by with_reducible first | exact el22 | exact el37 | exact el67)) rfl (by first | exact trivial | exact And.intro rfl (by kernel_rfl)) rfl rfl ?_)
    | (refine Ops.now (still_extract rfl rfl rfl) rfl (by first | exact trivial | exact And.intro rfl (by kernel_rfl)) rfl rfl ?_)
    | (refine Ops.nowq (still_add rfl rfl rfl (by dsimp only [inR]; omega)) rfl (by first | exact trivial | exact And.intro rfl (by kernel_rfl)) rfl rfl ?_; intro q hq; (try simp only [Int.reduceAdd, Int.add_zero, Int.zero_add] at hq); subst hq)
    | (refine Ops.nowq (still_sub rfl rfl rfl (by dsimp only [inR]; omega)) rfl (by first | exact trivial | exact And.intro rfl (by kernel_rfl)) rfl rfl ?_; intro q hq; (try simp only [Int.reduceSub, Int.sub_zero] at hq); subst hq)
    | (refine Ops.now (still_div rfl rfl rfl (by omega) (by dsimp only [inR]; omega)) rfl (by first | exact trivial | exact And.intro rfl (by kernel_rfl)) rfl rfl ?_)
    | (refine Ops.now (still_mod rfl rfl rfl (by omega)) rfl (by first | exact trivial | exact And.intro rfl (by kernel_rfl)) rfl rfl ?_)
    | (refine Ops.now (still_shl rfl rfl rfl (by omega)) rfl (by first | exact trivial | exact And.intro rfl (by kernel_rfl)) rfl rfl ?_)
    | (refine Ops.now (still_shr rfl rfl rfl (by omega)) rfl (by first | exact trivial | exact And.intro rfl (by kernel_rfl)) rfl rfl ?_)
    | (refine Ops.now (still_max rfl rfl rfl) rfl (by first | exact trivial | exact And.intro rfl (by kernel_rfl)) rfl rfl ?_)
    | (refine Ops.now (still_min rfl rfl rfl) rfl (by first | exact trivial | exact And.intro rfl (by kernel_rfl)) rfl rfl ?_)
    | (refine Ops.now (still_cv rfl rfl (by with_reducible first | exact Tryd.underlying2 | exact Tryd.underlying3 | exact Tryd.underlying5 | exact Tryd.underlying12 | exact Tryd.underlying21 | exact Tryd.underlying27 | exact Tryd.underlying30 | exact Tryd.underlying54 | exact Tryd.underlying101 | exact Tryd.underlying111) (by with_reducible first | exact Tryd.underlying2 | exact Tryd.underlying3 | exact Tryd.underlying5 | exact Tryd.underlying12 | exact Tryd.underlying21 | exact Tryd.underlying27 | exact Tryd.underlying30 | exact Tryd.underlying54 | exact Tryd.underlying101 | exact Tryd.underlying111) (by dsimp only [inR]; omega)) rfl (by first | exact trivial | exact And.intro rfl (by kernel_rfl)) rfl rfl ?_)
    | (refine Ops.now (still_bld rfl (by with_reducible first | exact bl25 | exact bl26 | exact bl31 | exact bl32 | exact bl49 | exact bl68 | exact bl69 | exact bl85 | exact bl86 | exact bl93 | exact bl94 | exact bl96 | exact bl97 | exact bl125 | exact bl126) rfl rfl) rfl (by first | exact trivial | exact And.intro rfl (by kernel_rfl)) rfl rfl ?_)
    | (refine Ops.nowq (still_idxA rfl rfl (by with_reducible first | exact ar49 | exact ar61 | exact ar77 | exact ar85 | exact ar86) (by omega) rfl) rfl (by first | exact trivial | exact And.intro rfl (by kernel_rfl)) rfl rfl ?_; intro q hq; simp only [Int.toNat_zero, Int.toNat_one, Int.reduceToNat, Nat.reduceAdd, Nat.reduceMul, Nat.zero_add, Nat.mul_one, Nat.zero_mul, Nat.add_zero] at hq; subst hq)
    | (refine Ops.now (still_bin rfl rfl rfl rfl) rfl (by first | exact trivial | exact And.intro rfl (by kernel_rfl)) rfl rfl ?_)
    | (refine Ops.now (still_not rfl rfl) rfl (by first | exact trivial | exact And.intro rfl (by kernel_rfl)) rfl rfl ?_)
    | (refine Ops.nowq (still_pick rfl rfl) rfl (by first | exact trivial | exact And.intro rfl (by kernel_rfl)) rfl rfl ?_; intro q hq; dsimp only [pev, pcon, upd, argT, List.length_cons, List.length_nil, List.nil_append, List.cons_append, List.map_cons, List.map_nil, cond_true, cond_false] at hq; subst hq)
    | (refine Ops.now (still_idxW rfl rfl rfl (by with_reducible first | exact el22 | exact el37 | exact el67) (by omega)) rfl (by first | exact trivial | exact And.intro rfl (by kernel_rfl)) rfl rfl ?_)
    | (refine Ops.call rfl rfl (by with_reducible first | exact ca3 | exact ca4 | exact ca5 | exact ca6 | exact ca7 | exact ca8 | exact ca9 | exact ca10 | exact ca11 | exact ca12 | exact ca13 | exact ca14 | exact ca15 | exact ca17 | exact ca18 | exact ca19 | exact ca20 | exact ca21 | exact ca22 | exact ca23 | exact ca24 | exact ca25 | exact ca27 | exact ca28 | exact ca33 | exact ca34 | exact ca35 | exact ca36 | exact ca37 | exact ca38 | exact ca39 | exact ca40 | exact ca41 | exact ca42 | exact ca43 | exact ca44 | exact ca45 | exact ca46 | exact ca47 | exact ca48 | exact ca49 | exact ca50 | exact ca51 | exact ca52 | exact ca53 | exact ca54 | exact ca55 | exact ca56 | exact ca59 | exact ca60 | exact ca61 | exact ca62 | exact ca63 | exact ca64 | exact ca65 | exact ca66 | exact ca67 | exact ca68 | exact ca69 | exact ca70 | exact ca71 | exact ca72 | exact ca73 | exact ca76 | exact ca78 | exact ca79 | exact ca80 | exact ca81 | exact ca82 | exact ca83 | exact ca85 | exact ca86 | exact ca87 | exact ca88 | exact ca89 | exact ca90 | exact ca91 | exact ca92 | exact ca93 | exact ca94 | exact ca95 | exact ca96 | exact ca100 | exact ca103 | exact ca104 | exact ca105 | exact ca106 | exact ca107 | exact ca108 | exact ca109 | exact ca110 | exact ca113 | exact ca114 | exact ca115 | exact ca116 | exact ca117 | exact ca118 | exact ca119 | exact ca120 | exact ca121 | exact ca122 | exact ca125 | exact ca126 | exact ca127 | exact ca128 | exact ca129 | exact ca130 | exact ca131 | exact ca134 | exact ca135 | exact ca136 | exact ca137 | exact ca138 | exact ca139 | exact ca140 | exact ca141 | exact ca142 | exact ca143 | exact ca144 | exact ca145 | exact ca146 | exact ca147 | exact ca148 | exact ca149) rfl rfl rfl (by first | exact trivial | exact And.intro rfl (by kernel_rfl)) rfl rfl ?_)
    | (refine Ops.box rfl rfl rfl (by first | exact trivial | exact And.intro rfl (by kernel_rfl)) rfl rfl ?_; intro b c hb hc; simp only [List.length_cons, List.length_nil, List.nil_append, List.cons_append, Nat.reduceAdd, Nat.zero_add] at hb hc; subst hb hc)
    | (refine Ops.alloc rfl (by with_reducible first | exact ze2 | exact ze3 | exact ze4 | exact ze5 | exact ze12 | exact ze21 | exact ze22 | exact ze24 | exact ze25 | exact ze26 | exact ze27 | exact ze30 | exact ze31 | exact ze32 | exact ze37 | exact ze49 | exact ze54 | exact ze67 | exact ze68 | exact ze69 | exact ze85 | exact ze86 | exact ze93 | exact ze94 | exact ze96 | exact ze97 | exact ze101 | exact ze111 | exact ze125 | exact ze126) rfl (by first | exact trivial | exact And.intro rfl (by kernel_rfl)) rfl rfl ?_; intro b c hb hc; simp only [List.length_cons, List.length_nil, List.nil_append, List.cons_append, Nat.reduceAdd, Nat.zero_add] at hb hc; subst hb hc)
    | (refine Ops.store1 rfl rfl rfl rfl (by with_reducible first | exact sz2 | exact sz3 | exact sz4 | exact sz5 | exact sz12 | exact sz21 | exact sz22 | exact sz24 | exact sz25 | exact sz26 | exact sz27 | exact sz30 | exact sz31 | exact sz32 | exact sz37 | exact sz49 | exact sz54 | exact sz61 | exact sz67 | exact sz68 | exact sz69 | exact sz77 | exact sz85 | exact sz86 | exact sz93 | exact sz94 | exact sz96 | exact sz97 | exact sz101 | exact sz111 | exact sz125 | exact sz126) (Nat.le_of_ble_eq_true rfl) rfl (by first | exact trivial | exact And.intro rfl (by kernel_rfl)) rfl ?_; intro q c hq hc; dsimp only [pev, pcon, upd, argT, List.length_cons, List.length_nil, List.nil_append, List.cons_append, List.map_cons, List.map_nil, cond_true, cond_false] at hq; subst hq; dsimp only [List.set] at hc; subst hc)
    | (refine Ops.storeA rfl rfl rfl rfl rfl (by with_reducible first | exact sz2 | exact sz3 | exact sz4 | exact sz5 | exact sz12 | exact sz21 | exact sz22 | exact sz24 | exact sz25 | exact sz26 | exact sz27 | exact sz30 | exact sz31 | exact sz32 | exact sz37 | exact sz49 | exact sz54 | exact sz61 | exact sz67 | exact sz68 | exact sz69 | exact sz77 | exact sz85 | exact sz86 | exact sz93 | exact sz94 | exact sz96 | exact sz97 | exact sz101 | exact sz111 | exact sz125 | exact sz126) (by rfl) (by exact Nat.le_of_ble_eq_true rfl) rfl (by first | exact trivial | exact And.intro rfl (by kernel_rfl)) rfl ?_; intro c hc; dsimp only [over, List.set, List.take, List.drop, List.length_cons, List.length_nil, List.nil_append, List.cons_append] at hc; subst hc)
    | (refine Ops.guardDT rfl rfl rfl (by omega) ?_) | (refine Ops.guardDF rfl rfl rfl (by omega) ?_)
    | (refine Ops.guardD rfl rfl rfl ?_ ?_ <;> intro hg)
    | (refine Ops.guardB rfl rfl rfl ?_ ?_ <;> intro hg)
    | refine Cd.condT rfl ?_ | refine Cd.condF rfl ?_
    | (refine Cd.condDT rfl (by omega) ?_) | (refine Cd.condDF rfl (by omega) ?_)
    | (refine Cd.condD rfl ?_ ?_ <;> intro hc)
    | (refine Cd.cond rfl ?_ ?_ <;> intro hc))
  · exact absurd (bits_law at_ i h (by omega)) hc
  · exact rnd_n (m := (256 - (i + 1)).toNat) (by omega) ⟨i + 1, _, rfl, by omega, by omega, (congrArg (fun f => (⟨66, f, _, []⟩ : St)) (keep_self (l := [(0, .val (.int .i64 at_)), (3, .ptr 0 0), (5, .val (.int .i64 (i + 1)))]) ⟨rfl, rfl, rfl, trivial⟩)).symm⟩
  · exact ⟨_, rfl, rfl, rfl⟩
  · exact ⟨0, _, rfl, by omega, by omega, (congrArg (fun f => (⟨66, f, _, []⟩ : St)) (keep_self (l := [(0, .val (.int .i64 at_)), (3, .ptr 0 0), (5, .val (.int .i64 0))]) ⟨rfl, rfl, rfl, trivial⟩)).symm⟩
theorem bits_out (at_ : Int) (h : at_ < 0 ∨ 1024 < at_) (hr : inR .i64 at_) : PC Tryd.prog GW 8 [.val (.int .i64 at_)] (· = .val (.bool true)) := by
  refine PC.intro Tryd.func8 rfl Tryd.ntmps8 (by rw [Tryd.results8]) (by simp) ?_; intro F hG hO
  repeat' (first
    | (rw [hG]; refine PC.mono awake21 ?_; intro r hr; subst hr)
    | (rw [hG]; refine PC.mono (window_out _ h hr) ?_; intro r hr; subst hr)
    | (refine Ops.now (still_eqA (m := 10) (lx := [.int .u64 0, .int .u64 0, .int .u64 0, .int .u64 0]) (ly := [.int .u64 0, .int .u64 0, .int .u64 0, .int .u64 0]) (Lx := [.int .u64 0, .int .u64 0, .int .u64 0, .int .u64 0]) (Ly := [.int .u64 0, .int .u64 0, .int .u64 0, .int .u64 0]) (r := true) (by decide) rfl rfl rfl (by kernel_rfl) (by kernel_rfl) (by kernel_rfl) (by kernel_rfl) (by kernel_rfl) (by kernel_rfl) (by simp)) rfl trivial rfl rfl ?_)
  
    | (with_reducible (first | refine Cd.seq ?_ | refine Cd.region ?_ | refine Cd.block ?_ | refine Cd.skip ?_ | refine Cd.ret ?_ | refine Cd.exit ?_ | refine thn_n ?_ | refine thn_r ?_ | refine thn_x ?_ | refine blk_n ?_ | refine blk_r ?_ | refine blk_x ?_ | refine blk_y rfl ?_ | refine rnd_r ?_ | refine rnd_x ?_ | refine rds_n ?_ | refine rds_r ?_ | refine rds_x ?_ | refine Rounds.go ?_))
    | refine Ops.skip rfl (by first | exact trivial | exact And.intro rfl (by kernel_rfl)) rfl rfl ?_ | refine Ops.skip0 rfl (by first | exact trivial | exact And.intro rfl (by kernel_rfl)) rfl ?_ | refine Ops.nil ?_ (by first | exact trivial | exact And.intro rfl (by kernel_rfl))
    | (refine Ops.nowq (still_move rfl) rfl (by first | exact trivial | exact And.intro rfl (by kernel_rfl)) rfl rfl ?_; intro q hq; dsimp only [pev, pcon, upd, argT, List.length_cons, List.length_nil, List.nil_append, List.cons_append, List.map_cons, List.map_nil, cond_true, cond_false] at hq; subst hq)
    | (refine Ops.nowq (still_assign rfl) rfl (by first | exact trivial | exact And.intro rfl (by kernel_rfl)) rfl rfl ?_; intro q hq; dsimp only [pev, pcon, upd, argT, List.length_cons, List.length_nil, List.nil_append, List.cons_append, List.map_cons, List.map_nil, cond_true, cond_false] at hq; subst hq)
    | (refine Ops.now (still_fieldAddr rfl (by with_reducible first | exact fl25_0 | exact fl25_1 | exact fl26_0 | exact fl26_1 | exact fl31_0 | exact fl31_1 | exact fl31_2 | exact fl31_3 | exact fl32_0 | exact fl32_1 | exact fl32_2 | exact fl32_3 | exact fl68_0 | exact fl68_1 | exact fl69_0 | exact fl69_1 | exact fl93_0 | exact fl93_1 | exact fl93_2 | exact fl93_3 | exact fl93_4 | exact fl93_5 | exact fl94_0 | exact fl94_1 | exact fl94_2 | exact fl94_3 | exact fl94_4 | exact fl94_5 | exact fl96_0 | exact fl96_1 | exact fl96_2 | exact fl97_0 | exact fl97_1 | exact fl97_2 | exact fl125_0 | exact fl125_1 | exact fl125_2 | exact fl125_3 | exact fl126_0 | exact fl126_1 | exact fl126_2 | exact fl126_3) rfl) rfl (by first | exact trivial | exact And.intro rfl (by kernel_rfl)) rfl rfl ?_)
    | (refine Ops.now (still_load1 rfl rfl (by with_reducible first | exact ag2 | exact ag3 | exact ag4 | exact ag5 | exact ag12 | exact ag21 | exact ag22 | exact ag24 | exact ag25 | exact ag26 | exact ag27 | exact ag30 | exact ag31 | exact ag32 | exact ag37 | exact ag49 | exact ag54 | exact ag61 | exact ag67 | exact ag68 | exact ag69 | exact ag77 | exact ag85 | exact ag86 | exact ag93 | exact ag94 | exact ag96 | exact ag97 | exact ag101 | exact ag111 | exact ag125 | exact ag126) rfl) rfl (by first | exact trivial | exact And.intro rfl (by kernel_rfl)) rfl rfl ?_)
    | (refine Ops.nowq (still_loadA rfl rfl (by with_reducible first | exact ag2 | exact ag3 | exact ag4 | exact ag5 | exact ag12 | exact ag21 | exact ag22 | exact ag24 | exact ag25 | exact ag26 | exact ag27 | exact ag30 | exact ag31 | exact ag32 | exact ag37 | exact ag49 | exact ag54 | exact ag61 | exact ag67 | exact ag68 | exact ag69 | exact ag77 | exact ag85 | exact ag86 | exact ag93 | exact ag94 | exact ag96 | exact ag97 | exact ag101 | exact ag111 | exact ag125 | exact ag126) (by with_reducible first | exact sz25 | exact sz26 | exact sz31 | exact sz32 | exact sz49 | exact sz61 | exact sz68 | exact sz69 | exact sz77 | exact sz85 | exact sz86 | exact sz93 | exact sz94 | exact sz96 | exact sz97 | exact sz125 | exact sz126) (Nat.le_of_ble_eq_true rfl)) rfl (by first | exact trivial | exact And.intro rfl (by kernel_rfl)) rfl rfl ?_; intro q hq; dsimp only [List.drop, List.take] at hq; subst hq)
    | (refine Ops.now (still_lenW rfl rfl (by with_reducible first | exact el22 | exact el37 | exact el67)) rfl (by first | exact trivial | exact And.intro rfl (by kernel_rfl)) rfl rfl ?_)
    | (refine Ops.now (still_extract rfl rfl rfl) rfl (by first | exact trivial | exact And.intro rfl (by kernel_rfl)) rfl rfl ?_)
    | (refine Ops.nowq (still_add rfl rfl rfl (by dsimp only [inR]; omega)) rfl (by first | exact trivial | exact And.intro rfl (by kernel_rfl)) rfl rfl ?_; intro q hq; (try simp only [Int.reduceAdd, Int.add_zero, Int.zero_add] at hq); subst hq)
    | (refine Ops.nowq (still_sub rfl rfl rfl (by dsimp only [inR]; omega)) rfl (by first | exact trivial | exact And.intro rfl (by kernel_rfl)) rfl rfl ?_; intro q hq; (try simp only [Int.reduceSub, Int.sub_zero] at hq); subst hq)
    | (refine Ops.now (still_div rfl rfl rfl (by omega) (by dsimp only [inR]; omega)) rfl (by first | exact trivial | exact And.intro rfl (by kernel_rfl)) rfl rfl ?_)
    | (refine Ops.now (still_mod rfl rfl rfl (by omega)) rfl (by first | exact trivial | exact And.intro rfl (by kernel_rfl)) rfl rfl ?_)
    | (refine Ops.now (still_shl rfl rfl rfl (by omega)) rfl (by first | exact trivial | exact And.intro rfl (by kernel_rfl)) rfl rfl ?_)
    | (refine Ops.now (still_shr rfl rfl rfl (by omega)) rfl (by first | exact trivial | exact And.intro rfl (by kernel_rfl)) rfl rfl ?_)
    | (refine Ops.now (still_max rfl rfl rfl) rfl (by first | exact trivial | exact And.intro rfl (by kernel_rfl)) rfl rfl ?_)
    | (refine Ops.now (still_min rfl rfl rfl) rfl (by first | exact trivial | exact And.intro rfl (by kernel_rfl)) rfl rfl ?_)
    | (refine Ops.now (still_cv rfl rfl (by with_reducible first | exact Tryd.underlying2 | exact Tryd.underlying3 | exact Tryd.underlying5 | exact Tryd.underlying12 | exact Tryd.underlying21 | exact Tryd.underlying27 | exact Tryd.underlying30 | exact Tryd.underlying54 | exact Tryd.underlying101 | exact Tryd.underlying111) (by with_reducible first | exact Tryd.underlying2 | exact Tryd.underlying3 | exact Tryd.underlying5 | exact Tryd.underlying12 | exact Tryd.underlying21 | exact Tryd.underlying27 | exact Tryd.underlying30 | exact Tryd.underlying54 | exact Tryd.underlying101 | exact Tryd.underlying111) (by dsimp only [inR]; omega)) rfl (by first | exact trivial | exact And.intro rfl (by kernel_rfl)) rfl rfl ?_)
    | (refine Ops.now (still_bld rfl (by with_reducible first | exact bl25 | exact bl26 | exact bl31 | exact bl32 | exact bl49 | exact bl68 | exact bl69 | exact bl85 | exact bl86 | exact bl93 | exact bl94 | exact bl96 | exact bl97 | exact bl125 | exact bl126) rfl rfl) rfl (by first | exact trivial | exact And.intro rfl (by kernel_rfl)) rfl rfl ?_)
    | (refine Ops.nowq (still_idxA rfl rfl (by with_reducible first | exact ar49 | exact ar61 | exact ar77 | exact ar85 | exact ar86) (by omega) rfl) rfl (by first | exact trivial | exact And.intro rfl (by kernel_rfl)) rfl rfl ?_; intro q hq; simp only [Int.toNat_zero, Int.toNat_one, Int.reduceToNat, Nat.reduceAdd, Nat.reduceMul, Nat.zero_add, Nat.mul_one, Nat.zero_mul, Nat.add_zero] at hq; subst hq)
    | (refine Ops.now (still_bin rfl rfl rfl rfl) rfl (by first | exact trivial | exact And.intro rfl (by kernel_rfl)) rfl rfl ?_)
    | (refine Ops.now (still_not rfl rfl) rfl (by first | exact trivial | exact And.intro rfl (by kernel_rfl)) rfl rfl ?_)
    | (refine Ops.nowq (still_pick rfl rfl) rfl (by first | exact trivial | exact And.intro rfl (by kernel_rfl)) rfl rfl ?_; intro q hq; dsimp only [pev, pcon, upd, argT, List.length_cons, List.length_nil, List.nil_append, List.cons_append, List.map_cons, List.map_nil, cond_true, cond_false] at hq; subst hq)
    | (refine Ops.now (still_idxW rfl rfl rfl (by with_reducible first | exact el22 | exact el37 | exact el67) (by omega)) rfl (by first | exact trivial | exact And.intro rfl (by kernel_rfl)) rfl rfl ?_)
    | (refine Ops.call rfl rfl (by with_reducible first | exact ca3 | exact ca4 | exact ca5 | exact ca6 | exact ca7 | exact ca8 | exact ca9 | exact ca10 | exact ca11 | exact ca12 | exact ca13 | exact ca14 | exact ca15 | exact ca17 | exact ca18 | exact ca19 | exact ca20 | exact ca21 | exact ca22 | exact ca23 | exact ca24 | exact ca25 | exact ca27 | exact ca28 | exact ca33 | exact ca34 | exact ca35 | exact ca36 | exact ca37 | exact ca38 | exact ca39 | exact ca40 | exact ca41 | exact ca42 | exact ca43 | exact ca44 | exact ca45 | exact ca46 | exact ca47 | exact ca48 | exact ca49 | exact ca50 | exact ca51 | exact ca52 | exact ca53 | exact ca54 | exact ca55 | exact ca56 | exact ca59 | exact ca60 | exact ca61 | exact ca62 | exact ca63 | exact ca64 | exact ca65 | exact ca66 | exact ca67 | exact ca68 | exact ca69 | exact ca70 | exact ca71 | exact ca72 | exact ca73 | exact ca76 | exact ca78 | exact ca79 | exact ca80 | exact ca81 | exact ca82 | exact ca83 | exact ca85 | exact ca86 | exact ca87 | exact ca88 | exact ca89 | exact ca90 | exact ca91 | exact ca92 | exact ca93 | exact ca94 | exact ca95 | exact ca96 | exact ca100 | exact ca103 | exact ca104 | exact ca105 | exact ca106 | exact ca107 | exact ca108 | exact ca109 | exact ca110 | exact ca113 | exact ca114 | exact ca115 | exact ca116 | exact ca117 | exact ca118 | exact ca119 | exact ca120 | exact ca121 | exact ca122 | exact ca125 | exact ca126 | exact ca127 | exact ca128 | exact ca129 | exact ca130 | exact ca131 | exact ca134 | exact ca135 | exact ca136 | exact ca137 | exact ca138 | exact ca139 | exact ca140 | exact ca141 | exact ca142 | exact ca143 | exact ca144 | exact ca145 | exact ca146 | exact ca147 | exact ca148 | exact ca149) rfl rfl rfl (by first | exact trivial | exact And.intro rfl (by kernel_rfl)) rfl rfl ?_)
    | (refine Ops.box rfl rfl rfl (by first | exact trivial | exact And.intro rfl (by kernel_rfl)) rfl rfl ?_; intro b c hb hc; simp only [List.length_cons, List.length_nil, List.nil_append, List.cons_append, Nat.reduceAdd, Nat.zero_add] at hb hc; subst hb hc)
    | (refine Ops.alloc rfl (by with_reducible first | exact ze2 | exact ze3 | exact ze4 | exact ze5 | exact ze12 | exact ze21 | exact ze22 | exact ze24 | exact ze25 | exact ze26 | exact ze27 | exact ze30 | exact ze31 | exact ze32 | exact ze37 | exact ze49 | exact ze54 | exact ze67 | exact ze68 | exact ze69 | exact ze85 | exact ze86 | exact ze93 | exact ze94 | exact ze96 | exact ze97 | exact ze101 | exact ze111 | exact ze125 | exact ze126) rfl (by first | exact trivial | exact And.intro rfl (by kernel_rfl)) rfl rfl ?_; intro b c hb hc; simp only [List.length_cons, List.length_nil, List.nil_append, List.cons_append, Nat.reduceAdd, Nat.zero_add] at hb hc; subst hb hc)
    | (refine Ops.store1 rfl rfl rfl rfl (by with_reducible first | exact sz2 | exact sz3 | exact sz4 | exact sz5 | exact sz12 | exact sz21 | exact sz22 | exact sz24 | exact sz25 | exact sz26 | exact sz27 | exact sz30 | exact sz31 | exact sz32 | exact sz37 | exact sz49 | exact sz54 | exact sz61 | exact sz67 | exact sz68 | exact sz69 | exact sz77 | exact sz85 | exact sz86 | exact sz93 | exact sz94 | exact sz96 | exact sz97 | exact sz101 | exact sz111 | exact sz125 | exact sz126) (Nat.le_of_ble_eq_true rfl) rfl (by first | exact trivial | exact And.intro rfl (by kernel_rfl)) rfl ?_; intro q c hq hc; dsimp only [pev, pcon, upd, argT, List.length_cons, List.length_nil, List.nil_append, List.cons_append, List.map_cons, List.map_nil, cond_true, cond_false] at hq; subst hq; dsimp only [List.set] at hc; subst hc)
    | (refine Ops.storeA rfl rfl rfl rfl rfl (by with_reducible first | exact sz2 | exact sz3 | exact sz4 | exact sz5 | exact sz12 | exact sz21 | exact sz22 | exact sz24 | exact sz25 | exact sz26 | exact sz27 | exact sz30 | exact sz31 | exact sz32 | exact sz37 | exact sz49 | exact sz54 | exact sz61 | exact sz67 | exact sz68 | exact sz69 | exact sz77 | exact sz85 | exact sz86 | exact sz93 | exact sz94 | exact sz96 | exact sz97 | exact sz101 | exact sz111 | exact sz125 | exact sz126) (by rfl) (by exact Nat.le_of_ble_eq_true rfl) rfl (by first | exact trivial | exact And.intro rfl (by kernel_rfl)) rfl ?_; intro c hc; dsimp only [over, List.set, List.take, List.drop, List.length_cons, List.length_nil, List.nil_append, List.cons_append] at hc; subst hc)
    | (refine Ops.guardDT rfl rfl rfl (by omega) ?_) | (refine Ops.guardDF rfl rfl rfl (by omega) ?_)
    | (refine Ops.guardD rfl rfl rfl ?_ ?_ <;> intro hg)
    | (refine Ops.guardB rfl rfl rfl ?_ ?_ <;> intro hg)
    | refine Cd.condT rfl ?_ | refine Cd.condF rfl ?_
    | (refine Cd.condDT rfl (by omega) ?_) | (refine Cd.condDF rfl (by omega) ?_)
    | (refine Cd.condD rfl ?_ ?_ <;> intro hc)
    | (refine Cd.cond rfl ?_ ?_ <;> intro hc))
  all_goals exact ⟨_, rfl, rfl, rfl⟩
end Go.Proofs.YtlbnlalkimnhdaaDoor.Sim
