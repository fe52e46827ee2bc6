/-
  What the statement SpanOnesCardSaid leans on, part 18: the logic of walks, digits, contracts of the functions, the plain law. Conditions stand in each theorem.
-/
import Derived.Test.YtpjbgmafnheomaaGreatDoorPkSpanOnesCardSaidQ
import Derived.ChangeSame
namespace Go.Proofs.YtpjbgmafnheomaaGreatDoor.Sim
open Go.RowKit
set_option linter.unusedVariables false
set_option linter.unusedSimpArgs false
set_option maxRecDepth 10000
set_option maxHeartbeats 8000000
theorem chkE_z {p : Int} {b : Bool} (h : chkE p b = 0) : (1 ≤ p ∧ p ≤ 70000) ∧ b = true := by
  by_cases hp : 1 ≤ p ∧ p ≤ 70000
  · refine ⟨hp, ?_⟩
    unfold chkE at h
    rw [if_neg (by omega)] at h
    cases b
    · exact absurd h (by decide)
    · rfl
  · rw [chkE_bad b hp] at h
    exact absurd h (by decide)
theorem s_ones6 {g : List (Nat × List Value)} (hD : (0, debT.map (Value.int .u8)) ∈ g) (b1 : Bool) (l1 : List Int) (e1 : Int) (b2 : Bool) (l2 : List Int) (e2 : Int) (b3 : Bool) (l3 : List Int) (e3 : Int) (b4 : Bool) (l4 : List Int) (e4 : Int) (b5 : Bool) (l5 : List Int) (e5 : Int) {p : Int} (o1 : OKM l1) (o2 : OKM l2) (o3 : OKM l3) (o4 : OKM l4) (o5 : OKM l5) (hp0 : inR .i64 p) : FC Tryz.prog g 86 [.agg [.val (.int .i64 (6)), .val (.bool b1), .ws .u64 l1, .val (.int .i64 e1), .val (.bool b2), .ws .u64 l2, .val (.int .i64 e2), .val (.bool b3), .ws .u64 l3, .val (.int .i64 e3), .val (.bool b4), .ws .u64 l4, .val (.int .i64 e4), .val (.bool b5), .ws .u64 l5, .val (.int .i64 e5), .val (.int .i64 p)]] (· = .val (.bool true)) := by
  by_cases hc : chkE p (spF b1 l1 e1 b2 l2 e2) = 0
  · obtain ⟨hp, hF⟩ := chkE_z hc
    obtain ⟨a, b, E1, h⟩ := spF_ex o1.1 o2.1 hF
    cases E1
    have f := p_out hD h hp
    have k := q_docout (G := g) h hp
    obtain ⟨x, y, c, hr, gx, gy⟩ := bothA_any (u := toAn (cutsS a.1 a.2 p false)) (v := toAn (cutsS b.1 b.2 p true)) (cuts_ans a hp false).eq.2.1 (cuts_ans b hp true).eq.2.1
    unfold outP at f k
    rw [hr] at f k
    exact s_one6 _ _ _ _ _ _ b3 l3 e3 b4 l4 e4 b5 l5 e5 o1 o2 o3 o4 o5 gx gy f k
  · exact s_one6 b1 l1 e1 b2 l2 e2 b3 l3 e3 b4 l4 e4 b5 l5 e5 o1 o2 o3 o4 o5 (x := (0, 0)) (y := (0, 0)) Good.zero Good.zero (p_outX b1 l1 e1 b2 l2 e2 o1.1 o2.1 p hc) (q_docoutX b1 l1 e1 b2 l2 e2 o1.1 o2.1 p hc)
theorem s_ones7 {g : List (Nat × List Value)} (hD : (0, debT.map (Value.int .u8)) ∈ g) (b1 : Bool) (l1 : List Int) (e1 : Int) (b2 : Bool) (l2 : List Int) (e2 : Int) (b3 : Bool) (l3 : List Int) (e3 : Int) (b4 : Bool) (l4 : List Int) (e4 : Int) (b5 : Bool) (l5 : List Int) (e5 : Int) {p : Int} (o1 : OKM l1) (o2 : OKM l2) (o3 : OKM l3) (o4 : OKM l4) (o5 : OKM l5) (hp0 : inR .i64 p) : FC Tryz.prog g 86 [.agg [.val (.int .i64 (7)), .val (.bool b1), .ws .u64 l1, .val (.int .i64 e1), .val (.bool b2), .ws .u64 l2, .val (.int .i64 e2), .val (.bool b3), .ws .u64 l3, .val (.int .i64 e3), .val (.bool b4), .ws .u64 l4, .val (.int .i64 e4), .val (.bool b5), .ws .u64 l5, .val (.int .i64 e5), .val (.int .i64 p)]] (· = .val (.bool true)) := by
  cases hF : spF b1 l1 e1 b2 l2 e2 with
  | true =>
    obtain ⟨a, b, E1, h⟩ := spF_ex o1.1 o2.1 hF
    cases E1
    have f := p_scale hD h p hp0
    have k := q_docscale (G := g) h p hp0
    obtain ⟨x, y, c, hr, gx, gy⟩ := bothA_any (u := toAn (scaleS a.1 a.2 p)) (v := toAn (scaleS b.1 b.2 p)) (scale_ans a p).eq.2.1 (scale_ans b p).eq.2.1
    unfold spScale at f k
    rw [hr] at f k
    exact s_one7 _ _ _ _ _ _ b3 l3 e3 b4 l4 e4 b5 l5 e5 o1 o2 o3 o4 o5 gx gy f k
  | false => exact s_one7 b1 l1 e1 b2 l2 e2 b3 l3 e3 b4 l4 e4 b5 l5 e5 o1 o2 o3 o4 o5 (x := (0, 0)) (y := (0, 0)) Good.zero Good.zero (p_scaleX b1 l1 e1 b2 l2 e2 o1.1 o2.1 p hF) (q_docscaleX b1 l1 e1 b2 l2 e2 o1.1 o2.1 p hF)
theorem s_ones8 {g : List (Nat × List Value)} (hD : (0, debT.map (Value.int .u8)) ∈ g) (b1 : Bool) (l1 : List Int) (e1 : Int) (b2 : Bool) (l2 : List Int) (e2 : Int) (b3 : Bool) (l3 : List Int) (e3 : Int) (b4 : Bool) (l4 : List Int) (e4 : Int) (b5 : Bool) (l5 : List Int) (e5 : Int) {p : Int} (o1 : OKM l1) (o2 : OKM l2) (o3 : OKM l3) (o4 : OKM l4) (o5 : OKM l5) (hp0 : inR .i64 p) : FC Tryz.prog g 86 [.agg [.val (.int .i64 (8)), .val (.bool b1), .ws .u64 l1, .val (.int .i64 e1), .val (.bool b2), .ws .u64 l2, .val (.int .i64 e2), .val (.bool b3), .ws .u64 l3, .val (.int .i64 e3), .val (.bool b4), .ws .u64 l4, .val (.int .i64 e4), .val (.bool b5), .ws .u64 l5, .val (.int .i64 e5), .val (.int .i64 p)]] (· = .val (.bool true)) := by
  cases hF : spF b1 l1 e1 b2 l2 e2 with
  | true =>
    obtain ⟨a, b, E1, h⟩ := spF_ex o1.1 o2.1 hF
    cases E1
    exact s_one8 _ _ _ _ _ _ b3 l3 e3 b4 l4 e4 b5 l5 e5 o1 o2 o3 o4 o5 (D2.neg_good h.2.1) (D2.neg_good h.1) (p_neg h) (q_docneg h)
  | false => exact s_one8 b1 l1 e1 b2 l2 e2 b3 l3 e3 b4 l4 e4 b5 l5 e5 o1 o2 o3 o4 o5 (x := (0, 0)) (y := (0, 0)) Good.zero Good.zero (p_negX b1 l1 e1 b2 l2 e2 o1.1 o2.1 hF) (q_docnegX b1 l1 e1 b2 l2 e2 o1.1 o2.1 hF)
theorem s_ones9 {g : List (Nat × List Value)} (hD : (0, debT.map (Value.int .u8)) ∈ g) (b1 : Bool) (l1 : List Int) (e1 : Int) (b2 : Bool) (l2 : List Int) (e2 : Int) (b3 : Bool) (l3 : List Int) (e3 : Int) (b4 : Bool) (l4 : List Int) (e4 : Int) (b5 : Bool) (l5 : List Int) (e5 : Int) {p : Int} (o1 : OKM l1) (o2 : OKM l2) (o3 : OKM l3) (o4 : OKM l4) (o5 : OKM l5) (hp0 : inR .i64 p) : FC Tryz.prog g 86 [.agg [.val (.int .i64 (9)), .val (.bool b1), .ws .u64 l1, .val (.int .i64 e1), .val (.bool b2), .ws .u64 l2, .val (.int .i64 e2), .val (.bool b3), .ws .u64 l3, .val (.int .i64 e3), .val (.bool b4), .ws .u64 l4, .val (.int .i64 e4), .val (.bool b5), .ws .u64 l5, .val (.int .i64 e5), .val (.int .i64 p)]] (· = .val (.bool true)) := by
  cases hF : (spF b1 l1 e1 b2 l2 e2 && spF b3 l3 e3 b4 l4 e4) with
  | true =>
    rw [Bool.and_eq_true] at hF
    obtain ⟨a, b, E1, h⟩ := spF_ex o1.1 o2.1 hF.1
    obtain ⟨c, d, E2, k⟩ := spF_ex o3.1 o4.1 hF.2
    cases E1
    cases E2
    exact s_one9 _ _ _ _ _ _ _ _ _ _ _ _ b5 l5 e5 o1 o2 o3 o4 o5 (lst2_good h.1 k.1) (gst2_good h.2.1 k.2.1) (p_hull h k) (q_dochull h k)
  | false => exact s_one9 b1 l1 e1 b2 l2 e2 b3 l3 e3 b4 l4 e4 b5 l5 e5 o1 o2 o3 o4 o5 (x := (0, 0)) (y := (0, 0)) Good.zero Good.zero (p_hullX b1 l1 e1 b2 l2 e2 o1.1 o2.1 b3 l3 e3 b4 l4 e4 o3.1 o4.1 hF) (q_dochullX b1 l1 e1 b2 l2 e2 o1.1 o2.1 b3 l3 e3 b4 l4 e4 o3.1 o4.1 hF)
theorem s_ones10 {g : List (Nat × List Value)} (hD : (0, debT.map (Value.int .u8)) ∈ g) (b1 : Bool) (l1 : List Int) (e1 : Int) (b2 : Bool) (l2 : List Int) (e2 : Int) (b3 : Bool) (l3 : List Int) (e3 : Int) (b4 : Bool) (l4 : List Int) (e4 : Int) (b5 : Bool) (l5 : List Int) (e5 : Int) {p : Int} (o1 : OKM l1) (o2 : OKM l2) (o3 : OKM l3) (o4 : OKM l4) (o5 : OKM l5) (hp0 : inR .i64 p) : FC Tryz.prog g 86 [.agg [.val (.int .i64 (10)), .val (.bool b1), .ws .u64 l1, .val (.int .i64 e1), .val (.bool b2), .ws .u64 l2, .val (.int .i64 e2), .val (.bool b3), .ws .u64 l3, .val (.int .i64 e3), .val (.bool b4), .ws .u64 l4, .val (.int .i64 e4), .val (.bool b5), .ws .u64 l5, .val (.int .i64 e5), .val (.int .i64 p)]] (· = .val (.bool true)) := by
  cases hF : (spF b1 l1 e1 b2 l2 e2 && spF b3 l3 e3 b4 l4 e4) with
  | true =>
    rw [Bool.and_eq_true] at hF
    obtain ⟨a, b, E1, h⟩ := spF_ex o1.1 o2.1 hF.1
    obtain ⟨c, d, E2, k⟩ := spF_ex o3.1 o4.1 hF.2
    cases E1
    cases E2
    have f := p_meet (G := g) h k
    have f2 := q_docmeet (G := g) h k
    by_cases hv : (gst2 a c).v ≤ (lst2 b d).v
    · rw [if_pos hv] at f f2
      exact s_one10 _ _ _ _ _ _ _ _ _ _ _ _ b5 l5 e5 o1 o2 o3 o4 o5 (gst2_good h.1 k.1) (lst2_good h.2.1 k.2.1) f f2
    · rw [if_neg hv] at f f2
      exact s_one10 _ _ _ _ _ _ _ _ _ _ _ _ b5 l5 e5 o1 o2 o3 o4 o5 (x := (0, 0)) (y := (0, 0)) Good.zero Good.zero f f2
  | false => exact s_one10 b1 l1 e1 b2 l2 e2 b3 l3 e3 b4 l4 e4 b5 l5 e5 o1 o2 o3 o4 o5 (x := (0, 0)) (y := (0, 0)) Good.zero Good.zero (p_meetX b1 l1 e1 b2 l2 e2 o1.1 o2.1 b3 l3 e3 b4 l4 e4 o3.1 o4.1 hF) (q_docmeetX b1 l1 e1 b2 l2 e2 o1.1 o2.1 b3 l3 e3 b4 l4 e4 o3.1 o4.1 hF)
theorem s_ones15 {g : List (Nat × List Value)} (hD : (0, debT.map (Value.int .u8)) ∈ g) (b1 : Bool) (l1 : List Int) (e1 : Int) (b2 : Bool) (l2 : List Int) (e2 : Int) (b3 : Bool) (l3 : List Int) (e3 : Int) (b4 : Bool) (l4 : List Int) (e4 : Int) (b5 : Bool) (l5 : List Int) (e5 : Int) {p : Int} (o1 : OKM l1) (o2 : OKM l2) (o3 : OKM l3) (o4 : OKM l4) (o5 : OKM l5) (hp0 : inR .i64 p) : FC Tryz.prog g 86 [.agg [.val (.int .i64 (15)), .val (.bool b1), .ws .u64 l1, .val (.int .i64 e1), .val (.bool b2), .ws .u64 l2, .val (.int .i64 e2), .val (.bool b3), .ws .u64 l3, .val (.int .i64 e3), .val (.bool b4), .ws .u64 l4, .val (.int .i64 e4), .val (.bool b5), .ws .u64 l5, .val (.int .i64 e5), .val (.int .i64 p)]] (· = .val (.bool true)) := by
  cases hF : dyF b5 l5 e5 with
  | true =>
    obtain ⟨m, gm, hb, hl, _⟩ := dyF_ex2 o5.1 hF
    subst hb hl
    exact s_one15 b1 l1 e1 b2 l2 e2 b3 l3 e3 b4 l4 e4 _ _ e5 o1 o2 o3 o4 o5 (x := (m, e5)) (y := (m, e5)) gm gm (p_point (a := (m, e5)) gm) (q_docpoint (a := (m, e5)) gm)
  | false => exact s_one15 b1 l1 e1 b2 l2 e2 b3 l3 e3 b4 l4 e4 b5 l5 e5 o1 o2 o3 o4 o5 (x := (0, 0)) (y := (0, 0)) Good.zero Good.zero (p_pointX b5 l5 e5 o5.1 hF) (q_docpointX b5 l5 e5 o5.1 (by rw [spF_same]; exact hF))
theorem s_ones16 {g : List (Nat × List Value)} (hD : (0, debT.map (Value.int .u8)) ∈ g) (b1 : Bool) (l1 : List Int) (e1 : Int) (b2 : Bool) (l2 : List Int) (e2 : Int) (b3 : Bool) (l3 : List Int) (e3 : Int) (b4 : Bool) (l4 : List Int) (e4 : Int) (b5 : Bool) (l5 : List Int) (e5 : Int) {p : Int} (o1 : OKM l1) (o2 : OKM l2) (o3 : OKM l3) (o4 : OKM l4) (o5 : OKM l5) (hp0 : inR .i64 p) : FC Tryz.prog g 86 [.agg [.val (.int .i64 (16)), .val (.bool b1), .ws .u64 l1, .val (.int .i64 e1), .val (.bool b2), .ws .u64 l2, .val (.int .i64 e2), .val (.bool b3), .ws .u64 l3, .val (.int .i64 e3), .val (.bool b4), .ws .u64 l4, .val (.int .i64 e4), .val (.bool b5), .ws .u64 l5, .val (.int .i64 e5), .val (.int .i64 p)]] (· = .val (.bool true)) := by
  cases hF : spF b1 l1 e1 b4 l4 e4 with
  | true =>
    obtain ⟨a, b, E1, h⟩ := spF_ex o1.1 o4.1 hF
    cases E1
    exact s_one16 _ _ _ b2 l2 e2 b3 l3 e3 _ _ _ b5 l5 e5 o1 o2 o3 o4 o5 h.1 h.2.1 (p_make h) (q_docmake h)
  | false => exact s_one16 b1 l1 e1 b2 l2 e2 b3 l3 e3 b4 l4 e4 b5 l5 e5 o1 o2 o3 o4 o5 (x := (0, 0)) (y := (0, 0)) Good.zero Good.zero (p_makeX b1 l1 e1 b4 l4 e4 o1.1 o4.1 hF) (q_docmakeX b1 l1 e1 b4 l4 e4 o1.1 o4.1 hF)
theorem s_tolds11 {g : List (Nat × List Value)} (hD : (0, debT.map (Value.int .u8)) ∈ g) (b1 : Bool) (l1 : List Int) (e1 : Int) (b2 : Bool) (l2 : List Int) (e2 : Int) (b3 : Bool) (l3 : List Int) (e3 : Int) (b4 : Bool) (l4 : List Int) (e4 : Int) (b5 : Bool) (l5 : List Int) (e5 : Int) {p : Int} (o1 : OKM l1) (o2 : OKM l2) (o3 : OKM l3) (o4 : OKM l4) (o5 : OKM l5) (hp0 : inR .i64 p) : FC Tryz.prog g 87 [.agg [.val (.int .i64 (11)), .val (.bool b1), .ws .u64 l1, .val (.int .i64 e1), .val (.bool b2), .ws .u64 l2, .val (.int .i64 e2), .val (.bool b3), .ws .u64 l3, .val (.int .i64 e3), .val (.bool b4), .ws .u64 l4, .val (.int .i64 e4), .val (.bool b5), .ws .u64 l5, .val (.int .i64 e5), .val (.int .i64 p)]] (· = .val (.bool true)) := by
  by_cases hc : chkE p (spF b1 l1 e1 b2 l2 e2) = 0
  · obtain ⟨hp, hF⟩ := chkE_z hc
    obtain ⟨a, b, E1, h⟩ := spF_ex o1.1 o2.1 hF
    cases E1
    have f := p_thin hD h hp
    have k := q_docthin (G := g) h hp
    obtain ⟨t, c, hr⟩ := thin_form a b p
    rw [hr] at f k
    exact s_told11 _ _ _ _ _ _ b3 l3 e3 b4 l4 e4 b5 l5 e5 o1 o2 o3 o4 o5 (x := (0, 0)) Good.zero (s := 0) f k
  · exact s_told11 b1 l1 e1 b2 l2 e2 b3 l3 e3 b4 l4 e4 b5 l5 e5 o1 o2 o3 o4 o5 (x := (0, 0)) Good.zero (s := 0) (p_thinX b1 l1 e1 b2 l2 e2 o1.1 o2.1 p hc) (q_docthinX b1 l1 e1 b2 l2 e2 o1.1 o2.1 p hc)
theorem s_tolds12 {g : List (Nat × List Value)} (hD : (0, debT.map (Value.int .u8)) ∈ g) (b1 : Bool) (l1 : List Int) (e1 : Int) (b2 : Bool) (l2 : List Int) (e2 : Int) (b3 : Bool) (l3 : List Int) (e3 : Int) (b4 : Bool) (l4 : List Int) (e4 : Int) (b5 : Bool) (l5 : List Int) (e5 : Int) {p : Int} (o1 : OKM l1) (o2 : OKM l2) (o3 : OKM l3) (o4 : OKM l4) (o5 : OKM l5) (hp0 : inR .i64 p) : FC Tryz.prog g 87 [.agg [.val (.int .i64 (12)), .val (.bool b1), .ws .u64 l1, .val (.int .i64 e1), .val (.bool b2), .ws .u64 l2, .val (.int .i64 e2), .val (.bool b3), .ws .u64 l3, .val (.int .i64 e3), .val (.bool b4), .ws .u64 l4, .val (.int .i64 e4), .val (.bool b5), .ws .u64 l5, .val (.int .i64 e5), .val (.int .i64 p)]] (· = .val (.bool true)) := by
  cases hF : spF b1 l1 e1 b2 l2 e2 with
  | true =>
    obtain ⟨a, b, E1, h⟩ := spF_ex o1.1 o2.1 hF
    cases E1
    have f := p_width hD h
    have k := q_docwidth (G := g) h
    obtain ⟨e, gu, _⟩ := (add_ans h.2.1 (D2.neg_good h.1)).eq
    rw [e] at f k
    exact s_told12 _ _ _ _ _ _ b3 l3 e3 b4 l4 e4 b5 l5 e5 o1 o2 o3 o4 o5 (x := (toAn (addP b a.neg)).d) gu (s := 0) (t := true) f k
  | false => exact s_told12 b1 l1 e1 b2 l2 e2 b3 l3 e3 b4 l4 e4 b5 l5 e5 o1 o2 o3 o4 o5 (x := (0, 0)) Good.zero (s := 0) (t := true) (p_widthX b1 l1 e1 b2 l2 e2 o1.1 o2.1 hF) (q_docwidthX b1 l1 e1 b2 l2 e2 o1.1 o2.1 hF)
theorem s_tolds13 {g : List (Nat × List Value)} (hD : (0, debT.map (Value.int .u8)) ∈ g) (b1 : Bool) (l1 : List Int) (e1 : Int) (b2 : Bool) (l2 : List Int) (e2 : Int) (b3 : Bool) (l3 : List Int) (e3 : Int) (b4 : Bool) (l4 : List Int) (e4 : Int) (b5 : Bool) (l5 : List Int) (e5 : Int) {p : Int} (o1 : OKM l1) (o2 : OKM l2) (o3 : OKM l3) (o4 : OKM l4) (o5 : OKM l5) (hp0 : inR .i64 p) : FC Tryz.prog g 87 [.agg [.val (.int .i64 (13)), .val (.bool b1), .ws .u64 l1, .val (.int .i64 e1), .val (.bool b2), .ws .u64 l2, .val (.int .i64 e2), .val (.bool b3), .ws .u64 l3, .val (.int .i64 e3), .val (.bool b4), .ws .u64 l4, .val (.int .i64 e4), .val (.bool b5), .ws .u64 l5, .val (.int .i64 e5), .val (.int .i64 p)]] (· = .val (.bool true)) := by
  cases hF : spF b1 l1 e1 b2 l2 e2 with
  | true =>
    obtain ⟨a, b, E1, h⟩ := spF_ex o1.1 o2.1 hF
    cases E1
    exact s_told13 _ _ _ _ _ _ b3 l3 e3 b4 l4 e4 b5 l5 e5 o1 o2 o3 o4 o5 (x := (0, 0)) Good.zero (t := true) (p_Sign h) (q_docSign h)
  | false => exact s_told13 b1 l1 e1 b2 l2 e2 b3 l3 e3 b4 l4 e4 b5 l5 e5 o1 o2 o3 o4 o5 (x := (0, 0)) Good.zero (t := true) (p_SignX b1 l1 e1 b2 l2 e2 o1.1 o2.1 hF) (q_docSignX b1 l1 e1 b2 l2 e2 o1.1 o2.1 hF)
theorem s_tolds14 {g : List (Nat × List Value)} (hD : (0, debT.map (Value.int .u8)) ∈ g) (b1 : Bool) (l1 : List Int) (e1 : Int) (b2 : Bool) (l2 : List Int) (e2 : Int) (b3 : Bool) (l3 : List Int) (e3 : Int) (b4 : Bool) (l4 : List Int) (e4 : Int) (b5 : Bool) (l5 : List Int) (e5 : Int) {p : Int} (o1 : OKM l1) (o2 : OKM l2) (o3 : OKM l3) (o4 : OKM l4) (o5 : OKM l5) (hp0 : inR .i64 p) : FC Tryz.prog g 87 [.agg [.val (.int .i64 (14)), .val (.bool b1), .ws .u64 l1, .val (.int .i64 e1), .val (.bool b2), .ws .u64 l2, .val (.int .i64 e2), .val (.bool b3), .ws .u64 l3, .val (.int .i64 e3), .val (.bool b4), .ws .u64 l4, .val (.int .i64 e4), .val (.bool b5), .ws .u64 l5, .val (.int .i64 e5), .val (.int .i64 p)]] (· = .val (.bool true)) := by
  cases hF : (spF b1 l1 e1 b2 l2 e2 && dyF b5 l5 e5) with
  | true =>
    rw [Bool.and_eq_true] at hF
    obtain ⟨a, b, E1, h⟩ := spF_ex o1.1 o2.1 hF.1
    cases E1
    obtain ⟨m, gm, hb, hl, _⟩ := dyF_ex2 o5.1 hF.2
    subst hb hl
    exact s_told14 _ _ _ _ _ _ b3 l3 e3 b4 l4 e4 _ _ e5 o1 o2 o3 o4 o5 (x := (0, 0)) Good.zero (s := 0) (p_has (d := (m, e5)) h gm) (q_dochas (d := (m, e5)) h gm)
  | false => exact s_told14 b1 l1 e1 b2 l2 e2 b3 l3 e3 b4 l4 e4 b5 l5 e5 o1 o2 o3 o4 o5 (x := (0, 0)) Good.zero (s := 0) (p_hasX b1 l1 e1 b2 l2 e2 o1.1 o2.1 b5 l5 e5 o5.1 hF) (q_dochasX b1 l1 e1 b2 l2 e2 o1.1 o2.1 b5 l5 e5 o5.1 hF)
theorem s_tolds17 {g : List (Nat × List Value)} (hD : (0, debT.map (Value.int .u8)) ∈ g) (b1 : Bool) (l1 : List Int) (e1 : Int) (b2 : Bool) (l2 : List Int) (e2 : Int) (b3 : Bool) (l3 : List Int) (e3 : Int) (b4 : Bool) (l4 : List Int) (e4 : Int) (b5 : Bool) (l5 : List Int) (e5 : Int) {p : Int} (o1 : OKM l1) (o2 : OKM l2) (o3 : OKM l3) (o4 : OKM l4) (o5 : OKM l5) (hp0 : inR .i64 p) : FC Tryz.prog g 87 [.agg [.val (.int .i64 (17)), .val (.bool b1), .ws .u64 l1, .val (.int .i64 e1), .val (.bool b2), .ws .u64 l2, .val (.int .i64 e2), .val (.bool b3), .ws .u64 l3, .val (.int .i64 e3), .val (.bool b4), .ws .u64 l4, .val (.int .i64 e4), .val (.bool b5), .ws .u64 l5, .val (.int .i64 e5), .val (.int .i64 p)]] (· = .val (.bool true)) := by
  exact s_told17 b1 l1 e1 b2 l2 e2 b3 l3 e3 b4 l4 e4 b5 l5 e5 o1 o2 o3 o4 o5 (x := (0, 0)) Good.zero (s := 0) (c := 0) (p_formX b1 l1 e1 b2 l2 e2 o1.1 o2.1) (q_formX b1 l1 e1 b2 l2 e2 o1.1 o2.1)
theorem s_plays6 {g : List (Nat × List Value)} (hD : (0, debT.map (Value.int .u8)) ∈ g) (b1 : Bool) (l1 : List Int) (e1 : Int) (b2 : Bool) (l2 : List Int) (e2 : Int) (b3 : Bool) (l3 : List Int) (e3 : Int) (b4 : Bool) (l4 : List Int) (e4 : Int) (b5 : Bool) (l5 : List Int) (e5 : Int) {p : Int} (o1 : OKM l1) (o2 : OKM l2) (o3 : OKM l3) (o4 : OKM l4) (o5 : OKM l5) (hp0 : inR .i64 p) (K : Int) (h1 : 6 ≤ K ∨ K ≤ 0) : FC Tryz.prog g 43 [.agg [.val (.int .i64 (K)), .val (.bool b1), .ws .u64 l1, .val (.int .i64 e1), .val (.bool b2), .ws .u64 l2, .val (.int .i64 e2), .val (.bool b3), .ws .u64 l3, .val (.int .i64 e3), .val (.bool b4), .ws .u64 l4, .val (.int .i64 e4), .val (.bool b5), .ws .u64 l5, .val (.int .i64 e5), .val (.int .i64 p)]] (· = .val (.bool true)) := by
  · by_cases h2 : (6 ≤ K ∧ K ≤ 10) ∨ K = 15 ∨ K = 16
    · have u : FC Tryz.prog g 86 [.agg [.val (.int .i64 (K)), .val (.bool b1), .ws .u64 l1, .val (.int .i64 e1), .val (.bool b2), .ws .u64 l2, .val (.int .i64 e2), .val (.bool b3), .ws .u64 l3, .val (.int .i64 e3), .val (.bool b4), .ws .u64 l4, .val (.int .i64 e4), .val (.bool b5), .ws .u64 l5, .val (.int .i64 e5), .val (.int .i64 p)]] (· = .val (.bool true)) := by
        rcases (show K = 6 ∨ K = 7 ∨ K = 8 ∨ K = 9 ∨ K = 10 ∨ K = 15 ∨ K = 16 by omega) with rfl | rfl | rfl | rfl | rfl | rfl | rfl
        · exact s_ones6 hD b1 l1 e1 b2 l2 e2 b3 l3 e3 b4 l4 e4 b5 l5 e5 o1 o2 o3 o4 o5 hp0
        · exact s_ones7 hD b1 l1 e1 b2 l2 e2 b3 l3 e3 b4 l4 e4 b5 l5 e5 o1 o2 o3 o4 o5 hp0
        · exact s_ones8 hD b1 l1 e1 b2 l2 e2 b3 l3 e3 b4 l4 e4 b5 l5 e5 o1 o2 o3 o4 o5 hp0
        · exact s_ones9 hD b1 l1 e1 b2 l2 e2 b3 l3 e3 b4 l4 e4 b5 l5 e5 o1 o2 o3 o4 o5 hp0
        · exact s_ones10 hD b1 l1 e1 b2 l2 e2 b3 l3 e3 b4 l4 e4 b5 l5 e5 o1 o2 o3 o4 o5 hp0
        · exact s_ones15 hD b1 l1 e1 b2 l2 e2 b3 l3 e3 b4 l4 e4 b5 l5 e5 o1 o2 o3 o4 o5 hp0
        · exact s_ones16 hD b1 l1 e1 b2 l2 e2 b3 l3 e3 b4 l4 e4 b5 l5 e5 o1 o2 o3 o4 o5 hp0
      refine ax_i Tryz.func43 Tryz.ntmps43 (by rw [Tryz.results43]) ?_; intro F hG hO
      rw [← hG] at u
      repeat' ((try (conv => whnf)); first
  | ((with_reducible refine cg ?_); first | refine ceq u rfl ?_)
  
  | with_reducible first | refine ax_s ?_ | refine BothG.mk ?_ ?_ | (refine ax_f ?_ ?_ <;> intro hc) | refine smk ?_ | fail)
      all_goals exact ⟨ret_e rfl⟩
    · by_cases h3 : 11 ≤ K ∧ K ≤ 17
      · have u : FC Tryz.prog g 87 [.agg [.val (.int .i64 (K)), .val (.bool b1), .ws .u64 l1, .val (.int .i64 e1), .val (.bool b2), .ws .u64 l2, .val (.int .i64 e2), .val (.bool b3), .ws .u64 l3, .val (.int .i64 e3), .val (.bool b4), .ws .u64 l4, .val (.int .i64 e4), .val (.bool b5), .ws .u64 l5, .val (.int .i64 e5), .val (.int .i64 p)]] (· = .val (.bool true)) := by
          rcases (show K = 11 ∨ K = 12 ∨ K = 13 ∨ K = 14 ∨ K = 17 by omega) with rfl | rfl | rfl | rfl | rfl
          · exact s_tolds11 hD b1 l1 e1 b2 l2 e2 b3 l3 e3 b4 l4 e4 b5 l5 e5 o1 o2 o3 o4 o5 hp0
          · exact s_tolds12 hD b1 l1 e1 b2 l2 e2 b3 l3 e3 b4 l4 e4 b5 l5 e5 o1 o2 o3 o4 o5 hp0
          · exact s_tolds13 hD b1 l1 e1 b2 l2 e2 b3 l3 e3 b4 l4 e4 b5 l5 e5 o1 o2 o3 o4 o5 hp0
          · exact s_tolds14 hD b1 l1 e1 b2 l2 e2 b3 l3 e3 b4 l4 e4 b5 l5 e5 o1 o2 o3 o4 o5 hp0
          · exact s_tolds17 hD b1 l1 e1 b2 l2 e2 b3 l3 e3 b4 l4 e4 b5 l5 e5 o1 o2 o3 o4 o5 hp0
        refine ax_i Tryz.func43 Tryz.ntmps43 (by rw [Tryz.results43]) ?_; intro F hG hO
        rw [← hG] at u
        repeat' ((try (conv => whnf)); first
  | ((with_reducible refine cg ?_); first | refine ceq u rfl ?_)
  
  | with_reducible first | refine ax_s ?_ | refine BothG.mk ?_ ?_ | (refine ax_f ?_ ?_ <;> intro hc) | refine smk ?_ | fail)
        all_goals exact ⟨ret_e rfl⟩
      · skip
        refine ax_i Tryz.func43 Tryz.ntmps43 (by rw [Tryz.results43]) ?_; intro F hG hO
        repeat' ((try (conv => whnf)); first
  
  | with_reducible first | refine ax_s ?_ | refine BothG.mk ?_ ?_ | (refine ax_f ?_ ?_ <;> intro hc) | refine smk ?_ | fail)
        all_goals exact ⟨ret_e rfl⟩
theorem l_spanOnes {g : List (Nat × List Value)} (hD : (0, debT.map (Value.int .u8)) ∈ g) (b1 : Bool) (l1 : List Int) (e1 : Int) (b2 : Bool) (l2 : List Int) (e2 : Int) (b5 : Bool) (l5 : List Int) (e5 : Int) (p k : Int) (o1 : OKM l1) (o2 : OKM l2) (o5 : OKM l5) (hp0 : inR .i64 p) (hk0 : inR .i64 k) : FC Tryz.prog g 11 [Sp b1 l1 e1 b2 l2 e2, Dy b5 l5 e5, .val (.int .i64 p), .val (.int .i64 k)] (· = .val (.bool true)) := by
  have aw := s_awake hD
  have hP := fun (K : Int) => s_plays6 (p := p) hD b1 l1 e1 b2 l2 e2 b1 l1 e1 b2 l2 e2 b5 l5 e5 o1 o2 o1 o2 o5 hp0 K
  have hK := fun (K : Int) => s_plays6 (p := k) hD b1 l1 e1 b2 l2 e2 b1 l1 e1 b2 l2 e2 b5 l5 e5 o1 o2 o1 o2 o5 hk0 K
  refine ax_i Tryz.func11 Tryz.ntmps11 (by rw [Tryz.results11]) ?_; intro F hG hO
  rw [← hG] at aw hP hK
  repeat' ((try (conv => whnf)); first
  | ((with_reducible refine cg ?_); first | refine ceq aw rfl ?_)
  | ((with_reducible refine cg ?_); first | refine call_eq (hP _ (by decide)) (LpL.refl _) rfl ?_ | refine call_eq (hK _ (by decide)) (LpL.refl _) rfl ?_)
  | ((with_reducible refine lg ?_); refine rnd0 13 tok ?_)
  | (with_reducible refine rnd1 ?_)
  
  | with_reducible first | refine ax_s ?_ | refine BothG.mk ?_ ?_ | (refine ax_f ?_ ?_ <;> intro hc) | refine smk ?_ | fail)
  all_goals exact ⟨ret_e rfl⟩
end Go.Proofs.YtpjbgmafnheomaaGreatDoor.Sim
namespace Go.Proofs.YtpjbgmafnheomaaGreatDoor.Sim
open Go.RowKit Go.ChangeShapes Go.WideShapes
section
variable {H : Type} {enc : TypeId × Value → H} {P : Program}
theorem post_below2 {f : Func} {s : ChangeSpec} {apart fresh handsOn again : Bool} {W W' : World} {args : Array Value} {v : Value} {ds gs : List (DataW H)} {before pa pv : List MemPlace}
    (hW : DataW.Whole enc P f.params.toList s.vars apart W args.toList ds gs before)
    (hres : ∀ (b : Nat) (sp : Nat → Bool) (hd : Bool), DataW.TrodAll enc P W' b sp hd f.resultTypes.toList (v.resultList f.resultTypes.size) (s.fn H (ds ++ gs)).results [])
    (hargs : ∀ sp : Nat → Bool, (∀ p ∈ before, sp p.block = true) → DataW.TrodAll enc P W' 0 sp true f.params.toList args.toList (s.fn H (ds ++ gs)).args pa)
    (hvars : ∀ sp : Nat → Bool, (∀ p ∈ before, sp p.block = true) → DataW.TrodVars enc P W' sp s.vars (s.fn H (ds ++ gs)).vars pv)
    (hps : before = pa ++ pv) (hb : Below W.heap.size W W')
    (hok : ∀ (j : Nat) (t : TypeId) (r : Value), f.resultTypes[j]? = some t → (v.resultList f.resultTypes.size)[j]? = some r → Value.okWide P W' .any 0 t r) :
    s.post enc P f apart fresh handsOn again W args v W' := by
  have hold : ∀ p ∈ before, (fun b => decide (b < W.heap.size)) p.block = true := fun p hp => by simpa using hW.lt p hp
  have hlt := hW.lt
  refine ⟨ds, gs, before, [], pa, pv, hW, hres _ _ _, hargs _ hold, hvars _ hold, hb.frame _, fun _ => ?_⟩
  obtain ⟨_, _, _, _, _, hz, hn⟩ := hW
  refine ⟨hok, _, _, ([] ++ pa) ++ pv, ⟨[] ++ pa, pv, trodAll_append (hargs _ (fun _ _ => rfl)) (hres _ _ _), hvars _ (fun _ _ => rfl), rfl, ?_, ?_⟩, ?_⟩
  · intro b off hp
    have hm : MemPlace.cell b off ∈ before := by rw [hps]; simpa using hp
    rw [hb.frozen (p := ⟨b, off, none⟩) (hlt _ hm)]
    exact hz b off hm
  · intro ha
    have := hn ha
    rw [hps] at this
    simpa using this
  · intro p hp _
    rw [hps]
    simpa using hp
end
end Go.Proofs.YtpjbgmafnheomaaGreatDoor.Sim
