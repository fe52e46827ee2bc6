/-
  Lemmas.
-/
import Derived.Test.YtpjbgmafnheomaaGreatDoorPkSpanPlaysCardSaidY
import Derived.ChangeSame
namespace Go.Proofs.YtpjbgmafnheomaaGreatDoor.Sim
open Go.RowKit
set_option linter.unusedVariables false
set_option linter.unusedSimpArgs false
set_option maxRecDepth 10000
set_option maxHeartbeats 8000000
abbrev HD (g : Gs) : Prop := (0, debT.map (Value.int .u8)) ∈ g
theorem chkE_z {p : Int} {b : Bool} (h : chkE p b = 0) : (1 ≤ p ∧ p ≤ 70000) ∧ b = true := by
  by_cases hp : 1 ≤ p ∧ p ≤ 70000
  · refine ⟨hp, ?_⟩
    unfold chkE at h
    rw [if_neg (by omega)] at h
    cases b
    · exact absurd h (by decide)
    · rfl
  · rw [chkE_bad b hp] at h
    exact absurd h (by decide)
theorem s_ones6 {g : Gs} (hD : HD g) (b1 : Bool) (l1 : List Int) (e1 : Int) (b2 : Bool) (l2 : List Int) (e2 : Int) (b3 : Bool) (l3 : List Int) (e3 : Int) (b4 : Bool) (l4 : List Int) (e4 : Int) (b5 : Bool) (l5 : List Int) (e5 : Int) {p : Int} (o1 : OKM l1) (o2 : OKM l2) (o3 : OKM l3) (o4 : OKM l4) (o5 : OKM l5) (hp0 : inR .i64 p) : FC Tryz.prog g 86 [OPV 6 b1 l1 e1 b2 l2 e2 b3 l3 e3 b4 l4 e4 b5 l5 e5 p] (· = .val (.bool true)) := by
  by_cases hc : chkE p (spF b1 l1 e1 b2 l2 e2) = 0
  · obtain ⟨hp, hF⟩ := chkE_z hc
    obtain ⟨a, b, E1, h⟩ := spF_ex o1.1 o2.1 hF
    cases E1
    have f := p_out hD h hp
    have k := q_docout (G := g) h hp
    obtain ⟨x, y, c, hr, gx, gy⟩ := bothA_any (u := toAn (cutsS a.1 a.2 p false)) (v := toAn (cutsS b.1 b.2 p true)) (cuts_ans a hp false).eq.2.1 (cuts_ans b hp true).eq.2.1
    unfold outP at f k
    rw [hr] at f k
    exact s_one6 _ _ _ _ _ _ b3 l3 e3 b4 l4 e4 b5 l5 e5 o1 o2 o3 o4 o5 gx gy f k
  · exact s_one6 b1 l1 e1 b2 l2 e2 b3 l3 e3 b4 l4 e4 b5 l5 e5 o1 o2 o3 o4 o5 (x := (0, 0)) (y := (0, 0)) Good.zero Good.zero (p_outX b1 l1 e1 b2 l2 e2 o1.1 o2.1 p hc) (q_docoutX b1 l1 e1 b2 l2 e2 o1.1 o2.1 p hc)
theorem s_ones7 {g : Gs} (hD : HD g) (b1 : Bool) (l1 : List Int) (e1 : Int) (b2 : Bool) (l2 : List Int) (e2 : Int) (b3 : Bool) (l3 : List Int) (e3 : Int) (b4 : Bool) (l4 : List Int) (e4 : Int) (b5 : Bool) (l5 : List Int) (e5 : Int) {p : Int} (o1 : OKM l1) (o2 : OKM l2) (o3 : OKM l3) (o4 : OKM l4) (o5 : OKM l5) (hp0 : inR .i64 p) : FC Tryz.prog g 86 [OPV 7 b1 l1 e1 b2 l2 e2 b3 l3 e3 b4 l4 e4 b5 l5 e5 p] (· = .val (.bool true)) := by
  cases hF : spF b1 l1 e1 b2 l2 e2 with
 | true =>
    obtain ⟨a, b, E1, h⟩ := spF_ex o1.1 o2.1 hF
    cases E1
    have f := p_scale hD h p hp0
    have k := q_docscale (G := g) h p hp0
    obtain ⟨x, y, c, hr, gx, gy⟩ := bothA_any (u := toAn (scaleS a.1 a.2 p)) (v := toAn (scaleS b.1 b.2 p)) (scale_ans a p).eq.2.1 (scale_ans b p).eq.2.1
    unfold spScale at f k
    rw [hr] at f k
    exact s_one7 _ _ _ _ _ _ b3 l3 e3 b4 l4 e4 b5 l5 e5 o1 o2 o3 o4 o5 gx gy f k
 | false => exact s_one7 b1 l1 e1 b2 l2 e2 b3 l3 e3 b4 l4 e4 b5 l5 e5 o1 o2 o3 o4 o5 (x := (0, 0)) (y := (0, 0)) Good.zero Good.zero (p_scaleX b1 l1 e1 b2 l2 e2 o1.1 o2.1 p hF) (q_docscaleX b1 l1 e1 b2 l2 e2 o1.1 o2.1 p hF)
theorem s_ones8 {g : Gs} (hD : HD g) (b1 : Bool) (l1 : List Int) (e1 : Int) (b2 : Bool) (l2 : List Int) (e2 : Int) (b3 : Bool) (l3 : List Int) (e3 : Int) (b4 : Bool) (l4 : List Int) (e4 : Int) (b5 : Bool) (l5 : List Int) (e5 : Int) {p : Int} (o1 : OKM l1) (o2 : OKM l2) (o3 : OKM l3) (o4 : OKM l4) (o5 : OKM l5) (hp0 : inR .i64 p) : FC Tryz.prog g 86 [OPV 8 b1 l1 e1 b2 l2 e2 b3 l3 e3 b4 l4 e4 b5 l5 e5 p] (· = .val (.bool true)) := by
  cases hF : spF b1 l1 e1 b2 l2 e2 with
 | true =>
    obtain ⟨a, b, E1, h⟩ := spF_ex o1.1 o2.1 hF
    cases E1
    exact s_one8 _ _ _ _ _ _ b3 l3 e3 b4 l4 e4 b5 l5 e5 o1 o2 o3 o4 o5 (D2.neg_good h.2.1) (D2.neg_good h.1) (p_neg h) (q_docneg h)
 | false => exact s_one8 b1 l1 e1 b2 l2 e2 b3 l3 e3 b4 l4 e4 b5 l5 e5 o1 o2 o3 o4 o5 (x := (0, 0)) (y := (0, 0)) Good.zero Good.zero (p_negX b1 l1 e1 b2 l2 e2 o1.1 o2.1 hF) (q_docnegX b1 l1 e1 b2 l2 e2 o1.1 o2.1 hF)
theorem s_ones9 {g : Gs} (hD : HD g) (b1 : Bool) (l1 : List Int) (e1 : Int) (b2 : Bool) (l2 : List Int) (e2 : Int) (b3 : Bool) (l3 : List Int) (e3 : Int) (b4 : Bool) (l4 : List Int) (e4 : Int) (b5 : Bool) (l5 : List Int) (e5 : Int) {p : Int} (o1 : OKM l1) (o2 : OKM l2) (o3 : OKM l3) (o4 : OKM l4) (o5 : OKM l5) (hp0 : inR .i64 p) : FC Tryz.prog g 86 [OPV 9 b1 l1 e1 b2 l2 e2 b3 l3 e3 b4 l4 e4 b5 l5 e5 p] (· = .val (.bool true)) := by
  cases hF : (spF b1 l1 e1 b2 l2 e2 && spF b3 l3 e3 b4 l4 e4) with
 | true =>
    rw [Bool.and_eq_true] at hF
    obtain ⟨a, b, E1, h⟩ := spF_ex o1.1 o2.1 hF.1
    obtain ⟨c, d, E2, k⟩ := spF_ex o3.1 o4.1 hF.2
    cases E1
    cases E2
    exact s_one9 _ _ _ _ _ _ _ _ _ _ _ _ b5 l5 e5 o1 o2 o3 o4 o5 (lst2_good h.1 k.1) (gst2_good h.2.1 k.2.1) (p_hull h k) (q_dochull h k)
 | false => exact s_one9 b1 l1 e1 b2 l2 e2 b3 l3 e3 b4 l4 e4 b5 l5 e5 o1 o2 o3 o4 o5 (x := (0, 0)) (y := (0, 0)) Good.zero Good.zero (p_hullX b1 l1 e1 b2 l2 e2 o1.1 o2.1 b3 l3 e3 b4 l4 e4 o3.1 o4.1 hF) (q_dochullX b1 l1 e1 b2 l2 e2 o1.1 o2.1 b3 l3 e3 b4 l4 e4 o3.1 o4.1 hF)
theorem s_ones10 {g : Gs} (hD : HD g) (b1 : Bool) (l1 : List Int) (e1 : Int) (b2 : Bool) (l2 : List Int) (e2 : Int) (b3 : Bool) (l3 : List Int) (e3 : Int) (b4 : Bool) (l4 : List Int) (e4 : Int) (b5 : Bool) (l5 : List Int) (e5 : Int) {p : Int} (o1 : OKM l1) (o2 : OKM l2) (o3 : OKM l3) (o4 : OKM l4) (o5 : OKM l5) (hp0 : inR .i64 p) : FC Tryz.prog g 86 [OPV 10 b1 l1 e1 b2 l2 e2 b3 l3 e3 b4 l4 e4 b5 l5 e5 p] (· = .val (.bool true)) := by
  cases hF : (spF b1 l1 e1 b2 l2 e2 && spF b3 l3 e3 b4 l4 e4) with
 | true =>
    rw [Bool.and_eq_true] at hF
    obtain ⟨a, b, E1, h⟩ := spF_ex o1.1 o2.1 hF.1
    obtain ⟨c, d, E2, k⟩ := spF_ex o3.1 o4.1 hF.2
    cases E1
    cases E2
    have f := p_meet (G := g) h k
    have f2 := q_docmeet (G := g) h k
    by_cases hv : (gst2 a c).v ≤ (lst2 b d).v
    · rw [if_pos hv] at f f2
      exact s_one10 _ _ _ _ _ _ _ _ _ _ _ _ b5 l5 e5 o1 o2 o3 o4 o5 (gst2_good h.1 k.1) (lst2_good h.2.1 k.2.1) f f2
    · rw [if_neg hv] at f f2
      exact s_one10 _ _ _ _ _ _ _ _ _ _ _ _ b5 l5 e5 o1 o2 o3 o4 o5 (x := (0, 0)) (y := (0, 0)) Good.zero Good.zero f f2
 | false => exact s_one10 b1 l1 e1 b2 l2 e2 b3 l3 e3 b4 l4 e4 b5 l5 e5 o1 o2 o3 o4 o5 (x := (0, 0)) (y := (0, 0)) Good.zero Good.zero (p_meetX b1 l1 e1 b2 l2 e2 o1.1 o2.1 b3 l3 e3 b4 l4 e4 o3.1 o4.1 hF) (q_docmeetX b1 l1 e1 b2 l2 e2 o1.1 o2.1 b3 l3 e3 b4 l4 e4 o3.1 o4.1 hF)
theorem s_ones15 {g : Gs} (hD : HD g) (b1 : Bool) (l1 : List Int) (e1 : Int) (b2 : Bool) (l2 : List Int) (e2 : Int) (b3 : Bool) (l3 : List Int) (e3 : Int) (b4 : Bool) (l4 : List Int) (e4 : Int) (b5 : Bool) (l5 : List Int) (e5 : Int) {p : Int} (o1 : OKM l1) (o2 : OKM l2) (o3 : OKM l3) (o4 : OKM l4) (o5 : OKM l5) (hp0 : inR .i64 p) : FC Tryz.prog g 86 [OPV 15 b1 l1 e1 b2 l2 e2 b3 l3 e3 b4 l4 e4 b5 l5 e5 p] (· = .val (.bool true)) := by
  cases hF : dyF b5 l5 e5 with
 | true =>
    obtain ⟨m, gm, hb, hl, _⟩ := dyF_ex2 o5.1 hF
    subst hb hl
    exact s_one15 b1 l1 e1 b2 l2 e2 b3 l3 e3 b4 l4 e4 _ _ e5 o1 o2 o3 o4 o5 (x := (m, e5)) (y := (m, e5)) gm gm (p_point (a := (m, e5)) gm) (q_docpoint (a := (m, e5)) gm)
 | false => exact s_one15 b1 l1 e1 b2 l2 e2 b3 l3 e3 b4 l4 e4 b5 l5 e5 o1 o2 o3 o4 o5 (x := (0, 0)) (y := (0, 0)) Good.zero Good.zero (p_pointX b5 l5 e5 o5.1 hF) (q_docpointX b5 l5 e5 o5.1 (by rw [spF_same]; exact hF))
theorem s_ones16 {g : Gs} (hD : HD g) (b1 : Bool) (l1 : List Int) (e1 : Int) (b2 : Bool) (l2 : List Int) (e2 : Int) (b3 : Bool) (l3 : List Int) (e3 : Int) (b4 : Bool) (l4 : List Int) (e4 : Int) (b5 : Bool) (l5 : List Int) (e5 : Int) {p : Int} (o1 : OKM l1) (o2 : OKM l2) (o3 : OKM l3) (o4 : OKM l4) (o5 : OKM l5) (hp0 : inR .i64 p) : FC Tryz.prog g 86 [OPV 16 b1 l1 e1 b2 l2 e2 b3 l3 e3 b4 l4 e4 b5 l5 e5 p] (· = .val (.bool true)) := by
  cases hF : spF b1 l1 e1 b4 l4 e4 with
 | true =>
    obtain ⟨a, b, E1, h⟩ := spF_ex o1.1 o4.1 hF
    cases E1
    exact s_one16 _ _ _ b2 l2 e2 b3 l3 e3 _ _ _ b5 l5 e5 o1 o2 o3 o4 o5 h.1 h.2.1 (p_make h) (q_docmake h)
 | false => exact s_one16 b1 l1 e1 b2 l2 e2 b3 l3 e3 b4 l4 e4 b5 l5 e5 o1 o2 o3 o4 o5 (x := (0, 0)) (y := (0, 0)) Good.zero Good.zero (p_makeX b1 l1 e1 b4 l4 e4 o1.1 o4.1 hF) (q_docmakeX b1 l1 e1 b4 l4 e4 o1.1 o4.1 hF)
theorem s_tolds11 {g : Gs} (hD : HD g) (b1 : Bool) (l1 : List Int) (e1 : Int) (b2 : Bool) (l2 : List Int) (e2 : Int) (b3 : Bool) (l3 : List Int) (e3 : Int) (b4 : Bool) (l4 : List Int) (e4 : Int) (b5 : Bool) (l5 : List Int) (e5 : Int) {p : Int} (o1 : OKM l1) (o2 : OKM l2) (o3 : OKM l3) (o4 : OKM l4) (o5 : OKM l5) (hp0 : inR .i64 p) : FC Tryz.prog g 87 [OPV 11 b1 l1 e1 b2 l2 e2 b3 l3 e3 b4 l4 e4 b5 l5 e5 p] (· = .val (.bool true)) := by
  by_cases hc : chkE p (spF b1 l1 e1 b2 l2 e2) = 0
  · obtain ⟨hp, hF⟩ := chkE_z hc
    obtain ⟨a, b, E1, h⟩ := spF_ex o1.1 o2.1 hF
    cases E1
    have f := p_thin hD h hp
    have k := q_docthin (G := g) h hp
    obtain ⟨t, c, hr⟩ := thin_form a b p
    rw [hr] at f k
    exact s_told11 _ _ _ _ _ _ b3 l3 e3 b4 l4 e4 b5 l5 e5 o1 o2 o3 o4 o5 (x := (0, 0)) Good.zero (s := 0) f k
  · exact s_told11 b1 l1 e1 b2 l2 e2 b3 l3 e3 b4 l4 e4 b5 l5 e5 o1 o2 o3 o4 o5 (x := (0, 0)) Good.zero (s := 0) (p_thinX b1 l1 e1 b2 l2 e2 o1.1 o2.1 p hc) (q_docthinX b1 l1 e1 b2 l2 e2 o1.1 o2.1 p hc)
theorem s_tolds12 {g : Gs} (hD : HD g) (b1 : Bool) (l1 : List Int) (e1 : Int) (b2 : Bool) (l2 : List Int) (e2 : Int) (b3 : Bool) (l3 : List Int) (e3 : Int) (b4 : Bool) (l4 : List Int) (e4 : Int) (b5 : Bool) (l5 : List Int) (e5 : Int) {p : Int} (o1 : OKM l1) (o2 : OKM l2) (o3 : OKM l3) (o4 : OKM l4) (o5 : OKM l5) (hp0 : inR .i64 p) : FC Tryz.prog g 87 [OPV 12 b1 l1 e1 b2 l2 e2 b3 l3 e3 b4 l4 e4 b5 l5 e5 p] (· = .val (.bool true)) := by
  cases hF : spF b1 l1 e1 b2 l2 e2 with
 | true =>
    obtain ⟨a, b, E1, h⟩ := spF_ex o1.1 o2.1 hF
    cases E1
    have f := p_width hD h
    have k := q_docwidth (G := g) h
    obtain ⟨e, gu, _⟩ := (add_ans h.2.1 (D2.neg_good h.1)).eq
    rw [e] at f k
    exact s_told12 _ _ _ _ _ _ b3 l3 e3 b4 l4 e4 b5 l5 e5 o1 o2 o3 o4 o5 (x := (toAn (addP b a.neg)).d) gu (s := 0) (t := true) f k
 | false => exact s_told12 b1 l1 e1 b2 l2 e2 b3 l3 e3 b4 l4 e4 b5 l5 e5 o1 o2 o3 o4 o5 (x := (0, 0)) Good.zero (s := 0) (t := true) (p_widthX b1 l1 e1 b2 l2 e2 o1.1 o2.1 hF) (q_docwidthX b1 l1 e1 b2 l2 e2 o1.1 o2.1 hF)
theorem s_tolds13 {g : Gs} (hD : HD g) (b1 : Bool) (l1 : List Int) (e1 : Int) (b2 : Bool) (l2 : List Int) (e2 : Int) (b3 : Bool) (l3 : List Int) (e3 : Int) (b4 : Bool) (l4 : List Int) (e4 : Int) (b5 : Bool) (l5 : List Int) (e5 : Int) {p : Int} (o1 : OKM l1) (o2 : OKM l2) (o3 : OKM l3) (o4 : OKM l4) (o5 : OKM l5) (hp0 : inR .i64 p) : FC Tryz.prog g 87 [OPV 13 b1 l1 e1 b2 l2 e2 b3 l3 e3 b4 l4 e4 b5 l5 e5 p] (· = .val (.bool true)) := by
  cases hF : spF b1 l1 e1 b2 l2 e2 with
 | true =>
    obtain ⟨a, b, E1, h⟩ := spF_ex o1.1 o2.1 hF
    cases E1
    exact s_told13 _ _ _ _ _ _ b3 l3 e3 b4 l4 e4 b5 l5 e5 o1 o2 o3 o4 o5 (x := (0, 0)) Good.zero (t := true) (p_Sign h) (q_docSign h)
 | false => exact s_told13 b1 l1 e1 b2 l2 e2 b3 l3 e3 b4 l4 e4 b5 l5 e5 o1 o2 o3 o4 o5 (x := (0, 0)) Good.zero (t := true) (p_SignX b1 l1 e1 b2 l2 e2 o1.1 o2.1 hF) (q_docSignX b1 l1 e1 b2 l2 e2 o1.1 o2.1 hF)
theorem s_tolds14 {g : Gs} (hD : HD g) (b1 : Bool) (l1 : List Int) (e1 : Int) (b2 : Bool) (l2 : List Int) (e2 : Int) (b3 : Bool) (l3 : List Int) (e3 : Int) (b4 : Bool) (l4 : List Int) (e4 : Int) (b5 : Bool) (l5 : List Int) (e5 : Int) {p : Int} (o1 : OKM l1) (o2 : OKM l2) (o3 : OKM l3) (o4 : OKM l4) (o5 : OKM l5) (hp0 : inR .i64 p) : FC Tryz.prog g 87 [OPV 14 b1 l1 e1 b2 l2 e2 b3 l3 e3 b4 l4 e4 b5 l5 e5 p] (· = .val (.bool true)) := by
  cases hF : (spF b1 l1 e1 b2 l2 e2 && dyF b5 l5 e5) with
 | true =>
    rw [Bool.and_eq_true] at hF
    obtain ⟨a, b, E1, h⟩ := spF_ex o1.1 o2.1 hF.1
    cases E1
    obtain ⟨m, gm, hb, hl, _⟩ := dyF_ex2 o5.1 hF.2
    subst hb hl
    exact s_told14 _ _ _ _ _ _ b3 l3 e3 b4 l4 e4 _ _ e5 o1 o2 o3 o4 o5 (x := (0, 0)) Good.zero (s := 0) (p_has (d := (m, e5)) h gm) (q_dochas (d := (m, e5)) h gm)
 | false => exact s_told14 b1 l1 e1 b2 l2 e2 b3 l3 e3 b4 l4 e4 b5 l5 e5 o1 o2 o3 o4 o5 (x := (0, 0)) Good.zero (s := 0) (p_hasX b1 l1 e1 b2 l2 e2 o1.1 o2.1 b5 l5 e5 o5.1 hF) (q_dochasX b1 l1 e1 b2 l2 e2 o1.1 o2.1 b5 l5 e5 o5.1 hF)
theorem s_tolds17 {g : Gs} (hD : HD g) (b1 : Bool) (l1 : List Int) (e1 : Int) (b2 : Bool) (l2 : List Int) (e2 : Int) (b3 : Bool) (l3 : List Int) (e3 : Int) (b4 : Bool) (l4 : List Int) (e4 : Int) (b5 : Bool) (l5 : List Int) (e5 : Int) {p : Int} (o1 : OKM l1) (o2 : OKM l2) (o3 : OKM l3) (o4 : OKM l4) (o5 : OKM l5) (hp0 : inR .i64 p) : FC Tryz.prog g 87 [OPV 17 b1 l1 e1 b2 l2 e2 b3 l3 e3 b4 l4 e4 b5 l5 e5 p] (· = .val (.bool true)) := by
  exact s_told17 b1 l1 e1 b2 l2 e2 b3 l3 e3 b4 l4 e4 b5 l5 e5 o1 o2 o3 o4 o5 (x := (0, 0)) Good.zero (s := 0) (c := 0) (p_formX b1 l1 e1 b2 l2 e2 o1.1 o2.1) (q_formX b1 l1 e1 b2 l2 e2 o1.1 o2.1)
theorem s_plays6 {g : Gs} (hD : HD g) (b1 : Bool) (l1 : List Int) (e1 : Int) (b2 : Bool) (l2 : List Int) (e2 : Int) (b3 : Bool) (l3 : List Int) (e3 : Int) (b4 : Bool) (l4 : List Int) (e4 : Int) (b5 : Bool) (l5 : List Int) (e5 : Int) {p : Int} (o1 : OKM l1) (o2 : OKM l2) (o3 : OKM l3) (o4 : OKM l4) (o5 : OKM l5) (hp0 : inR .i64 p) (K : Int) (h1 : 6 ≤ K ∨ K ≤ 0) : FC Tryz.prog g 43 [OPV K b1 l1 e1 b2 l2 e2 b3 l3 e3 b4 l4 e4 b5 l5 e5 p] (· = .val (.bool true)) := by
  · by_cases h2 : (6 ≤ K ∧ K ≤ 10) ∨ K = 15 ∨ K = 16
    · have u : FC Tryz.prog g 86 [OPV K b1 l1 e1 b2 l2 e2 b3 l3 e3 b4 l4 e4 b5 l5 e5 p] (· = .val (.bool true)) := by
        rcases (show K = 6 ∨ K = 7 ∨ K = 8 ∨ K = 9 ∨ K = 10 ∨ K = 15 ∨ K = 16 by omega) with rfl | rfl | rfl | rfl | rfl | rfl | rfl
        · exact s_ones6 hD b1 l1 e1 b2 l2 e2 b3 l3 e3 b4 l4 e4 b5 l5 e5 o1 o2 o3 o4 o5 hp0
        · exact s_ones7 hD b1 l1 e1 b2 l2 e2 b3 l3 e3 b4 l4 e4 b5 l5 e5 o1 o2 o3 o4 o5 hp0
        · exact s_ones8 hD b1 l1 e1 b2 l2 e2 b3 l3 e3 b4 l4 e4 b5 l5 e5 o1 o2 o3 o4 o5 hp0
        · exact s_ones9 hD b1 l1 e1 b2 l2 e2 b3 l3 e3 b4 l4 e4 b5 l5 e5 o1 o2 o3 o4 o5 hp0
        · exact s_ones10 hD b1 l1 e1 b2 l2 e2 b3 l3 e3 b4 l4 e4 b5 l5 e5 o1 o2 o3 o4 o5 hp0
        · exact s_ones15 hD b1 l1 e1 b2 l2 e2 b3 l3 e3 b4 l4 e4 b5 l5 e5 o1 o2 o3 o4 o5 hp0
        · exact s_ones16 hD b1 l1 e1 b2 l2 e2 b3 l3 e3 b4 l4 e4 b5 l5 e5 o1 o2 o3 o4 o5 hp0
      refine ax_i Tryz.func43 Tryz.ntmps43 ?_; intro F hG hO
      rw [← hG] at u
      repeat' ((try (conv => whnf)); first
 | refine ce u ?_
 | with_reducible first | refine ax_s ?_ | (refine ax_f ?_ ?_ <;> try intro hc) | fail)
      all_goals exact ⟨ret_e rfl⟩
    · by_cases h3 : 11 ≤ K ∧ K ≤ 17
      · have u : FC Tryz.prog g 87 [OPV K b1 l1 e1 b2 l2 e2 b3 l3 e3 b4 l4 e4 b5 l5 e5 p] (· = .val (.bool true)) := by
          rcases (show K = 11 ∨ K = 12 ∨ K = 13 ∨ K = 14 ∨ K = 17 by omega) with rfl | rfl | rfl | rfl | rfl
          · exact s_tolds11 hD b1 l1 e1 b2 l2 e2 b3 l3 e3 b4 l4 e4 b5 l5 e5 o1 o2 o3 o4 o5 hp0
          · exact s_tolds12 hD b1 l1 e1 b2 l2 e2 b3 l3 e3 b4 l4 e4 b5 l5 e5 o1 o2 o3 o4 o5 hp0
          · exact s_tolds13 hD b1 l1 e1 b2 l2 e2 b3 l3 e3 b4 l4 e4 b5 l5 e5 o1 o2 o3 o4 o5 hp0
          · exact s_tolds14 hD b1 l1 e1 b2 l2 e2 b3 l3 e3 b4 l4 e4 b5 l5 e5 o1 o2 o3 o4 o5 hp0
          · exact s_tolds17 hD b1 l1 e1 b2 l2 e2 b3 l3 e3 b4 l4 e4 b5 l5 e5 o1 o2 o3 o4 o5 hp0
        refine ax_i Tryz.func43 Tryz.ntmps43 ?_; intro F hG hO
        rw [← hG] at u
        repeat' ((try (conv => whnf)); first
 | refine ce u ?_
 | with_reducible first | refine ax_s ?_ | (refine ax_f ?_ ?_ <;> try intro hc) | fail)
        all_goals exact ⟨ret_e rfl⟩
      · skip
        refine ax_i Tryz.func43 Tryz.ntmps43 ?_; intro F hG hO
        repeat' ((try (conv => whnf)); first
 | with_reducible first | refine ax_s ?_ | (refine ax_f ?_ ?_ <;> try intro hc) | fail)
        all_goals exact ⟨ret_e rfl⟩
end Go.Proofs.YtpjbgmafnheomaaGreatDoor.Sim
namespace Go.Proofs.YtpjbgmafnheomaaGreatDoor.Sim
open Go.RowKit Go.ChangeShapes Go.WideShapes
set_option linter.unusedVariables false
set_option linter.unusedSimpArgs false
structure OpS where
  k : Int
  b1 : Bool
  l1 : List Int
  e1 : Int
  b2 : Bool
  l2 : List Int
  e2 : Int
  b3 : Bool
  l3 : List Int
  e3 : Int
  b4 : Bool
  l4 : List Int
  e4 : Int
  b5 : Bool
  l5 : List Int
  e5 : Int
  m : Int
def OpS.cells (o : OpS) : List PV := [.val (.int .i64 o.k), .val (.bool o.b1), .ws .u64 o.l1, .val (.int .i64 o.e1), .val (.bool o.b2), .ws .u64 o.l2, .val (.int .i64 o.e2), .val (.bool o.b3), .ws .u64 o.l3, .val (.int .i64 o.e3), .val (.bool o.b4), .ws .u64 o.l4, .val (.int .i64 o.e4), .val (.bool o.b5), .ws .u64 o.l5, .val (.int .i64 o.e5), .val (.int .i64 o.m)]
def OpS.pv (o : OpS) : PV := .agg o.cells
def OpS.ok (o : OpS) : Prop := OKM o.l1 ∧ OKM o.l2 ∧ OKM o.l3 ∧ OKM o.l4 ∧ OKM o.l5 ∧ inR .i64 o.m
def opsS (ops : Nat → OpS) : Nat → PV := fun j => (ops (j / 17)).cells.getD (j % 17) .any
theorem opsS_at (ops : Nat → OpS) (i j : Nat) (h : j < 17) : opsS ops (i * 17 + j) = (ops i).cells.getD j .any := by
  unfold opsS
  rw [show (i * 17 + j) / 17 = i by omega, show (i * 17 + j) % 17 = j by omega]
theorem fOpS : fieldT Tryz.prog 49 = some (17, [(3, 0, 1), (28, 1, 6), (28, 7, 6), (26, 13, 3), (3, 16, 1)]) := by kernel_rfl
theorem uOpsS : Tryz.prog.underlying 69 = some (.slice 49) := by kernel_rfl
theorem cOpS : Tryz.prog.cellsOf 49 = 17 := by kernel_rfl
section
variable {H : Type} {enc : TypeId × Value → H} {w : World} {base : Nat} {sp : Nat → Bool} {held : Bool}
theorem open_opS {fuel : Nat} {cs : List Value} {x : DataW H × List MemPlace} (h : DataW.trod enc Tryz.prog w base sp held fuel 49 cs = some x) (hw : ∀ q ∈ x.1.weights Tryz.prog 49, q ≤ reachBytes) :
    ∃ o : OpS, o.ok ∧ RepL ⟨w.cell?, [], []⟩ o.cells cs := by
  obtain ⟨hl, n, hf⟩ := trod_fieldsQ fOpS h hw
  match cs, hl with
 | [c0, c1, c2, c3, c4, c5, c6, c7, c8, c9, c10, c11, c12, c13, c14, c15, c16], _ =>
    obtain ⟨y0, h0, _⟩ := hf 0 _ _ _ rfl
    obtain ⟨y1, h1, w1⟩ := hf 1 _ _ _ rfl
    obtain ⟨y2, h2, w2⟩ := hf 2 _ _ _ rfl
    obtain ⟨y3, h3, w3⟩ := hf 3 _ _ _ rfl
    obtain ⟨y4, h4, _⟩ := hf 4 _ _ _ rfl
    obtain ⟨k, rfl, hk⟩ := trod_int uIt h0
    obtain ⟨b1, l1, e1, v1, b2, l2, e2, v2, q1, r1, r2, o1, o2, _, _⟩ := open_spQ h1 w1
    obtain ⟨b3, l3, e3, v3, b4, l4, e4, v4, q2, r3, r4, o3, o4, _, _⟩ := open_spQ h2 w2
    obtain ⟨b5, l5, e5, v5, q3, r5, o5, _⟩ := open_dyQ h3 w3
    obtain ⟨m, rfl, hm⟩ := trod_int uIt h4
    simp only [List.drop_succ_cons, List.drop_zero, List.take_succ_cons, List.take_zero, List.cons.injEq, and_true] at q1 q2 q3
    obtain ⟨rfl, rfl, rfl, rfl, rfl, rfl⟩ := q1
    obtain ⟨rfl, rfl, rfl, rfl, rfl, rfl⟩ := q2
    obtain ⟨rfl, rfl, rfl⟩ := q3
    exact ⟨⟨k, b1, l1, e1, b2, l2, e2, b3, l3, e3, b4, l4, e4, b5, l5, e5, m⟩, ⟨o1, o2, o3, o4, o5, wf_i64r hm⟩,
      .cons (.val _) (.cons (.val _) (.cons r1 (.cons (.val _) (.cons (.val _) (.cons r2 (.cons (.val _) (.cons (.val _) (.cons r3 (.cons (.val _) (.cons (.val _) (.cons r4 (.cons (.val _) (.cons (.val _) (.cons r5 (.cons (.val _) (.cons (.val _) (.nil)))))))))))))))))⟩
theorem open_opsS {fuel : Nat} {v : Value} {x : DataW H × List MemPlace} (h : DataW.trod enc Tryz.prog w base sp held fuel 69 [v] = some x) (hw : ∀ q ∈ x.1.weights Tryz.prog 69, q ≤ reachBytes) :
    ∃ (n : Nat) (ops : Nat → OpS), Rep ⟨w.cell?, [], []⟩ (.fs 17 n (opsS ops)) v ∧ n ≤ 9223372036854775807 ∧ ∀ i, i < n → (ops i).ok := by
  have dflt : OpS := ⟨0, false, [], 0, false, [], 0, false, [], 0, false, [], 0, false, [], 0, 0⟩
  rcases DataW.trod_slice uOpsS h with ⟨h1, h2⟩ | ⟨a, len, cap, elems, rest, n, _, h1, h2, hb, hl, hm, hlen, hel, hsp, hns⟩
  · simp only [List.cons.injEq, and_true] at h1
    subst h1
    exact ⟨0, fun _ => dflt, .fs (us := []) (by decide) rfl (Nat.le_refl _) (fun j u hj => by cases hj) (fun j u hj => by cases hj), by decide, fun i hi => absurd hi (Nat.not_lt_zero _)⟩
  · simp only [List.cons.injEq, and_true] at h1
    subst h1
    rw [cOpS] at hel
    have each : ∀ i, ∃ oc : OpS × List Value, i < len → oc.1.ok ∧ RepL ⟨w.cell?, [], []⟩ oc.1.cells oc.2 ∧ oc.2.length = 17 ∧ ∀ j, j < 17 → w.cell? (a.add (i * 17 + j)) = oc.2[j]? := by
      intro i
      by_cases hi : i < len
      · have h3 := hel i hi
        rw [List.getElem?_eq_getElem (by omega)] at h3
        rw [Option.bind_eq_some_iff] at h3
        obtain ⟨cs, h4, h5⟩ := h3
        obtain ⟨o, ho, hr⟩ := open_opS h5 (fun q hq => hw q (by
          rw [h2]
          have hmm := mem_weightsQ (P := Tryz.prog) (e := 49) (ds := elems.map (·.1)) (i := i) (d := (elems[i]'(by omega)).1) (by rw [List.getElem?_map, List.getElem?_eq_getElem (by omega)]; rfl) q hq
          simp only [DataW.weights, uOpsS, List.mem_cons, List.mem_append]
          exact .inr (.inl hmm)))
        obtain ⟨_, h6, h7⟩ := World.cells?_some h4
        refine ⟨(o, cs), fun _ => ⟨ho, hr, h6, fun j hj => ?_⟩⟩
        have := h7 j hj
        rw [Addr.add_add] at this
        exact this
      · exact ⟨(dflt, []), fun h => absurd h hi⟩
    obtain ⟨oc, hoc⟩ := Classical.axiomOfChoice each
    refine ⟨len, fun i => (oc i).1, ?_, Nat.le_trans hl (by unfold maxLen at hm; omega), fun i hi => (hoc i hi).1⟩
    refine .fs (us := (List.range (len * 17)).map fun j => (oc (j / 17)).2.getD (j % 17) (.bool false)) (by decide) (by simp) hl (fun j u hj => ?_) (fun j u hj => ⟨a, rfl, ?_⟩)
    all_goals
      have hj1 := (List.getElem?_eq_some_iff.1 hj).1
      rw [List.length_map, List.length_range] at hj1
      rw [List.getElem?_map, List.getElem?_range hj1] at hj
      simp only [Option.map_some, Option.some.injEq] at hj
      obtain ⟨k1, k2, k3, k4⟩ := hoc (j / 17) (by omega)
      have hg : (oc (j / 17)).2[j % 17]? = some u := by
        rw [List.getD_eq_getElem?_getD, List.getElem?_eq_getElem (by omega)] at hj
        rw [List.getElem?_eq_getElem (by omega)]
        exact congrArg some hj
    · have hc : (oc (j / 17)).1.cells[j % 17]? = some ((oc (j / 17)).1.cells.getD (j % 17) .any) := by
        rw [List.getD_eq_getElem?_getD, List.getElem?_eq_getElem (show j % 17 < (oc (j / 17)).1.cells.length from Nat.mod_lt _ (by decide))]
        rfl
      exact k2.both hc hg
    · have := k4 (j % 17) (Nat.mod_lt _ (by decide))
      rw [show j / 17 * 17 + j % 17 = j by omega] at this
      exact this.trans hg
end
end Go.Proofs.YtpjbgmafnheomaaGreatDoor.Sim
namespace Go.Proofs.YtpjbgmafnheomaaGreatDoor.Sim
open Go.RowKit
set_option linter.unusedVariables false
set_option linter.unusedSimpArgs false
set_option maxRecDepth 10000
set_option maxHeartbeats 8000000
theorem s_plays {g : Gs} (hD : HD g) (b1 : Bool) (l1 : List Int) (e1 : Int) (b2 : Bool) (l2 : List Int) (e2 : Int) (b3 : Bool) (l3 : List Int) (e3 : Int) (b4 : Bool) (l4 : List Int) (e4 : Int) (b5 : Bool) (l5 : List Int) (e5 : Int) {p : Int} (o1 : OKM l1) (o2 : OKM l2) (o3 : OKM l3) (o4 : OKM l4) (o5 : OKM l5) (hp0 : inR .i64 p) (K : Int) : FC Tryz.prog g 43 [OPV K b1 l1 e1 b2 l2 e2 b3 l3 e3 b4 l4 e4 b5 l5 e5 p] (· = .val (.bool true)) := by
  by_cases h1 : 1 ≤ K ∧ K ≤ 5
  · have u : FC Tryz.prog g 29 [OPV K b1 l1 e1 b2 l2 e2 b3 l3 e3 b4 l4 e4 b5 l5 e5 p] (· = .val (.bool true)) := by
      rcases (show K = 1 ∨ K = 2 ∨ K = 3 ∨ K = 4 ∨ K = 5 by omega) with rfl | rfl | rfl | rfl | rfl
      · exact s_twos1 hD b1 l1 e1 b2 l2 e2 b3 l3 e3 b4 l4 e4 b5 l5 e5 o1 o2 o3 o4
      · exact s_twos2 hD b1 l1 e1 b2 l2 e2 b3 l3 e3 b4 l4 e4 b5 l5 e5 o1 o2 o3 o4
      · exact s_twos3 hD b1 l1 e1 b2 l2 e2 b3 l3 e3 b4 l4 e4 b5 l5 e5 o1 o2 o3 o4
      · exact s_twos4 hD b1 l1 e1 b2 l2 e2 b3 l3 e3 b4 l4 e4 b5 l5 e5 o1 o2 o3 o4
      · exact s_twos5 hD b1 l1 e1 b2 l2 e2 b3 l3 e3 b4 l4 e4 b5 l5 e5 o1 o2 o3 o4
    refine ax_i Tryz.func43 Tryz.ntmps43 ?_; intro F hG hO
    rw [← hG] at u
    repeat' ((try (conv => whnf)); first
 | refine ce u ?_
 | with_reducible first | refine ax_s ?_ | (refine ax_f ?_ ?_ <;> try intro hc) | fail)
    all_goals exact ⟨ret_e rfl⟩
  · exact s_plays6 hD b1 l1 e1 b2 l2 e2 b3 l3 e3 b4 l4 e4 b5 l5 e5 o1 o2 o3 o4 o5 hp0 K (by omega)
theorem l_spanPlays {g : Gs} (hD : HD g) (n : Nat) (ops : Nat → OpS) (hn : n ≤ 9223372036854775807) (ho : ∀ i, i < n → (ops i).ok) : FC Tryz.prog g 10 [.fs 17 n (opsS ops)] (· = .val (.bool true)) := by
  have aw := s_awake hD
  have hp : ∀ i, i < n → FC Tryz.prog g 43 [(ops i).pv] (· = .val (.bool true)) := fun i hi => by
    obtain ⟨o1, o2, o3, o4, o5, hm⟩ := ho i hi
    exact s_plays hD _ _ _ _ _ _ _ _ _ _ _ _ _ _ _ o1 o2 o3 o4 o5 hm _
  obtain ⟨f, hf⟩ : ∃ f, f = opsS ops := ⟨_, rfl⟩
  rw [← hf]
  refine ax_i Tryz.func10 Tryz.ntmps10 ?_; intro F hG hO
  rw [← hG] at aw hp
  repeat' ((try (conv => whnf)); first
 | refine ce aw ?_
 | (refine lg ?_; refine loop_g (A := Nat) (fun m => m ≤ n) (fun m => n - m) (fun m => [(0, .fs 17 n f), (3, .val (.int .i64 0)), (12, .fs 17 n f), (13, .val (.int .i64 (n : Int))), (14, .val (.int .i64 (m : Int)))]) (fun _ => []) (fun _ => []) 0 tok (fun _ => ⟨⟨trivial, trivial, trivial, trivial, trivial, trivial⟩, trivial, by simp only [List.length_nil]; omega⟩) (Nat.zero_le _) ⟨rfl, rfl, rfl, rfl, rfl, trivial⟩ ⟨_, rfl⟩ ⟨_, rfl⟩ ?_; intro m hm; have e0 : f ((m : Int).toNat * 17) = (ops m).cells.getD 0 .any := (by rw [hf, show (m : Int).toNat * 17 = m * 17 + 0 by omega]; exact opsS_at ops m 0 (by decide)); have e1 : f ((m : Int).toNat * 17 + 1) = (ops m).cells.getD 1 .any := (by rw [hf, show (m : Int).toNat * 17 + 1 = m * 17 + 1 by omega]; exact opsS_at ops m 1 (by decide)); have e2 : f ((m : Int).toNat * 17 + 1 + 1) = (ops m).cells.getD 2 .any := (by rw [hf, show (m : Int).toNat * 17 + 1 + 1 = m * 17 + 2 by omega]; exact opsS_at ops m 2 (by decide)); have e3 : f ((m : Int).toNat * 17 + 1 + 1 + 1) = (ops m).cells.getD 3 .any := (by rw [hf, show (m : Int).toNat * 17 + 1 + 1 + 1 = m * 17 + 3 by omega]; exact opsS_at ops m 3 (by decide)); have e4 : f ((m : Int).toNat * 17 + 1 + 1 + 1 + 1) = (ops m).cells.getD 4 .any := (by rw [hf, show (m : Int).toNat * 17 + 1 + 1 + 1 + 1 = m * 17 + 4 by omega]; exact opsS_at ops m 4 (by decide)); have e5 : f ((m : Int).toNat * 17 + 1 + 1 + 1 + 1 + 1) = (ops m).cells.getD 5 .any := (by rw [hf, show (m : Int).toNat * 17 + 1 + 1 + 1 + 1 + 1 = m * 17 + 5 by omega]; exact opsS_at ops m 5 (by decide)); have e6 : f ((m : Int).toNat * 17 + 1 + 1 + 1 + 1 + 1 + 1) = (ops m).cells.getD 6 .any := (by rw [hf, show (m : Int).toNat * 17 + 1 + 1 + 1 + 1 + 1 + 1 = m * 17 + 6 by omega]; exact opsS_at ops m 6 (by decide)); have e7 : f ((m : Int).toNat * 17 + 1 + 1 + 1 + 1 + 1 + 1 + 1) = (ops m).cells.getD 7 .any := (by rw [hf, show (m : Int).toNat * 17 + 1 + 1 + 1 + 1 + 1 + 1 + 1 = m * 17 + 7 by omega]; exact opsS_at ops m 7 (by decide)); have e8 : f ((m : Int).toNat * 17 + 1 + 1 + 1 + 1 + 1 + 1 + 1 + 1) = (ops m).cells.getD 8 .any := (by rw [hf, show (m : Int).toNat * 17 + 1 + 1 + 1 + 1 + 1 + 1 + 1 + 1 = m * 17 + 8 by omega]; exact opsS_at ops m 8 (by decide)); have e9 : f ((m : Int).toNat * 17 + 1 + 1 + 1 + 1 + 1 + 1 + 1 + 1 + 1) = (ops m).cells.getD 9 .any := (by rw [hf, show (m : Int).toNat * 17 + 1 + 1 + 1 + 1 + 1 + 1 + 1 + 1 + 1 = m * 17 + 9 by omega]; exact opsS_at ops m 9 (by decide)); have e10 : f ((m : Int).toNat * 17 + 1 + 1 + 1 + 1 + 1 + 1 + 1 + 1 + 1 + 1) = (ops m).cells.getD 10 .any := (by rw [hf, show (m : Int).toNat * 17 + 1 + 1 + 1 + 1 + 1 + 1 + 1 + 1 + 1 + 1 = m * 17 + 10 by omega]; exact opsS_at ops m 10 (by decide)); have e11 : f ((m : Int).toNat * 17 + 1 + 1 + 1 + 1 + 1 + 1 + 1 + 1 + 1 + 1 + 1) = (ops m).cells.getD 11 .any := (by rw [hf, show (m : Int).toNat * 17 + 1 + 1 + 1 + 1 + 1 + 1 + 1 + 1 + 1 + 1 + 1 = m * 17 + 11 by omega]; exact opsS_at ops m 11 (by decide)); have e12 : f ((m : Int).toNat * 17 + 1 + 1 + 1 + 1 + 1 + 1 + 1 + 1 + 1 + 1 + 1 + 1) = (ops m).cells.getD 12 .any := (by rw [hf, show (m : Int).toNat * 17 + 1 + 1 + 1 + 1 + 1 + 1 + 1 + 1 + 1 + 1 + 1 + 1 = m * 17 + 12 by omega]; exact opsS_at ops m 12 (by decide)); have e13 : f ((m : Int).toNat * 17 + 1 + 1 + 1 + 1 + 1 + 1 + 1 + 1 + 1 + 1 + 1 + 1 + 1) = (ops m).cells.getD 13 .any := (by rw [hf, show (m : Int).toNat * 17 + 1 + 1 + 1 + 1 + 1 + 1 + 1 + 1 + 1 + 1 + 1 + 1 + 1 = m * 17 + 13 by omega]; exact opsS_at ops m 13 (by decide)); have e14 : f ((m : Int).toNat * 17 + 1 + 1 + 1 + 1 + 1 + 1 + 1 + 1 + 1 + 1 + 1 + 1 + 1 + 1) = (ops m).cells.getD 14 .any := (by rw [hf, show (m : Int).toNat * 17 + 1 + 1 + 1 + 1 + 1 + 1 + 1 + 1 + 1 + 1 + 1 + 1 + 1 + 1 = m * 17 + 14 by omega]; exact opsS_at ops m 14 (by decide)); have e15 : f ((m : Int).toNat * 17 + 1 + 1 + 1 + 1 + 1 + 1 + 1 + 1 + 1 + 1 + 1 + 1 + 1 + 1 + 1) = (ops m).cells.getD 15 .any := (by rw [hf, show (m : Int).toNat * 17 + 1 + 1 + 1 + 1 + 1 + 1 + 1 + 1 + 1 + 1 + 1 + 1 + 1 + 1 + 1 = m * 17 + 15 by omega]; exact opsS_at ops m 15 (by decide)); have e16 : f ((m : Int).toNat * 17 + 1 + 1 + 1 + 1 + 1 + 1 + 1 + 1 + 1 + 1 + 1 + 1 + 1 + 1 + 1 + 1) = (ops m).cells.getD 16 .any := (by rw [hf, show (m : Int).toNat * 17 + 1 + 1 + 1 + 1 + 1 + 1 + 1 + 1 + 1 + 1 + 1 + 1 + 1 + 1 + 1 + 1 = m * 17 + 16 by omega]; exact opsS_at ops m 16 (by decide)))
 | (refine lg ?_; refine loop_g (A := Nat) (fun m => m ≤ n) (fun m => n - m) (fun m => [(0, .fs 17 n f), (3, .val (.int .i64 1)), (12, .fs 17 n f), (13, .val (.int .i64 (n : Int))), (14, .val (.int .i64 (m : Int)))]) (fun _ => []) (fun _ => []) 0 tok (fun _ => ⟨⟨trivial, trivial, trivial, trivial, trivial, trivial⟩, trivial, by simp only [List.length_nil]; omega⟩) (Nat.zero_le _) ⟨rfl, rfl, rfl, rfl, rfl, trivial⟩ ⟨_, rfl⟩ ⟨_, rfl⟩ ?_; intro m hm; have e0 : f ((m : Int).toNat * 17) = (ops m).cells.getD 0 .any := (by rw [hf, show (m : Int).toNat * 17 = m * 17 + 0 by omega]; exact opsS_at ops m 0 (by decide)); have e1 : f ((m : Int).toNat * 17 + 1) = (ops m).cells.getD 1 .any := (by rw [hf, show (m : Int).toNat * 17 + 1 = m * 17 + 1 by omega]; exact opsS_at ops m 1 (by decide)); have e2 : f ((m : Int).toNat * 17 + 1 + 1) = (ops m).cells.getD 2 .any := (by rw [hf, show (m : Int).toNat * 17 + 1 + 1 = m * 17 + 2 by omega]; exact opsS_at ops m 2 (by decide)); have e3 : f ((m : Int).toNat * 17 + 1 + 1 + 1) = (ops m).cells.getD 3 .any := (by rw [hf, show (m : Int).toNat * 17 + 1 + 1 + 1 = m * 17 + 3 by omega]; exact opsS_at ops m 3 (by decide)); have e4 : f ((m : Int).toNat * 17 + 1 + 1 + 1 + 1) = (ops m).cells.getD 4 .any := (by rw [hf, show (m : Int).toNat * 17 + 1 + 1 + 1 + 1 = m * 17 + 4 by omega]; exact opsS_at ops m 4 (by decide)); have e5 : f ((m : Int).toNat * 17 + 1 + 1 + 1 + 1 + 1) = (ops m).cells.getD 5 .any := (by rw [hf, show (m : Int).toNat * 17 + 1 + 1 + 1 + 1 + 1 = m * 17 + 5 by omega]; exact opsS_at ops m 5 (by decide)); have e6 : f ((m : Int).toNat * 17 + 1 + 1 + 1 + 1 + 1 + 1) = (ops m).cells.getD 6 .any := (by rw [hf, show (m : Int).toNat * 17 + 1 + 1 + 1 + 1 + 1 + 1 = m * 17 + 6 by omega]; exact opsS_at ops m 6 (by decide)); have e7 : f ((m : Int).toNat * 17 + 1 + 1 + 1 + 1 + 1 + 1 + 1) = (ops m).cells.getD 7 .any := (by rw [hf, show (m : Int).toNat * 17 + 1 + 1 + 1 + 1 + 1 + 1 + 1 = m * 17 + 7 by omega]; exact opsS_at ops m 7 (by decide)); have e8 : f ((m : Int).toNat * 17 + 1 + 1 + 1 + 1 + 1 + 1 + 1 + 1) = (ops m).cells.getD 8 .any := (by rw [hf, show (m : Int).toNat * 17 + 1 + 1 + 1 + 1 + 1 + 1 + 1 + 1 = m * 17 + 8 by omega]; exact opsS_at ops m 8 (by decide)); have e9 : f ((m : Int).toNat * 17 + 1 + 1 + 1 + 1 + 1 + 1 + 1 + 1 + 1) = (ops m).cells.getD 9 .any := (by rw [hf, show (m : Int).toNat * 17 + 1 + 1 + 1 + 1 + 1 + 1 + 1 + 1 + 1 = m * 17 + 9 by omega]; exact opsS_at ops m 9 (by decide)); have e10 : f ((m : Int).toNat * 17 + 1 + 1 + 1 + 1 + 1 + 1 + 1 + 1 + 1 + 1) = (ops m).cells.getD 10 .any := (by rw [hf, show (m : Int).toNat * 17 + 1 + 1 + 1 + 1 + 1 + 1 + 1 + 1 + 1 + 1 = m * 17 + 10 by omega]; exact opsS_at ops m 10 (by decide)); have e11 : f ((m : Int).toNat * 17 + 1 + 1 + 1 + 1 + 1 + 1 + 1 + 1 + 1 + 1 + 1) = (ops m).cells.getD 11 .any := (by rw [hf, show (m : Int).toNat * 17 + 1 + 1 + 1 + 1 + 1 + 1 + 1 + 1 + 1 + 1 + 1 = m * 17 + 11 by omega]; exact opsS_at ops m 11 (by decide)); have e12 : f ((m : Int).toNat * 17 + 1 + 1 + 1 + 1 + 1 + 1 + 1 + 1 + 1 + 1 + 1 + 1) = (ops m).cells.getD 12 .any := (by rw [hf, show (m : Int).toNat * 17 + 1 + 1 + 1 + 1 + 1 + 1 + 1 + 1 + 1 + 1 + 1 + 1 = m * 17 + 12 by omega]; exact opsS_at ops m 12 (by decide)); have e13 : f ((m : Int).toNat * 17 + 1 + 1 + 1 + 1 + 1 + 1 + 1 + 1 + 1 + 1 + 1 + 1 + 1) = (ops m).cells.getD 13 .any := (by rw [hf, show (m : Int).toNat * 17 + 1 + 1 + 1 + 1 + 1 + 1 + 1 + 1 + 1 + 1 + 1 + 1 + 1 = m * 17 + 13 by omega]; exact opsS_at ops m 13 (by decide)); have e14 : f ((m : Int).toNat * 17 + 1 + 1 + 1 + 1 + 1 + 1 + 1 + 1 + 1 + 1 + 1 + 1 + 1 + 1) = (ops m).cells.getD 14 .any := (by rw [hf, show (m : Int).toNat * 17 + 1 + 1 + 1 + 1 + 1 + 1 + 1 + 1 + 1 + 1 + 1 + 1 + 1 + 1 = m * 17 + 14 by omega]; exact opsS_at ops m 14 (by decide)); have e15 : f ((m : Int).toNat * 17 + 1 + 1 + 1 + 1 + 1 + 1 + 1 + 1 + 1 + 1 + 1 + 1 + 1 + 1 + 1) = (ops m).cells.getD 15 .any := (by rw [hf, show (m : Int).toNat * 17 + 1 + 1 + 1 + 1 + 1 + 1 + 1 + 1 + 1 + 1 + 1 + 1 + 1 + 1 + 1 = m * 17 + 15 by omega]; exact opsS_at ops m 15 (by decide)); have e16 : f ((m : Int).toNat * 17 + 1 + 1 + 1 + 1 + 1 + 1 + 1 + 1 + 1 + 1 + 1 + 1 + 1 + 1 + 1 + 1) = (ops m).cells.getD 16 .any := (by rw [hf, show (m : Int).toNat * 17 + 1 + 1 + 1 + 1 + 1 + 1 + 1 + 1 + 1 + 1 + 1 + 1 + 1 + 1 + 1 + 1 = m * 17 + 16 by omega]; exact opsS_at ops m 16 (by decide)))
 | (rw [e0]) | (rw [e1]) | (rw [e2]) | (rw [e3]) | (rw [e4]) | (rw [e5]) | (rw [e6]) | (rw [e7]) | (rw [e8]) | (rw [e9]) | (rw [e10]) | (rw [e11]) | (rw [e12]) | (rw [e13]) | (rw [e14]) | (rw [e15]) | (rw [e16])
 | (refine cg ?_; refine ce (hp m (by omega)) ?_)
 | (refine lg ?_; refine rnd0 4 tok ?_)
 | (refine rnd1 ?_)
 | with_reducible first | refine ax_s ?_ | (refine ax_f ?_ ?_ <;> try intro hc) | fail)
  all_goals first
    | exact ⟨ret_e rfl⟩
    | exact ⟨again (m + 1) (by omega) (by omega) ⟨rfl, rfl, rfl, rfl, rfl, trivial⟩ ⟨_, rfl⟩ ⟨_, rfl⟩⟩
end Go.Proofs.YtpjbgmafnheomaaGreatDoor.Sim
namespace Go.Proofs.YtpjbgmafnheomaaGreatDoor.Sim
open Go.RowKit Go.ChangeShapes Go.WideShapes
section
variable {H : Type} {enc : TypeId × Value → H} {P : Program}
theorem post_below2 {f : Func} {s : ChangeSpec} {apart fresh handsOn again : Bool} {W W' : World} {args : Array Value} {v : Value} {ds gs : List (DataW H)} {before pa pv : List MemPlace}
    (hW : DataW.Whole enc P f.params.toList s.vars apart W args.toList ds gs before)
    (hres : ∀ (b : Nat) (sp : Nat → Bool) (hd : Bool), DataW.TrodAll enc P W' b sp hd f.resultTypes.toList (v.resultList f.resultTypes.size) (s.fn H (ds ++ gs)).results [])
    (hargs : ∀ sp : Nat → Bool, (∀ p ∈ before, sp p.block = true) → DataW.TrodAll enc P W' 0 sp true f.params.toList args.toList (s.fn H (ds ++ gs)).args pa)
    (hvars : ∀ sp : Nat → Bool, (∀ p ∈ before, sp p.block = true) → DataW.TrodVars enc P W' sp s.vars (s.fn H (ds ++ gs)).vars pv)
    (hps : before = pa ++ pv) (hb : Below W.heap.size W W')
    (hok : ∀ (j : Nat) (t : TypeId) (r : Value), f.resultTypes[j]? = some t → (v.resultList f.resultTypes.size)[j]? = some r → Value.okWide P W' .any 0 t r) :
    s.post enc P f apart fresh handsOn again W args v W' := by
  have hold : ∀ p ∈ before, (fun b => decide (b < W.heap.size)) p.block = true := fun p hp => by simpa using hW.lt p hp
  have hlt := hW.lt
  refine ⟨ds, gs, before, [], pa, pv, hW, hres _ _ _, hargs _ hold, hvars _ hold, hb.frame _, fun _ => ?_⟩
  obtain ⟨_, _, _, _, _, hz, hn⟩ := hW
  refine ⟨hok, _, _, ([] ++ pa) ++ pv, ⟨[] ++ pa, pv, trodAll_append (hargs _ (fun _ _ => rfl)) (hres _ _ _), hvars _ (fun _ _ => rfl), rfl, ?_, ?_⟩, ?_⟩
  · intro b off hp
    have hm : MemPlace.cell b off ∈ before := by rw [hps]; simpa using hp
    rw [hb.frozen (p := ⟨b, off, none⟩) (hlt _ hm)]
    exact hz b off hm
  · intro ha
    have := hn ha
    rw [hps] at this
    simpa using this
  · intro p hp _
    rw [hps]
    simpa using hp
end
end Go.Proofs.YtpjbgmafnheomaaGreatDoor.Sim
