import Derived.Test.YtmijbppapjcfkaaQFnExactJoinPathsx0
import Derived.Test.YtmijbppapjcfkaaQFnExactJoinPathsx1
import Derived.Test.YtmijbppapjcfkaaQFnExactJoinPathsx2
import Derived.Test.YtmijbppapjcfkaaQFnExactJoinPathsx3
namespace Go.Proofs.Ytmijbppapjcfkaa.PFnExactJoinPaths
open Go.RowKit Go.Proofs.YtmijbppapjcfkaaW.PrintWords Go.Proofs.YtmijbppapjcfkaaW.PrintLast Go.Proofs.YtmijbppapjcfkaaW.PrintMore
attribute [local go_sem] max2_int min2_int max_two min_two max_three min_three max_four min_four Go.Proofs.YtmijbppapjcfkaaZ.min2_string   -- for this text's walks alone
set_option linter.unusedVariables false
set_option linter.unusedSimpArgs false

/-! ### laws_FnExactJoinPaths: function 4 -/
def laws_FnExactJoinPaths.f (k : Nat) (a0 : Int) (l1 : List (List Int)) (l2 : List (List Int)) : Option Bool := (laws_szInt64SS.f k l1 1048576).bind fun y1_0 => if y1_0 < 0 then some true else (laws_szInt64SS.f k l2 y1_0).bind fun y2_0 => if y2_0 < 0 then some true else (laws_toInt64SS.f k l1).bind fun y3_0 => (laws_toInt64SS.f k l2).bind fun y4_0 => (spec_JoinPaths.f k a0 y3_0 y4_0).bind fun p5 => (laws_toInt64SS.f k l1).bind fun y6_0 => (laws_toInt64SS.f k l2).bind fun y7_0 => (impl_JoinPaths.f a0 y6_0 y7_0).bind fun p8 => if p8.2 = p5.2 then (laws_eqInt64SS.f k p8.1 p5.1).bind fun y9_0 => if y9_0 = true then (laws_toInt64SS.f k l1).bind fun y10_0 => (laws_eqInt64SS.f k y6_0 y10_0).bind fun y11_0 => if y11_0 = true then (laws_toInt64SS.f k l2).bind fun y12_0 => (laws_eqInt64SS.f k y7_0 y12_0).bind fun y13_0 => if y13_0 = true then (laws_markInt64SS.f k y6_0 1).bind fun p14 => if 0 ≤ p14.1 then (laws_markInt64SS.f k y7_0 p14.1).bind fun p15 => if 0 ≤ p15.1 then (laws_eqInt64SS.f k p8.1 p5.1).bind fun y16_0 => if y16_0 = true then (laws_markInt64SS.f k p8.1 1).bind fun p17 => if 0 ≤ p17.1 then (laws_heldInt64SS.f k p17.2 1).bind fun y18_0 => if 0 ≤ y18_0 ∧ y18_0 = p17.1 then (laws_toInt64SS.f k l1).bind fun y19_0 => (laws_toInt64SS.f k l2).bind fun y20_0 => (impl_JoinPaths.f a0 y19_0 y20_0).bind fun p21 => if p21.2 = p5.2 then (laws_eqInt64SS.f k p21.1 p5.1).bind fun y22_0 => if y22_0 = true then (laws_heldInt64SS.f k p17.2 1).bind fun y23_0 => if 0 ≤ y23_0 ∧ y23_0 = p17.1 then some true else none else none else none else none else none else none else none else none else none else none else none else none
theorem laws_FnExactJoinPaths.mono : ∀ a0 l1 l2 k, LeO (laws_FnExactJoinPaths.f k a0 l1 l2) (laws_FnExactJoinPaths.f (k + 1) a0 l1 l2) := by
  intro a0 l1 l2 k
  unfold laws_FnExactJoinPaths.f
  repeat' first
    | (with_reducible exact laws_eqInt64SS.mono _ _ _)
    | (with_reducible exact laws_heldInt64SS.mono _ _ _)
    | (with_reducible exact laws_markInt64SS.mono _ _ _)
    | (with_reducible exact laws_szInt64SS.mono _ _ _)
    | (with_reducible exact laws_toInt64SS.mono _ _)
    | (with_reducible exact spec_JoinPaths.mono _ _ _ _)
    | (with_reducible exact LeO.refl _)
    | (with_reducible refine LeO.ite ?_ ?_)
    | (with_reducible refine LeO.bind ?_ (fun _ => ?_))
    | exact LeO.refl _
    | exact LeO.none _
set_option maxHeartbeats 8000000 in
set_option maxRecDepth 100000 in
theorem laws_FnExactJoinPaths.calls (k : Nat) (a0 : Int) (A1 : Option Addr) (c1 : Nat) (l1 : List (List Int)) (A2 : Option Addr) (c2 : Nat) (l2 : List (List Int)) (r : Bool) (w : World) (hr1 : Kd.C (Kd.slice 2 (Kd.int .i64)) w A1 l1.length l1) (hc1 : l1.length ≤ c1) (hr2 : Kd.C (Kd.slice 2 (Kd.int .i64)) w A2 l2.length l2) (hc2 : l2.length ≤ c2) (h : laws_FnExactJoinPaths.f k a0 l1 l2 = some r) :
    Calls Try.prog 4 #[.int .i64 a0, .slice A1 l1.length c1, .slice A2 l2.length c2] w fun e w' => e = .returned (.bool r) ∧ Below w.heap.size w w' := by
  unfold laws_FnExactJoinPaths.f at h
  have HR1 := Aside0.mk hr1
  have HC1 := Aside0.mk hc1
  clear hr1 hc1
  have HR2 := Aside0.mk hr2
  have HC2 := Aside0.mk hc2
  clear hr2 hc2
  have B0 := Aside0.mk (Below.refl w.heap.size w)
  have h0 := h
  clear h
  replace h0 := Option.bind_eq_some_iff.mp h0
  obtain ⟨y1_0, E1, h0⟩ := h0
  replace E1 := Aside0.mk E1
  by_cases c1 : y1_0 < 0
  · rw [if_pos c1] at h0
    obtain rfl := Option.some.inj h0
    clear h0
    have d1 : decide (y1_0 < 0) = true := decide_eq_true c1
    clear c1
    go_enter Try.func4, Try.ntmps4
    go_wp2_with (go_at_call 10; with_reducible refine (laws_szInt64SS.calls k A1 c1 l1 1048576 y1_0 _ (Kd.C_below HR1.out (by repeat (first | (with_reducible first | exact B0.out | apply below_alloc | apply pw_below_drewN | apply below_drew1) | exact B0.out))) HC1.out E1.out).mono ?_; rintro e w1 ⟨rfl, hd⟩; have B1 := Aside0.mk (below_step (by repeat (first | (with_reducible first | exact B0.out | apply below_alloc | apply pw_below_drewN | apply below_drew1) | exact B0.out)) (Go.Proofs.YtmijbppapjcfkaaA.below_drawn hd)); clear hd)
    go_ret
    exact ⟨rfl, B1.out⟩
  · rw [if_neg c1] at h0
    have d1 : decide (y1_0 < 0) = false := decide_eq_false c1
    clear c1
    replace h0 := Option.bind_eq_some_iff.mp h0
    obtain ⟨y2_0, E2, h0⟩ := h0
    replace E2 := Aside0.mk E2
    by_cases c2 : y2_0 < 0
    · rw [if_pos c2] at h0
      obtain rfl := Option.some.inj h0
      clear h0
      have d2 : decide (y2_0 < 0) = true := decide_eq_true c2
      clear c2
      go_enter Try.func4, Try.ntmps4
      go_wp2_with (go_at_call 10; with_reducible refine (laws_szInt64SS.calls k A1 c1 l1 1048576 y1_0 _ (Kd.C_below HR1.out (by repeat (first | (with_reducible first | exact B0.out | apply below_alloc | apply pw_below_drewN | apply below_drew1) | exact B0.out))) HC1.out E1.out).mono ?_; rintro e w1 ⟨rfl, hd⟩; have B1 := Aside0.mk (below_step (by repeat (first | (with_reducible first | exact B0.out | apply below_alloc | apply pw_below_drewN | apply below_drew1) | exact B0.out)) (Go.Proofs.YtmijbppapjcfkaaA.below_drawn hd)); clear hd)
      go_wp2_with (go_at_call 10; with_reducible refine (laws_szInt64SS.calls k A2 c2 l2 y1_0 y2_0 _ (Kd.C_below HR2.out (by repeat (first | (with_reducible first | exact B1.out | apply below_alloc | apply pw_below_drewN | apply below_drew1) | exact B1.out))) HC2.out E2.out).mono ?_; rintro e w2 ⟨rfl, hd⟩; have B2 := Aside0.mk (below_step (by repeat (first | (with_reducible first | exact B1.out | apply below_alloc | apply pw_below_drewN | apply below_drew1) | exact B1.out)) (Go.Proofs.YtmijbppapjcfkaaA.below_drawn hd)); clear hd)
      go_ret
      exact ⟨rfl, B2.out⟩
    · rw [if_neg c2] at h0
      have d2 : decide (y2_0 < 0) = false := decide_eq_false c2
      clear c2
      replace h0 := Option.bind_eq_some_iff.mp h0
      obtain ⟨y3_0, E3, h0⟩ := h0
      replace E3 := Aside0.mk E3
      replace h0 := Option.bind_eq_some_iff.mp h0
      obtain ⟨y4_0, E4, h0⟩ := h0
      replace E4 := Aside0.mk E4
      replace h0 := Option.bind_eq_some_iff.mp h0
      obtain ⟨⟨y5_0, y5_1⟩, E5, h0⟩ := h0
      dsimp only at h0
      replace E5 := Aside0.mk E5
      replace h0 := Option.bind_eq_some_iff.mp h0
      obtain ⟨y6_0, E6, h0⟩ := h0
      replace E6 := Aside0.mk E6
      replace h0 := Option.bind_eq_some_iff.mp h0
      obtain ⟨y7_0, E7, h0⟩ := h0
      replace E7 := Aside0.mk E7
      replace h0 := Option.bind_eq_some_iff.mp h0
      obtain ⟨⟨y8_0, y8_1⟩, E8, h0⟩ := h0
      dsimp only at h0
      replace E8 := Aside0.mk E8
      by_cases c8 : y8_1 = y5_1
      rotate_left
      · rw [if_neg c8] at h0; cases h0
      rw [if_pos c8] at h0
      have f8_1 : (y8_1 != y5_1) = false := by rw [bne_eq_false_iff_eq]; exact c8
      clear c8
      replace h0 := Option.bind_eq_some_iff.mp h0
      obtain ⟨y9_0, E9, h0⟩ := h0
      replace E9 := Aside0.mk E9
      by_cases c9 : y9_0 = true
      rotate_left
      · rw [if_neg c9] at h0; cases h0
      rw [if_pos c9] at h0
      subst c9
      replace h0 := Option.bind_eq_some_iff.mp h0
      obtain ⟨y10_0, E10, h0⟩ := h0
      replace E10 := Aside0.mk E10
      replace h0 := Option.bind_eq_some_iff.mp h0
      obtain ⟨y11_0, E11, h0⟩ := h0
      replace E11 := Aside0.mk E11
      by_cases c11 : y11_0 = true
      rotate_left
      · rw [if_neg c11] at h0; cases h0
      rw [if_pos c11] at h0
      subst c11
      replace h0 := Option.bind_eq_some_iff.mp h0
      obtain ⟨y12_0, E12, h0⟩ := h0
      replace E12 := Aside0.mk E12
      replace h0 := Option.bind_eq_some_iff.mp h0
      obtain ⟨y13_0, E13, h0⟩ := h0
      replace E13 := Aside0.mk E13
      by_cases c13 : y13_0 = true
      rotate_left
      · rw [if_neg c13] at h0; cases h0
      rw [if_pos c13] at h0
      subst c13
      replace h0 := Option.bind_eq_some_iff.mp h0
      obtain ⟨⟨y14_0, z14⟩, E14, h0⟩ := h0
      dsimp only at h0
      replace E14 := Aside0.mk E14
      by_cases c14 : 0 ≤ y14_0
      rotate_left
      · rw [if_neg c14] at h0; cases h0
      rw [if_pos c14] at h0
      have d14 : decide (y14_0 < 0) = false := decide_eq_false (by omega)
      clear c14
      replace h0 := Option.bind_eq_some_iff.mp h0
      obtain ⟨⟨y15_0, z15⟩, E15, h0⟩ := h0
      dsimp only at h0
      replace E15 := Aside0.mk E15
      by_cases c15 : 0 ≤ y15_0
      rotate_left
      · rw [if_neg c15] at h0; cases h0
      rw [if_pos c15] at h0
      have d15 : decide (y15_0 < 0) = false := decide_eq_false (by omega)
      clear c15
      replace h0 := Option.bind_eq_some_iff.mp h0
      obtain ⟨y16_0, E16, h0⟩ := h0
      replace E16 := Aside0.mk E16
      by_cases c16 : y16_0 = true
      rotate_left
      · rw [if_neg c16] at h0; cases h0
      rw [if_pos c16] at h0
      subst c16
      replace h0 := Option.bind_eq_some_iff.mp h0
      obtain ⟨⟨y17_0, z17⟩, E17, h0⟩ := h0
      dsimp only at h0
      replace E17 := Aside0.mk E17
      by_cases c17 : 0 ≤ y17_0
      rotate_left
      · rw [if_neg c17] at h0; cases h0
      rw [if_pos c17] at h0
      have d17 : decide (y17_0 < 0) = false := decide_eq_false (by omega)
      clear c17
      replace h0 := Option.bind_eq_some_iff.mp h0
      obtain ⟨y18_0, E18, h0⟩ := h0
      replace E18 := Aside0.mk E18
      by_cases c18 : 0 ≤ y18_0 ∧ y18_0 = y17_0
      rotate_left
      · rw [if_neg c18] at h0; cases h0
      rw [if_pos c18] at h0
      have d18 : decide (y18_0 < 0) = false := decide_eq_false (by omega)
      have f18 : (y18_0 != y17_0) = false := by rw [bne_eq_false_iff_eq]; exact c18.2
      clear c18
      replace h0 := Option.bind_eq_some_iff.mp h0
      obtain ⟨y19_0, E19, h0⟩ := h0
      replace E19 := Aside0.mk E19
      replace h0 := Option.bind_eq_some_iff.mp h0
      obtain ⟨y20_0, E20, h0⟩ := h0
      replace E20 := Aside0.mk E20
      replace h0 := Option.bind_eq_some_iff.mp h0
      obtain ⟨⟨y21_0, y21_1⟩, E21, h0⟩ := h0
      dsimp only at h0
      replace E21 := Aside0.mk E21
      by_cases c21 : y21_1 = y5_1
      rotate_left
      · rw [if_neg c21] at h0; cases h0
      rw [if_pos c21] at h0
      have f21_1 : (y21_1 != y5_1) = false := by rw [bne_eq_false_iff_eq]; exact c21
      clear c21
      replace h0 := Option.bind_eq_some_iff.mp h0
      obtain ⟨y22_0, E22, h0⟩ := h0
      replace E22 := Aside0.mk E22
      by_cases c22 : y22_0 = true
      rotate_left
      · rw [if_neg c22] at h0; cases h0
      rw [if_pos c22] at h0
      subst c22
      replace h0 := Option.bind_eq_some_iff.mp h0
      obtain ⟨y23_0, E23, h0⟩ := h0
      replace E23 := Aside0.mk E23
      by_cases c23 : 0 ≤ y23_0 ∧ y23_0 = y17_0
      rotate_left
      · rw [if_neg c23] at h0; cases h0
      rw [if_pos c23] at h0
      have d23 : decide (y23_0 < 0) = false := decide_eq_false (by omega)
      have f23 : (y23_0 != y17_0) = false := by rw [bne_eq_false_iff_eq]; exact c23.2
      clear c23
      obtain rfl := Option.some.inj h0
      clear h0
      go_enter Try.func4, Try.ntmps4
      go_wp2_with (go_at_call 10; with_reducible refine (laws_szInt64SS.calls k A1 c1 l1 1048576 y1_0 _ (Kd.C_below HR1.out (by repeat (first | (with_reducible first | exact B0.out | apply below_alloc | apply pw_below_drewN | apply below_drew1) | exact B0.out))) HC1.out E1.out).mono ?_; rintro e w1 ⟨rfl, hd⟩; have D_ := Aside0.mk (show Below w.heap.size w w1 from below_step (by repeat (first | (with_reducible first | exact Below.refl _ _ | apply below_alloc | apply pw_below_drewN | apply below_drew1) | exact Below.refl _ _)) (Go.Proofs.YtmijbppapjcfkaaA.below_drawn hd)); clear hd)
      have B1 := Aside0.mk (below_step B0.out D_.out)
      clear D_
      go_wp2_with (go_at_call 10; with_reducible refine (laws_szInt64SS.calls k A2 c2 l2 y1_0 y2_0 _ (Kd.C_below HR2.out (by repeat (first | (with_reducible first | exact B1.out | apply below_alloc | apply pw_below_drewN | apply below_drew1) | exact B1.out))) HC2.out E2.out).mono ?_; rintro e w2 ⟨rfl, hd⟩; have D_ := Aside0.mk (show Below w1.heap.size w1 w2 from below_step (by repeat (first | (with_reducible first | exact Below.refl _ _ | apply below_alloc | apply pw_below_drewN | apply below_drew1) | exact Below.refl _ _)) (Go.Proofs.YtmijbppapjcfkaaA.below_drawn hd)); clear hd)
      have B2 := Aside0.mk (below_step B1.out D_.out)
      clear D_
      go_wp2_with (go_at_call 12; with_reducible refine (laws_toInt64SS.calls k A1 c1 l1 y3_0 _ (Kd.C_below HR1.out (by repeat (first | (with_reducible first | exact B2.out | apply below_alloc | apply pw_below_drewN | apply below_drew1) | exact B2.out))) HC1.out E3.out).mono ?_; rintro e w3 ⟨v3_0, rfl, ho0, hb⟩; have D_ := Aside0.mk (show Below w2.heap.size w2 w3 from below_step (by repeat (first | (with_reducible first | exact Below.refl _ _ | apply below_alloc | apply pw_below_drewN | apply below_drew1) | exact Below.refl _ _)) hb); have H3_0 := Aside0.mk (Go.Proofs.YtmijbppapjcfkaaA.AtS.of ho0); clear ho0; clear hb)
      have B3 := Aside0.mk (below_step B2.out D_.out)
      obtain ⟨A3_0, c3_0, rfl, l_⟩ := H3_0.out.form
      have H3_0L := Aside0.mk l_
      clear l_
      obtain ⟨lo_H3_0, hlo⟩ : ∃ x_ : Nat, x_ = w2.heap.size := ⟨_, rfl⟩
      obtain ⟨hi_H3_0, hhi⟩ : ∃ x_ : Nat, x_ = w3.heap.size := ⟨_, rfl⟩
      have LO_H3_0 := Aside0.mk (show w.heap.size ≤ lo_H3_0 from by rw [hlo]; exact B2.out.size)
      have SZ_H3_0 := Aside0.mk (show lo_H3_0 ≤ hi_H3_0 from by rw [hlo, hhi]; exact D_.out.size)
      replace H3_0 := Aside0.mk (show Go.Proofs.YtmijbppapjcfkaaA.AtS (Kd.slice 2 (Kd.int .i64)) 67 lo_H3_0 hi_H3_0 w3 (.slice A3_0 y3_0.length c3_0) y3_0 from by rw [hlo, hhi]; exact H3_0.out)
      clear hlo hhi
      clear D_
      have PS_H3_0 := Aside0.mk (show hi_H3_0 ≤ w3.heap.size from H3_0.out.2)
      go_wp2_with (go_at_call 12; with_reducible refine (laws_toInt64SS.calls k A2 c2 l2 y4_0 _ (Kd.C_below HR2.out (by repeat (first | (with_reducible first | exact B3.out | apply below_alloc | apply pw_below_drewN | apply below_drew1) | exact B3.out))) HC2.out E4.out).mono ?_; rintro e w4 ⟨v4_0, rfl, ho0, hb⟩; have D_ := Aside0.mk (show Below w3.heap.size w3 w4 from below_step (by repeat (first | (with_reducible first | exact Below.refl _ _ | apply below_alloc | apply pw_below_drewN | apply below_drew1) | exact Below.refl _ _)) hb); have H4_0 := Aside0.mk (Go.Proofs.YtmijbppapjcfkaaA.AtS.of ho0); clear ho0; clear hb)
      have B4 := Aside0.mk (below_step B3.out D_.out)
      replace H3_0 := Aside0.mk (H3_0.out.below D_.out)
      obtain ⟨A4_0, c4_0, rfl, l_⟩ := H4_0.out.form
      have H4_0L := Aside0.mk l_
      clear l_
      obtain ⟨lo_H4_0, hlo⟩ : ∃ x_ : Nat, x_ = w3.heap.size := ⟨_, rfl⟩
      obtain ⟨hi_H4_0, hhi⟩ : ∃ x_ : Nat, x_ = w4.heap.size := ⟨_, rfl⟩
      have LO_H4_0 := Aside0.mk (show w.heap.size ≤ lo_H4_0 from by rw [hlo]; exact B3.out.size)
      have SZ_H4_0 := Aside0.mk (show lo_H4_0 ≤ hi_H4_0 ∧ hi_H3_0 ≤ lo_H4_0 from ⟨by rw [hlo, hhi]; exact D_.out.size, by rw [hlo]; exact PS_H3_0.out⟩)
      replace H4_0 := Aside0.mk (show Go.Proofs.YtmijbppapjcfkaaA.AtS (Kd.slice 2 (Kd.int .i64)) 67 lo_H4_0 hi_H4_0 w4 (.slice A4_0 y4_0.length c4_0) y4_0 from by rw [hlo, hhi]; exact H4_0.out)
      clear hlo hhi
      clear D_
      have PS_H3_0 := Aside0.mk (show hi_H3_0 ≤ w4.heap.size from H3_0.out.2)
      have PS_H4_0 := Aside0.mk (show hi_H4_0 ≤ w4.heap.size from H4_0.out.2)
      go_wp2_with (go_at_call 11; with_reducible refine (spec_JoinPaths.calls k a0 _ _ y3_0 _ _ y4_0 y5_0 y5_1 _ (Kd.C_below H3_0.out.C (by repeat (first | (with_reducible first | exact Below.refl _ _ | apply below_alloc | apply pw_below_drewN | apply below_drew1) | exact Below.refl _ _))) H3_0L.out (Kd.C_below H4_0.out.C (by repeat (first | (with_reducible first | exact Below.refl _ _ | apply below_alloc | apply pw_below_drewN | apply below_drew1) | exact Below.refl _ _))) H4_0L.out E5.out).mono ?_; rintro e w5 ⟨v5_0, rfl, ho0, hb⟩; have D_ := Aside0.mk (show Below w4.heap.size w4 w5 from below_step (by repeat (first | (with_reducible first | exact Below.refl _ _ | apply below_alloc | apply pw_below_drewN | apply below_drew1) | exact Below.refl _ _)) hb); have H5_0 := Aside0.mk (Go.Proofs.YtmijbppapjcfkaaA.AtS.of ho0); clear ho0; clear hb)
      have B5 := Aside0.mk (below_step B4.out D_.out)
      replace H3_0 := Aside0.mk (H3_0.out.below D_.out)
      replace H4_0 := Aside0.mk (H4_0.out.below D_.out)
      obtain ⟨A5_0, c5_0, rfl, l_⟩ := H5_0.out.form
      have H5_0L := Aside0.mk l_
      clear l_
      obtain ⟨lo_H5_0, hlo⟩ : ∃ x_ : Nat, x_ = w4.heap.size := ⟨_, rfl⟩
      obtain ⟨hi_H5_0, hhi⟩ : ∃ x_ : Nat, x_ = w5.heap.size := ⟨_, rfl⟩
      have LO_H5_0 := Aside0.mk (show w.heap.size ≤ lo_H5_0 from by rw [hlo]; exact B4.out.size)
      have SZ_H5_0 := Aside0.mk (show lo_H5_0 ≤ hi_H5_0 ∧ hi_H3_0 ≤ lo_H5_0 ∧ hi_H4_0 ≤ lo_H5_0 from ⟨by rw [hlo, hhi]; exact D_.out.size, by rw [hlo]; exact PS_H3_0.out, by rw [hlo]; exact PS_H4_0.out⟩)
      replace H5_0 := Aside0.mk (show Go.Proofs.YtmijbppapjcfkaaA.AtS (Kd.slice 2 (Kd.int .i64)) 67 lo_H5_0 hi_H5_0 w5 (.slice A5_0 y5_0.length c5_0) y5_0 from by rw [hlo, hhi]; exact H5_0.out)
      clear hlo hhi
      clear D_
      have PS_H3_0 := Aside0.mk (show hi_H3_0 ≤ w5.heap.size from H3_0.out.2)
      have PS_H4_0 := Aside0.mk (show hi_H4_0 ≤ w5.heap.size from H4_0.out.2)
      have PS_H5_0 := Aside0.mk (show hi_H5_0 ≤ w5.heap.size from H5_0.out.2)
      go_wp2_with (go_at_call 12; with_reducible refine (laws_toInt64SS.calls k A1 c1 l1 y6_0 _ (Kd.C_below HR1.out (by repeat (first | (with_reducible first | exact B5.out | apply below_alloc | apply pw_below_drewN | apply below_drew1) | exact B5.out))) HC1.out E6.out).mono ?_; rintro e w6 ⟨v6_0, rfl, ho0, hb⟩; have D_ := Aside0.mk (show Below w5.heap.size w5 w6 from below_step (by repeat (first | (with_reducible first | exact Below.refl _ _ | apply below_alloc | apply pw_below_drewN | apply below_drew1) | exact Below.refl _ _)) hb); have H6_0 := Aside0.mk (Go.Proofs.YtmijbppapjcfkaaA.AtS.of ho0); clear ho0; clear hb)
      have B6 := Aside0.mk (below_step B5.out D_.out)
      replace H3_0 := Aside0.mk (H3_0.out.below D_.out)
      replace H4_0 := Aside0.mk (H4_0.out.below D_.out)
      replace H5_0 := Aside0.mk (H5_0.out.below D_.out)
      obtain ⟨A6_0, c6_0, rfl, l_⟩ := H6_0.out.form
      have H6_0L := Aside0.mk l_
      clear l_
      obtain ⟨lo_H6_0, hlo⟩ : ∃ x_ : Nat, x_ = w5.heap.size := ⟨_, rfl⟩
      obtain ⟨hi_H6_0, hhi⟩ : ∃ x_ : Nat, x_ = w6.heap.size := ⟨_, rfl⟩
      have LO_H6_0 := Aside0.mk (show w.heap.size ≤ lo_H6_0 from by rw [hlo]; exact B5.out.size)
      have SZ_H6_0 := Aside0.mk (show lo_H6_0 ≤ hi_H6_0 ∧ hi_H3_0 ≤ lo_H6_0 ∧ hi_H4_0 ≤ lo_H6_0 ∧ hi_H5_0 ≤ lo_H6_0 from ⟨by rw [hlo, hhi]; exact D_.out.size, by rw [hlo]; exact PS_H3_0.out, by rw [hlo]; exact PS_H4_0.out, by rw [hlo]; exact PS_H5_0.out⟩)
      replace H6_0 := Aside0.mk (show Go.Proofs.YtmijbppapjcfkaaA.AtS (Kd.slice 2 (Kd.int .i64)) 67 lo_H6_0 hi_H6_0 w6 (.slice A6_0 y6_0.length c6_0) y6_0 from by rw [hlo, hhi]; exact H6_0.out)
      clear hlo hhi
      clear D_
      have PS_H3_0 := Aside0.mk (show hi_H3_0 ≤ w6.heap.size from H3_0.out.2)
      have PS_H4_0 := Aside0.mk (show hi_H4_0 ≤ w6.heap.size from H4_0.out.2)
      have PS_H5_0 := Aside0.mk (show hi_H5_0 ≤ w6.heap.size from H5_0.out.2)
      have PS_H6_0 := Aside0.mk (show hi_H6_0 ≤ w6.heap.size from H6_0.out.2)
      go_wp2_with (go_at_call 12; with_reducible refine (laws_toInt64SS.calls k A2 c2 l2 y7_0 _ (Kd.C_below HR2.out (by repeat (first | (with_reducible first | exact B6.out | apply below_alloc | apply pw_below_drewN | apply below_drew1) | exact B6.out))) HC2.out E7.out).mono ?_; rintro e w7 ⟨v7_0, rfl, ho0, hb⟩; have D_ := Aside0.mk (show Below w6.heap.size w6 w7 from below_step (by repeat (first | (with_reducible first | exact Below.refl _ _ | apply below_alloc | apply pw_below_drewN | apply below_drew1) | exact Below.refl _ _)) hb); have H7_0 := Aside0.mk (Go.Proofs.YtmijbppapjcfkaaA.AtS.of ho0); clear ho0; clear hb)
      have B7 := Aside0.mk (below_step B6.out D_.out)
      replace H3_0 := Aside0.mk (H3_0.out.below D_.out)
      replace H4_0 := Aside0.mk (H4_0.out.below D_.out)
      replace H5_0 := Aside0.mk (H5_0.out.below D_.out)
      replace H6_0 := Aside0.mk (H6_0.out.below D_.out)
      obtain ⟨A7_0, c7_0, rfl, l_⟩ := H7_0.out.form
      have H7_0L := Aside0.mk l_
      clear l_
      obtain ⟨lo_H7_0, hlo⟩ : ∃ x_ : Nat, x_ = w6.heap.size := ⟨_, rfl⟩
      obtain ⟨hi_H7_0, hhi⟩ : ∃ x_ : Nat, x_ = w7.heap.size := ⟨_, rfl⟩
      have LO_H7_0 := Aside0.mk (show w.heap.size ≤ lo_H7_0 from by rw [hlo]; exact B6.out.size)
      have SZ_H7_0 := Aside0.mk (show lo_H7_0 ≤ hi_H7_0 ∧ hi_H3_0 ≤ lo_H7_0 ∧ hi_H4_0 ≤ lo_H7_0 ∧ hi_H5_0 ≤ lo_H7_0 ∧ hi_H6_0 ≤ lo_H7_0 from ⟨by rw [hlo, hhi]; exact D_.out.size, by rw [hlo]; exact PS_H3_0.out, by rw [hlo]; exact PS_H4_0.out, by rw [hlo]; exact PS_H5_0.out, by rw [hlo]; exact PS_H6_0.out⟩)
      replace H7_0 := Aside0.mk (show Go.Proofs.YtmijbppapjcfkaaA.AtS (Kd.slice 2 (Kd.int .i64)) 67 lo_H7_0 hi_H7_0 w7 (.slice A7_0 y7_0.length c7_0) y7_0 from by rw [hlo, hhi]; exact H7_0.out)
      clear hlo hhi
      clear D_
      have PS_H3_0 := Aside0.mk (show hi_H3_0 ≤ w7.heap.size from H3_0.out.2)
      have PS_H4_0 := Aside0.mk (show hi_H4_0 ≤ w7.heap.size from H4_0.out.2)
      have PS_H5_0 := Aside0.mk (show hi_H5_0 ≤ w7.heap.size from H5_0.out.2)
      have PS_H6_0 := Aside0.mk (show hi_H6_0 ≤ w7.heap.size from H6_0.out.2)
      have PS_H7_0 := Aside0.mk (show hi_H7_0 ≤ w7.heap.size from H7_0.out.2)
      go_wp2_with (go_at_call 13; with_reducible refine (impl_JoinPaths.calls a0 _ _ y6_0 _ _ y7_0 y8_0 y8_1 _ (Kd.C_below H6_0.out.C (by repeat (first | (with_reducible first | exact Below.refl _ _ | apply below_alloc | apply pw_below_drewN | apply below_drew1) | exact Below.refl _ _))) H6_0L.out (Kd.C_below H7_0.out.C (by repeat (first | (with_reducible first | exact Below.refl _ _ | apply below_alloc | apply pw_below_drewN | apply below_drew1) | exact Below.refl _ _))) H7_0L.out E8.out).mono ?_; rintro e w8 ⟨v8_0, rfl, ho0, hb⟩; have D_ := Aside0.mk (show Below w7.heap.size w7 w8 from below_step (by repeat (first | (with_reducible first | exact Below.refl _ _ | apply below_alloc | apply pw_below_drewN | apply below_drew1) | exact Below.refl _ _)) hb); have H8_0 := Aside0.mk (Go.Proofs.YtmijbppapjcfkaaA.AtS.of ho0); clear ho0; clear hb)
      have B8 := Aside0.mk (below_step B7.out D_.out)
      replace H3_0 := Aside0.mk (H3_0.out.below D_.out)
      replace H4_0 := Aside0.mk (H4_0.out.below D_.out)
      replace H5_0 := Aside0.mk (H5_0.out.below D_.out)
      replace H6_0 := Aside0.mk (H6_0.out.below D_.out)
      replace H7_0 := Aside0.mk (H7_0.out.below D_.out)
      obtain ⟨A8_0, c8_0, rfl, l_⟩ := H8_0.out.form
      have H8_0L := Aside0.mk l_
      clear l_
      obtain ⟨lo_H8_0, hlo⟩ : ∃ x_ : Nat, x_ = w7.heap.size := ⟨_, rfl⟩
      obtain ⟨hi_H8_0, hhi⟩ : ∃ x_ : Nat, x_ = w8.heap.size := ⟨_, rfl⟩
      have LO_H8_0 := Aside0.mk (show w.heap.size ≤ lo_H8_0 from by rw [hlo]; exact B7.out.size)
      have SZ_H8_0 := Aside0.mk (show lo_H8_0 ≤ hi_H8_0 ∧ hi_H3_0 ≤ lo_H8_0 ∧ hi_H4_0 ≤ lo_H8_0 ∧ hi_H5_0 ≤ lo_H8_0 ∧ hi_H6_0 ≤ lo_H8_0 ∧ hi_H7_0 ≤ lo_H8_0 from ⟨by rw [hlo, hhi]; exact D_.out.size, by rw [hlo]; exact PS_H3_0.out, by rw [hlo]; exact PS_H4_0.out, by rw [hlo]; exact PS_H5_0.out, by rw [hlo]; exact PS_H6_0.out, by rw [hlo]; exact PS_H7_0.out⟩)
      replace H8_0 := Aside0.mk (show Go.Proofs.YtmijbppapjcfkaaA.AtS (Kd.slice 2 (Kd.int .i64)) 67 lo_H8_0 hi_H8_0 w8 (.slice A8_0 y8_0.length c8_0) y8_0 from by rw [hlo, hhi]; exact H8_0.out)
      clear hlo hhi
      clear D_
      have PS_H3_0 := Aside0.mk (show hi_H3_0 ≤ w8.heap.size from H3_0.out.2)
      have PS_H4_0 := Aside0.mk (show hi_H4_0 ≤ w8.heap.size from H4_0.out.2)
      have PS_H5_0 := Aside0.mk (show hi_H5_0 ≤ w8.heap.size from H5_0.out.2)
      have PS_H6_0 := Aside0.mk (show hi_H6_0 ≤ w8.heap.size from H6_0.out.2)
      have PS_H7_0 := Aside0.mk (show hi_H7_0 ≤ w8.heap.size from H7_0.out.2)
      have PS_H8_0 := Aside0.mk (show hi_H8_0 ≤ w8.heap.size from H8_0.out.2)
      go_wp2_with (go_at_call 14; with_reducible refine (laws_eqInt64SS.calls k _ _ y8_0 _ _ y5_0 true _ (Kd.C_below H8_0.out.C (by repeat (first | (with_reducible first | exact Below.refl _ _ | apply below_alloc | apply pw_below_drewN | apply below_drew1) | exact Below.refl _ _))) H8_0L.out (Kd.C_below H5_0.out.C (by repeat (first | (with_reducible first | exact Below.refl _ _ | apply below_alloc | apply pw_below_drewN | apply below_drew1) | exact Below.refl _ _))) H5_0L.out E9.out).mono ?_; rintro e w9 ⟨rfl, hd⟩; have D_ := Aside0.mk (show Below w8.heap.size w8 w9 from below_step (by repeat (first | (with_reducible first | exact Below.refl _ _ | apply below_alloc | apply pw_below_drewN | apply below_drew1) | exact Below.refl _ _)) (Go.Proofs.YtmijbppapjcfkaaA.below_drawn hd)); clear hd)
      have B9 := Aside0.mk (below_step B8.out D_.out)
      replace H3_0 := Aside0.mk (H3_0.out.below D_.out)
      replace H4_0 := Aside0.mk (H4_0.out.below D_.out)
      replace H5_0 := Aside0.mk (H5_0.out.below D_.out)
      replace H6_0 := Aside0.mk (H6_0.out.below D_.out)
      replace H7_0 := Aside0.mk (H7_0.out.below D_.out)
      replace H8_0 := Aside0.mk (H8_0.out.below D_.out)
      clear D_
      have PS_H3_0 := Aside0.mk (show hi_H3_0 ≤ w9.heap.size from H3_0.out.2)
      have PS_H4_0 := Aside0.mk (show hi_H4_0 ≤ w9.heap.size from H4_0.out.2)
      have PS_H5_0 := Aside0.mk (show hi_H5_0 ≤ w9.heap.size from H5_0.out.2)
      have PS_H6_0 := Aside0.mk (show hi_H6_0 ≤ w9.heap.size from H6_0.out.2)
      have PS_H7_0 := Aside0.mk (show hi_H7_0 ≤ w9.heap.size from H7_0.out.2)
      have PS_H8_0 := Aside0.mk (show hi_H8_0 ≤ w9.heap.size from H8_0.out.2)
      go_wp2_with (go_at_call 12; with_reducible refine (laws_toInt64SS.calls k A1 c1 l1 y10_0 _ (Kd.C_below HR1.out (by repeat (first | (with_reducible first | exact B9.out | apply below_alloc | apply pw_below_drewN | apply below_drew1) | exact B9.out))) HC1.out E10.out).mono ?_; rintro e w10 ⟨v10_0, rfl, ho0, hb⟩; have D_ := Aside0.mk (show Below w9.heap.size w9 w10 from below_step (by repeat (first | (with_reducible first | exact Below.refl _ _ | apply below_alloc | apply pw_below_drewN | apply below_drew1) | exact Below.refl _ _)) hb); have H10_0 := Aside0.mk (Go.Proofs.YtmijbppapjcfkaaA.AtS.of ho0); clear ho0; clear hb)
      have B10 := Aside0.mk (below_step B9.out D_.out)
      replace H3_0 := Aside0.mk (H3_0.out.below D_.out)
      replace H4_0 := Aside0.mk (H4_0.out.below D_.out)
      replace H5_0 := Aside0.mk (H5_0.out.below D_.out)
      replace H6_0 := Aside0.mk (H6_0.out.below D_.out)
      replace H7_0 := Aside0.mk (H7_0.out.below D_.out)
      replace H8_0 := Aside0.mk (H8_0.out.below D_.out)
      obtain ⟨A10_0, c10_0, rfl, l_⟩ := H10_0.out.form
      have H10_0L := Aside0.mk l_
      clear l_
      obtain ⟨lo_H10_0, hlo⟩ : ∃ x_ : Nat, x_ = w9.heap.size := ⟨_, rfl⟩
      obtain ⟨hi_H10_0, hhi⟩ : ∃ x_ : Nat, x_ = w10.heap.size := ⟨_, rfl⟩
      have LO_H10_0 := Aside0.mk (show w.heap.size ≤ lo_H10_0 from by rw [hlo]; exact B9.out.size)
      have SZ_H10_0 := Aside0.mk (show lo_H10_0 ≤ hi_H10_0 ∧ hi_H3_0 ≤ lo_H10_0 ∧ hi_H4_0 ≤ lo_H10_0 ∧ hi_H5_0 ≤ lo_H10_0 ∧ hi_H6_0 ≤ lo_H10_0 ∧ hi_H7_0 ≤ lo_H10_0 ∧ hi_H8_0 ≤ lo_H10_0 from ⟨by rw [hlo, hhi]; exact D_.out.size, by rw [hlo]; exact PS_H3_0.out, by rw [hlo]; exact PS_H4_0.out, by rw [hlo]; exact PS_H5_0.out, by rw [hlo]; exact PS_H6_0.out, by rw [hlo]; exact PS_H7_0.out, by rw [hlo]; exact PS_H8_0.out⟩)
      replace H10_0 := Aside0.mk (show Go.Proofs.YtmijbppapjcfkaaA.AtS (Kd.slice 2 (Kd.int .i64)) 67 lo_H10_0 hi_H10_0 w10 (.slice A10_0 y10_0.length c10_0) y10_0 from by rw [hlo, hhi]; exact H10_0.out)
      clear hlo hhi
      clear D_
      have PS_H3_0 := Aside0.mk (show hi_H3_0 ≤ w10.heap.size from H3_0.out.2)
      have PS_H4_0 := Aside0.mk (show hi_H4_0 ≤ w10.heap.size from H4_0.out.2)
      have PS_H5_0 := Aside0.mk (show hi_H5_0 ≤ w10.heap.size from H5_0.out.2)
      have PS_H6_0 := Aside0.mk (show hi_H6_0 ≤ w10.heap.size from H6_0.out.2)
      have PS_H7_0 := Aside0.mk (show hi_H7_0 ≤ w10.heap.size from H7_0.out.2)
      have PS_H8_0 := Aside0.mk (show hi_H8_0 ≤ w10.heap.size from H8_0.out.2)
      have PS_H10_0 := Aside0.mk (show hi_H10_0 ≤ w10.heap.size from H10_0.out.2)
      go_wp2_with (go_at_call 14; with_reducible refine (laws_eqInt64SS.calls k _ _ y6_0 _ _ y10_0 true _ (Kd.C_below H6_0.out.C (by repeat (first | (with_reducible first | exact Below.refl _ _ | apply below_alloc | apply pw_below_drewN | apply below_drew1) | exact Below.refl _ _))) H6_0L.out (Kd.C_below H10_0.out.C (by repeat (first | (with_reducible first | exact Below.refl _ _ | apply below_alloc | apply pw_below_drewN | apply below_drew1) | exact Below.refl _ _))) H10_0L.out E11.out).mono ?_; rintro e w11 ⟨rfl, hd⟩; have D_ := Aside0.mk (show Below w10.heap.size w10 w11 from below_step (by repeat (first | (with_reducible first | exact Below.refl _ _ | apply below_alloc | apply pw_below_drewN | apply below_drew1) | exact Below.refl _ _)) (Go.Proofs.YtmijbppapjcfkaaA.below_drawn hd)); clear hd)
      have B11 := Aside0.mk (below_step B10.out D_.out)
      replace H3_0 := Aside0.mk (H3_0.out.below D_.out)
      replace H4_0 := Aside0.mk (H4_0.out.below D_.out)
      replace H5_0 := Aside0.mk (H5_0.out.below D_.out)
      replace H6_0 := Aside0.mk (H6_0.out.below D_.out)
      replace H7_0 := Aside0.mk (H7_0.out.below D_.out)
      replace H8_0 := Aside0.mk (H8_0.out.below D_.out)
      replace H10_0 := Aside0.mk (H10_0.out.below D_.out)
      clear D_
      have PS_H3_0 := Aside0.mk (show hi_H3_0 ≤ w11.heap.size from H3_0.out.2)
      have PS_H4_0 := Aside0.mk (show hi_H4_0 ≤ w11.heap.size from H4_0.out.2)
      have PS_H5_0 := Aside0.mk (show hi_H5_0 ≤ w11.heap.size from H5_0.out.2)
      have PS_H6_0 := Aside0.mk (show hi_H6_0 ≤ w11.heap.size from H6_0.out.2)
      have PS_H7_0 := Aside0.mk (show hi_H7_0 ≤ w11.heap.size from H7_0.out.2)
      have PS_H8_0 := Aside0.mk (show hi_H8_0 ≤ w11.heap.size from H8_0.out.2)
      have PS_H10_0 := Aside0.mk (show hi_H10_0 ≤ w11.heap.size from H10_0.out.2)
      go_wp2_with (go_at_call 12; with_reducible refine (laws_toInt64SS.calls k A2 c2 l2 y12_0 _ (Kd.C_below HR2.out (by repeat (first | (with_reducible first | exact B11.out | apply below_alloc | apply pw_below_drewN | apply below_drew1) | exact B11.out))) HC2.out E12.out).mono ?_; rintro e w12 ⟨v12_0, rfl, ho0, hb⟩; have D_ := Aside0.mk (show Below w11.heap.size w11 w12 from below_step (by repeat (first | (with_reducible first | exact Below.refl _ _ | apply below_alloc | apply pw_below_drewN | apply below_drew1) | exact Below.refl _ _)) hb); have H12_0 := Aside0.mk (Go.Proofs.YtmijbppapjcfkaaA.AtS.of ho0); clear ho0; clear hb)
      have B12 := Aside0.mk (below_step B11.out D_.out)
      replace H3_0 := Aside0.mk (H3_0.out.below D_.out)
      replace H4_0 := Aside0.mk (H4_0.out.below D_.out)
      replace H5_0 := Aside0.mk (H5_0.out.below D_.out)
      replace H6_0 := Aside0.mk (H6_0.out.below D_.out)
      replace H7_0 := Aside0.mk (H7_0.out.below D_.out)
      replace H8_0 := Aside0.mk (H8_0.out.below D_.out)
      replace H10_0 := Aside0.mk (H10_0.out.below D_.out)
      obtain ⟨A12_0, c12_0, rfl, l_⟩ := H12_0.out.form
      have H12_0L := Aside0.mk l_
      clear l_
      obtain ⟨lo_H12_0, hlo⟩ : ∃ x_ : Nat, x_ = w11.heap.size := ⟨_, rfl⟩
      obtain ⟨hi_H12_0, hhi⟩ : ∃ x_ : Nat, x_ = w12.heap.size := ⟨_, rfl⟩
      have LO_H12_0 := Aside0.mk (show w.heap.size ≤ lo_H12_0 from by rw [hlo]; exact B11.out.size)
      have SZ_H12_0 := Aside0.mk (show lo_H12_0 ≤ hi_H12_0 ∧ hi_H3_0 ≤ lo_H12_0 ∧ hi_H4_0 ≤ lo_H12_0 ∧ hi_H5_0 ≤ lo_H12_0 ∧ hi_H6_0 ≤ lo_H12_0 ∧ hi_H7_0 ≤ lo_H12_0 ∧ hi_H8_0 ≤ lo_H12_0 ∧ hi_H10_0 ≤ lo_H12_0 from ⟨by rw [hlo, hhi]; exact D_.out.size, by rw [hlo]; exact PS_H3_0.out, by rw [hlo]; exact PS_H4_0.out, by rw [hlo]; exact PS_H5_0.out, by rw [hlo]; exact PS_H6_0.out, by rw [hlo]; exact PS_H7_0.out, by rw [hlo]; exact PS_H8_0.out, by rw [hlo]; exact PS_H10_0.out⟩)
      replace H12_0 := Aside0.mk (show Go.Proofs.YtmijbppapjcfkaaA.AtS (Kd.slice 2 (Kd.int .i64)) 67 lo_H12_0 hi_H12_0 w12 (.slice A12_0 y12_0.length c12_0) y12_0 from by rw [hlo, hhi]; exact H12_0.out)
      clear hlo hhi
      clear D_
      have PS_H3_0 := Aside0.mk (show hi_H3_0 ≤ w12.heap.size from H3_0.out.2)
      have PS_H4_0 := Aside0.mk (show hi_H4_0 ≤ w12.heap.size from H4_0.out.2)
      have PS_H5_0 := Aside0.mk (show hi_H5_0 ≤ w12.heap.size from H5_0.out.2)
      have PS_H6_0 := Aside0.mk (show hi_H6_0 ≤ w12.heap.size from H6_0.out.2)
      have PS_H7_0 := Aside0.mk (show hi_H7_0 ≤ w12.heap.size from H7_0.out.2)
      have PS_H8_0 := Aside0.mk (show hi_H8_0 ≤ w12.heap.size from H8_0.out.2)
      have PS_H10_0 := Aside0.mk (show hi_H10_0 ≤ w12.heap.size from H10_0.out.2)
      have PS_H12_0 := Aside0.mk (show hi_H12_0 ≤ w12.heap.size from H12_0.out.2)
      go_wp2_with (go_at_call 14; with_reducible refine (laws_eqInt64SS.calls k _ _ y7_0 _ _ y12_0 true _ (Kd.C_below H7_0.out.C (by repeat (first | (with_reducible first | exact Below.refl _ _ | apply below_alloc | apply pw_below_drewN | apply below_drew1) | exact Below.refl _ _))) H7_0L.out (Kd.C_below H12_0.out.C (by repeat (first | (with_reducible first | exact Below.refl _ _ | apply below_alloc | apply pw_below_drewN | apply below_drew1) | exact Below.refl _ _))) H12_0L.out E13.out).mono ?_; rintro e w13 ⟨rfl, hd⟩; have D_ := Aside0.mk (show Below w12.heap.size w12 w13 from below_step (by repeat (first | (with_reducible first | exact Below.refl _ _ | apply below_alloc | apply pw_below_drewN | apply below_drew1) | exact Below.refl _ _)) (Go.Proofs.YtmijbppapjcfkaaA.below_drawn hd)); clear hd)
      have B13 := Aside0.mk (below_step B12.out D_.out)
      replace H3_0 := Aside0.mk (H3_0.out.below D_.out)
      replace H4_0 := Aside0.mk (H4_0.out.below D_.out)
      replace H5_0 := Aside0.mk (H5_0.out.below D_.out)
      replace H6_0 := Aside0.mk (H6_0.out.below D_.out)
      replace H7_0 := Aside0.mk (H7_0.out.below D_.out)
      replace H8_0 := Aside0.mk (H8_0.out.below D_.out)
      replace H10_0 := Aside0.mk (H10_0.out.below D_.out)
      replace H12_0 := Aside0.mk (H12_0.out.below D_.out)
      clear D_
      have PS_H3_0 := Aside0.mk (show hi_H3_0 ≤ w13.heap.size from H3_0.out.2)
      have PS_H4_0 := Aside0.mk (show hi_H4_0 ≤ w13.heap.size from H4_0.out.2)
      have PS_H5_0 := Aside0.mk (show hi_H5_0 ≤ w13.heap.size from H5_0.out.2)
      have PS_H6_0 := Aside0.mk (show hi_H6_0 ≤ w13.heap.size from H6_0.out.2)
      have PS_H7_0 := Aside0.mk (show hi_H7_0 ≤ w13.heap.size from H7_0.out.2)
      have PS_H8_0 := Aside0.mk (show hi_H8_0 ≤ w13.heap.size from H8_0.out.2)
      have PS_H10_0 := Aside0.mk (show hi_H10_0 ≤ w13.heap.size from H10_0.out.2)
      have PS_H12_0 := Aside0.mk (show hi_H12_0 ≤ w13.heap.size from H12_0.out.2)
      go_wp2_with (go_at_call 15; with_reducible refine (laws_markInt64SS.calls k (fun k_ => lo_H6_0 ≤ k_ ∧ k_ < hi_H6_0) _ y6_0 1 y14_0 z14 w _ (by repeat (first | (with_reducible first | exact B13.out | apply below_alloc | apply pw_below_drewN | apply below_drew1) | exact B13.out)) (Kd.S_below (Go.Proofs.YtmijbppapjcfkaaA.AtS.mark H6_0.out LO_H6_0.out) (by repeat (first | (with_reducible first | exact Below.refl _ _ | apply below_alloc | apply pw_below_drewN | apply below_drew1) | exact Below.refl _ _))) E14.out).mono ?_; rintro e w14 ⟨rfl, ho, hb, hk⟩; have B14 := Aside0.mk hb; have KP := Aside0.mk (show Kept w13 w14 (fun k_ => lo_H6_0 ≤ k_ ∧ k_ < hi_H6_0) from Kept.then_ (Kept.of_below (by repeat (first | (with_reducible first | exact Below.refl _ _ | apply below_alloc | apply pw_below_drewN | apply below_drew1) | exact Below.refl _ _)) _) hk (fun _ h_ => .inl h_)); have HN := Aside0.mk (Go.Proofs.YtmijbppapjcfkaaA.AtS.of ho); clear ho hb hk)
      replace H3_0 := Aside0.mk (Go.Proofs.YtmijbppapjcfkaaA.AtS.kept H3_0.out KP.out (by have := SZ_H6_0.out; have := SZ_H3_0.out; have := LO_H6_0.out; have := LO_H3_0.out; omega))
      replace H4_0 := Aside0.mk (Go.Proofs.YtmijbppapjcfkaaA.AtS.kept H4_0.out KP.out (by have := SZ_H6_0.out; have := SZ_H4_0.out; have := LO_H6_0.out; have := LO_H4_0.out; omega))
      replace H5_0 := Aside0.mk (Go.Proofs.YtmijbppapjcfkaaA.AtS.kept H5_0.out KP.out (by have := SZ_H6_0.out; have := SZ_H5_0.out; have := LO_H6_0.out; have := LO_H5_0.out; omega))
      replace H7_0 := Aside0.mk (Go.Proofs.YtmijbppapjcfkaaA.AtS.kept H7_0.out KP.out (by have := SZ_H6_0.out; have := SZ_H7_0.out; have := LO_H6_0.out; have := LO_H7_0.out; omega))
      replace H8_0 := Aside0.mk (Go.Proofs.YtmijbppapjcfkaaA.AtS.kept H8_0.out KP.out (by have := SZ_H6_0.out; have := SZ_H8_0.out; have := LO_H6_0.out; have := LO_H8_0.out; omega))
      replace H10_0 := Aside0.mk (Go.Proofs.YtmijbppapjcfkaaA.AtS.kept H10_0.out KP.out (by have := SZ_H6_0.out; have := SZ_H10_0.out; have := LO_H6_0.out; have := LO_H10_0.out; omega))
      replace H12_0 := Aside0.mk (Go.Proofs.YtmijbppapjcfkaaA.AtS.kept H12_0.out KP.out (by have := SZ_H6_0.out; have := SZ_H12_0.out; have := LO_H6_0.out; have := LO_H12_0.out; omega))
      replace H6_0 := HN
      clear HN KP
      obtain ⟨A_, c_, e_, l_⟩ := H6_0.out.form
      injection e_ with e1_ e2_ e3_
      have H6_0L := Aside0.mk (e3_ ▸ l_)
      clear l_ e1_ e3_
      first | rw [e2_] | skip
      replace H6_0 := Aside0.mk (e2_ ▸ H6_0.out)
      clear e2_
      have PS_H3_0 := Aside0.mk (show hi_H3_0 ≤ w14.heap.size from H3_0.out.2)
      have PS_H4_0 := Aside0.mk (show hi_H4_0 ≤ w14.heap.size from H4_0.out.2)
      have PS_H5_0 := Aside0.mk (show hi_H5_0 ≤ w14.heap.size from H5_0.out.2)
      have PS_H7_0 := Aside0.mk (show hi_H7_0 ≤ w14.heap.size from H7_0.out.2)
      have PS_H8_0 := Aside0.mk (show hi_H8_0 ≤ w14.heap.size from H8_0.out.2)
      have PS_H10_0 := Aside0.mk (show hi_H10_0 ≤ w14.heap.size from H10_0.out.2)
      have PS_H12_0 := Aside0.mk (show hi_H12_0 ≤ w14.heap.size from H12_0.out.2)
      go_wp2_with (go_at_call 15; with_reducible refine (laws_markInt64SS.calls k (fun k_ => lo_H7_0 ≤ k_ ∧ k_ < hi_H7_0) _ y7_0 y14_0 y15_0 z15 w _ (by repeat (first | (with_reducible first | exact B14.out | apply below_alloc | apply pw_below_drewN | apply below_drew1) | exact B14.out)) (Kd.S_below (Go.Proofs.YtmijbppapjcfkaaA.AtS.mark H7_0.out LO_H7_0.out) (by repeat (first | (with_reducible first | exact Below.refl _ _ | apply below_alloc | apply pw_below_drewN | apply below_drew1) | exact Below.refl _ _))) E15.out).mono ?_; rintro e w15 ⟨rfl, ho, hb, hk⟩; have B15 := Aside0.mk hb; have KP := Aside0.mk (show Kept w14 w15 (fun k_ => lo_H7_0 ≤ k_ ∧ k_ < hi_H7_0) from Kept.then_ (Kept.of_below (by repeat (first | (with_reducible first | exact Below.refl _ _ | apply below_alloc | apply pw_below_drewN | apply below_drew1) | exact Below.refl _ _)) _) hk (fun _ h_ => .inl h_)); have HN := Aside0.mk (Go.Proofs.YtmijbppapjcfkaaA.AtS.of ho); clear ho hb hk)
      replace H3_0 := Aside0.mk (Go.Proofs.YtmijbppapjcfkaaA.AtS.kept H3_0.out KP.out (by have := SZ_H7_0.out; have := SZ_H3_0.out; have := LO_H7_0.out; have := LO_H3_0.out; omega))
      replace H4_0 := Aside0.mk (Go.Proofs.YtmijbppapjcfkaaA.AtS.kept H4_0.out KP.out (by have := SZ_H7_0.out; have := SZ_H4_0.out; have := LO_H7_0.out; have := LO_H4_0.out; omega))
      replace H5_0 := Aside0.mk (Go.Proofs.YtmijbppapjcfkaaA.AtS.kept H5_0.out KP.out (by have := SZ_H7_0.out; have := SZ_H5_0.out; have := LO_H7_0.out; have := LO_H5_0.out; omega))
      clear H6_0
      replace H8_0 := Aside0.mk (Go.Proofs.YtmijbppapjcfkaaA.AtS.kept H8_0.out KP.out (by have := SZ_H7_0.out; have := SZ_H8_0.out; have := LO_H7_0.out; have := LO_H8_0.out; omega))
      replace H10_0 := Aside0.mk (Go.Proofs.YtmijbppapjcfkaaA.AtS.kept H10_0.out KP.out (by have := SZ_H7_0.out; have := SZ_H10_0.out; have := LO_H7_0.out; have := LO_H10_0.out; omega))
      replace H12_0 := Aside0.mk (Go.Proofs.YtmijbppapjcfkaaA.AtS.kept H12_0.out KP.out (by have := SZ_H7_0.out; have := SZ_H12_0.out; have := LO_H7_0.out; have := LO_H12_0.out; omega))
      replace H7_0 := HN
      clear HN KP
      obtain ⟨A_, c_, e_, l_⟩ := H7_0.out.form
      injection e_ with e1_ e2_ e3_
      have H7_0L := Aside0.mk (e3_ ▸ l_)
      clear l_ e1_ e3_
      first | rw [e2_] | skip
      replace H7_0 := Aside0.mk (e2_ ▸ H7_0.out)
      clear e2_
      have PS_H3_0 := Aside0.mk (show hi_H3_0 ≤ w15.heap.size from H3_0.out.2)
      have PS_H4_0 := Aside0.mk (show hi_H4_0 ≤ w15.heap.size from H4_0.out.2)
      have PS_H5_0 := Aside0.mk (show hi_H5_0 ≤ w15.heap.size from H5_0.out.2)
      have PS_H8_0 := Aside0.mk (show hi_H8_0 ≤ w15.heap.size from H8_0.out.2)
      have PS_H10_0 := Aside0.mk (show hi_H10_0 ≤ w15.heap.size from H10_0.out.2)
      have PS_H12_0 := Aside0.mk (show hi_H12_0 ≤ w15.heap.size from H12_0.out.2)
      go_wp2_with (go_at_call 14; with_reducible refine (laws_eqInt64SS.calls k _ _ y8_0 _ _ y5_0 true _ (Kd.C_below H8_0.out.C (by repeat (first | (with_reducible first | exact Below.refl _ _ | apply below_alloc | apply pw_below_drewN | apply below_drew1) | exact Below.refl _ _))) H8_0L.out (Kd.C_below H5_0.out.C (by repeat (first | (with_reducible first | exact Below.refl _ _ | apply below_alloc | apply pw_below_drewN | apply below_drew1) | exact Below.refl _ _))) H5_0L.out E16.out).mono ?_; rintro e w16 ⟨rfl, hd⟩; have D_ := Aside0.mk (show Below w15.heap.size w15 w16 from below_step (by repeat (first | (with_reducible first | exact Below.refl _ _ | apply below_alloc | apply pw_below_drewN | apply below_drew1) | exact Below.refl _ _)) (Go.Proofs.YtmijbppapjcfkaaA.below_drawn hd)); clear hd)
      have B16 := Aside0.mk (below_step B15.out D_.out)
      replace H3_0 := Aside0.mk (H3_0.out.below D_.out)
      replace H4_0 := Aside0.mk (H4_0.out.below D_.out)
      replace H5_0 := Aside0.mk (H5_0.out.below D_.out)
      replace H7_0 := Aside0.mk (H7_0.out.below D_.out)
      replace H8_0 := Aside0.mk (H8_0.out.below D_.out)
      replace H10_0 := Aside0.mk (H10_0.out.below D_.out)
      replace H12_0 := Aside0.mk (H12_0.out.below D_.out)
      clear D_
      have PS_H3_0 := Aside0.mk (show hi_H3_0 ≤ w16.heap.size from H3_0.out.2)
      have PS_H4_0 := Aside0.mk (show hi_H4_0 ≤ w16.heap.size from H4_0.out.2)
      have PS_H5_0 := Aside0.mk (show hi_H5_0 ≤ w16.heap.size from H5_0.out.2)
      have PS_H8_0 := Aside0.mk (show hi_H8_0 ≤ w16.heap.size from H8_0.out.2)
      have PS_H10_0 := Aside0.mk (show hi_H10_0 ≤ w16.heap.size from H10_0.out.2)
      have PS_H12_0 := Aside0.mk (show hi_H12_0 ≤ w16.heap.size from H12_0.out.2)
      go_wp2_with (go_at_call 15; with_reducible refine (laws_markInt64SS.calls k (fun k_ => lo_H8_0 ≤ k_ ∧ k_ < hi_H8_0) _ y8_0 1 y17_0 z17 w _ (by repeat (first | (with_reducible first | exact B16.out | apply below_alloc | apply pw_below_drewN | apply below_drew1) | exact B16.out)) (Kd.S_below (Go.Proofs.YtmijbppapjcfkaaA.AtS.mark H8_0.out LO_H8_0.out) (by repeat (first | (with_reducible first | exact Below.refl _ _ | apply below_alloc | apply pw_below_drewN | apply below_drew1) | exact Below.refl _ _))) E17.out).mono ?_; rintro e w17 ⟨rfl, ho, hb, hk⟩; have B17 := Aside0.mk hb; have KP := Aside0.mk (show Kept w16 w17 (fun k_ => lo_H8_0 ≤ k_ ∧ k_ < hi_H8_0) from Kept.then_ (Kept.of_below (by repeat (first | (with_reducible first | exact Below.refl _ _ | apply below_alloc | apply pw_below_drewN | apply below_drew1) | exact Below.refl _ _)) _) hk (fun _ h_ => .inl h_)); have HN := Aside0.mk (Go.Proofs.YtmijbppapjcfkaaA.AtS.of ho); clear ho hb hk)
      replace H3_0 := Aside0.mk (Go.Proofs.YtmijbppapjcfkaaA.AtS.kept H3_0.out KP.out (by have := SZ_H8_0.out; have := SZ_H3_0.out; have := LO_H8_0.out; have := LO_H3_0.out; omega))
      replace H4_0 := Aside0.mk (Go.Proofs.YtmijbppapjcfkaaA.AtS.kept H4_0.out KP.out (by have := SZ_H8_0.out; have := SZ_H4_0.out; have := LO_H8_0.out; have := LO_H4_0.out; omega))
      replace H5_0 := Aside0.mk (Go.Proofs.YtmijbppapjcfkaaA.AtS.kept H5_0.out KP.out (by have := SZ_H8_0.out; have := SZ_H5_0.out; have := LO_H8_0.out; have := LO_H5_0.out; omega))
      clear H7_0
      replace H10_0 := Aside0.mk (Go.Proofs.YtmijbppapjcfkaaA.AtS.kept H10_0.out KP.out (by have := SZ_H8_0.out; have := SZ_H10_0.out; have := LO_H8_0.out; have := LO_H10_0.out; omega))
      replace H12_0 := Aside0.mk (Go.Proofs.YtmijbppapjcfkaaA.AtS.kept H12_0.out KP.out (by have := SZ_H8_0.out; have := SZ_H12_0.out; have := LO_H8_0.out; have := LO_H12_0.out; omega))
      replace H8_0 := HN
      clear HN KP
      obtain ⟨A_, c_, e_, l_⟩ := H8_0.out.form
      injection e_ with e1_ e2_ e3_
      have H8_0L := Aside0.mk (e3_ ▸ l_)
      clear l_ e1_ e3_
      first | rw [e2_] | skip
      replace H8_0 := Aside0.mk (e2_ ▸ H8_0.out)
      clear e2_
      have PS_H3_0 := Aside0.mk (show hi_H3_0 ≤ w17.heap.size from H3_0.out.2)
      have PS_H4_0 := Aside0.mk (show hi_H4_0 ≤ w17.heap.size from H4_0.out.2)
      have PS_H5_0 := Aside0.mk (show hi_H5_0 ≤ w17.heap.size from H5_0.out.2)
      have PS_H10_0 := Aside0.mk (show hi_H10_0 ≤ w17.heap.size from H10_0.out.2)
      have PS_H12_0 := Aside0.mk (show hi_H12_0 ≤ w17.heap.size from H12_0.out.2)
      go_wp2_with (go_at_call 16; with_reducible refine (laws_heldInt64SS.calls k _ _ z17 1 y18_0 _ (Kd.C_below H8_0.out.C (by repeat (first | (with_reducible first | exact Below.refl _ _ | apply below_alloc | apply pw_below_drewN | apply below_drew1) | exact Below.refl _ _))) H8_0L.out E18.out).mono ?_; rintro e w18 ⟨rfl, hd⟩; have D_ := Aside0.mk (show Below w17.heap.size w17 w18 from below_step (by repeat (first | (with_reducible first | exact Below.refl _ _ | apply below_alloc | apply pw_below_drewN | apply below_drew1) | exact Below.refl _ _)) (Go.Proofs.YtmijbppapjcfkaaA.below_drawn hd)); clear hd)
      have B18 := Aside0.mk (below_step B17.out D_.out)
      replace H3_0 := Aside0.mk (H3_0.out.below D_.out)
      replace H4_0 := Aside0.mk (H4_0.out.below D_.out)
      replace H5_0 := Aside0.mk (H5_0.out.below D_.out)
      replace H8_0 := Aside0.mk (H8_0.out.below D_.out)
      replace H10_0 := Aside0.mk (H10_0.out.below D_.out)
      replace H12_0 := Aside0.mk (H12_0.out.below D_.out)
      clear D_
      have PS_H3_0 := Aside0.mk (show hi_H3_0 ≤ w18.heap.size from H3_0.out.2)
      have PS_H4_0 := Aside0.mk (show hi_H4_0 ≤ w18.heap.size from H4_0.out.2)
      have PS_H5_0 := Aside0.mk (show hi_H5_0 ≤ w18.heap.size from H5_0.out.2)
      have PS_H10_0 := Aside0.mk (show hi_H10_0 ≤ w18.heap.size from H10_0.out.2)
      have PS_H12_0 := Aside0.mk (show hi_H12_0 ≤ w18.heap.size from H12_0.out.2)
      go_wp2_with (go_at_call 12; with_reducible refine (laws_toInt64SS.calls k A1 c1 l1 y19_0 _ (Kd.C_below HR1.out (by repeat (first | (with_reducible first | exact B18.out | apply below_alloc | apply pw_below_drewN | apply below_drew1) | exact B18.out))) HC1.out E19.out).mono ?_; rintro e w19 ⟨v19_0, rfl, ho0, hb⟩; have D_ := Aside0.mk (show Below w18.heap.size w18 w19 from below_step (by repeat (first | (with_reducible first | exact Below.refl _ _ | apply below_alloc | apply pw_below_drewN | apply below_drew1) | exact Below.refl _ _)) hb); have H19_0 := Aside0.mk (Go.Proofs.YtmijbppapjcfkaaA.AtS.of ho0); clear ho0; clear hb)
      have B19 := Aside0.mk (below_step B18.out D_.out)
      replace H3_0 := Aside0.mk (H3_0.out.below D_.out)
      replace H4_0 := Aside0.mk (H4_0.out.below D_.out)
      replace H5_0 := Aside0.mk (H5_0.out.below D_.out)
      replace H8_0 := Aside0.mk (H8_0.out.below D_.out)
      replace H10_0 := Aside0.mk (H10_0.out.below D_.out)
      replace H12_0 := Aside0.mk (H12_0.out.below D_.out)
      obtain ⟨A19_0, c19_0, rfl, l_⟩ := H19_0.out.form
      have H19_0L := Aside0.mk l_
      clear l_
      obtain ⟨lo_H19_0, hlo⟩ : ∃ x_ : Nat, x_ = w18.heap.size := ⟨_, rfl⟩
      obtain ⟨hi_H19_0, hhi⟩ : ∃ x_ : Nat, x_ = w19.heap.size := ⟨_, rfl⟩
      have LO_H19_0 := Aside0.mk (show w.heap.size ≤ lo_H19_0 from by rw [hlo]; exact B18.out.size)
      have SZ_H19_0 := Aside0.mk (show lo_H19_0 ≤ hi_H19_0 ∧ hi_H3_0 ≤ lo_H19_0 ∧ hi_H4_0 ≤ lo_H19_0 ∧ hi_H5_0 ≤ lo_H19_0 ∧ hi_H10_0 ≤ lo_H19_0 ∧ hi_H12_0 ≤ lo_H19_0 from ⟨by rw [hlo, hhi]; exact D_.out.size, by rw [hlo]; exact PS_H3_0.out, by rw [hlo]; exact PS_H4_0.out, by rw [hlo]; exact PS_H5_0.out, by rw [hlo]; exact PS_H10_0.out, by rw [hlo]; exact PS_H12_0.out⟩)
      replace H19_0 := Aside0.mk (show Go.Proofs.YtmijbppapjcfkaaA.AtS (Kd.slice 2 (Kd.int .i64)) 67 lo_H19_0 hi_H19_0 w19 (.slice A19_0 y19_0.length c19_0) y19_0 from by rw [hlo, hhi]; exact H19_0.out)
      clear hlo hhi
      clear D_
      have PS_H3_0 := Aside0.mk (show hi_H3_0 ≤ w19.heap.size from H3_0.out.2)
      have PS_H4_0 := Aside0.mk (show hi_H4_0 ≤ w19.heap.size from H4_0.out.2)
      have PS_H5_0 := Aside0.mk (show hi_H5_0 ≤ w19.heap.size from H5_0.out.2)
      have PS_H10_0 := Aside0.mk (show hi_H10_0 ≤ w19.heap.size from H10_0.out.2)
      have PS_H12_0 := Aside0.mk (show hi_H12_0 ≤ w19.heap.size from H12_0.out.2)
      have PS_H19_0 := Aside0.mk (show hi_H19_0 ≤ w19.heap.size from H19_0.out.2)
      go_wp2_with (go_at_call 12; with_reducible refine (laws_toInt64SS.calls k A2 c2 l2 y20_0 _ (Kd.C_below HR2.out (by repeat (first | (with_reducible first | exact B19.out | apply below_alloc | apply pw_below_drewN | apply below_drew1) | exact B19.out))) HC2.out E20.out).mono ?_; rintro e w20 ⟨v20_0, rfl, ho0, hb⟩; have D_ := Aside0.mk (show Below w19.heap.size w19 w20 from below_step (by repeat (first | (with_reducible first | exact Below.refl _ _ | apply below_alloc | apply pw_below_drewN | apply below_drew1) | exact Below.refl _ _)) hb); have H20_0 := Aside0.mk (Go.Proofs.YtmijbppapjcfkaaA.AtS.of ho0); clear ho0; clear hb)
      have B20 := Aside0.mk (below_step B19.out D_.out)
      replace H3_0 := Aside0.mk (H3_0.out.below D_.out)
      replace H4_0 := Aside0.mk (H4_0.out.below D_.out)
      replace H5_0 := Aside0.mk (H5_0.out.below D_.out)
      replace H8_0 := Aside0.mk (H8_0.out.below D_.out)
      replace H10_0 := Aside0.mk (H10_0.out.below D_.out)
      replace H12_0 := Aside0.mk (H12_0.out.below D_.out)
      replace H19_0 := Aside0.mk (H19_0.out.below D_.out)
      obtain ⟨A20_0, c20_0, rfl, l_⟩ := H20_0.out.form
      have H20_0L := Aside0.mk l_
      clear l_
      obtain ⟨lo_H20_0, hlo⟩ : ∃ x_ : Nat, x_ = w19.heap.size := ⟨_, rfl⟩
      obtain ⟨hi_H20_0, hhi⟩ : ∃ x_ : Nat, x_ = w20.heap.size := ⟨_, rfl⟩
      have LO_H20_0 := Aside0.mk (show w.heap.size ≤ lo_H20_0 from by rw [hlo]; exact B19.out.size)
      have SZ_H20_0 := Aside0.mk (show lo_H20_0 ≤ hi_H20_0 ∧ hi_H3_0 ≤ lo_H20_0 ∧ hi_H4_0 ≤ lo_H20_0 ∧ hi_H5_0 ≤ lo_H20_0 ∧ hi_H10_0 ≤ lo_H20_0 ∧ hi_H12_0 ≤ lo_H20_0 ∧ hi_H19_0 ≤ lo_H20_0 from ⟨by rw [hlo, hhi]; exact D_.out.size, by rw [hlo]; exact PS_H3_0.out, by rw [hlo]; exact PS_H4_0.out, by rw [hlo]; exact PS_H5_0.out, by rw [hlo]; exact PS_H10_0.out, by rw [hlo]; exact PS_H12_0.out, by rw [hlo]; exact PS_H19_0.out⟩)
      replace H20_0 := Aside0.mk (show Go.Proofs.YtmijbppapjcfkaaA.AtS (Kd.slice 2 (Kd.int .i64)) 67 lo_H20_0 hi_H20_0 w20 (.slice A20_0 y20_0.length c20_0) y20_0 from by rw [hlo, hhi]; exact H20_0.out)
      clear hlo hhi
      clear D_
      have PS_H3_0 := Aside0.mk (show hi_H3_0 ≤ w20.heap.size from H3_0.out.2)
      have PS_H4_0 := Aside0.mk (show hi_H4_0 ≤ w20.heap.size from H4_0.out.2)
      have PS_H5_0 := Aside0.mk (show hi_H5_0 ≤ w20.heap.size from H5_0.out.2)
      have PS_H10_0 := Aside0.mk (show hi_H10_0 ≤ w20.heap.size from H10_0.out.2)
      have PS_H12_0 := Aside0.mk (show hi_H12_0 ≤ w20.heap.size from H12_0.out.2)
      have PS_H19_0 := Aside0.mk (show hi_H19_0 ≤ w20.heap.size from H19_0.out.2)
      have PS_H20_0 := Aside0.mk (show hi_H20_0 ≤ w20.heap.size from H20_0.out.2)
      go_wp2_with (go_at_call 13; with_reducible refine (impl_JoinPaths.calls a0 _ _ y19_0 _ _ y20_0 y21_0 y21_1 _ (Kd.C_below H19_0.out.C (by repeat (first | (with_reducible first | exact Below.refl _ _ | apply below_alloc | apply pw_below_drewN | apply below_drew1) | exact Below.refl _ _))) H19_0L.out (Kd.C_below H20_0.out.C (by repeat (first | (with_reducible first | exact Below.refl _ _ | apply below_alloc | apply pw_below_drewN | apply below_drew1) | exact Below.refl _ _))) H20_0L.out E21.out).mono ?_; rintro e w21 ⟨v21_0, rfl, ho0, hb⟩; have D_ := Aside0.mk (show Below w20.heap.size w20 w21 from below_step (by repeat (first | (with_reducible first | exact Below.refl _ _ | apply below_alloc | apply pw_below_drewN | apply below_drew1) | exact Below.refl _ _)) hb); have H21_0 := Aside0.mk (Go.Proofs.YtmijbppapjcfkaaA.AtS.of ho0); clear ho0; clear hb)
      have B21 := Aside0.mk (below_step B20.out D_.out)
      replace H3_0 := Aside0.mk (H3_0.out.below D_.out)
      replace H4_0 := Aside0.mk (H4_0.out.below D_.out)
      replace H5_0 := Aside0.mk (H5_0.out.below D_.out)
      replace H8_0 := Aside0.mk (H8_0.out.below D_.out)
      replace H10_0 := Aside0.mk (H10_0.out.below D_.out)
      replace H12_0 := Aside0.mk (H12_0.out.below D_.out)
      replace H19_0 := Aside0.mk (H19_0.out.below D_.out)
      replace H20_0 := Aside0.mk (H20_0.out.below D_.out)
      obtain ⟨A21_0, c21_0, rfl, l_⟩ := H21_0.out.form
      have H21_0L := Aside0.mk l_
      clear l_
      obtain ⟨lo_H21_0, hlo⟩ : ∃ x_ : Nat, x_ = w20.heap.size := ⟨_, rfl⟩
      obtain ⟨hi_H21_0, hhi⟩ : ∃ x_ : Nat, x_ = w21.heap.size := ⟨_, rfl⟩
      have LO_H21_0 := Aside0.mk (show w.heap.size ≤ lo_H21_0 from by rw [hlo]; exact B20.out.size)
      have SZ_H21_0 := Aside0.mk (show lo_H21_0 ≤ hi_H21_0 ∧ hi_H3_0 ≤ lo_H21_0 ∧ hi_H4_0 ≤ lo_H21_0 ∧ hi_H5_0 ≤ lo_H21_0 ∧ hi_H10_0 ≤ lo_H21_0 ∧ hi_H12_0 ≤ lo_H21_0 ∧ hi_H19_0 ≤ lo_H21_0 ∧ hi_H20_0 ≤ lo_H21_0 from ⟨by rw [hlo, hhi]; exact D_.out.size, by rw [hlo]; exact PS_H3_0.out, by rw [hlo]; exact PS_H4_0.out, by rw [hlo]; exact PS_H5_0.out, by rw [hlo]; exact PS_H10_0.out, by rw [hlo]; exact PS_H12_0.out, by rw [hlo]; exact PS_H19_0.out, by rw [hlo]; exact PS_H20_0.out⟩)
      replace H21_0 := Aside0.mk (show Go.Proofs.YtmijbppapjcfkaaA.AtS (Kd.slice 2 (Kd.int .i64)) 67 lo_H21_0 hi_H21_0 w21 (.slice A21_0 y21_0.length c21_0) y21_0 from by rw [hlo, hhi]; exact H21_0.out)
      clear hlo hhi
      clear D_
      have PS_H3_0 := Aside0.mk (show hi_H3_0 ≤ w21.heap.size from H3_0.out.2)
      have PS_H4_0 := Aside0.mk (show hi_H4_0 ≤ w21.heap.size from H4_0.out.2)
      have PS_H5_0 := Aside0.mk (show hi_H5_0 ≤ w21.heap.size from H5_0.out.2)
      have PS_H10_0 := Aside0.mk (show hi_H10_0 ≤ w21.heap.size from H10_0.out.2)
      have PS_H12_0 := Aside0.mk (show hi_H12_0 ≤ w21.heap.size from H12_0.out.2)
      have PS_H19_0 := Aside0.mk (show hi_H19_0 ≤ w21.heap.size from H19_0.out.2)
      have PS_H20_0 := Aside0.mk (show hi_H20_0 ≤ w21.heap.size from H20_0.out.2)
      have PS_H21_0 := Aside0.mk (show hi_H21_0 ≤ w21.heap.size from H21_0.out.2)
      go_wp2_with (go_at_call 14; with_reducible refine (laws_eqInt64SS.calls k _ _ y21_0 _ _ y5_0 true _ (Kd.C_below H21_0.out.C (by repeat (first | (with_reducible first | exact Below.refl _ _ | apply below_alloc | apply pw_below_drewN | apply below_drew1) | exact Below.refl _ _))) H21_0L.out (Kd.C_below H5_0.out.C (by repeat (first | (with_reducible first | exact Below.refl _ _ | apply below_alloc | apply pw_below_drewN | apply below_drew1) | exact Below.refl _ _))) H5_0L.out E22.out).mono ?_; rintro e w22 ⟨rfl, hd⟩; have D_ := Aside0.mk (show Below w21.heap.size w21 w22 from below_step (by repeat (first | (with_reducible first | exact Below.refl _ _ | apply below_alloc | apply pw_below_drewN | apply below_drew1) | exact Below.refl _ _)) (Go.Proofs.YtmijbppapjcfkaaA.below_drawn hd)); clear hd)
      have B22 := Aside0.mk (below_step B21.out D_.out)
      replace H3_0 := Aside0.mk (H3_0.out.below D_.out)
      replace H4_0 := Aside0.mk (H4_0.out.below D_.out)
      replace H5_0 := Aside0.mk (H5_0.out.below D_.out)
      replace H8_0 := Aside0.mk (H8_0.out.below D_.out)
      replace H10_0 := Aside0.mk (H10_0.out.below D_.out)
      replace H12_0 := Aside0.mk (H12_0.out.below D_.out)
      replace H19_0 := Aside0.mk (H19_0.out.below D_.out)
      replace H20_0 := Aside0.mk (H20_0.out.below D_.out)
      replace H21_0 := Aside0.mk (H21_0.out.below D_.out)
      clear D_
      have PS_H3_0 := Aside0.mk (show hi_H3_0 ≤ w22.heap.size from H3_0.out.2)
      have PS_H4_0 := Aside0.mk (show hi_H4_0 ≤ w22.heap.size from H4_0.out.2)
      have PS_H5_0 := Aside0.mk (show hi_H5_0 ≤ w22.heap.size from H5_0.out.2)
      have PS_H10_0 := Aside0.mk (show hi_H10_0 ≤ w22.heap.size from H10_0.out.2)
      have PS_H12_0 := Aside0.mk (show hi_H12_0 ≤ w22.heap.size from H12_0.out.2)
      have PS_H19_0 := Aside0.mk (show hi_H19_0 ≤ w22.heap.size from H19_0.out.2)
      have PS_H20_0 := Aside0.mk (show hi_H20_0 ≤ w22.heap.size from H20_0.out.2)
      have PS_H21_0 := Aside0.mk (show hi_H21_0 ≤ w22.heap.size from H21_0.out.2)
      go_wp2_with (go_at_call 16; with_reducible refine (laws_heldInt64SS.calls k _ _ z17 1 y23_0 _ (Kd.C_below H8_0.out.C (by repeat (first | (with_reducible first | exact Below.refl _ _ | apply below_alloc | apply pw_below_drewN | apply below_drew1) | exact Below.refl _ _))) H8_0L.out E23.out).mono ?_; rintro e w23 ⟨rfl, hd⟩; have D_ := Aside0.mk (show Below w22.heap.size w22 w23 from below_step (by repeat (first | (with_reducible first | exact Below.refl _ _ | apply below_alloc | apply pw_below_drewN | apply below_drew1) | exact Below.refl _ _)) (Go.Proofs.YtmijbppapjcfkaaA.below_drawn hd)); clear hd)
      have B23 := Aside0.mk (below_step B22.out D_.out)
      replace H3_0 := Aside0.mk (H3_0.out.below D_.out)
      replace H4_0 := Aside0.mk (H4_0.out.below D_.out)
      replace H5_0 := Aside0.mk (H5_0.out.below D_.out)
      replace H8_0 := Aside0.mk (H8_0.out.below D_.out)
      replace H10_0 := Aside0.mk (H10_0.out.below D_.out)
      replace H12_0 := Aside0.mk (H12_0.out.below D_.out)
      replace H19_0 := Aside0.mk (H19_0.out.below D_.out)
      replace H20_0 := Aside0.mk (H20_0.out.below D_.out)
      replace H21_0 := Aside0.mk (H21_0.out.below D_.out)
      clear D_
      have PS_H3_0 := Aside0.mk (show hi_H3_0 ≤ w23.heap.size from H3_0.out.2)
      have PS_H4_0 := Aside0.mk (show hi_H4_0 ≤ w23.heap.size from H4_0.out.2)
      have PS_H5_0 := Aside0.mk (show hi_H5_0 ≤ w23.heap.size from H5_0.out.2)
      have PS_H10_0 := Aside0.mk (show hi_H10_0 ≤ w23.heap.size from H10_0.out.2)
      have PS_H12_0 := Aside0.mk (show hi_H12_0 ≤ w23.heap.size from H12_0.out.2)
      have PS_H19_0 := Aside0.mk (show hi_H19_0 ≤ w23.heap.size from H19_0.out.2)
      have PS_H20_0 := Aside0.mk (show hi_H20_0 ≤ w23.heap.size from H20_0.out.2)
      have PS_H21_0 := Aside0.mk (show hi_H21_0 ≤ w23.heap.size from H21_0.out.2)
      go_wp2
      go_ret
      exact ⟨rfl, B23.out⟩

end Go.Proofs.Ytmijbppapjcfkaa.PFnExactJoinPaths
