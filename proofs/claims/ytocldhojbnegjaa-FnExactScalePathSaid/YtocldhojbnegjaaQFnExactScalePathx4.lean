import Derived.Test.YtocldhojbnegjaaQFnExactScalePathx0
import Derived.Test.YtocldhojbnegjaaQFnExactScalePathx1
import Derived.Test.YtocldhojbnegjaaQFnExactScalePathx2
import Derived.Test.YtocldhojbnegjaaQFnExactScalePathx3
namespace Go.Proofs.Ytocldhojbnegjaa.PFnExactScalePath
open Go.RowKit Go.Proofs.YtocldhojbnegjaaW.PrintWords Go.Proofs.YtocldhojbnegjaaW.PrintLast Go.Proofs.YtocldhojbnegjaaW.PrintMore
attribute [local go_sem] max2_int min2_int max_two min_two max_three min_three max_four min_four Go.Proofs.YtocldhojbnegjaaZ.min2_string   -- for this text's walks alone
set_option linter.unusedVariables false
set_option linter.unusedSimpArgs false

/-! ### laws_FnExactScalePath: function 12 -/
def laws_FnExactScalePath.f (k : Nat) (a0 : Int) (l1 : List (List Int)) (a2 : Int) : Option Bool := (laws_szInt64SS.f k l1 1048576).bind fun y1_0 => if y1_0 < 0 then some true else (laws_toInt64SS.f k l1).bind fun y2_0 => (spec_ScalePath.f k a0 y2_0 a2).bind fun p3 => (laws_toInt64SS.f k l1).bind fun y4_0 => (impl_ScalePath.f a0 y4_0 a2).bind fun p5 => if p5.2 = p3.2 then (laws_eqInt64SS.f k p5.1 p3.1).bind fun y6_0 => if y6_0 = true then (laws_toInt64SS.f k l1).bind fun y7_0 => (laws_eqInt64SS.f k y4_0 y7_0).bind fun y8_0 => if y8_0 = true then (laws_markInt64SS.f k y4_0 1).bind fun p9 => if 0 ≤ p9.1 then (laws_eqInt64SS.f k p5.1 p3.1).bind fun y10_0 => if y10_0 = true then (laws_markInt64SS.f k p5.1 1).bind fun p11 => if 0 ≤ p11.1 then (laws_heldInt64SS.f k p11.2 1).bind fun y12_0 => if 0 ≤ y12_0 ∧ y12_0 = p11.1 then (laws_toInt64SS.f k l1).bind fun y13_0 => (impl_ScalePath.f a0 y13_0 a2).bind fun p14 => if p14.2 = p3.2 then (laws_eqInt64SS.f k p14.1 p3.1).bind fun y15_0 => if y15_0 = true then (laws_heldInt64SS.f k p11.2 1).bind fun y16_0 => if 0 ≤ y16_0 ∧ y16_0 = p11.1 then some true else none else none else none else none else none else none else none else none else none else none
theorem laws_FnExactScalePath.mono : ∀ a0 l1 a2 k, LeO (laws_FnExactScalePath.f k a0 l1 a2) (laws_FnExactScalePath.f (k + 1) a0 l1 a2) := by
  intro a0 l1 a2 k
  unfold laws_FnExactScalePath.f
  repeat' first
    | (with_reducible exact laws_eqInt64SS.mono _ _ _)
    | (with_reducible exact laws_heldInt64SS.mono _ _ _)
    | (with_reducible exact laws_markInt64SS.mono _ _ _)
    | (with_reducible exact laws_szInt64SS.mono _ _ _)
    | (with_reducible exact laws_toInt64SS.mono _ _)
    | (with_reducible exact spec_ScalePath.mono _ _ _ _)
    | (with_reducible exact LeO.refl _)
    | (with_reducible refine LeO.ite ?_ ?_)
    | (with_reducible refine LeO.bind ?_ (fun _ => ?_))
    | exact LeO.refl _
    | exact LeO.none _
set_option maxHeartbeats 8000000 in
set_option maxRecDepth 100000 in
theorem laws_FnExactScalePath.calls (k : Nat) (a0 : Int) (A1 : Option Addr) (c1 : Nat) (l1 : List (List Int)) (a2 : Int) (r : Bool) (w : World) (hr1 : Kd.C (Kd.slice 2 (Kd.int .i64)) w A1 l1.length l1) (hc1 : l1.length ≤ c1) (h : laws_FnExactScalePath.f k a0 l1 a2 = some r) :
    Calls Try.prog 12 #[.int .i64 a0, .slice A1 l1.length c1, .int .i64 a2] w fun e w' => e = .returned (.bool r) ∧ Below w.heap.size w w' := by
  unfold laws_FnExactScalePath.f at h
  have HR1 := Aside0.mk hr1
  have HC1 := Aside0.mk hc1
  clear hr1 hc1
  have B0 := Aside0.mk (Below.refl w.heap.size w)
  have h0 := h
  clear h
  replace h0 := Option.bind_eq_some_iff.mp h0
  obtain ⟨y1_0, E1, h0⟩ := h0
  replace E1 := Aside0.mk E1
  by_cases c1 : y1_0 < 0
  · rw [if_pos c1] at h0
    obtain rfl := Option.some.inj h0
    clear h0
    have d1 : decide (y1_0 < 0) = true := decide_eq_true c1
    clear c1
    go_enter Try.func12, Try.ntmps12
    go_wp2_with (go_at_call 26; refine (laws_szInt64SS.calls k A1 c1 l1 1048576 y1_0 _ (Kd.C_below HR1.out (by repeat (first | (with_reducible first | exact B0.out | apply below_alloc | apply pw_below_drewN | apply below_drew1) | exact B0.out))) HC1.out E1.out).mono ?_; rintro e w1 ⟨rfl, hd⟩; have B1 := Aside0.mk (below_step (by repeat (first | (with_reducible first | exact B0.out | apply below_alloc | apply pw_below_drewN | apply below_drew1) | exact B0.out)) (Go.Proofs.YtocldhojbnegjaaA.below_drawn hd)); clear hd)
    go_ret
    exact ⟨rfl, B1.out⟩
  · rw [if_neg c1] at h0
    have d1 : decide (y1_0 < 0) = false := decide_eq_false c1
    clear c1
    replace h0 := Option.bind_eq_some_iff.mp h0
    obtain ⟨y2_0, E2, h0⟩ := h0
    replace E2 := Aside0.mk E2
    replace h0 := Option.bind_eq_some_iff.mp h0
    obtain ⟨⟨y3_0, y3_1⟩, E3, h0⟩ := h0
    dsimp only at h0
    replace E3 := Aside0.mk E3
    replace h0 := Option.bind_eq_some_iff.mp h0
    obtain ⟨y4_0, E4, h0⟩ := h0
    replace E4 := Aside0.mk E4
    replace h0 := Option.bind_eq_some_iff.mp h0
    obtain ⟨⟨y5_0, y5_1⟩, E5, h0⟩ := h0
    dsimp only at h0
    replace E5 := Aside0.mk E5
    by_cases c5 : y5_1 = y3_1
    rotate_left
    · rw [if_neg c5] at h0; cases h0
    rw [if_pos c5] at h0
    have f5_1 : (y5_1 != y3_1) = false := by rw [bne_eq_false_iff_eq]; exact c5
    clear c5
    replace h0 := Option.bind_eq_some_iff.mp h0
    obtain ⟨y6_0, E6, h0⟩ := h0
    replace E6 := Aside0.mk E6
    by_cases c6 : y6_0 = true
    rotate_left
    · rw [if_neg c6] at h0; cases h0
    rw [if_pos c6] at h0
    subst c6
    replace h0 := Option.bind_eq_some_iff.mp h0
    obtain ⟨y7_0, E7, h0⟩ := h0
    replace E7 := Aside0.mk E7
    replace h0 := Option.bind_eq_some_iff.mp h0
    obtain ⟨y8_0, E8, h0⟩ := h0
    replace E8 := Aside0.mk E8
    by_cases c8 : y8_0 = true
    rotate_left
    · rw [if_neg c8] at h0; cases h0
    rw [if_pos c8] at h0
    subst c8
    replace h0 := Option.bind_eq_some_iff.mp h0
    obtain ⟨⟨y9_0, z9⟩, E9, h0⟩ := h0
    dsimp only at h0
    replace E9 := Aside0.mk E9
    by_cases c9 : 0 ≤ y9_0
    rotate_left
    · rw [if_neg c9] at h0; cases h0
    rw [if_pos c9] at h0
    have d9 : decide (y9_0 < 0) = false := decide_eq_false (by omega)
    clear c9
    replace h0 := Option.bind_eq_some_iff.mp h0
    obtain ⟨y10_0, E10, h0⟩ := h0
    replace E10 := Aside0.mk E10
    by_cases c10 : y10_0 = true
    rotate_left
    · rw [if_neg c10] at h0; cases h0
    rw [if_pos c10] at h0
    subst c10
    replace h0 := Option.bind_eq_some_iff.mp h0
    obtain ⟨⟨y11_0, z11⟩, E11, h0⟩ := h0
    dsimp only at h0
    replace E11 := Aside0.mk E11
    by_cases c11 : 0 ≤ y11_0
    rotate_left
    · rw [if_neg c11] at h0; cases h0
    rw [if_pos c11] at h0
    have d11 : decide (y11_0 < 0) = false := decide_eq_false (by omega)
    clear c11
    replace h0 := Option.bind_eq_some_iff.mp h0
    obtain ⟨y12_0, E12, h0⟩ := h0
    replace E12 := Aside0.mk E12
    by_cases c12 : 0 ≤ y12_0 ∧ y12_0 = y11_0
    rotate_left
    · rw [if_neg c12] at h0; cases h0
    rw [if_pos c12] at h0
    have d12 : decide (y12_0 < 0) = false := decide_eq_false (by omega)
    have f12 : (y12_0 != y11_0) = false := by rw [bne_eq_false_iff_eq]; exact c12.2
    clear c12
    replace h0 := Option.bind_eq_some_iff.mp h0
    obtain ⟨y13_0, E13, h0⟩ := h0
    replace E13 := Aside0.mk E13
    replace h0 := Option.bind_eq_some_iff.mp h0
    obtain ⟨⟨y14_0, y14_1⟩, E14, h0⟩ := h0
    dsimp only at h0
    replace E14 := Aside0.mk E14
    by_cases c14 : y14_1 = y3_1
    rotate_left
    · rw [if_neg c14] at h0; cases h0
    rw [if_pos c14] at h0
    have f14_1 : (y14_1 != y3_1) = false := by rw [bne_eq_false_iff_eq]; exact c14
    clear c14
    replace h0 := Option.bind_eq_some_iff.mp h0
    obtain ⟨y15_0, E15, h0⟩ := h0
    replace E15 := Aside0.mk E15
    by_cases c15 : y15_0 = true
    rotate_left
    · rw [if_neg c15] at h0; cases h0
    rw [if_pos c15] at h0
    subst c15
    replace h0 := Option.bind_eq_some_iff.mp h0
    obtain ⟨y16_0, E16, h0⟩ := h0
    replace E16 := Aside0.mk E16
    by_cases c16 : 0 ≤ y16_0 ∧ y16_0 = y11_0
    rotate_left
    · rw [if_neg c16] at h0; cases h0
    rw [if_pos c16] at h0
    have d16 : decide (y16_0 < 0) = false := decide_eq_false (by omega)
    have f16 : (y16_0 != y11_0) = false := by rw [bne_eq_false_iff_eq]; exact c16.2
    clear c16
    obtain rfl := Option.some.inj h0
    clear h0
    go_enter Try.func12, Try.ntmps12
    go_wp2_with (go_at_call 26; refine (laws_szInt64SS.calls k A1 c1 l1 1048576 y1_0 _ (Kd.C_below HR1.out (by repeat (first | (with_reducible first | exact B0.out | apply below_alloc | apply pw_below_drewN | apply below_drew1) | exact B0.out))) HC1.out E1.out).mono ?_; rintro e w1 ⟨rfl, hd⟩; have D_ := Aside0.mk (show Below w.heap.size w w1 from below_step (by repeat (first | (with_reducible first | exact Below.refl _ _ | apply below_alloc | apply pw_below_drewN | apply below_drew1) | exact Below.refl _ _)) (Go.Proofs.YtocldhojbnegjaaA.below_drawn hd)); clear hd)
    have B1 := Aside0.mk (below_step B0.out D_.out)
    clear D_
    go_wp2_with (go_at_call 28; refine (laws_toInt64SS.calls k A1 c1 l1 y2_0 _ (Kd.C_below HR1.out (by repeat (first | (with_reducible first | exact B1.out | apply below_alloc | apply pw_below_drewN | apply below_drew1) | exact B1.out))) HC1.out E2.out).mono ?_; rintro e w2 ⟨v2_0, rfl, ho0, hb⟩; have D_ := Aside0.mk (show Below w1.heap.size w1 w2 from below_step (by repeat (first | (with_reducible first | exact Below.refl _ _ | apply below_alloc | apply pw_below_drewN | apply below_drew1) | exact Below.refl _ _)) hb); have H2_0 := Aside0.mk (Go.Proofs.YtocldhojbnegjaaA.AtS.of ho0); clear ho0; clear hb)
    have B2 := Aside0.mk (below_step B1.out D_.out)
    obtain ⟨A2_0, c2_0, rfl, l_⟩ := H2_0.out.form
    have H2_0L := Aside0.mk l_
    clear l_
    obtain ⟨lo_H2_0, hlo⟩ : ∃ x_ : Nat, x_ = w1.heap.size := ⟨_, rfl⟩
    obtain ⟨hi_H2_0, hhi⟩ : ∃ x_ : Nat, x_ = w2.heap.size := ⟨_, rfl⟩
    have LO_H2_0 := Aside0.mk (show w.heap.size ≤ lo_H2_0 from by rw [hlo]; exact B1.out.size)
    have SZ_H2_0 := Aside0.mk (show lo_H2_0 ≤ hi_H2_0 from by rw [hlo, hhi]; exact D_.out.size)
    replace H2_0 := Aside0.mk (show Go.Proofs.YtocldhojbnegjaaA.AtS (Kd.slice 2 (Kd.int .i64)) 40 lo_H2_0 hi_H2_0 w2 (.slice A2_0 y2_0.length c2_0) y2_0 from by rw [hlo, hhi]; exact H2_0.out)
    clear hlo hhi
    clear D_
    have PS_H2_0 := Aside0.mk (show hi_H2_0 ≤ w2.heap.size from H2_0.out.2)
    go_wp2_with (go_at_call 46; refine (spec_ScalePath.calls k a0 _ _ y2_0 a2 y3_0 y3_1 _ (Kd.C_below H2_0.out.C (by repeat (first | (with_reducible first | exact Below.refl _ _ | apply below_alloc | apply pw_below_drewN | apply below_drew1) | exact Below.refl _ _))) H2_0L.out E3.out).mono ?_; rintro e w3 ⟨v3_0, rfl, ho0, hb⟩; have D_ := Aside0.mk (show Below w2.heap.size w2 w3 from below_step (by repeat (first | (with_reducible first | exact Below.refl _ _ | apply below_alloc | apply pw_below_drewN | apply below_drew1) | exact Below.refl _ _)) hb); have H3_0 := Aside0.mk (Go.Proofs.YtocldhojbnegjaaA.AtS.of ho0); clear ho0; clear hb)
    have B3 := Aside0.mk (below_step B2.out D_.out)
    replace H2_0 := Aside0.mk (H2_0.out.below D_.out)
    obtain ⟨A3_0, c3_0, rfl, l_⟩ := H3_0.out.form
    have H3_0L := Aside0.mk l_
    clear l_
    obtain ⟨lo_H3_0, hlo⟩ : ∃ x_ : Nat, x_ = w2.heap.size := ⟨_, rfl⟩
    obtain ⟨hi_H3_0, hhi⟩ : ∃ x_ : Nat, x_ = w3.heap.size := ⟨_, rfl⟩
    have LO_H3_0 := Aside0.mk (show w.heap.size ≤ lo_H3_0 from by rw [hlo]; exact B2.out.size)
    have SZ_H3_0 := Aside0.mk (show lo_H3_0 ≤ hi_H3_0 ∧ hi_H2_0 ≤ lo_H3_0 from ⟨by rw [hlo, hhi]; exact D_.out.size, by rw [hlo]; exact PS_H2_0.out⟩)
    replace H3_0 := Aside0.mk (show Go.Proofs.YtocldhojbnegjaaA.AtS (Kd.slice 2 (Kd.int .i64)) 40 lo_H3_0 hi_H3_0 w3 (.slice A3_0 y3_0.length c3_0) y3_0 from by rw [hlo, hhi]; exact H3_0.out)
    clear hlo hhi
    clear D_
    have PS_H2_0 := Aside0.mk (show hi_H2_0 ≤ w3.heap.size from H2_0.out.2)
    have PS_H3_0 := Aside0.mk (show hi_H3_0 ≤ w3.heap.size from H3_0.out.2)
    go_wp2_with (go_at_call 28; refine (laws_toInt64SS.calls k A1 c1 l1 y4_0 _ (Kd.C_below HR1.out (by repeat (first | (with_reducible first | exact B3.out | apply below_alloc | apply pw_below_drewN | apply below_drew1) | exact B3.out))) HC1.out E4.out).mono ?_; rintro e w4 ⟨v4_0, rfl, ho0, hb⟩; have D_ := Aside0.mk (show Below w3.heap.size w3 w4 from below_step (by repeat (first | (with_reducible first | exact Below.refl _ _ | apply below_alloc | apply pw_below_drewN | apply below_drew1) | exact Below.refl _ _)) hb); have H4_0 := Aside0.mk (Go.Proofs.YtocldhojbnegjaaA.AtS.of ho0); clear ho0; clear hb)
    have B4 := Aside0.mk (below_step B3.out D_.out)
    replace H2_0 := Aside0.mk (H2_0.out.below D_.out)
    replace H3_0 := Aside0.mk (H3_0.out.below D_.out)
    obtain ⟨A4_0, c4_0, rfl, l_⟩ := H4_0.out.form
    have H4_0L := Aside0.mk l_
    clear l_
    obtain ⟨lo_H4_0, hlo⟩ : ∃ x_ : Nat, x_ = w3.heap.size := ⟨_, rfl⟩
    obtain ⟨hi_H4_0, hhi⟩ : ∃ x_ : Nat, x_ = w4.heap.size := ⟨_, rfl⟩
    have LO_H4_0 := Aside0.mk (show w.heap.size ≤ lo_H4_0 from by rw [hlo]; exact B3.out.size)
    have SZ_H4_0 := Aside0.mk (show lo_H4_0 ≤ hi_H4_0 ∧ hi_H2_0 ≤ lo_H4_0 ∧ hi_H3_0 ≤ lo_H4_0 from ⟨by rw [hlo, hhi]; exact D_.out.size, by rw [hlo]; exact PS_H2_0.out, by rw [hlo]; exact PS_H3_0.out⟩)
    replace H4_0 := Aside0.mk (show Go.Proofs.YtocldhojbnegjaaA.AtS (Kd.slice 2 (Kd.int .i64)) 40 lo_H4_0 hi_H4_0 w4 (.slice A4_0 y4_0.length c4_0) y4_0 from by rw [hlo, hhi]; exact H4_0.out)
    clear hlo hhi
    clear D_
    have PS_H2_0 := Aside0.mk (show hi_H2_0 ≤ w4.heap.size from H2_0.out.2)
    have PS_H3_0 := Aside0.mk (show hi_H3_0 ≤ w4.heap.size from H3_0.out.2)
    have PS_H4_0 := Aside0.mk (show hi_H4_0 ≤ w4.heap.size from H4_0.out.2)
    go_wp2_with (go_at_call 47; refine (impl_ScalePath.calls a0 _ _ y4_0 a2 y5_0 y5_1 _ (Kd.C_below H4_0.out.C (by repeat (first | (with_reducible first | exact Below.refl _ _ | apply below_alloc | apply pw_below_drewN | apply below_drew1) | exact Below.refl _ _))) H4_0L.out E5.out).mono ?_; rintro e w5 ⟨v5_0, rfl, ho0, hb⟩; have D_ := Aside0.mk (show Below w4.heap.size w4 w5 from below_step (by repeat (first | (with_reducible first | exact Below.refl _ _ | apply below_alloc | apply pw_below_drewN | apply below_drew1) | exact Below.refl _ _)) hb); have H5_0 := Aside0.mk (Go.Proofs.YtocldhojbnegjaaA.AtS.of ho0); clear ho0; clear hb)
    have B5 := Aside0.mk (below_step B4.out D_.out)
    replace H2_0 := Aside0.mk (H2_0.out.below D_.out)
    replace H3_0 := Aside0.mk (H3_0.out.below D_.out)
    replace H4_0 := Aside0.mk (H4_0.out.below D_.out)
    obtain ⟨A5_0, c5_0, rfl, l_⟩ := H5_0.out.form
    have H5_0L := Aside0.mk l_
    clear l_
    obtain ⟨lo_H5_0, hlo⟩ : ∃ x_ : Nat, x_ = w4.heap.size := ⟨_, rfl⟩
    obtain ⟨hi_H5_0, hhi⟩ : ∃ x_ : Nat, x_ = w5.heap.size := ⟨_, rfl⟩
    have LO_H5_0 := Aside0.mk (show w.heap.size ≤ lo_H5_0 from by rw [hlo]; exact B4.out.size)
    have SZ_H5_0 := Aside0.mk (show lo_H5_0 ≤ hi_H5_0 ∧ hi_H2_0 ≤ lo_H5_0 ∧ hi_H3_0 ≤ lo_H5_0 ∧ hi_H4_0 ≤ lo_H5_0 from ⟨by rw [hlo, hhi]; exact D_.out.size, by rw [hlo]; exact PS_H2_0.out, by rw [hlo]; exact PS_H3_0.out, by rw [hlo]; exact PS_H4_0.out⟩)
    replace H5_0 := Aside0.mk (show Go.Proofs.YtocldhojbnegjaaA.AtS (Kd.slice 2 (Kd.int .i64)) 40 lo_H5_0 hi_H5_0 w5 (.slice A5_0 y5_0.length c5_0) y5_0 from by rw [hlo, hhi]; exact H5_0.out)
    clear hlo hhi
    clear D_
    have PS_H2_0 := Aside0.mk (show hi_H2_0 ≤ w5.heap.size from H2_0.out.2)
    have PS_H3_0 := Aside0.mk (show hi_H3_0 ≤ w5.heap.size from H3_0.out.2)
    have PS_H4_0 := Aside0.mk (show hi_H4_0 ≤ w5.heap.size from H4_0.out.2)
    have PS_H5_0 := Aside0.mk (show hi_H5_0 ≤ w5.heap.size from H5_0.out.2)
    go_wp2_with (go_at_call 30; refine (laws_eqInt64SS.calls k _ _ y5_0 _ _ y3_0 true _ (Kd.C_below H5_0.out.C (by repeat (first | (with_reducible first | exact Below.refl _ _ | apply below_alloc | apply pw_below_drewN | apply below_drew1) | exact Below.refl _ _))) H5_0L.out (Kd.C_below H3_0.out.C (by repeat (first | (with_reducible first | exact Below.refl _ _ | apply below_alloc | apply pw_below_drewN | apply below_drew1) | exact Below.refl _ _))) H3_0L.out E6.out).mono ?_; rintro e w6 ⟨rfl, hd⟩; have D_ := Aside0.mk (show Below w5.heap.size w5 w6 from below_step (by repeat (first | (with_reducible first | exact Below.refl _ _ | apply below_alloc | apply pw_below_drewN | apply below_drew1) | exact Below.refl _ _)) (Go.Proofs.YtocldhojbnegjaaA.below_drawn hd)); clear hd)
    have B6 := Aside0.mk (below_step B5.out D_.out)
    replace H2_0 := Aside0.mk (H2_0.out.below D_.out)
    replace H3_0 := Aside0.mk (H3_0.out.below D_.out)
    replace H4_0 := Aside0.mk (H4_0.out.below D_.out)
    replace H5_0 := Aside0.mk (H5_0.out.below D_.out)
    clear D_
    have PS_H2_0 := Aside0.mk (show hi_H2_0 ≤ w6.heap.size from H2_0.out.2)
    have PS_H3_0 := Aside0.mk (show hi_H3_0 ≤ w6.heap.size from H3_0.out.2)
    have PS_H4_0 := Aside0.mk (show hi_H4_0 ≤ w6.heap.size from H4_0.out.2)
    have PS_H5_0 := Aside0.mk (show hi_H5_0 ≤ w6.heap.size from H5_0.out.2)
    go_wp2_with (go_at_call 28; refine (laws_toInt64SS.calls k A1 c1 l1 y7_0 _ (Kd.C_below HR1.out (by repeat (first | (with_reducible first | exact B6.out | apply below_alloc | apply pw_below_drewN | apply below_drew1) | exact B6.out))) HC1.out E7.out).mono ?_; rintro e w7 ⟨v7_0, rfl, ho0, hb⟩; have D_ := Aside0.mk (show Below w6.heap.size w6 w7 from below_step (by repeat (first | (with_reducible first | exact Below.refl _ _ | apply below_alloc | apply pw_below_drewN | apply below_drew1) | exact Below.refl _ _)) hb); have H7_0 := Aside0.mk (Go.Proofs.YtocldhojbnegjaaA.AtS.of ho0); clear ho0; clear hb)
    have B7 := Aside0.mk (below_step B6.out D_.out)
    replace H2_0 := Aside0.mk (H2_0.out.below D_.out)
    replace H3_0 := Aside0.mk (H3_0.out.below D_.out)
    replace H4_0 := Aside0.mk (H4_0.out.below D_.out)
    replace H5_0 := Aside0.mk (H5_0.out.below D_.out)
    obtain ⟨A7_0, c7_0, rfl, l_⟩ := H7_0.out.form
    have H7_0L := Aside0.mk l_
    clear l_
    obtain ⟨lo_H7_0, hlo⟩ : ∃ x_ : Nat, x_ = w6.heap.size := ⟨_, rfl⟩
    obtain ⟨hi_H7_0, hhi⟩ : ∃ x_ : Nat, x_ = w7.heap.size := ⟨_, rfl⟩
    have LO_H7_0 := Aside0.mk (show w.heap.size ≤ lo_H7_0 from by rw [hlo]; exact B6.out.size)
    have SZ_H7_0 := Aside0.mk (show lo_H7_0 ≤ hi_H7_0 ∧ hi_H2_0 ≤ lo_H7_0 ∧ hi_H3_0 ≤ lo_H7_0 ∧ hi_H4_0 ≤ lo_H7_0 ∧ hi_H5_0 ≤ lo_H7_0 from ⟨by rw [hlo, hhi]; exact D_.out.size, by rw [hlo]; exact PS_H2_0.out, by rw [hlo]; exact PS_H3_0.out, by rw [hlo]; exact PS_H4_0.out, by rw [hlo]; exact PS_H5_0.out⟩)
    replace H7_0 := Aside0.mk (show Go.Proofs.YtocldhojbnegjaaA.AtS (Kd.slice 2 (Kd.int .i64)) 40 lo_H7_0 hi_H7_0 w7 (.slice A7_0 y7_0.length c7_0) y7_0 from by rw [hlo, hhi]; exact H7_0.out)
    clear hlo hhi
    clear D_
    have PS_H2_0 := Aside0.mk (show hi_H2_0 ≤ w7.heap.size from H2_0.out.2)
    have PS_H3_0 := Aside0.mk (show hi_H3_0 ≤ w7.heap.size from H3_0.out.2)
    have PS_H4_0 := Aside0.mk (show hi_H4_0 ≤ w7.heap.size from H4_0.out.2)
    have PS_H5_0 := Aside0.mk (show hi_H5_0 ≤ w7.heap.size from H5_0.out.2)
    have PS_H7_0 := Aside0.mk (show hi_H7_0 ≤ w7.heap.size from H7_0.out.2)
    go_wp2_with (go_at_call 30; refine (laws_eqInt64SS.calls k _ _ y4_0 _ _ y7_0 true _ (Kd.C_below H4_0.out.C (by repeat (first | (with_reducible first | exact Below.refl _ _ | apply below_alloc | apply pw_below_drewN | apply below_drew1) | exact Below.refl _ _))) H4_0L.out (Kd.C_below H7_0.out.C (by repeat (first | (with_reducible first | exact Below.refl _ _ | apply below_alloc | apply pw_below_drewN | apply below_drew1) | exact Below.refl _ _))) H7_0L.out E8.out).mono ?_; rintro e w8 ⟨rfl, hd⟩; have D_ := Aside0.mk (show Below w7.heap.size w7 w8 from below_step (by repeat (first | (with_reducible first | exact Below.refl _ _ | apply below_alloc | apply pw_below_drewN | apply below_drew1) | exact Below.refl _ _)) (Go.Proofs.YtocldhojbnegjaaA.below_drawn hd)); clear hd)
    have B8 := Aside0.mk (below_step B7.out D_.out)
    replace H2_0 := Aside0.mk (H2_0.out.below D_.out)
    replace H3_0 := Aside0.mk (H3_0.out.below D_.out)
    replace H4_0 := Aside0.mk (H4_0.out.below D_.out)
    replace H5_0 := Aside0.mk (H5_0.out.below D_.out)
    replace H7_0 := Aside0.mk (H7_0.out.below D_.out)
    clear D_
    have PS_H2_0 := Aside0.mk (show hi_H2_0 ≤ w8.heap.size from H2_0.out.2)
    have PS_H3_0 := Aside0.mk (show hi_H3_0 ≤ w8.heap.size from H3_0.out.2)
    have PS_H4_0 := Aside0.mk (show hi_H4_0 ≤ w8.heap.size from H4_0.out.2)
    have PS_H5_0 := Aside0.mk (show hi_H5_0 ≤ w8.heap.size from H5_0.out.2)
    have PS_H7_0 := Aside0.mk (show hi_H7_0 ≤ w8.heap.size from H7_0.out.2)
    go_wp2_with (go_at_call 33; refine (laws_markInt64SS.calls k (fun k_ => lo_H4_0 ≤ k_ ∧ k_ < hi_H4_0) _ y4_0 1 y9_0 z9 w _ (by repeat (first | (with_reducible first | exact B8.out | apply below_alloc | apply pw_below_drewN | apply below_drew1) | exact B8.out)) (Kd.S_below (Go.Proofs.YtocldhojbnegjaaA.AtS.mark H4_0.out LO_H4_0.out) (by repeat (first | (with_reducible first | exact Below.refl _ _ | apply below_alloc | apply pw_below_drewN | apply below_drew1) | exact Below.refl _ _))) E9.out).mono ?_; rintro e w9 ⟨rfl, ho, hb, hk⟩; have B9 := Aside0.mk hb; have KP := Aside0.mk (show Kept w8 w9 (fun k_ => lo_H4_0 ≤ k_ ∧ k_ < hi_H4_0) from Kept.then_ (Kept.of_below (by repeat (first | (with_reducible first | exact Below.refl _ _ | apply below_alloc | apply pw_below_drewN | apply below_drew1) | exact Below.refl _ _)) _) hk (fun _ h_ => .inl h_)); have HN := Aside0.mk (Go.Proofs.YtocldhojbnegjaaA.AtS.of ho); clear ho hb hk)
    replace H2_0 := Aside0.mk (Go.Proofs.YtocldhojbnegjaaA.AtS.kept H2_0.out KP.out (by have := SZ_H4_0.out; have := SZ_H2_0.out; have := LO_H4_0.out; have := LO_H2_0.out; omega))
    replace H3_0 := Aside0.mk (Go.Proofs.YtocldhojbnegjaaA.AtS.kept H3_0.out KP.out (by have := SZ_H4_0.out; have := SZ_H3_0.out; have := LO_H4_0.out; have := LO_H3_0.out; omega))
    replace H5_0 := Aside0.mk (Go.Proofs.YtocldhojbnegjaaA.AtS.kept H5_0.out KP.out (by have := SZ_H4_0.out; have := SZ_H5_0.out; have := LO_H4_0.out; have := LO_H5_0.out; omega))
    replace H7_0 := Aside0.mk (Go.Proofs.YtocldhojbnegjaaA.AtS.kept H7_0.out KP.out (by have := SZ_H4_0.out; have := SZ_H7_0.out; have := LO_H4_0.out; have := LO_H7_0.out; omega))
    replace H4_0 := HN
    clear HN KP
    obtain ⟨A_, c_, e_, l_⟩ := H4_0.out.form
    injection e_ with e1_ e2_ e3_
    have H4_0L := Aside0.mk (e3_ ▸ l_)
    clear l_ e1_ e3_
    first | rw [e2_] | skip
    replace H4_0 := Aside0.mk (e2_ ▸ H4_0.out)
    clear e2_
    have PS_H2_0 := Aside0.mk (show hi_H2_0 ≤ w9.heap.size from H2_0.out.2)
    have PS_H3_0 := Aside0.mk (show hi_H3_0 ≤ w9.heap.size from H3_0.out.2)
    have PS_H5_0 := Aside0.mk (show hi_H5_0 ≤ w9.heap.size from H5_0.out.2)
    have PS_H7_0 := Aside0.mk (show hi_H7_0 ≤ w9.heap.size from H7_0.out.2)
    go_wp2_with (go_at_call 30; refine (laws_eqInt64SS.calls k _ _ y5_0 _ _ y3_0 true _ (Kd.C_below H5_0.out.C (by repeat (first | (with_reducible first | exact Below.refl _ _ | apply below_alloc | apply pw_below_drewN | apply below_drew1) | exact Below.refl _ _))) H5_0L.out (Kd.C_below H3_0.out.C (by repeat (first | (with_reducible first | exact Below.refl _ _ | apply below_alloc | apply pw_below_drewN | apply below_drew1) | exact Below.refl _ _))) H3_0L.out E10.out).mono ?_; rintro e w10 ⟨rfl, hd⟩; have D_ := Aside0.mk (show Below w9.heap.size w9 w10 from below_step (by repeat (first | (with_reducible first | exact Below.refl _ _ | apply below_alloc | apply pw_below_drewN | apply below_drew1) | exact Below.refl _ _)) (Go.Proofs.YtocldhojbnegjaaA.below_drawn hd)); clear hd)
    have B10 := Aside0.mk (below_step B9.out D_.out)
    replace H2_0 := Aside0.mk (H2_0.out.below D_.out)
    replace H3_0 := Aside0.mk (H3_0.out.below D_.out)
    replace H4_0 := Aside0.mk (H4_0.out.below D_.out)
    replace H5_0 := Aside0.mk (H5_0.out.below D_.out)
    replace H7_0 := Aside0.mk (H7_0.out.below D_.out)
    clear D_
    have PS_H2_0 := Aside0.mk (show hi_H2_0 ≤ w10.heap.size from H2_0.out.2)
    have PS_H3_0 := Aside0.mk (show hi_H3_0 ≤ w10.heap.size from H3_0.out.2)
    have PS_H5_0 := Aside0.mk (show hi_H5_0 ≤ w10.heap.size from H5_0.out.2)
    have PS_H7_0 := Aside0.mk (show hi_H7_0 ≤ w10.heap.size from H7_0.out.2)
    go_wp2_with (go_at_call 33; refine (laws_markInt64SS.calls k (fun k_ => lo_H5_0 ≤ k_ ∧ k_ < hi_H5_0) _ y5_0 1 y11_0 z11 w _ (by repeat (first | (with_reducible first | exact B10.out | apply below_alloc | apply pw_below_drewN | apply below_drew1) | exact B10.out)) (Kd.S_below (Go.Proofs.YtocldhojbnegjaaA.AtS.mark H5_0.out LO_H5_0.out) (by repeat (first | (with_reducible first | exact Below.refl _ _ | apply below_alloc | apply pw_below_drewN | apply below_drew1) | exact Below.refl _ _))) E11.out).mono ?_; rintro e w11 ⟨rfl, ho, hb, hk⟩; have B11 := Aside0.mk hb; have KP := Aside0.mk (show Kept w10 w11 (fun k_ => lo_H5_0 ≤ k_ ∧ k_ < hi_H5_0) from Kept.then_ (Kept.of_below (by repeat (first | (with_reducible first | exact Below.refl _ _ | apply below_alloc | apply pw_below_drewN | apply below_drew1) | exact Below.refl _ _)) _) hk (fun _ h_ => .inl h_)); have HN := Aside0.mk (Go.Proofs.YtocldhojbnegjaaA.AtS.of ho); clear ho hb hk)
    replace H2_0 := Aside0.mk (Go.Proofs.YtocldhojbnegjaaA.AtS.kept H2_0.out KP.out (by have := SZ_H5_0.out; have := SZ_H2_0.out; have := LO_H5_0.out; have := LO_H2_0.out; omega))
    replace H3_0 := Aside0.mk (Go.Proofs.YtocldhojbnegjaaA.AtS.kept H3_0.out KP.out (by have := SZ_H5_0.out; have := SZ_H3_0.out; have := LO_H5_0.out; have := LO_H3_0.out; omega))
    clear H4_0
    replace H7_0 := Aside0.mk (Go.Proofs.YtocldhojbnegjaaA.AtS.kept H7_0.out KP.out (by have := SZ_H5_0.out; have := SZ_H7_0.out; have := LO_H5_0.out; have := LO_H7_0.out; omega))
    replace H5_0 := HN
    clear HN KP
    obtain ⟨A_, c_, e_, l_⟩ := H5_0.out.form
    injection e_ with e1_ e2_ e3_
    have H5_0L := Aside0.mk (e3_ ▸ l_)
    clear l_ e1_ e3_
    first | rw [e2_] | skip
    replace H5_0 := Aside0.mk (e2_ ▸ H5_0.out)
    clear e2_
    have PS_H2_0 := Aside0.mk (show hi_H2_0 ≤ w11.heap.size from H2_0.out.2)
    have PS_H3_0 := Aside0.mk (show hi_H3_0 ≤ w11.heap.size from H3_0.out.2)
    have PS_H7_0 := Aside0.mk (show hi_H7_0 ≤ w11.heap.size from H7_0.out.2)
    go_wp2_with (go_at_call 34; refine (laws_heldInt64SS.calls k _ _ z11 1 y12_0 _ (Kd.C_below H5_0.out.C (by repeat (first | (with_reducible first | exact Below.refl _ _ | apply below_alloc | apply pw_below_drewN | apply below_drew1) | exact Below.refl _ _))) H5_0L.out E12.out).mono ?_; rintro e w12 ⟨rfl, hd⟩; have D_ := Aside0.mk (show Below w11.heap.size w11 w12 from below_step (by repeat (first | (with_reducible first | exact Below.refl _ _ | apply below_alloc | apply pw_below_drewN | apply below_drew1) | exact Below.refl _ _)) (Go.Proofs.YtocldhojbnegjaaA.below_drawn hd)); clear hd)
    have B12 := Aside0.mk (below_step B11.out D_.out)
    replace H2_0 := Aside0.mk (H2_0.out.below D_.out)
    replace H3_0 := Aside0.mk (H3_0.out.below D_.out)
    replace H5_0 := Aside0.mk (H5_0.out.below D_.out)
    replace H7_0 := Aside0.mk (H7_0.out.below D_.out)
    clear D_
    have PS_H2_0 := Aside0.mk (show hi_H2_0 ≤ w12.heap.size from H2_0.out.2)
    have PS_H3_0 := Aside0.mk (show hi_H3_0 ≤ w12.heap.size from H3_0.out.2)
    have PS_H7_0 := Aside0.mk (show hi_H7_0 ≤ w12.heap.size from H7_0.out.2)
    go_wp2_with (go_at_call 28; refine (laws_toInt64SS.calls k A1 c1 l1 y13_0 _ (Kd.C_below HR1.out (by repeat (first | (with_reducible first | exact B12.out | apply below_alloc | apply pw_below_drewN | apply below_drew1) | exact B12.out))) HC1.out E13.out).mono ?_; rintro e w13 ⟨v13_0, rfl, ho0, hb⟩; have D_ := Aside0.mk (show Below w12.heap.size w12 w13 from below_step (by repeat (first | (with_reducible first | exact Below.refl _ _ | apply below_alloc | apply pw_below_drewN | apply below_drew1) | exact Below.refl _ _)) hb); have H13_0 := Aside0.mk (Go.Proofs.YtocldhojbnegjaaA.AtS.of ho0); clear ho0; clear hb)
    have B13 := Aside0.mk (below_step B12.out D_.out)
    replace H2_0 := Aside0.mk (H2_0.out.below D_.out)
    replace H3_0 := Aside0.mk (H3_0.out.below D_.out)
    replace H5_0 := Aside0.mk (H5_0.out.below D_.out)
    replace H7_0 := Aside0.mk (H7_0.out.below D_.out)
    obtain ⟨A13_0, c13_0, rfl, l_⟩ := H13_0.out.form
    have H13_0L := Aside0.mk l_
    clear l_
    obtain ⟨lo_H13_0, hlo⟩ : ∃ x_ : Nat, x_ = w12.heap.size := ⟨_, rfl⟩
    obtain ⟨hi_H13_0, hhi⟩ : ∃ x_ : Nat, x_ = w13.heap.size := ⟨_, rfl⟩
    have LO_H13_0 := Aside0.mk (show w.heap.size ≤ lo_H13_0 from by rw [hlo]; exact B12.out.size)
    have SZ_H13_0 := Aside0.mk (show lo_H13_0 ≤ hi_H13_0 ∧ hi_H2_0 ≤ lo_H13_0 ∧ hi_H3_0 ≤ lo_H13_0 ∧ hi_H7_0 ≤ lo_H13_0 from ⟨by rw [hlo, hhi]; exact D_.out.size, by rw [hlo]; exact PS_H2_0.out, by rw [hlo]; exact PS_H3_0.out, by rw [hlo]; exact PS_H7_0.out⟩)
    replace H13_0 := Aside0.mk (show Go.Proofs.YtocldhojbnegjaaA.AtS (Kd.slice 2 (Kd.int .i64)) 40 lo_H13_0 hi_H13_0 w13 (.slice A13_0 y13_0.length c13_0) y13_0 from by rw [hlo, hhi]; exact H13_0.out)
    clear hlo hhi
    clear D_
    have PS_H2_0 := Aside0.mk (show hi_H2_0 ≤ w13.heap.size from H2_0.out.2)
    have PS_H3_0 := Aside0.mk (show hi_H3_0 ≤ w13.heap.size from H3_0.out.2)
    have PS_H7_0 := Aside0.mk (show hi_H7_0 ≤ w13.heap.size from H7_0.out.2)
    have PS_H13_0 := Aside0.mk (show hi_H13_0 ≤ w13.heap.size from H13_0.out.2)
    go_wp2_with (go_at_call 47; refine (impl_ScalePath.calls a0 _ _ y13_0 a2 y14_0 y14_1 _ (Kd.C_below H13_0.out.C (by repeat (first | (with_reducible first | exact Below.refl _ _ | apply below_alloc | apply pw_below_drewN | apply below_drew1) | exact Below.refl _ _))) H13_0L.out E14.out).mono ?_; rintro e w14 ⟨v14_0, rfl, ho0, hb⟩; have D_ := Aside0.mk (show Below w13.heap.size w13 w14 from below_step (by repeat (first | (with_reducible first | exact Below.refl _ _ | apply below_alloc | apply pw_below_drewN | apply below_drew1) | exact Below.refl _ _)) hb); have H14_0 := Aside0.mk (Go.Proofs.YtocldhojbnegjaaA.AtS.of ho0); clear ho0; clear hb)
    have B14 := Aside0.mk (below_step B13.out D_.out)
    replace H2_0 := Aside0.mk (H2_0.out.below D_.out)
    replace H3_0 := Aside0.mk (H3_0.out.below D_.out)
    replace H5_0 := Aside0.mk (H5_0.out.below D_.out)
    replace H7_0 := Aside0.mk (H7_0.out.below D_.out)
    replace H13_0 := Aside0.mk (H13_0.out.below D_.out)
    obtain ⟨A14_0, c14_0, rfl, l_⟩ := H14_0.out.form
    have H14_0L := Aside0.mk l_
    clear l_
    obtain ⟨lo_H14_0, hlo⟩ : ∃ x_ : Nat, x_ = w13.heap.size := ⟨_, rfl⟩
    obtain ⟨hi_H14_0, hhi⟩ : ∃ x_ : Nat, x_ = w14.heap.size := ⟨_, rfl⟩
    have LO_H14_0 := Aside0.mk (show w.heap.size ≤ lo_H14_0 from by rw [hlo]; exact B13.out.size)
    have SZ_H14_0 := Aside0.mk (show lo_H14_0 ≤ hi_H14_0 ∧ hi_H2_0 ≤ lo_H14_0 ∧ hi_H3_0 ≤ lo_H14_0 ∧ hi_H7_0 ≤ lo_H14_0 ∧ hi_H13_0 ≤ lo_H14_0 from ⟨by rw [hlo, hhi]; exact D_.out.size, by rw [hlo]; exact PS_H2_0.out, by rw [hlo]; exact PS_H3_0.out, by rw [hlo]; exact PS_H7_0.out, by rw [hlo]; exact PS_H13_0.out⟩)
    replace H14_0 := Aside0.mk (show Go.Proofs.YtocldhojbnegjaaA.AtS (Kd.slice 2 (Kd.int .i64)) 40 lo_H14_0 hi_H14_0 w14 (.slice A14_0 y14_0.length c14_0) y14_0 from by rw [hlo, hhi]; exact H14_0.out)
    clear hlo hhi
    clear D_
    have PS_H2_0 := Aside0.mk (show hi_H2_0 ≤ w14.heap.size from H2_0.out.2)
    have PS_H3_0 := Aside0.mk (show hi_H3_0 ≤ w14.heap.size from H3_0.out.2)
    have PS_H7_0 := Aside0.mk (show hi_H7_0 ≤ w14.heap.size from H7_0.out.2)
    have PS_H13_0 := Aside0.mk (show hi_H13_0 ≤ w14.heap.size from H13_0.out.2)
    have PS_H14_0 := Aside0.mk (show hi_H14_0 ≤ w14.heap.size from H14_0.out.2)
    go_wp2_with (go_at_call 30; refine (laws_eqInt64SS.calls k _ _ y14_0 _ _ y3_0 true _ (Kd.C_below H14_0.out.C (by repeat (first | (with_reducible first | exact Below.refl _ _ | apply below_alloc | apply pw_below_drewN | apply below_drew1) | exact Below.refl _ _))) H14_0L.out (Kd.C_below H3_0.out.C (by repeat (first | (with_reducible first | exact Below.refl _ _ | apply below_alloc | apply pw_below_drewN | apply below_drew1) | exact Below.refl _ _))) H3_0L.out E15.out).mono ?_; rintro e w15 ⟨rfl, hd⟩; have D_ := Aside0.mk (show Below w14.heap.size w14 w15 from below_step (by repeat (first | (with_reducible first | exact Below.refl _ _ | apply below_alloc | apply pw_below_drewN | apply below_drew1) | exact Below.refl _ _)) (Go.Proofs.YtocldhojbnegjaaA.below_drawn hd)); clear hd)
    have B15 := Aside0.mk (below_step B14.out D_.out)
    replace H2_0 := Aside0.mk (H2_0.out.below D_.out)
    replace H3_0 := Aside0.mk (H3_0.out.below D_.out)
    replace H5_0 := Aside0.mk (H5_0.out.below D_.out)
    replace H7_0 := Aside0.mk (H7_0.out.below D_.out)
    replace H13_0 := Aside0.mk (H13_0.out.below D_.out)
    replace H14_0 := Aside0.mk (H14_0.out.below D_.out)
    clear D_
    have PS_H2_0 := Aside0.mk (show hi_H2_0 ≤ w15.heap.size from H2_0.out.2)
    have PS_H3_0 := Aside0.mk (show hi_H3_0 ≤ w15.heap.size from H3_0.out.2)
    have PS_H7_0 := Aside0.mk (show hi_H7_0 ≤ w15.heap.size from H7_0.out.2)
    have PS_H13_0 := Aside0.mk (show hi_H13_0 ≤ w15.heap.size from H13_0.out.2)
    have PS_H14_0 := Aside0.mk (show hi_H14_0 ≤ w15.heap.size from H14_0.out.2)
    go_wp2_with (go_at_call 34; refine (laws_heldInt64SS.calls k _ _ z11 1 y16_0 _ (Kd.C_below H5_0.out.C (by repeat (first | (with_reducible first | exact Below.refl _ _ | apply below_alloc | apply pw_below_drewN | apply below_drew1) | exact Below.refl _ _))) H5_0L.out E16.out).mono ?_; rintro e w16 ⟨rfl, hd⟩; have D_ := Aside0.mk (show Below w15.heap.size w15 w16 from below_step (by repeat (first | (with_reducible first | exact Below.refl _ _ | apply below_alloc | apply pw_below_drewN | apply below_drew1) | exact Below.refl _ _)) (Go.Proofs.YtocldhojbnegjaaA.below_drawn hd)); clear hd)
    have B16 := Aside0.mk (below_step B15.out D_.out)
    replace H2_0 := Aside0.mk (H2_0.out.below D_.out)
    replace H3_0 := Aside0.mk (H3_0.out.below D_.out)
    replace H5_0 := Aside0.mk (H5_0.out.below D_.out)
    replace H7_0 := Aside0.mk (H7_0.out.below D_.out)
    replace H13_0 := Aside0.mk (H13_0.out.below D_.out)
    replace H14_0 := Aside0.mk (H14_0.out.below D_.out)
    clear D_
    have PS_H2_0 := Aside0.mk (show hi_H2_0 ≤ w16.heap.size from H2_0.out.2)
    have PS_H3_0 := Aside0.mk (show hi_H3_0 ≤ w16.heap.size from H3_0.out.2)
    have PS_H7_0 := Aside0.mk (show hi_H7_0 ≤ w16.heap.size from H7_0.out.2)
    have PS_H13_0 := Aside0.mk (show hi_H13_0 ≤ w16.heap.size from H13_0.out.2)
    have PS_H14_0 := Aside0.mk (show hi_H14_0 ≤ w16.heap.size from H14_0.out.2)
    go_wp2
    go_ret
    exact ⟨rfl, B16.out⟩

end Go.Proofs.Ytocldhojbnegjaa.PFnExactScalePath
