/- Texts that the proof of FnExactLeftBracket needs, part 11. No condition. -/
import Derived.Test.YtaiefdhenikiiaaMFnExactLeftBracket10
namespace Go.Proofs.Ytaiefdhenikiiaa.Base
open Go.RowKit Go.Proofs.YtaiefdhenikiiaaW.PrintWords Go.Proofs.YtaiefdhenikiiaaW.PrintLast Go.Proofs.YtaiefdhenikiiaaW.PrintMore
attribute [local go_sem] max2_int min2_int max_two min_two max_three min_three max_four min_four Go.Proofs.YtaiefdhenikiiaaZ.min2_string   -- for this text's walks alone
set_option linter.unusedVariables false
set_option linter.unusedSimpArgs false
mutual
def laws_FnExactLeftBracket.j0 : Nat → Int → Int → ByteArray → Int → Bool → Int → Int → List (S79) → Int → Int → List (S79) → Option (Bool)
  | 0, _, _, _, _, _, _, _, _, _, _, _ => none
  | k + 1, x0, x1, x2, x8, x40, x799000, x799001, x799002, x806000, x806001, x806002 => if x40 = true then (some false) else ((laws_markSeries.f k x806000 x806001 x806002 1).bind fun bt807 => ((laws_heldSeries.f k x806000 x806001 bt807.2 1).bind fun t809 => (if t809 < 0 then (some false) else (if t809 = bt807.1 then ((impl_LeftBracket.f x0 x1 x2).bind fun bt810 => ((laws_eqSeries.f k bt810.1 bt810.2.1 bt810.2.2.1 x799000 x799001 x799002).bind fun t817 => (if t817 = true then (laws_FnExactLeftBracket.j1 k bt807.1 (bt810.2.2.2 != x8) x806000 x806001 bt807.2) else (laws_FnExactLeftBracket.j1 k bt807.1 true x806000 x806001 bt807.2)))) else (some false)))))
def laws_FnExactLeftBracket.j1 : Nat → Int → Bool → Int → Int → List (S79) → Option (Bool)
  | 0, _, _, _, _, _ => none
  | k + 1, x11, x67, x806000, x806001, x806002 => if x67 = true then (some false) else ((laws_heldSeries.f k x806000 x806001 x806002 1).bind fun t818 => (if t818 < 0 then (some false) else (if t818 = x11 then (some true) else (some false))))
end
def laws_FnExactLeftBracket.f (k : Nat) (a0 : Int) (a1 : Int) (a2 : ByteArray) : Option (Bool) := if (a2.size : Int) > 1048576 then (some true) else ((spec_LeftBracket.f a0 a1 a2).bind fun bt792 => ((impl_LeftBracket.f a0 a1 a2).bind fun bt799 => ((laws_eqSeries.f k bt799.1 bt799.2.1 bt799.2.2.1 bt792.1 bt792.2.1 bt792.2.2.1).bind fun t806 => (if t806 = true then (laws_FnExactLeftBracket.j0 k a0 a1 a2 bt792.2.2.2 (bt799.2.2.2 != bt792.2.2.2) bt792.1 bt792.2.1 bt792.2.2.1 bt799.1 bt799.2.1 bt799.2.2.1) else (laws_FnExactLeftBracket.j0 k a0 a1 a2 bt792.2.2.2 true bt792.1 bt792.2.1 bt792.2.2.1 bt799.1 bt799.2.1 bt799.2.2.1)))))
theorem laws_FnExactLeftBracket.mono_l : ∀ k, (∀ y0 y1 y2 y3 y4 y5 y6 y7 y8 y9 y10, LeO (laws_FnExactLeftBracket.j0 k y0 y1 y2 y3 y4 y5 y6 y7 y8 y9 y10) (laws_FnExactLeftBracket.j0 (k + 1) y0 y1 y2 y3 y4 y5 y6 y7 y8 y9 y10)) ∧ (∀ y0 y1 y2 y3 y4, LeO (laws_FnExactLeftBracket.j1 k y0 y1 y2 y3 y4) (laws_FnExactLeftBracket.j1 (k + 1) y0 y1 y2 y3 y4))
  | 0 => ⟨fun _ _ _ _ _ _ _ _ _ _ _ r h => by simp [laws_FnExactLeftBracket.j0] at h, fun _ _ _ _ _ r h => by simp [laws_FnExactLeftBracket.j1] at h⟩
  | k + 1 => by
    obtain ⟨ih0, ih1⟩ := laws_FnExactLeftBracket.mono_l k
    refine ⟨?_, ?_⟩
    · intro y0 y1 y2 y3 y4 y5 y6 y7 y8 y9 y10
      unfold laws_FnExactLeftBracket.j0
      repeat' first
      | (with_reducible exact ih0 _ _ _ _ _ _ _ _ _ _ _)
      | (with_reducible exact ih1 _ _ _ _ _)
      | (with_reducible exact laws_eqSeries.mono _ _ _ _ _ _ _)
      | (with_reducible exact laws_heldSeries.mono _ _ _ _ _)
      | (with_reducible exact laws_markSeries.mono _ _ _ _ _)
      | (with_reducible exact LeO.refl _)
      | (with_reducible exact LeO.none _)
      | (with_reducible refine LeO.ite ?_ ?_)
      | (with_reducible refine LeO.bind ?_ (fun _ => ?_))
      | exact ih0 _ _ _ _ _ _ _ _ _ _ _
      | exact ih1 _ _ _ _ _
      | exact laws_eqSeries.mono _ _ _ _ _ _ _
      | exact laws_heldSeries.mono _ _ _ _ _
      | exact laws_markSeries.mono _ _ _ _ _
      | exact LeO.none _
      | refine LeO.ite ?_ ?_
      | refine LeO.bind ?_ (fun _ => ?_)
    · intro y0 y1 y2 y3 y4
      unfold laws_FnExactLeftBracket.j1
      repeat' first
      | (with_reducible exact ih0 _ _ _ _ _ _ _ _ _ _ _)
      | (with_reducible exact ih1 _ _ _ _ _)
      | (with_reducible exact laws_eqSeries.mono _ _ _ _ _ _ _)
      | (with_reducible exact laws_heldSeries.mono _ _ _ _ _)
      | (with_reducible exact laws_markSeries.mono _ _ _ _ _)
      | (with_reducible exact LeO.refl _)
      | (with_reducible exact LeO.none _)
      | (with_reducible refine LeO.ite ?_ ?_)
      | (with_reducible refine LeO.bind ?_ (fun _ => ?_))
      | exact ih0 _ _ _ _ _ _ _ _ _ _ _
      | exact ih1 _ _ _ _ _
      | exact laws_eqSeries.mono _ _ _ _ _ _ _
      | exact laws_heldSeries.mono _ _ _ _ _
      | exact laws_markSeries.mono _ _ _ _ _
      | exact LeO.none _
      | refine LeO.ite ?_ ?_
      | refine LeO.bind ?_ (fun _ => ?_)
theorem laws_FnExactLeftBracket.mono : ∀ a0 a1 a2 k, LeO (laws_FnExactLeftBracket.f k a0 a1 a2) (laws_FnExactLeftBracket.f (k + 1) a0 a1 a2) := by
  intro a0 a1 a2 k
  obtain ⟨ih0, ih1⟩ := laws_FnExactLeftBracket.mono_l k
  unfold laws_FnExactLeftBracket.f
  repeat' first
      | (with_reducible exact ih0 _ _ _ _ _ _ _ _ _ _ _)
      | (with_reducible exact ih1 _ _ _ _ _)
      | (with_reducible exact laws_eqSeries.mono _ _ _ _ _ _ _)
      | (with_reducible exact laws_heldSeries.mono _ _ _ _ _)
      | (with_reducible exact laws_markSeries.mono _ _ _ _ _)
      | (with_reducible exact LeO.refl _)
      | (with_reducible exact LeO.none _)
      | (with_reducible refine LeO.ite ?_ ?_)
      | (with_reducible refine LeO.bind ?_ (fun _ => ?_))
      | exact ih0 _ _ _ _ _ _ _ _ _ _ _
      | exact ih1 _ _ _ _ _
      | exact laws_eqSeries.mono _ _ _ _ _ _ _
      | exact laws_heldSeries.mono _ _ _ _ _
      | exact laws_markSeries.mono _ _ _ _ _
      | exact LeO.none _
      | refine LeO.ite ?_ ?_
      | refine LeO.bind ?_ (fun _ => ?_)
set_option maxHeartbeats 8000000 in
set_option maxRecDepth 100000 in
theorem laws_FnExactLeftBracket.calls (k : Nat) (a0 : Int) (a1 : Int) (a2 : ByteArray) (r : Bool) (w : World) (h : laws_FnExactLeftBracket.f k a0 a1 a2 = some r) :
    Calls Try.prog 7 #[.int .i64 a0, .int .i64 a1, .string a2] w fun e w' => e = .returned (.bool r) ∧ Below w.heap.size w w' := by
  have hu38 := Try.underlying38
  have HB := Aside0.mk (Below.refl w.heap.size w)
  have H : (if (a2.size : Int) > 1048576 then (some true) else ((spec_LeftBracket.f a0 a1 a2).bind fun bt792 => ((impl_LeftBracket.f a0 a1 a2).bind fun bt799 => ((laws_eqSeries.f k bt799.1 bt799.2.1 bt799.2.2.1 bt792.1 bt792.2.1 bt792.2.2.1).bind fun t806 => (if t806 = true then (laws_FnExactLeftBracket.j0 k a0 a1 a2 bt792.2.2.2 (bt799.2.2.2 != bt792.2.2.2) bt792.1 bt792.2.1 bt792.2.2.1 bt799.1 bt799.2.1 bt799.2.2.1) else (laws_FnExactLeftBracket.j0 k a0 a1 a2 bt792.2.2.2 true bt792.1 bt792.2.1 bt792.2.2.1 bt799.1 bt799.2.1 bt799.2.2.1)))))) = some r := h
  clear h
  by_cases c4 : (a2.size : Int) > 1048576
  · rw [if_pos c4] at H
    have c4b0 : decide (1048576 < (a2.size : Int)) = true := decide_eq_true c4
    have c4b1 : decide (1048576 < a2.size) = true := decide_eq_true (by omega)
    clear c4
    obtain rfl := Option.some.inj H
    go_enter Try.func7, Try.ntmps7
    go_wp2
    go_ret
    exact ⟨by first | rfl | (simp [errW_none, errW_some] <;> rfl) | (simp [*, errW_none, errW_some] <;> rfl), by repeat (first | (with_reducible first | exact HB.out | apply below_alloc | apply pw_below_drewN | apply below_drew1) | exact HB.out)⟩
  · rw [if_neg c4] at H
    have c4b0 : decide (1048576 < (a2.size : Int)) = false := decide_eq_false c4
    have c4b1 : decide (1048576 < a2.size) = false := decide_eq_false (by omega)
    clear c4
    replace H := Option.bind_eq_some_iff.mp H
    obtain ⟨⟨t792, t793, t794, t797⟩, A50, H⟩ := H
    replace H : ((impl_LeftBracket.f a0 a1 a2).bind fun bt799 => ((laws_eqSeries.f k bt799.1 bt799.2.1 bt799.2.2.1 t792 t793 t794).bind fun t806 => (if t806 = true then (laws_FnExactLeftBracket.j0 k a0 a1 a2 t797 (bt799.2.2.2 != t797) t792 t793 t794 bt799.1 bt799.2.1 bt799.2.2.1) else (laws_FnExactLeftBracket.j0 k a0 a1 a2 t797 true t792 t793 t794 bt799.1 bt799.2.1 bt799.2.2.1)))) = some r := H
    have A5 := Aside0.mk A50
    clear A50
    replace H := Option.bind_eq_some_iff.mp H
    obtain ⟨⟨t799, t800, t801, t804⟩, A60, H⟩ := H
    replace H : ((laws_eqSeries.f k t799 t800 t801 t792 t793 t794).bind fun t806 => (if t806 = true then (laws_FnExactLeftBracket.j0 k a0 a1 a2 t797 (t804 != t797) t792 t793 t794 t799 t800 t801) else (laws_FnExactLeftBracket.j0 k a0 a1 a2 t797 true t792 t793 t794 t799 t800 t801))) = some r := H
    have A6 := Aside0.mk A60
    clear A60
    have HC7 := Aside0.mk H
    clear H
    go_enter Try.func7, Try.ntmps7
    go_upto_region 5 with (first | ((with_reducible refine gate_callee (f := 42) rfl ?_); refine goesL_ (some 22) rfl rfl Try.func42 (by kernel_rfl) rfl #[.int .i64 a0, .int .i64 a1, .string a2] rfl (by (try simp only [List.map_toArray, List.map_cons, List.map_nil]); first | done | rfl | (simp only [List.length_drop, List.length_take]; rfl)) ?_; (with_reducible refine (spec_LeftBracket.calls a0 a1 a2 t792 t793 t794 t797 _ A5.out).mono ?_); rintro e w8 ⟨v795, rfl, ho0, hb⟩; refine ⟨_, rfl, ?_⟩; have n0_ := Aside0.mk (Kd.R_lower ho0 (below_size (by repeat (first | (with_reducible first | exact HB.out | apply below_alloc | apply pw_below_drewN | apply below_drew1) | exact HB.out)))); have n1_ := Aside0.mk (below_step (by repeat (first | (with_reducible first | exact HB.out | apply below_alloc | apply pw_below_drewN | apply below_drew1) | exact HB.out)) hb); clear HB; have HO796 := n0_; have HB := n1_; clear n0_ n1_; (try clear hb); (try clear hb2); (try clear hk); (try clear hi); (try clear ho0)) | ((with_reducible refine gate_dst (N := 7) rfl ?_); refine box_event ?hg (N := 7) ?hd (cs := #[.int .i64 0, .int .i64 0, .slice none 0 0]) (t := 38) ?hr ?_; (case hd => rfl); (case hg => rfl); (case hr => first | (go_simp; done) | (go_simp; rfl)); intro gb798 hg w9 hbox hb; have n0_ := Aside0.mk (Kd.R_below (by (with_reducible repeat (first | apply Kd.R_alloc | apply Kd.R_drewN | apply Kd.R_drew)); exact HO796.out) hb); have n1_ := Aside0.mk (below_step (by repeat (first | (with_reducible first | exact HB.out | apply below_alloc | apply pw_below_drewN | apply below_drew1) | exact HB.out)) hb); have n2_ := Aside0.mk (hbox); have n3_ := Aside0.mk ((by rw [hg]; exact (below_size (by repeat (first | (with_reducible first | exact HB.out | apply below_alloc | apply pw_below_drewN | apply below_drew1) | exact HB.out))) : w.heap.size ≤ gb798)); have n4_ := Aside0.mk ((by rw [hg]; exact (below_size (by repeat (first | (with_reducible first | exact HB.out | apply below_alloc | apply pw_below_drewN | apply below_drew1) | exact HB.out))) : w.heap.size ≤ gb798)); clear HO796; clear HB; have HO796 := n0_; have HB := n1_; have BK798 := n2_; have GW798 := n3_; have GE798 := n4_; clear n0_ n1_ n2_ n3_ n4_; clear hb hbox hg; have hcz10_0 : w9.cell? ⟨gb798, 0, none⟩ = some (.int .i64 0) := (blk_cell BK798.out 0).trans rfl; have hcz10_1 : w9.cell? ⟨gb798, 1, none⟩ = some (.int .i64 0) := (blk_cell BK798.out 1).trans rfl; have hcz10_2 : w9.cell? ⟨gb798, 2, none⟩ = some (.slice none 0 0) := (blk_cell BK798.out 2).trans rfl; have hfz10_0 := blk_frozen BK798.out 0; have hfz10_1 := blk_frozen BK798.out 1; have hfz10_2 := blk_frozen BK798.out 2; obtain ⟨Ao11, co11, eo11⟩ := Kd.R_slice HO796.out; subst eo11) | ((with_reducible refine gate_callee (f := 43) rfl ?_); refine goesL_ (some 29) rfl rfl Try.func43 (by kernel_rfl) rfl #[.int .i64 a0, .int .i64 a1, .string a2] rfl (by (try simp only [List.map_toArray, List.map_cons, List.map_nil]); first | done | rfl | (simp only [List.length_drop, List.length_take]; rfl)) ?_; (with_reducible refine (impl_LeftBracket.calls a0 a1 a2 t799 t800 t801 t804 _ A6.out).mono ?_); rintro e w12 ⟨v802, rfl, ho0, hb⟩; refine ⟨_, rfl, ?_⟩; have n0_ := Aside0.mk (Kd.R_elder' (by (with_reducible repeat (first | apply Kd.R_alloc | apply Kd.R_drewN | apply Kd.R_drew)); exact (Kd.R_mono (Kd.R_far (p := ⟨gb798, 2, none⟩) (Kd.R_far (p := ⟨gb798, 1, none⟩) (Kd.R_far (p := ⟨gb798, 0, none⟩) (Kd.R_types HO796.out BK798.out (by decide)) (fun _ hk => hk.2) (.int .i64 t792)) (fun _ hk => hk.2) (.int .i64 t793)) (fun _ hk => hk.2) (.slice Ao11 t794.length co11)) (fun _ h_ => h_.1))) (Kd.R_base ho0) hb); have n1_ := Aside0.mk (Kd.R_lower (Kd.R_new' ho0 (Kd.R_lt (by (with_reducible repeat (first | apply Kd.R_alloc | apply Kd.R_drewN | apply Kd.R_drew)); exact (Kd.R_mono (Kd.R_far (p := ⟨gb798, 2, none⟩) (Kd.R_far (p := ⟨gb798, 1, none⟩) (Kd.R_far (p := ⟨gb798, 0, none⟩) (Kd.R_types HO796.out BK798.out (by decide)) (fun _ hk => hk.2) (.int .i64 t792)) (fun _ hk => hk.2) (.int .i64 t793)) (fun _ hk => hk.2) (.slice Ao11 t794.length co11)) (fun _ h_ => h_.1))))) (below_size (by repeat (first | (with_reducible first | exact HB.out | apply below_alloc | apply pw_below_drewN | apply below_drew1 | refine below_set ?_ GE798.out) | exact HB.out)))); have n2_ := Aside0.mk (blk_below (g := gb798) (o := .cells #[.int .i64 t792, .int .i64 t793, .slice Ao11 t794.length co11] 38 (0, 0)) (by (with_reducible repeat (first | refine blk_drewN ?_ _ | refine blk_drew ?_ | refine blk_alloc ?_ _)); refine blk_put (cs := #[.int .i64 t792, .int .i64 t793, .slice none 0 0]) ?_ 2 _ rfl; (with_reducible repeat (first | refine blk_drewN ?_ _ | refine blk_drew ?_ | refine blk_alloc ?_ _)); refine blk_put (cs := #[.int .i64 t792, .int .i64 0, .slice none 0 0]) ?_ 1 _ rfl; (with_reducible repeat (first | refine blk_drewN ?_ _ | refine blk_drew ?_ | refine blk_alloc ?_ _)); refine blk_put (cs := #[.int .i64 0, .int .i64 0, .slice none 0 0]) ?_ 0 _ rfl; (with_reducible repeat (first | refine blk_drewN ?_ _ | refine blk_drew ?_ | refine blk_alloc ?_ _)); exact BK798.out) hb); have n3_ := Aside0.mk (below_step (by repeat (first | (with_reducible first | exact HB.out | apply below_alloc | apply pw_below_drewN | apply below_drew1 | refine below_set ?_ GE798.out) | exact HB.out)) hb); clear HO796; clear BK798; clear HB; have HO796 := n0_; have HO803 := n1_; have BK798 := n2_; have HB := n3_; clear n0_ n1_ n2_ n3_; (try clear hb); (try clear hb2); (try clear hk); (try clear hi); (try clear ho0)) | ((with_reducible refine gate_dst (N := 9) rfl ?_); refine box_event ?hg (N := 9) ?hd (cs := #[.int .i64 0, .int .i64 0, .slice none 0 0]) (t := 38) ?hr ?_; (case hd => rfl); (case hg => rfl); (case hr => first | (go_simp; done) | (go_simp; rfl)); intro gb805 hg w13 hbox hb; have n0_ := Aside0.mk (Kd.R_below (by (with_reducible repeat (first | apply Kd.R_alloc | apply Kd.R_drewN | apply Kd.R_drew)); exact HO796.out) hb); have n1_ := Aside0.mk (Kd.R_below (by (with_reducible repeat (first | apply Kd.R_alloc | apply Kd.R_drewN | apply Kd.R_drew)); exact HO803.out) hb); have n2_ := Aside0.mk (blk_below (g := gb798) (o := .cells #[.int .i64 t792, .int .i64 t793, .slice Ao11 t794.length co11] 38 (0, 0)) (by (with_reducible repeat (first | refine blk_drewN ?_ _ | refine blk_drew ?_ | refine blk_alloc ?_ _)); exact BK798.out) hb); have n3_ := Aside0.mk (below_step (by repeat (first | (with_reducible first | exact HB.out | apply below_alloc | apply pw_below_drewN | apply below_drew1 | refine below_set ?_ GE798.out) | exact HB.out)) hb); have n4_ := Aside0.mk (hbox); have n5_ := Aside0.mk ((by rw [hg]; exact (below_size (by repeat (first | (with_reducible first | exact HB.out | apply below_alloc | apply pw_below_drewN | apply below_drew1 | refine below_set ?_ GE798.out) | exact HB.out))) : w.heap.size ≤ gb805)); have n6_ := Aside0.mk ((by rw [hg]; exact (below_size (by repeat (first | (with_reducible first | exact HB.out | apply below_alloc | apply pw_below_drewN | apply below_drew1 | refine below_set ?_ GE798.out) | exact HB.out))) : w.heap.size ≤ gb805)); have n7_ := Aside0.mk ((by rw [hg]; exact Nat.ne_of_lt (blk_lt (g := gb798) (o := .cells #[.int .i64 t792, .int .i64 t793, .slice Ao11 t794.length co11] 38 (0, 0)) (by (with_reducible repeat (first | refine blk_drewN ?_ _ | refine blk_drew ?_ | refine blk_alloc ?_ _)); exact BK798.out)) : gb798 ≠ gb805)); have n8_ := Aside0.mk ((by rw [hg]; exact Nat.ne_of_gt (blk_lt (g := gb798) (o := .cells #[.int .i64 t792, .int .i64 t793, .slice Ao11 t794.length co11] 38 (0, 0)) (by (with_reducible repeat (first | refine blk_drewN ?_ _ | refine blk_drew ?_ | refine blk_alloc ?_ _)); exact BK798.out)) : gb805 ≠ gb798)); clear HO796; clear HO803; clear BK798; clear HB; have HO796 := n0_; have HO803 := n1_; have BK798 := n2_; have HB := n3_; have BK805 := n4_; have GW805 := n5_; have GE805 := n6_; have NB798_805 := n7_; have NB805_798 := n8_; clear n0_ n1_ n2_ n3_ n4_ n5_ n6_ n7_ n8_; clear hb hbox hg; have hnb14 := NB805_798.out; have hnc14 := NB798_805.out; have hcz15_0 : w13.cell? ⟨gb805, 0, none⟩ = some (.int .i64 0) := (blk_cell BK805.out 0).trans rfl; have hcz15_1 : w13.cell? ⟨gb805, 1, none⟩ = some (.int .i64 0) := (blk_cell BK805.out 1).trans rfl; have hcz15_2 : w13.cell? ⟨gb805, 2, none⟩ = some (.slice none 0 0) := (blk_cell BK805.out 2).trans rfl; have hfz15_0 := blk_frozen BK805.out 0; have hfz15_1 := blk_frozen BK805.out 1; have hfz15_2 := blk_frozen BK805.out 2; obtain ⟨Ao16, co16, eo16⟩ := Kd.R_slice HO803.out; subst eo16))
    (try simp only [Act.put, List.setIfInBounds_toArray, List.set_cons_zero, List.set_cons_succ])
    go_cut [40] (fun v40 wc => ∃ (kq : Nat) (x40_6 : Bool), v40 = .bool x40_6 ∧ Aside0 (laws_FnExactLeftBracket.j0 kq a0 a1 a2 t797 x40_6 t792 t793 t794 t799 t800 t801 = some r) ∧ Aside0 (kq ≤ k) ∧ Aside0 (Kd.R k79 79 wc w.heap.size (fun k_ => some k_ ≠ ((.slice Ao16 t801.length co16) : Value).ownBlock) (.slice Ao11 t794.length co11) t794) ∧ Aside0 (Kd.R k79 79 wc w.heap.size (fun k_ => some k_ ≠ ((.slice Ao11 t794.length co11) : Value).ownBlock) (.slice Ao16 t801.length co16) t801) ∧ Aside0 (wc.heap[gb798]? = some (.cells #[.int .i64 t792, .int .i64 t793, (.slice Ao11 t794.length co11)] 38 (0, 0))) ∧ Aside0 (wc.heap[gb805]? = some (.cells #[.int .i64 t799, .int .i64 t800, (.slice Ao16 t801.length co16)] 38 (0, 0))) ∧ Aside0 (Below w.heap.size w wc))
    case first =>
      have H := HC7.out
      clear HC7
      replace H := Option.bind_eq_some_iff.mp H
      obtain ⟨t806, A170, H⟩ := H
      replace H : (if t806 = true then (laws_FnExactLeftBracket.j0 k a0 a1 a2 t797 (t804 != t797) t792 t793 t794 t799 t800 t801) else (laws_FnExactLeftBracket.j0 k a0 a1 a2 t797 true t792 t793 t794 t799 t800 t801)) = some r := H
      have A17 := Aside0.mk A170
      clear A170
      by_cases c18 : t806 = true
      · subst c18
        have H1 : (laws_FnExactLeftBracket.j0 k a0 a1 a2 t797 (t804 != t797) t792 t793 t794 t799 t800 t801) = some r := by rw [if_pos rfl] at H; exact H
        clear H
        have H := H1
        clear H1
        have H' := Aside0.mk H
        clear H
        have hnb19 := NB805_798.out
        have hnc19 := NB798_805.out
        have hcz20_0 : w13.cell? ⟨gb805, 0, none⟩ = some (.int .i64 0) := (blk_cell BK805.out 0).trans rfl
        have hcz20_1 : w13.cell? ⟨gb805, 1, none⟩ = some (.int .i64 0) := (blk_cell BK805.out 1).trans rfl
        have hcz20_2 : w13.cell? ⟨gb805, 2, none⟩ = some (.slice none 0 0) := (blk_cell BK805.out 2).trans rfl
        have hfz20_0 := blk_frozen BK805.out 0
        have hfz20_1 := blk_frozen BK805.out 1
        have hfz20_2 := blk_frozen BK805.out 2
        have hcz21_0 : w13.cell? ⟨gb798, 0, none⟩ = some (.int .i64 t792) := (blk_cell BK798.out 0).trans rfl
        have hcz21_1 : w13.cell? ⟨gb798, 1, none⟩ = some (.int .i64 t793) := (blk_cell BK798.out 1).trans rfl
        have hcz21_2 : w13.cell? ⟨gb798, 2, none⟩ = some (.slice Ao11 t794.length co11) := (blk_cell BK798.out 2).trans rfl
        have hfz21_0 := blk_frozen BK798.out 0
        have hfz21_1 := blk_frozen BK798.out 1
        have hfz21_2 := blk_frozen BK798.out 2
        go_wp2_with (first | ((with_reducible refine gate_callee (f := 33) rfl ?_); refine goesL_ (some 34) rfl rfl Try.func33 (by kernel_rfl) rfl #[.agg #[.int .i64 t799, .int .i64 t800, .slice Ao16 t801.length co16], .agg #[.int .i64 t792, .int .i64 t793, .slice Ao11 t794.length co11]] rfl (by (try simp only [List.map_toArray, List.map_cons, List.map_nil]); first | done | rfl | (simp only [List.length_drop, List.length_take]; rfl)) ?_; (with_reducible refine (laws_eqSeries.calls k t799 t800 _ _ t801 t792 t793 _ _ t794 true _ ?side1 ?side2 ?side3 ?side4 A17.out).mono ?_); (case side1 => refine (Kd.R_reads' (e := 79) (base := w.heap.size) (ok := fun k_ => (True ∧ some k_ ≠ (.slice Ao11 t794.length co11 : Value).ownBlock)) (n := t801.length) (c := co16) ?_).2.2; exact (by (with_reducible repeat (first | apply Kd.R_alloc | apply Kd.R_drewN | apply Kd.R_drew)); exact (Kd.R_mono (Kd.R_far (p := ⟨gb805, 2, none⟩) (Kd.R_far (p := ⟨gb805, 1, none⟩) (Kd.R_far (p := ⟨gb805, 0, none⟩) (Kd.R_types HO803.out BK805.out (by decide)) (fun _ hk => hk.2) (.int .i64 t799)) (fun _ hk => hk.2) (.int .i64 t800)) (fun _ hk => hk.2) (.slice Ao16 t801.length co16)) (fun _ h_ => h_.1)))); (case side2 => exact (Kd.R_reads' HO803.out).2.1); (case side3 => refine (Kd.R_reads' (e := 79) (base := w.heap.size) (ok := fun k_ => (True ∧ some k_ ≠ (.slice Ao16 t801.length co16 : Value).ownBlock)) (n := t794.length) (c := co11) ?_).2.2; exact (by (with_reducible repeat (first | apply Kd.R_alloc | apply Kd.R_drewN | apply Kd.R_drew)); exact (Kd.R_mono (Kd.R_far (p := ⟨gb805, 2, none⟩) (Kd.R_far (p := ⟨gb805, 1, none⟩) (Kd.R_far (p := ⟨gb805, 0, none⟩) (Kd.R_types HO796.out BK805.out (by decide)) (fun _ hk => hk.2) (.int .i64 t799)) (fun _ hk => hk.2) (.int .i64 t800)) (fun _ hk => hk.2) (.slice Ao16 t801.length co16)) (fun _ h_ => h_.1)))); (case side4 => exact (Kd.R_reads' HO796.out).2.1); rintro e w22 ⟨rfl, hb⟩; refine ⟨_, rfl, ?_⟩; have n0_ := Aside0.mk (Kd.R_below (by (with_reducible repeat (first | apply Kd.R_alloc | apply Kd.R_drewN | apply Kd.R_drew)); exact (Kd.R_mono (Kd.R_far (p := ⟨gb805, 2, none⟩) (Kd.R_far (p := ⟨gb805, 1, none⟩) (Kd.R_far (p := ⟨gb805, 0, none⟩) (Kd.R_types HO796.out BK805.out (by decide)) (fun _ hk => hk.2) (.int .i64 t799)) (fun _ hk => hk.2) (.int .i64 t800)) (fun _ hk => hk.2) (.slice Ao16 t801.length co16)) (fun _ h_ => h_.1))) hb); have n1_ := Aside0.mk (Kd.R_below (by (with_reducible repeat (first | apply Kd.R_alloc | apply Kd.R_drewN | apply Kd.R_drew)); exact (Kd.R_mono (Kd.R_far (p := ⟨gb805, 2, none⟩) (Kd.R_far (p := ⟨gb805, 1, none⟩) (Kd.R_far (p := ⟨gb805, 0, none⟩) (Kd.R_types HO803.out BK805.out (by decide)) (fun _ hk => hk.2) (.int .i64 t799)) (fun _ hk => hk.2) (.int .i64 t800)) (fun _ hk => hk.2) (.slice Ao16 t801.length co16)) (fun _ h_ => h_.1))) hb); have n2_ := Aside0.mk (blk_below (g := gb798) (o := .cells #[.int .i64 t792, .int .i64 t793, .slice Ao11 t794.length co11] 38 (0, 0)) (by (with_reducible repeat (first | refine blk_drewN ?_ _ | refine blk_drew ?_ | refine blk_alloc ?_ _)); refine blk_far ?_ NB798_805.out _; (with_reducible repeat (first | refine blk_drewN ?_ _ | refine blk_drew ?_ | refine blk_alloc ?_ _)); refine blk_far ?_ NB798_805.out _; (with_reducible repeat (first | refine blk_drewN ?_ _ | refine blk_drew ?_ | refine blk_alloc ?_ _)); refine blk_far ?_ NB798_805.out _; (with_reducible repeat (first | refine blk_drewN ?_ _ | refine blk_drew ?_ | refine blk_alloc ?_ _)); exact BK798.out) hb); have n3_ := Aside0.mk (blk_below (g := gb805) (o := .cells #[.int .i64 t799, .int .i64 t800, .slice Ao16 t801.length co16] 38 (0, 0)) (by (with_reducible repeat (first | refine blk_drewN ?_ _ | refine blk_drew ?_ | refine blk_alloc ?_ _)); refine blk_put (cs := #[.int .i64 t799, .int .i64 t800, .slice none 0 0]) ?_ 2 _ rfl; (with_reducible repeat (first | refine blk_drewN ?_ _ | refine blk_drew ?_ | refine blk_alloc ?_ _)); refine blk_put (cs := #[.int .i64 t799, .int .i64 0, .slice none 0 0]) ?_ 1 _ rfl; (with_reducible repeat (first | refine blk_drewN ?_ _ | refine blk_drew ?_ | refine blk_alloc ?_ _)); refine blk_put (cs := #[.int .i64 0, .int .i64 0, .slice none 0 0]) ?_ 0 _ rfl; (with_reducible repeat (first | refine blk_drewN ?_ _ | refine blk_drew ?_ | refine blk_alloc ?_ _)); exact BK805.out) hb); have n4_ := Aside0.mk (below_step (by repeat (first | (with_reducible first | exact HB.out | apply below_alloc | apply pw_below_drewN | apply below_drew1 | refine below_set ?_ GE798.out | refine below_set ?_ GE805.out) | exact HB.out)) hb); clear HO796; clear HO803; clear BK798; clear BK805; clear HB; have HO796 := n0_; have HO803 := n1_; have BK798 := n2_; have BK805 := n3_; have HB := n4_; clear n0_ n1_ n2_ n3_ n4_; (try clear hb); (try clear hb2); (try clear hk); (try clear hi)))
        go_meet
        case rel => exact ⟨_, ((t804 != t797)), (by first | rfl | (simp; done) | (simp [*]; done)), H', ⟨by first | omega | exact Nat.le_refl _⟩, ⟨by (with_reducible repeat (first | apply Kd.R_alloc | apply Kd.R_drewN | apply Kd.R_drew)); exact Kd.R_mono HO796.out (fun _ hk => hk.2)⟩, ⟨by (with_reducible repeat (first | apply Kd.R_alloc | apply Kd.R_drewN | apply Kd.R_drew)); exact Kd.R_mono HO803.out (fun _ hk => hk.2)⟩, ⟨by (with_reducible repeat (first | refine blk_drewN ?_ _ | refine blk_drew ?_ | refine blk_alloc ?_ _)); exact BK798.out⟩, ⟨by (with_reducible repeat (first | refine blk_drewN ?_ _ | refine blk_drew ?_ | refine blk_alloc ?_ _)); exact BK805.out⟩, ⟨by repeat (first | (with_reducible first | exact HB.out | apply below_alloc | apply pw_below_drewN | apply below_drew1 | refine below_set ?_ GE798.out | refine below_set ?_ GE805.out) | exact HB.out)⟩⟩
      · replace c18 := Bool.eq_false_iff.mpr c18
        subst c18
        have H1 : (laws_FnExactLeftBracket.j0 k a0 a1 a2 t797 true t792 t793 t794 t799 t800 t801) = some r := by rw [if_neg (show ¬ (false = true) by decide)] at H; exact H
        clear H
        have H := H1
        clear H1
        have H' := Aside0.mk H
        clear H
        have hnb23 := NB805_798.out
        have hnc23 := NB798_805.out
        have hcz24_0 : w13.cell? ⟨gb805, 0, none⟩ = some (.int .i64 0) := (blk_cell BK805.out 0).trans rfl
        have hcz24_1 : w13.cell? ⟨gb805, 1, none⟩ = some (.int .i64 0) := (blk_cell BK805.out 1).trans rfl
        have hcz24_2 : w13.cell? ⟨gb805, 2, none⟩ = some (.slice none 0 0) := (blk_cell BK805.out 2).trans rfl
        have hfz24_0 := blk_frozen BK805.out 0
        have hfz24_1 := blk_frozen BK805.out 1
        have hfz24_2 := blk_frozen BK805.out 2
        have hcz25_0 : w13.cell? ⟨gb798, 0, none⟩ = some (.int .i64 t792) := (blk_cell BK798.out 0).trans rfl
        have hcz25_1 : w13.cell? ⟨gb798, 1, none⟩ = some (.int .i64 t793) := (blk_cell BK798.out 1).trans rfl
        have hcz25_2 : w13.cell? ⟨gb798, 2, none⟩ = some (.slice Ao11 t794.length co11) := (blk_cell BK798.out 2).trans rfl
        have hfz25_0 := blk_frozen BK798.out 0
        have hfz25_1 := blk_frozen BK798.out 1
        have hfz25_2 := blk_frozen BK798.out 2
        go_wp2_with (first | ((with_reducible refine gate_callee (f := 33) rfl ?_); refine goesL_ (some 34) rfl rfl Try.func33 (by kernel_rfl) rfl #[.agg #[.int .i64 t799, .int .i64 t800, .slice Ao16 t801.length co16], .agg #[.int .i64 t792, .int .i64 t793, .slice Ao11 t794.length co11]] rfl (by (try simp only [List.map_toArray, List.map_cons, List.map_nil]); first | done | rfl | (simp only [List.length_drop, List.length_take]; rfl)) ?_; (with_reducible refine (laws_eqSeries.calls k t799 t800 _ _ t801 t792 t793 _ _ t794 false _ ?side1 ?side2 ?side3 ?side4 A17.out).mono ?_); (case side1 => refine (Kd.R_reads' (e := 79) (base := w.heap.size) (ok := fun k_ => (True ∧ some k_ ≠ (.slice Ao11 t794.length co11 : Value).ownBlock)) (n := t801.length) (c := co16) ?_).2.2; exact (by (with_reducible repeat (first | apply Kd.R_alloc | apply Kd.R_drewN | apply Kd.R_drew)); exact (Kd.R_mono (Kd.R_far (p := ⟨gb805, 2, none⟩) (Kd.R_far (p := ⟨gb805, 1, none⟩) (Kd.R_far (p := ⟨gb805, 0, none⟩) (Kd.R_types HO803.out BK805.out (by decide)) (fun _ hk => hk.2) (.int .i64 t799)) (fun _ hk => hk.2) (.int .i64 t800)) (fun _ hk => hk.2) (.slice Ao16 t801.length co16)) (fun _ h_ => h_.1)))); (case side2 => exact (Kd.R_reads' HO803.out).2.1); (case side3 => refine (Kd.R_reads' (e := 79) (base := w.heap.size) (ok := fun k_ => (True ∧ some k_ ≠ (.slice Ao16 t801.length co16 : Value).ownBlock)) (n := t794.length) (c := co11) ?_).2.2; exact (by (with_reducible repeat (first | apply Kd.R_alloc | apply Kd.R_drewN | apply Kd.R_drew)); exact (Kd.R_mono (Kd.R_far (p := ⟨gb805, 2, none⟩) (Kd.R_far (p := ⟨gb805, 1, none⟩) (Kd.R_far (p := ⟨gb805, 0, none⟩) (Kd.R_types HO796.out BK805.out (by decide)) (fun _ hk => hk.2) (.int .i64 t799)) (fun _ hk => hk.2) (.int .i64 t800)) (fun _ hk => hk.2) (.slice Ao16 t801.length co16)) (fun _ h_ => h_.1)))); (case side4 => exact (Kd.R_reads' HO796.out).2.1); rintro e w26 ⟨rfl, hb⟩; refine ⟨_, rfl, ?_⟩; have n0_ := Aside0.mk (Kd.R_below (by (with_reducible repeat (first | apply Kd.R_alloc | apply Kd.R_drewN | apply Kd.R_drew)); exact (Kd.R_mono (Kd.R_far (p := ⟨gb805, 2, none⟩) (Kd.R_far (p := ⟨gb805, 1, none⟩) (Kd.R_far (p := ⟨gb805, 0, none⟩) (Kd.R_types HO796.out BK805.out (by decide)) (fun _ hk => hk.2) (.int .i64 t799)) (fun _ hk => hk.2) (.int .i64 t800)) (fun _ hk => hk.2) (.slice Ao16 t801.length co16)) (fun _ h_ => h_.1))) hb); have n1_ := Aside0.mk (Kd.R_below (by (with_reducible repeat (first | apply Kd.R_alloc | apply Kd.R_drewN | apply Kd.R_drew)); exact (Kd.R_mono (Kd.R_far (p := ⟨gb805, 2, none⟩) (Kd.R_far (p := ⟨gb805, 1, none⟩) (Kd.R_far (p := ⟨gb805, 0, none⟩) (Kd.R_types HO803.out BK805.out (by decide)) (fun _ hk => hk.2) (.int .i64 t799)) (fun _ hk => hk.2) (.int .i64 t800)) (fun _ hk => hk.2) (.slice Ao16 t801.length co16)) (fun _ h_ => h_.1))) hb); have n2_ := Aside0.mk (blk_below (g := gb798) (o := .cells #[.int .i64 t792, .int .i64 t793, .slice Ao11 t794.length co11] 38 (0, 0)) (by (with_reducible repeat (first | refine blk_drewN ?_ _ | refine blk_drew ?_ | refine blk_alloc ?_ _)); refine blk_far ?_ NB798_805.out _; (with_reducible repeat (first | refine blk_drewN ?_ _ | refine blk_drew ?_ | refine blk_alloc ?_ _)); refine blk_far ?_ NB798_805.out _; (with_reducible repeat (first | refine blk_drewN ?_ _ | refine blk_drew ?_ | refine blk_alloc ?_ _)); refine blk_far ?_ NB798_805.out _; (with_reducible repeat (first | refine blk_drewN ?_ _ | refine blk_drew ?_ | refine blk_alloc ?_ _)); exact BK798.out) hb); have n3_ := Aside0.mk (blk_below (g := gb805) (o := .cells #[.int .i64 t799, .int .i64 t800, .slice Ao16 t801.length co16] 38 (0, 0)) (by (with_reducible repeat (first | refine blk_drewN ?_ _ | refine blk_drew ?_ | refine blk_alloc ?_ _)); refine blk_put (cs := #[.int .i64 t799, .int .i64 t800, .slice none 0 0]) ?_ 2 _ rfl; (with_reducible repeat (first | refine blk_drewN ?_ _ | refine blk_drew ?_ | refine blk_alloc ?_ _)); refine blk_put (cs := #[.int .i64 t799, .int .i64 0, .slice none 0 0]) ?_ 1 _ rfl; (with_reducible repeat (first | refine blk_drewN ?_ _ | refine blk_drew ?_ | refine blk_alloc ?_ _)); refine blk_put (cs := #[.int .i64 0, .int .i64 0, .slice none 0 0]) ?_ 0 _ rfl; (with_reducible repeat (first | refine blk_drewN ?_ _ | refine blk_drew ?_ | refine blk_alloc ?_ _)); exact BK805.out) hb); have n4_ := Aside0.mk (below_step (by repeat (first | (with_reducible first | exact HB.out | apply below_alloc | apply pw_below_drewN | apply below_drew1 | refine below_set ?_ GE798.out | refine below_set ?_ GE805.out) | exact HB.out)) hb); clear HO796; clear HO803; clear BK798; clear BK805; clear HB; have HO796 := n0_; have HO803 := n1_; have BK798 := n2_; have BK805 := n3_; have HB := n4_; clear n0_ n1_ n2_ n3_ n4_; (try clear hb); (try clear hb2); (try clear hk); (try clear hi)))
        go_meet
        case rel => exact ⟨_, (true), (by first | rfl | (simp; done) | (simp [*]; done)), H', ⟨by first | omega | exact Nat.le_refl _⟩, ⟨by (with_reducible repeat (first | apply Kd.R_alloc | apply Kd.R_drewN | apply Kd.R_drew)); exact Kd.R_mono HO796.out (fun _ hk => hk.2)⟩, ⟨by (with_reducible repeat (first | apply Kd.R_alloc | apply Kd.R_drewN | apply Kd.R_drew)); exact Kd.R_mono HO803.out (fun _ hk => hk.2)⟩, ⟨by (with_reducible repeat (first | refine blk_drewN ?_ _ | refine blk_drew ?_ | refine blk_alloc ?_ _)); exact BK798.out⟩, ⟨by (with_reducible repeat (first | refine blk_drewN ?_ _ | refine blk_drew ?_ | refine blk_alloc ?_ _)); exact BK805.out⟩, ⟨by repeat (first | (with_reducible first | exact HB.out | apply below_alloc | apply pw_below_drewN | apply below_drew1 | refine below_set ?_ GE798.out | refine below_set ?_ GE805.out) | exact HB.out)⟩⟩
    case rest =>
      clear HC7
      try clear c1
      try clear c2
      try clear p2
      try clear c3
      try clear c4
      try clear c4b0
      try clear c4b1
      try clear c7
      try clear c14
      try clear c18
      try clear c19
      try clear c23
      try clear hcz10_0
      try clear hcz10_1
      try clear hcz10_2
      try clear hcz15_0
      try clear hcz15_1
      try clear hcz15_2
      try clear hcz20_0
      try clear hcz20_1
      try clear hcz20_2
      try clear hcz21_0
      try clear hcz21_1
      try clear hcz21_2
      try clear hcz24_0
      try clear hcz24_1
      try clear hcz24_2
      try clear hcz25_0
      try clear hcz25_1
      try clear hcz25_2
      try clear hfz10_0
      try clear hfz10_1
      try clear hfz10_2
      try clear hfz15_0
      try clear hfz15_1
      try clear hfz15_2
      try clear hfz20_0
      try clear hfz20_1
      try clear hfz20_2
      try clear hfz21_0
      try clear hfz21_1
      try clear hfz21_2
      try clear hfz24_0
      try clear hfz24_1
      try clear hfz24_2
      try clear hfz25_0
      try clear hfz25_1
      try clear hfz25_2
      obtain ⟨kq, x40_6, rfl, HA, HJ6, HO_799002, HO_806002, BK798, BK805, HB⟩ := hcut
      cases kq with
      | zero => exact absurd HA.out (by simp [laws_FnExactLeftBracket.j0])
      | succ kj6 =>
        have H := HA.out
        clear HA
        simp only [laws_FnExactLeftBracket.j0] at H
        by_cases c27 : x40_6 = true
        · subst c27
          have H1 : (some false) = some r := by rw [if_pos rfl] at H; exact H
          clear H
          have H := H1
          clear H1
          obtain rfl := Option.some.inj H
          go_wp2
          go_ret
          exact ⟨by first | rfl | (simp [errW_none, errW_some] <;> rfl) | (simp [*, errW_none, errW_some] <;> rfl), by repeat (first | (with_reducible first | exact HB.out | apply below_alloc | apply pw_below_drewN | apply below_drew1 | refine below_set ?_ GE798.out | refine below_set ?_ GE805.out) | exact HB.out)⟩
        · replace c27 := Bool.eq_false_iff.mpr c27
          subst c27
          have H1 : ((laws_markSeries.f kj6 t799 t800 t801 1).bind fun bt807 => ((laws_heldSeries.f kj6 t799 t800 bt807.2 1).bind fun t809 => (if t809 < 0 then (some false) else (if t809 = bt807.1 then ((impl_LeftBracket.f a0 a1 a2).bind fun bt810 => ((laws_eqSeries.f kj6 bt810.1 bt810.2.1 bt810.2.2.1 t792 t793 t794).bind fun t817 => (if t817 = true then (laws_FnExactLeftBracket.j1 kj6 bt807.1 (bt810.2.2.2 != t797) t799 t800 bt807.2) else (laws_FnExactLeftBracket.j1 kj6 bt807.1 true t799 t800 bt807.2)))) else (some false))))) = some r := by rw [if_neg (show ¬ (false = true) by decide)] at H; exact H
          clear H
          have H := H1
          clear H1
          replace H := Option.bind_eq_some_iff.mp H
          obtain ⟨⟨t807, t808⟩, A280, H⟩ := H
          replace H : ((laws_heldSeries.f kj6 t799 t800 t808 1).bind fun t809 => (if t809 < 0 then (some false) else (if t809 = t807 then ((impl_LeftBracket.f a0 a1 a2).bind fun bt810 => ((laws_eqSeries.f kj6 bt810.1 bt810.2.1 bt810.2.2.1 t792 t793 t794).bind fun t817 => (if t817 = true then (laws_FnExactLeftBracket.j1 kj6 t807 (bt810.2.2.2 != t797) t799 t800 t808) else (laws_FnExactLeftBracket.j1 kj6 t807 true t799 t800 t808)))) else (some false)))) = some r := H
          have A28 := Aside0.mk A280
          clear A280
          replace H := Option.bind_eq_some_iff.mp H
          obtain ⟨t809, A290, H⟩ := H
          replace H : (if t809 < 0 then (some false) else (if t809 = t807 then ((impl_LeftBracket.f a0 a1 a2).bind fun bt810 => ((laws_eqSeries.f kj6 bt810.1 bt810.2.1 bt810.2.2.1 t792 t793 t794).bind fun t817 => (if t817 = true then (laws_FnExactLeftBracket.j1 kj6 t807 (bt810.2.2.2 != t797) t799 t800 t808) else (laws_FnExactLeftBracket.j1 kj6 t807 true t799 t800 t808)))) else (some false))) = some r := H
          have A29 := Aside0.mk A290
          clear A290
          by_cases c30 : t809 < 0
          · rw [if_pos c30] at H
            have c30b0 : decide (t809 < 0) = true := decide_eq_true c30
            clear c30
            obtain rfl := Option.some.inj H
            have hnb31 := NB805_798.out
            have hnc31 := NB798_805.out
            have hcz32_0 : wc.cell? ⟨gb805, 0, none⟩ = some (.int .i64 t799) := (blk_cell BK805.out 0).trans rfl
            have hcz32_1 : wc.cell? ⟨gb805, 1, none⟩ = some (.int .i64 t800) := (blk_cell BK805.out 1).trans rfl
            have hcz32_2 : wc.cell? ⟨gb805, 2, none⟩ = some (.slice Ao16 t801.length co16) := (blk_cell BK805.out 2).trans rfl
            have hfz32_0 := blk_frozen BK805.out 0
            have hfz32_1 := blk_frozen BK805.out 1
            have hfz32_2 := blk_frozen BK805.out 2
            go_wp2_with (first | ((with_reducible refine gate_callee (f := 34) rfl ?_); refine goesL_ (some 43) rfl rfl Try.func34 (by kernel_rfl) rfl #[.agg #[.int .i64 t799, .int .i64 t800, .slice Ao16 t801.length co16], .int .i64 1] rfl (by (try simp only [List.map_toArray, List.map_cons, List.map_nil]); first | done | rfl | (simp only [List.length_drop, List.length_take]; rfl)) ?_; (with_reducible refine (laws_markSeries.calls kj6 t799 t800 (fun k_ => some k_ = (.slice Ao16 t801.length co16 : Value).ownBlock) (.slice Ao16 t801.length co16) t801 1 t807 t808 w _ ?side1 ?side2 A28.out).mono ?_); (case side1 => repeat (first | (with_reducible first | exact HB.out | apply below_alloc | apply pw_below_drewN | apply below_drew1 | refine below_set ?_ GE798.out | refine below_set ?_ GE805.out) | exact HB.out)); (case side2 => exact Kd.R_tight rfl HO_806002.out); rintro e w33 ⟨rfl, hy0, hb, hkp⟩; refine ⟨_, rfl, ?_⟩; have n0_ := Aside0.mk (Kd.R_mono (ok' := fun k_ => some k_ ≠ (.slice Ao16 t801.length co16 : Value).ownBlock) (Kd.R_keptB (HO_799002.out) hkp (fun k_ hk_ hs_ => (hk_) hs_)) (fun k_ hk_ => hk_.1)); have n1_ := Aside0.mk (Kd.R_reok rfl hy0 (fun k_ e_ => HO_806002.out.1 k_ e_)); have n2_ := Aside0.mk (blk_kept (by (with_reducible repeat (first | refine blk_drewN ?_ _ | refine blk_drew ?_ | refine blk_alloc ?_ _)); exact BK798.out) hkp (fun hs_ => (fun e_ => (Kd.R_ne HO_806002.out BK798.out (by decide)) e_) hs_)); have n3_ := Aside0.mk (blk_kept (by (with_reducible repeat (first | refine blk_drewN ?_ _ | refine blk_drew ?_ | refine blk_alloc ?_ _)); exact BK805.out) hkp (fun hs_ => (fun e_ => (Kd.R_ne HO_806002.out BK805.out (by decide)) e_) hs_)); have n4_ := Aside0.mk (hb); clear HO_799002; clear HO_806002; clear BK798; clear BK805; clear HB; have HO_799002 := n0_; have HO_806002 := n1_; have BK798 := n2_; have BK805 := n3_; have HB := n4_; clear n0_ n1_ n2_ n3_ n4_; (try clear hb); (try clear hkp); (try clear hy0); have hcz34_0 : w33.cell? ⟨gb805, 0, none⟩ = some (.int .i64 t799) := (blk_cell BK805.out 0).trans rfl; have hcz34_1 : w33.cell? ⟨gb805, 1, none⟩ = some (.int .i64 t800) := (blk_cell BK805.out 1).trans rfl; have hcz34_2 : w33.cell? ⟨gb805, 2, none⟩ = some (.slice Ao16 t801.length co16) := (blk_cell BK805.out 2).trans rfl; have hfz34_0 := blk_frozen BK805.out 0; have hfz34_1 := blk_frozen BK805.out 1; have hfz34_2 := blk_frozen BK805.out 2) | ((with_reducible refine gate_callee (f := 39) rfl ?_); refine goesL_ (some 46) rfl rfl Try.func39 (by kernel_rfl) rfl #[.agg #[.int .i64 t799, .int .i64 t800, .slice Ao16 t808.length co16], .int .i64 1] rfl (by (try simp only [List.map_toArray, List.map_cons, List.map_nil]); first | done | (rw [show t808.length = t801.length from (Kd.R_reads' HO_806002.out).1.symm] <;> rfl) | rfl | (simp only [List.length_drop, List.length_take]; rfl)) ?_; (with_reducible refine (laws_heldSeries.calls kj6 t799 t800 _ _ t808 1 t809 _ ?side1 ?side2 A29.out).mono ?_); (case side1 => repeat (first | exact (Kd.R_reads' HO_806002.out).2.2 | (with_reducible refine Kd.C_alloc ?_ _) | (with_reducible refine Kd.C_drewN ?_ _) | (with_reducible refine Kd.C_drew ?_))); (case side2 => rw [show t808.length = t801.length from (Kd.R_reads' HO_806002.out).1.symm]; exact (Kd.R_reads' HO_806002.out).2.1); rintro e w35 ⟨rfl, hb⟩; refine ⟨_, rfl, ?_⟩; have n0_ := Aside0.mk (Kd.R_below (by (with_reducible repeat (first | apply Kd.R_alloc | apply Kd.R_drewN | apply Kd.R_drew)); exact HO_799002.out) hb); have n1_ := Aside0.mk (Kd.R_below (by (with_reducible repeat (first | apply Kd.R_alloc | apply Kd.R_drewN | apply Kd.R_drew)); exact HO_806002.out) hb); have n2_ := Aside0.mk (blk_below (g := gb798) (o := .cells #[.int .i64 t792, .int .i64 t793, .slice Ao11 t794.length co11] 38 (0, 0)) (by (with_reducible repeat (first | refine blk_drewN ?_ _ | refine blk_drew ?_ | refine blk_alloc ?_ _)); exact BK798.out) hb); have n3_ := Aside0.mk (blk_below (g := gb805) (o := .cells #[.int .i64 t799, .int .i64 t800, .slice Ao16 t801.length co16] 38 (0, 0)) (by (with_reducible repeat (first | refine blk_drewN ?_ _ | refine blk_drew ?_ | refine blk_alloc ?_ _)); exact BK805.out) hb); have n4_ := Aside0.mk (below_step (by repeat (first | (with_reducible first | exact HB.out | apply below_alloc | apply pw_below_drewN | apply below_drew1 | refine below_set ?_ GE798.out | refine below_set ?_ GE805.out) | exact HB.out)) hb); clear HO_799002; clear HO_806002; clear BK798; clear BK805; clear HB; have HO_799002 := n0_; have HO_806002 := n1_; have BK798 := n2_; have BK805 := n3_; have HB := n4_; clear n0_ n1_ n2_ n3_ n4_; (try clear hb); (try clear hb2); (try clear hk); (try clear hi)))
            go_ret
            exact ⟨by first | rfl | (simp [errW_none, errW_some] <;> rfl) | (simp [*, errW_none, errW_some] <;> rfl), by repeat (first | (with_reducible first | exact HB.out | apply below_alloc | apply pw_below_drewN | apply below_drew1 | refine below_set ?_ GE798.out | refine below_set ?_ GE805.out) | exact HB.out)⟩
          · rw [if_neg c30] at H
            have c30b0 : decide (t809 < 0) = false := decide_eq_false c30
            clear c30
            by_cases c36 : t809 = t807
            · rw [if_pos c36] at H
              have c36b0 : (t809 == t807) = true := beq_iff_eq.mpr c36
              have c36b1 : (t809 != t807) = false := bne_eq_false_iff_eq.mpr c36
              clear c36
              replace H := Option.bind_eq_some_iff.mp H
              obtain ⟨⟨t810, t811, t812, t815⟩, A370, H⟩ := H
              replace H : ((laws_eqSeries.f kj6 t810 t811 t812 t792 t793 t794).bind fun t817 => (if t817 = true then (laws_FnExactLeftBracket.j1 kj6 t807 (t815 != t797) t799 t800 t808) else (laws_FnExactLeftBracket.j1 kj6 t807 true t799 t800 t808))) = some r := H
              have A37 := Aside0.mk A370
              clear A370
              have HC38 := Aside0.mk H
              clear H
              have hnb39 := NB805_798.out
              have hnc39 := NB798_805.out
              have hcz40_0 : wc.cell? ⟨gb805, 0, none⟩ = some (.int .i64 t799) := (blk_cell BK805.out 0).trans rfl
              have hcz40_1 : wc.cell? ⟨gb805, 1, none⟩ = some (.int .i64 t800) := (blk_cell BK805.out 1).trans rfl
              have hcz40_2 : wc.cell? ⟨gb805, 2, none⟩ = some (.slice Ao16 t801.length co16) := (blk_cell BK805.out 2).trans rfl
              have hfz40_0 := blk_frozen BK805.out 0
              have hfz40_1 := blk_frozen BK805.out 1
              have hfz40_2 := blk_frozen BK805.out 2
              go_upto_region 16 with (first | ((with_reducible refine gate_callee (f := 34) rfl ?_); refine goesL_ (some 43) rfl rfl Try.func34 (by kernel_rfl) rfl #[.agg #[.int .i64 t799, .int .i64 t800, .slice Ao16 t801.length co16], .int .i64 1] rfl (by (try simp only [List.map_toArray, List.map_cons, List.map_nil]); first | done | rfl | (simp only [List.length_drop, List.length_take]; rfl)) ?_; (with_reducible refine (laws_markSeries.calls kj6 t799 t800 (fun k_ => some k_ = (.slice Ao16 t801.length co16 : Value).ownBlock) (.slice Ao16 t801.length co16) t801 1 t807 t808 w _ ?side1 ?side2 A28.out).mono ?_); (case side1 => repeat (first | (with_reducible first | exact HB.out | apply below_alloc | apply pw_below_drewN | apply below_drew1 | refine below_set ?_ GE798.out | refine below_set ?_ GE805.out) | exact HB.out)); (case side2 => exact Kd.R_tight rfl HO_806002.out); rintro e w41 ⟨rfl, hy0, hb, hkp⟩; refine ⟨_, rfl, ?_⟩; have n0_ := Aside0.mk (Kd.R_mono (ok' := fun k_ => some k_ ≠ (.slice Ao16 t801.length co16 : Value).ownBlock) (Kd.R_keptB (HO_799002.out) hkp (fun k_ hk_ hs_ => (hk_) hs_)) (fun k_ hk_ => hk_.1)); have n1_ := Aside0.mk (Kd.R_reok rfl hy0 (fun k_ e_ => HO_806002.out.1 k_ e_)); have n2_ := Aside0.mk (blk_kept (by (with_reducible repeat (first | refine blk_drewN ?_ _ | refine blk_drew ?_ | refine blk_alloc ?_ _)); exact BK798.out) hkp (fun hs_ => (fun e_ => (Kd.R_ne HO_806002.out BK798.out (by decide)) e_) hs_)); have n3_ := Aside0.mk (blk_kept (by (with_reducible repeat (first | refine blk_drewN ?_ _ | refine blk_drew ?_ | refine blk_alloc ?_ _)); exact BK805.out) hkp (fun hs_ => (fun e_ => (Kd.R_ne HO_806002.out BK805.out (by decide)) e_) hs_)); have n4_ := Aside0.mk (hb); clear HO_799002; clear HO_806002; clear BK798; clear BK805; clear HB; have HO_799002 := n0_; have HO_806002 := n1_; have BK798 := n2_; have BK805 := n3_; have HB := n4_; clear n0_ n1_ n2_ n3_ n4_; (try clear hb); (try clear hkp); (try clear hy0); have hcz42_0 : w41.cell? ⟨gb805, 0, none⟩ = some (.int .i64 t799) := (blk_cell BK805.out 0).trans rfl; have hcz42_1 : w41.cell? ⟨gb805, 1, none⟩ = some (.int .i64 t800) := (blk_cell BK805.out 1).trans rfl; have hcz42_2 : w41.cell? ⟨gb805, 2, none⟩ = some (.slice Ao16 t801.length co16) := (blk_cell BK805.out 2).trans rfl; have hfz42_0 := blk_frozen BK805.out 0; have hfz42_1 := blk_frozen BK805.out 1; have hfz42_2 := blk_frozen BK805.out 2) | ((with_reducible refine gate_callee (f := 39) rfl ?_); refine goesL_ (some 46) rfl rfl Try.func39 (by kernel_rfl) rfl #[.agg #[.int .i64 t799, .int .i64 t800, .slice Ao16 t808.length co16], .int .i64 1] rfl (by (try simp only [List.map_toArray, List.map_cons, List.map_nil]); first | done | (rw [show t808.length = t801.length from (Kd.R_reads' HO_806002.out).1.symm] <;> rfl) | rfl | (simp only [List.length_drop, List.length_take]; rfl)) ?_; (with_reducible refine (laws_heldSeries.calls kj6 t799 t800 _ _ t808 1 t809 _ ?side1 ?side2 A29.out).mono ?_); (case side1 => repeat (first | exact (Kd.R_reads' HO_806002.out).2.2 | (with_reducible refine Kd.C_alloc ?_ _) | (with_reducible refine Kd.C_drewN ?_ _) | (with_reducible refine Kd.C_drew ?_))); (case side2 => rw [show t808.length = t801.length from (Kd.R_reads' HO_806002.out).1.symm]; exact (Kd.R_reads' HO_806002.out).2.1); rintro e w43 ⟨rfl, hb⟩; refine ⟨_, rfl, ?_⟩; have n0_ := Aside0.mk (Kd.R_below (by (with_reducible repeat (first | apply Kd.R_alloc | apply Kd.R_drewN | apply Kd.R_drew)); exact HO_799002.out) hb); have n1_ := Aside0.mk (Kd.R_below (by (with_reducible repeat (first | apply Kd.R_alloc | apply Kd.R_drewN | apply Kd.R_drew)); exact HO_806002.out) hb); have n2_ := Aside0.mk (blk_below (g := gb798) (o := .cells #[.int .i64 t792, .int .i64 t793, .slice Ao11 t794.length co11] 38 (0, 0)) (by (with_reducible repeat (first | refine blk_drewN ?_ _ | refine blk_drew ?_ | refine blk_alloc ?_ _)); exact BK798.out) hb); have n3_ := Aside0.mk (blk_below (g := gb805) (o := .cells #[.int .i64 t799, .int .i64 t800, .slice Ao16 t801.length co16] 38 (0, 0)) (by (with_reducible repeat (first | refine blk_drewN ?_ _ | refine blk_drew ?_ | refine blk_alloc ?_ _)); exact BK805.out) hb); have n4_ := Aside0.mk (below_step (by repeat (first | (with_reducible first | exact HB.out | apply below_alloc | apply pw_below_drewN | apply below_drew1 | refine below_set ?_ GE798.out | refine below_set ?_ GE805.out) | exact HB.out)) hb); clear HO_799002; clear HO_806002; clear BK798; clear BK805; clear HB; have HO_799002 := n0_; have HO_806002 := n1_; have BK798 := n2_; have BK805 := n3_; have HB := n4_; clear n0_ n1_ n2_ n3_ n4_; (try clear hb); (try clear hb2); (try clear hk); (try clear hi)) | ((with_reducible refine gate_callee (f := 43) rfl ?_); refine goesL_ (some 56) rfl rfl Try.func43 (by kernel_rfl) rfl #[.int .i64 a0, .int .i64 a1, .string a2] rfl (by (try simp only [List.map_toArray, List.map_cons, List.map_nil]); first | done | rfl | (simp only [List.length_drop, List.length_take]; rfl)) ?_; (with_reducible refine (impl_LeftBracket.calls a0 a1 a2 t810 t811 t812 t815 _ A37.out).mono ?_); rintro e w44 ⟨v813, rfl, ho0, hb⟩; refine ⟨_, rfl, ?_⟩; have n0_ := Aside0.mk (Kd.R_elder' (by (with_reducible repeat (first | apply Kd.R_alloc | apply Kd.R_drewN | apply Kd.R_drew)); exact HO_799002.out) (Kd.R_base ho0) hb); have n1_ := Aside0.mk (Kd.R_elder' (by (with_reducible repeat (first | apply Kd.R_alloc | apply Kd.R_drewN | apply Kd.R_drew)); exact HO_806002.out) (Kd.R_base ho0) hb); have n2_ := Aside0.mk (Kd.R_lower (Kd.R_new' (Kd.R_new' ho0 (Kd.R_lt (by (with_reducible repeat (first | apply Kd.R_alloc | apply Kd.R_drewN | apply Kd.R_drew)); exact HO_799002.out))) (Kd.R_lt (by (with_reducible repeat (first | apply Kd.R_alloc | apply Kd.R_drewN | apply Kd.R_drew)); exact HO_806002.out))) (below_size (by repeat (first | (with_reducible first | exact HB.out | apply below_alloc | apply pw_below_drewN | apply below_drew1 | refine below_set ?_ GE798.out | refine below_set ?_ GE805.out) | exact HB.out)))); have n3_ := Aside0.mk (blk_below (g := gb798) (o := .cells #[.int .i64 t792, .int .i64 t793, .slice Ao11 t794.length co11] 38 (0, 0)) (by (with_reducible repeat (first | refine blk_drewN ?_ _ | refine blk_drew ?_ | refine blk_alloc ?_ _)); exact BK798.out) hb); have n4_ := Aside0.mk (blk_below (g := gb805) (o := .cells #[.int .i64 t799, .int .i64 t800, .slice Ao16 t801.length co16] 38 (0, 0)) (by (with_reducible repeat (first | refine blk_drewN ?_ _ | refine blk_drew ?_ | refine blk_alloc ?_ _)); exact BK805.out) hb); have n5_ := Aside0.mk (below_step (by repeat (first | (with_reducible first | exact HB.out | apply below_alloc | apply pw_below_drewN | apply below_drew1 | refine below_set ?_ GE798.out | refine below_set ?_ GE805.out) | exact HB.out)) hb); clear HO_799002; clear HO_806002; clear BK798; clear BK805; clear HB; have HO_799002 := n0_; have HO_806002 := n1_; have HO814 := n2_; have BK798 := n3_; have BK805 := n4_; have HB := n5_; clear n0_ n1_ n2_ n3_ n4_ n5_; (try clear hb); (try clear hb2); (try clear hk); (try clear hi); (try clear ho0)) | ((with_reducible refine gate_dst (N := 13) rfl ?_); refine box_event ?hg (N := 13) ?hd (cs := #[.int .i64 0, .int .i64 0, .slice none 0 0]) (t := 38) ?hr ?_; (case hd => rfl); (case hg => rfl); (case hr => first | (go_simp; done) | (go_simp; rfl)); intro gb816 hg w45 hbox hb; have n0_ := Aside0.mk (Kd.R_below (by (with_reducible repeat (first | apply Kd.R_alloc | apply Kd.R_drewN | apply Kd.R_drew)); exact HO_799002.out) hb); have n1_ := Aside0.mk (Kd.R_below (by (with_reducible repeat (first | apply Kd.R_alloc | apply Kd.R_drewN | apply Kd.R_drew)); exact HO_806002.out) hb); have n2_ := Aside0.mk (Kd.R_below (by (with_reducible repeat (first | apply Kd.R_alloc | apply Kd.R_drewN | apply Kd.R_drew)); exact HO814.out) hb); have n3_ := Aside0.mk (blk_below (g := gb798) (o := .cells #[.int .i64 t792, .int .i64 t793, .slice Ao11 t794.length co11] 38 (0, 0)) (by (with_reducible repeat (first | refine blk_drewN ?_ _ | refine blk_drew ?_ | refine blk_alloc ?_ _)); exact BK798.out) hb); have n4_ := Aside0.mk (blk_below (g := gb805) (o := .cells #[.int .i64 t799, .int .i64 t800, .slice Ao16 t801.length co16] 38 (0, 0)) (by (with_reducible repeat (first | refine blk_drewN ?_ _ | refine blk_drew ?_ | refine blk_alloc ?_ _)); exact BK805.out) hb); have n5_ := Aside0.mk (below_step (by repeat (first | (with_reducible first | exact HB.out | apply below_alloc | apply pw_below_drewN | apply below_drew1 | refine below_set ?_ GE798.out | refine below_set ?_ GE805.out) | exact HB.out)) hb); have n6_ := Aside0.mk (hbox); have n7_ := Aside0.mk ((by rw [hg]; exact (below_size (by repeat (first | (with_reducible first | exact HB.out | apply below_alloc | apply pw_below_drewN | apply below_drew1 | refine below_set ?_ GE798.out | refine below_set ?_ GE805.out) | exact HB.out))) : w.heap.size ≤ gb816)); have n8_ := Aside0.mk ((by rw [hg]; exact (below_size (by repeat (first | (with_reducible first | exact HB.out | apply below_alloc | apply pw_below_drewN | apply below_drew1 | refine below_set ?_ GE798.out | refine below_set ?_ GE805.out) | exact HB.out))) : w.heap.size ≤ gb816)); have n9_ := Aside0.mk ((by rw [hg]; exact Nat.ne_of_lt (blk_lt (g := gb798) (o := .cells #[.int .i64 t792, .int .i64 t793, .slice Ao11 t794.length co11] 38 (0, 0)) (by (with_reducible repeat (first | refine blk_drewN ?_ _ | refine blk_drew ?_ | refine blk_alloc ?_ _)); exact BK798.out)) : gb798 ≠ gb816)); have n10_ := Aside0.mk ((by rw [hg]; exact Nat.ne_of_gt (blk_lt (g := gb798) (o := .cells #[.int .i64 t792, .int .i64 t793, .slice Ao11 t794.length co11] 38 (0, 0)) (by (with_reducible repeat (first | refine blk_drewN ?_ _ | refine blk_drew ?_ | refine blk_alloc ?_ _)); exact BK798.out)) : gb816 ≠ gb798)); have n11_ := Aside0.mk ((by rw [hg]; exact Nat.ne_of_lt (blk_lt (g := gb805) (o := .cells #[.int .i64 t799, .int .i64 t800, .slice Ao16 t801.length co16] 38 (0, 0)) (by (with_reducible repeat (first | refine blk_drewN ?_ _ | refine blk_drew ?_ | refine blk_alloc ?_ _)); exact BK805.out)) : gb805 ≠ gb816)); have n12_ := Aside0.mk ((by rw [hg]; exact Nat.ne_of_gt (blk_lt (g := gb805) (o := .cells #[.int .i64 t799, .int .i64 t800, .slice Ao16 t801.length co16] 38 (0, 0)) (by (with_reducible repeat (first | refine blk_drewN ?_ _ | refine blk_drew ?_ | refine blk_alloc ?_ _)); exact BK805.out)) : gb816 ≠ gb805)); clear HO_799002; clear HO_806002; clear HO814; clear BK798; clear BK805; clear HB; have HO_799002 := n0_; have HO_806002 := n1_; have HO814 := n2_; have BK798 := n3_; have BK805 := n4_; have HB := n5_; have BK816 := n6_; have GW816 := n7_; have GE816 := n8_; have NB798_816 := n9_; have NB816_798 := n10_; have NB805_816 := n11_; have NB816_805 := n12_; clear n0_ n1_ n2_ n3_ n4_ n5_ n6_ n7_ n8_ n9_ n10_ n11_ n12_; clear hb hbox hg; have hnb46 := NB816_798.out; have hnc46 := NB798_816.out; have hnb47 := NB816_805.out; have hnc47 := NB805_816.out; have hcz48_0 : w45.cell? ⟨gb816, 0, none⟩ = some (.int .i64 0) := (blk_cell BK816.out 0).trans rfl; have hcz48_1 : w45.cell? ⟨gb816, 1, none⟩ = some (.int .i64 0) := (blk_cell BK816.out 1).trans rfl; have hcz48_2 : w45.cell? ⟨gb816, 2, none⟩ = some (.slice none 0 0) := (blk_cell BK816.out 2).trans rfl; have hfz48_0 := blk_frozen BK816.out 0; have hfz48_1 := blk_frozen BK816.out 1; have hfz48_2 := blk_frozen BK816.out 2; obtain ⟨Ao49, co49, eo49⟩ := Kd.R_slice HO814.out; subst eo49))
              (try simp only [Act.put, List.setIfInBounds_toArray, List.set_cons_zero, List.set_cons_succ])
              go_cut [67] (fun v67 wc => ∃ (kq : Nat) (x67_37 : Bool), v67 = .bool x67_37 ∧ Aside0 (laws_FnExactLeftBracket.j1 kq t807 x67_37 t799 t800 t808 = some r) ∧ Aside0 (kq ≤ kj6) ∧ Aside0 (Kd.R k79 79 wc w.heap.size (fun k_ => some k_ ≠ ((.slice Ao16 t801.length co16) : Value).ownBlock ∧ some k_ ≠ ((.slice Ao49 t812.length co49) : Value).ownBlock) (.slice Ao11 t794.length co11) t794) ∧ Aside0 (Kd.R k79 79 wc w.heap.size (fun k_ => some k_ ≠ ((.slice Ao11 t794.length co11) : Value).ownBlock ∧ some k_ ≠ ((.slice Ao49 t812.length co49) : Value).ownBlock) (.slice Ao16 t801.length co16) t808) ∧ Aside0 (Kd.R k79 79 wc w.heap.size (fun k_ => some k_ ≠ ((.slice Ao11 t794.length co11) : Value).ownBlock ∧ some k_ ≠ ((.slice Ao16 t801.length co16) : Value).ownBlock) (.slice Ao49 t812.length co49) t812) ∧ Aside0 (wc.heap[gb798]? = some (.cells #[.int .i64 t792, .int .i64 t793, (.slice Ao11 t794.length co11)] 38 (0, 0))) ∧ Aside0 (wc.heap[gb805]? = some (.cells #[.int .i64 t799, .int .i64 t800, (.slice Ao16 t801.length co16)] 38 (0, 0))) ∧ Aside0 (wc.heap[gb816]? = some (.cells #[.int .i64 t810, .int .i64 t811, (.slice Ao49 t812.length co49)] 38 (0, 0))) ∧ Aside0 (Below w.heap.size w wc))
              case first =>
                have H := HC38.out
                clear HC38
                replace H := Option.bind_eq_some_iff.mp H
                obtain ⟨t817, A500, H⟩ := H
                replace H : (if t817 = true then (laws_FnExactLeftBracket.j1 kj6 t807 (t815 != t797) t799 t800 t808) else (laws_FnExactLeftBracket.j1 kj6 t807 true t799 t800 t808)) = some r := H
                have A50 := Aside0.mk A500
                clear A500
                by_cases c51 : t817 = true
                · subst c51
                  have H1 : (laws_FnExactLeftBracket.j1 kj6 t807 (t815 != t797) t799 t800 t808) = some r := by rw [if_pos rfl] at H; exact H
                  clear H
                  have H := H1
                  clear H1
                  have H' := Aside0.mk H
                  clear H
                  have hnb52 := NB816_798.out
                  have hnc52 := NB798_816.out
                  have hnb53 := NB816_805.out
                  have hnc53 := NB805_816.out
                  have hcz54_0 : w45.cell? ⟨gb816, 0, none⟩ = some (.int .i64 0) := (blk_cell BK816.out 0).trans rfl
                  have hcz54_1 : w45.cell? ⟨gb816, 1, none⟩ = some (.int .i64 0) := (blk_cell BK816.out 1).trans rfl
                  have hcz54_2 : w45.cell? ⟨gb816, 2, none⟩ = some (.slice none 0 0) := (blk_cell BK816.out 2).trans rfl
                  have hfz54_0 := blk_frozen BK816.out 0
                  have hfz54_1 := blk_frozen BK816.out 1
                  have hfz54_2 := blk_frozen BK816.out 2
                  have hnb55 := NB798_805.out
                  have hnc55 := NB805_798.out
                  have hcz56_0 : w45.cell? ⟨gb798, 0, none⟩ = some (.int .i64 t792) := (blk_cell BK798.out 0).trans rfl
                  have hcz56_1 : w45.cell? ⟨gb798, 1, none⟩ = some (.int .i64 t793) := (blk_cell BK798.out 1).trans rfl
                  have hcz56_2 : w45.cell? ⟨gb798, 2, none⟩ = some (.slice Ao11 t794.length co11) := (blk_cell BK798.out 2).trans rfl
                  have hfz56_0 := blk_frozen BK798.out 0
                  have hfz56_1 := blk_frozen BK798.out 1
                  have hfz56_2 := blk_frozen BK798.out 2
                  go_wp2_with (first | ((with_reducible refine gate_callee (f := 33) rfl ?_); refine goesL_ (some 61) rfl rfl Try.func33 (by kernel_rfl) rfl #[.agg #[.int .i64 t810, .int .i64 t811, .slice Ao49 t812.length co49], .agg #[.int .i64 t792, .int .i64 t793, .slice Ao11 t794.length co11]] rfl (by (try simp only [List.map_toArray, List.map_cons, List.map_nil]); first | done | rfl | (simp only [List.length_drop, List.length_take]; rfl)) ?_; (with_reducible refine (laws_eqSeries.calls kj6 t810 t811 _ _ t812 t792 t793 _ _ t794 true _ ?side1 ?side2 ?side3 ?side4 A50.out).mono ?_); (case side1 => refine (Kd.R_reads' (e := 79) (base := w.heap.size) (ok := fun k_ => ((True ∧ some k_ ≠ (.slice Ao11 t794.length co11 : Value).ownBlock) ∧ some k_ ≠ (.slice Ao16 t801.length co16 : Value).ownBlock)) (n := t812.length) (c := co49) ?_).2.2; exact (by (with_reducible repeat (first | apply Kd.R_alloc | apply Kd.R_drewN | apply Kd.R_drew)); exact (Kd.R_mono (Kd.R_far (p := ⟨gb816, 2, none⟩) (Kd.R_far (p := ⟨gb816, 1, none⟩) (Kd.R_far (p := ⟨gb816, 0, none⟩) (Kd.R_types HO814.out BK816.out (by decide)) (fun _ hk => hk.2) (.int .i64 t810)) (fun _ hk => hk.2) (.int .i64 t811)) (fun _ hk => hk.2) (.slice Ao49 t812.length co49)) (fun _ h_ => h_.1)))); (case side2 => exact (Kd.R_reads' HO814.out).2.1); (case side3 => refine (Kd.R_reads' (e := 79) (base := w.heap.size) (ok := fun k_ => (some k_ ≠ (.slice Ao16 t801.length co16 : Value).ownBlock ∧ some k_ ≠ (.slice Ao49 t812.length co49 : Value).ownBlock)) (n := t794.length) (c := co11) ?_).2.2; exact (by (with_reducible repeat (first | apply Kd.R_alloc | apply Kd.R_drewN | apply Kd.R_drew)); exact (Kd.R_mono (Kd.R_far (p := ⟨gb816, 2, none⟩) (Kd.R_far (p := ⟨gb816, 1, none⟩) (Kd.R_far (p := ⟨gb816, 0, none⟩) (Kd.R_types HO_799002.out BK816.out (by decide)) (fun _ hk => hk.2) (.int .i64 t810)) (fun _ hk => hk.2) (.int .i64 t811)) (fun _ hk => hk.2) (.slice Ao49 t812.length co49)) (fun _ h_ => h_.1)))); (case side4 => exact (Kd.R_reads' HO_799002.out).2.1); rintro e w57 ⟨rfl, hb⟩; refine ⟨_, rfl, ?_⟩; have n0_ := Aside0.mk (Kd.R_below (by (with_reducible repeat (first | apply Kd.R_alloc | apply Kd.R_drewN | apply Kd.R_drew)); exact (Kd.R_mono (Kd.R_far (p := ⟨gb816, 2, none⟩) (Kd.R_far (p := ⟨gb816, 1, none⟩) (Kd.R_far (p := ⟨gb816, 0, none⟩) (Kd.R_types HO_799002.out BK816.out (by decide)) (fun _ hk => hk.2) (.int .i64 t810)) (fun _ hk => hk.2) (.int .i64 t811)) (fun _ hk => hk.2) (.slice Ao49 t812.length co49)) (fun _ h_ => h_.1))) hb); have n1_ := Aside0.mk (Kd.R_below (by (with_reducible repeat (first | apply Kd.R_alloc | apply Kd.R_drewN | apply Kd.R_drew)); exact (Kd.R_mono (Kd.R_far (p := ⟨gb816, 2, none⟩) (Kd.R_far (p := ⟨gb816, 1, none⟩) (Kd.R_far (p := ⟨gb816, 0, none⟩) (Kd.R_types HO_806002.out BK816.out (by decide)) (fun _ hk => hk.2) (.int .i64 t810)) (fun _ hk => hk.2) (.int .i64 t811)) (fun _ hk => hk.2) (.slice Ao49 t812.length co49)) (fun _ h_ => h_.1))) hb); have n2_ := Aside0.mk (Kd.R_below (by (with_reducible repeat (first | apply Kd.R_alloc | apply Kd.R_drewN | apply Kd.R_drew)); exact (Kd.R_mono (Kd.R_far (p := ⟨gb816, 2, none⟩) (Kd.R_far (p := ⟨gb816, 1, none⟩) (Kd.R_far (p := ⟨gb816, 0, none⟩) (Kd.R_types HO814.out BK816.out (by decide)) (fun _ hk => hk.2) (.int .i64 t810)) (fun _ hk => hk.2) (.int .i64 t811)) (fun _ hk => hk.2) (.slice Ao49 t812.length co49)) (fun _ h_ => h_.1))) hb); have n3_ := Aside0.mk (blk_below (g := gb798) (o := .cells #[.int .i64 t792, .int .i64 t793, .slice Ao11 t794.length co11] 38 (0, 0)) (by (with_reducible repeat (first | refine blk_drewN ?_ _ | refine blk_drew ?_ | refine blk_alloc ?_ _)); refine blk_far ?_ NB798_816.out _; (with_reducible repeat (first | refine blk_drewN ?_ _ | refine blk_drew ?_ | refine blk_alloc ?_ _)); refine blk_far ?_ NB798_816.out _; (with_reducible repeat (first | refine blk_drewN ?_ _ | refine blk_drew ?_ | refine blk_alloc ?_ _)); refine blk_far ?_ NB798_816.out _; (with_reducible repeat (first | refine blk_drewN ?_ _ | refine blk_drew ?_ | refine blk_alloc ?_ _)); exact BK798.out) hb); have n4_ := Aside0.mk (blk_below (g := gb805) (o := .cells #[.int .i64 t799, .int .i64 t800, .slice Ao16 t801.length co16] 38 (0, 0)) (by (with_reducible repeat (first | refine blk_drewN ?_ _ | refine blk_drew ?_ | refine blk_alloc ?_ _)); refine blk_far ?_ NB805_816.out _; (with_reducible repeat (first | refine blk_drewN ?_ _ | refine blk_drew ?_ | refine blk_alloc ?_ _)); refine blk_far ?_ NB805_816.out _; (with_reducible repeat (first | refine blk_drewN ?_ _ | refine blk_drew ?_ | refine blk_alloc ?_ _)); refine blk_far ?_ NB805_816.out _; (with_reducible repeat (first | refine blk_drewN ?_ _ | refine blk_drew ?_ | refine blk_alloc ?_ _)); exact BK805.out) hb); have n5_ := Aside0.mk (blk_below (g := gb816) (o := .cells #[.int .i64 t810, .int .i64 t811, .slice Ao49 t812.length co49] 38 (0, 0)) (by (with_reducible repeat (first | refine blk_drewN ?_ _ | refine blk_drew ?_ | refine blk_alloc ?_ _)); refine blk_put (cs := #[.int .i64 t810, .int .i64 t811, .slice none 0 0]) ?_ 2 _ rfl; (with_reducible repeat (first | refine blk_drewN ?_ _ | refine blk_drew ?_ | refine blk_alloc ?_ _)); refine blk_put (cs := #[.int .i64 t810, .int .i64 0, .slice none 0 0]) ?_ 1 _ rfl; (with_reducible repeat (first | refine blk_drewN ?_ _ | refine blk_drew ?_ | refine blk_alloc ?_ _)); refine blk_put (cs := #[.int .i64 0, .int .i64 0, .slice none 0 0]) ?_ 0 _ rfl; (with_reducible repeat (first | refine blk_drewN ?_ _ | refine blk_drew ?_ | refine blk_alloc ?_ _)); exact BK816.out) hb); have n6_ := Aside0.mk (below_step (by repeat (first | (with_reducible first | exact HB.out | apply below_alloc | apply pw_below_drewN | apply below_drew1 | refine below_set ?_ GE798.out | refine below_set ?_ GE805.out | refine below_set ?_ GE816.out) | exact HB.out)) hb); clear HO_799002; clear HO_806002; clear HO814; clear BK798; clear BK805; clear BK816; clear HB; have HO_799002 := n0_; have HO_806002 := n1_; have HO814 := n2_; have BK798 := n3_; have BK805 := n4_; have BK816 := n5_; have HB := n6_; clear n0_ n1_ n2_ n3_ n4_ n5_ n6_; (try clear hb); (try clear hb2); (try clear hk); (try clear hi)))
                  go_meet
                  case rel => exact ⟨_, ((t815 != t797)), (by first | rfl | (simp; done) | (simp [*]; done)), H', ⟨by have := HJ6.out; first | omega | exact Nat.le_refl _⟩, ⟨by (with_reducible repeat (first | apply Kd.R_alloc | apply Kd.R_drewN | apply Kd.R_drew)); exact HO_799002.out⟩, ⟨by (with_reducible repeat (first | apply Kd.R_alloc | apply Kd.R_drewN | apply Kd.R_drew)); exact HO_806002.out⟩, ⟨by (with_reducible repeat (first | apply Kd.R_alloc | apply Kd.R_drewN | apply Kd.R_drew)); exact Kd.R_mono HO814.out (fun _ hk => ⟨hk.1.2, hk.2⟩)⟩, ⟨by (with_reducible repeat (first | refine blk_drewN ?_ _ | refine blk_drew ?_ | refine blk_alloc ?_ _)); exact BK798.out⟩, ⟨by (with_reducible repeat (first | refine blk_drewN ?_ _ | refine blk_drew ?_ | refine blk_alloc ?_ _)); exact BK805.out⟩, ⟨by (with_reducible repeat (first | refine blk_drewN ?_ _ | refine blk_drew ?_ | refine blk_alloc ?_ _)); exact BK816.out⟩, ⟨by repeat (first | (with_reducible first | exact HB.out | apply below_alloc | apply pw_below_drewN | apply below_drew1 | refine below_set ?_ GE798.out | refine below_set ?_ GE805.out | refine below_set ?_ GE816.out) | exact HB.out)⟩⟩
                · replace c51 := Bool.eq_false_iff.mpr c51
                  subst c51
                  have H1 : (laws_FnExactLeftBracket.j1 kj6 t807 true t799 t800 t808) = some r := by rw [if_neg (show ¬ (false = true) by decide)] at H; exact H
                  clear H
                  have H := H1
                  clear H1
                  have H' := Aside0.mk H
                  clear H
                  have hnb58 := NB816_798.out
                  have hnc58 := NB798_816.out
                  have hnb59 := NB816_805.out
                  have hnc59 := NB805_816.out
                  have hcz60_0 : w45.cell? ⟨gb816, 0, none⟩ = some (.int .i64 0) := (blk_cell BK816.out 0).trans rfl
                  have hcz60_1 : w45.cell? ⟨gb816, 1, none⟩ = some (.int .i64 0) := (blk_cell BK816.out 1).trans rfl
                  have hcz60_2 : w45.cell? ⟨gb816, 2, none⟩ = some (.slice none 0 0) := (blk_cell BK816.out 2).trans rfl
                  have hfz60_0 := blk_frozen BK816.out 0
                  have hfz60_1 := blk_frozen BK816.out 1
                  have hfz60_2 := blk_frozen BK816.out 2
                  have hnb61 := NB798_805.out
                  have hnc61 := NB805_798.out
                  have hcz62_0 : w45.cell? ⟨gb798, 0, none⟩ = some (.int .i64 t792) := (blk_cell BK798.out 0).trans rfl
                  have hcz62_1 : w45.cell? ⟨gb798, 1, none⟩ = some (.int .i64 t793) := (blk_cell BK798.out 1).trans rfl
                  have hcz62_2 : w45.cell? ⟨gb798, 2, none⟩ = some (.slice Ao11 t794.length co11) := (blk_cell BK798.out 2).trans rfl
                  have hfz62_0 := blk_frozen BK798.out 0
                  have hfz62_1 := blk_frozen BK798.out 1
                  have hfz62_2 := blk_frozen BK798.out 2
                  go_wp2_with (first | ((with_reducible refine gate_callee (f := 33) rfl ?_); refine goesL_ (some 61) rfl rfl Try.func33 (by kernel_rfl) rfl #[.agg #[.int .i64 t810, .int .i64 t811, .slice Ao49 t812.length co49], .agg #[.int .i64 t792, .int .i64 t793, .slice Ao11 t794.length co11]] rfl (by (try simp only [List.map_toArray, List.map_cons, List.map_nil]); first | done | rfl | (simp only [List.length_drop, List.length_take]; rfl)) ?_; (with_reducible refine (laws_eqSeries.calls kj6 t810 t811 _ _ t812 t792 t793 _ _ t794 false _ ?side1 ?side2 ?side3 ?side4 A50.out).mono ?_); (case side1 => refine (Kd.R_reads' (e := 79) (base := w.heap.size) (ok := fun k_ => ((True ∧ some k_ ≠ (.slice Ao11 t794.length co11 : Value).ownBlock) ∧ some k_ ≠ (.slice Ao16 t801.length co16 : Value).ownBlock)) (n := t812.length) (c := co49) ?_).2.2; exact (by (with_reducible repeat (first | apply Kd.R_alloc | apply Kd.R_drewN | apply Kd.R_drew)); exact (Kd.R_mono (Kd.R_far (p := ⟨gb816, 2, none⟩) (Kd.R_far (p := ⟨gb816, 1, none⟩) (Kd.R_far (p := ⟨gb816, 0, none⟩) (Kd.R_types HO814.out BK816.out (by decide)) (fun _ hk => hk.2) (.int .i64 t810)) (fun _ hk => hk.2) (.int .i64 t811)) (fun _ hk => hk.2) (.slice Ao49 t812.length co49)) (fun _ h_ => h_.1)))); (case side2 => exact (Kd.R_reads' HO814.out).2.1); (case side3 => refine (Kd.R_reads' (e := 79) (base := w.heap.size) (ok := fun k_ => (some k_ ≠ (.slice Ao16 t801.length co16 : Value).ownBlock ∧ some k_ ≠ (.slice Ao49 t812.length co49 : Value).ownBlock)) (n := t794.length) (c := co11) ?_).2.2; exact (by (with_reducible repeat (first | apply Kd.R_alloc | apply Kd.R_drewN | apply Kd.R_drew)); exact (Kd.R_mono (Kd.R_far (p := ⟨gb816, 2, none⟩) (Kd.R_far (p := ⟨gb816, 1, none⟩) (Kd.R_far (p := ⟨gb816, 0, none⟩) (Kd.R_types HO_799002.out BK816.out (by decide)) (fun _ hk => hk.2) (.int .i64 t810)) (fun _ hk => hk.2) (.int .i64 t811)) (fun _ hk => hk.2) (.slice Ao49 t812.length co49)) (fun _ h_ => h_.1)))); (case side4 => exact (Kd.R_reads' HO_799002.out).2.1); rintro e w63 ⟨rfl, hb⟩; refine ⟨_, rfl, ?_⟩; have n0_ := Aside0.mk (Kd.R_below (by (with_reducible repeat (first | apply Kd.R_alloc | apply Kd.R_drewN | apply Kd.R_drew)); exact (Kd.R_mono (Kd.R_far (p := ⟨gb816, 2, none⟩) (Kd.R_far (p := ⟨gb816, 1, none⟩) (Kd.R_far (p := ⟨gb816, 0, none⟩) (Kd.R_types HO_799002.out BK816.out (by decide)) (fun _ hk => hk.2) (.int .i64 t810)) (fun _ hk => hk.2) (.int .i64 t811)) (fun _ hk => hk.2) (.slice Ao49 t812.length co49)) (fun _ h_ => h_.1))) hb); have n1_ := Aside0.mk (Kd.R_below (by (with_reducible repeat (first | apply Kd.R_alloc | apply Kd.R_drewN | apply Kd.R_drew)); exact (Kd.R_mono (Kd.R_far (p := ⟨gb816, 2, none⟩) (Kd.R_far (p := ⟨gb816, 1, none⟩) (Kd.R_far (p := ⟨gb816, 0, none⟩) (Kd.R_types HO_806002.out BK816.out (by decide)) (fun _ hk => hk.2) (.int .i64 t810)) (fun _ hk => hk.2) (.int .i64 t811)) (fun _ hk => hk.2) (.slice Ao49 t812.length co49)) (fun _ h_ => h_.1))) hb); have n2_ := Aside0.mk (Kd.R_below (by (with_reducible repeat (first | apply Kd.R_alloc | apply Kd.R_drewN | apply Kd.R_drew)); exact (Kd.R_mono (Kd.R_far (p := ⟨gb816, 2, none⟩) (Kd.R_far (p := ⟨gb816, 1, none⟩) (Kd.R_far (p := ⟨gb816, 0, none⟩) (Kd.R_types HO814.out BK816.out (by decide)) (fun _ hk => hk.2) (.int .i64 t810)) (fun _ hk => hk.2) (.int .i64 t811)) (fun _ hk => hk.2) (.slice Ao49 t812.length co49)) (fun _ h_ => h_.1))) hb); have n3_ := Aside0.mk (blk_below (g := gb798) (o := .cells #[.int .i64 t792, .int .i64 t793, .slice Ao11 t794.length co11] 38 (0, 0)) (by (with_reducible repeat (first | refine blk_drewN ?_ _ | refine blk_drew ?_ | refine blk_alloc ?_ _)); refine blk_far ?_ NB798_816.out _; (with_reducible repeat (first | refine blk_drewN ?_ _ | refine blk_drew ?_ | refine blk_alloc ?_ _)); refine blk_far ?_ NB798_816.out _; (with_reducible repeat (first | refine blk_drewN ?_ _ | refine blk_drew ?_ | refine blk_alloc ?_ _)); refine blk_far ?_ NB798_816.out _; (with_reducible repeat (first | refine blk_drewN ?_ _ | refine blk_drew ?_ | refine blk_alloc ?_ _)); exact BK798.out) hb); have n4_ := Aside0.mk (blk_below (g := gb805) (o := .cells #[.int .i64 t799, .int .i64 t800, .slice Ao16 t801.length co16] 38 (0, 0)) (by (with_reducible repeat (first | refine blk_drewN ?_ _ | refine blk_drew ?_ | refine blk_alloc ?_ _)); refine blk_far ?_ NB805_816.out _; (with_reducible repeat (first | refine blk_drewN ?_ _ | refine blk_drew ?_ | refine blk_alloc ?_ _)); refine blk_far ?_ NB805_816.out _; (with_reducible repeat (first | refine blk_drewN ?_ _ | refine blk_drew ?_ | refine blk_alloc ?_ _)); refine blk_far ?_ NB805_816.out _; (with_reducible repeat (first | refine blk_drewN ?_ _ | refine blk_drew ?_ | refine blk_alloc ?_ _)); exact BK805.out) hb); have n5_ := Aside0.mk (blk_below (g := gb816) (o := .cells #[.int .i64 t810, .int .i64 t811, .slice Ao49 t812.length co49] 38 (0, 0)) (by (with_reducible repeat (first | refine blk_drewN ?_ _ | refine blk_drew ?_ | refine blk_alloc ?_ _)); refine blk_put (cs := #[.int .i64 t810, .int .i64 t811, .slice none 0 0]) ?_ 2 _ rfl; (with_reducible repeat (first | refine blk_drewN ?_ _ | refine blk_drew ?_ | refine blk_alloc ?_ _)); refine blk_put (cs := #[.int .i64 t810, .int .i64 0, .slice none 0 0]) ?_ 1 _ rfl; (with_reducible repeat (first | refine blk_drewN ?_ _ | refine blk_drew ?_ | refine blk_alloc ?_ _)); refine blk_put (cs := #[.int .i64 0, .int .i64 0, .slice none 0 0]) ?_ 0 _ rfl; (with_reducible repeat (first | refine blk_drewN ?_ _ | refine blk_drew ?_ | refine blk_alloc ?_ _)); exact BK816.out) hb); have n6_ := Aside0.mk (below_step (by repeat (first | (with_reducible first | exact HB.out | apply below_alloc | apply pw_below_drewN | apply below_drew1 | refine below_set ?_ GE798.out | refine below_set ?_ GE805.out | refine below_set ?_ GE816.out) | exact HB.out)) hb); clear HO_799002; clear HO_806002; clear HO814; clear BK798; clear BK805; clear BK816; clear HB; have HO_799002 := n0_; have HO_806002 := n1_; have HO814 := n2_; have BK798 := n3_; have BK805 := n4_; have BK816 := n5_; have HB := n6_; clear n0_ n1_ n2_ n3_ n4_ n5_ n6_; (try clear hb); (try clear hb2); (try clear hk); (try clear hi)))
                  go_meet
                  case rel => exact ⟨_, (true), (by first | rfl | (simp; done) | (simp [*]; done)), H', ⟨by have := HJ6.out; first | omega | exact Nat.le_refl _⟩, ⟨by (with_reducible repeat (first | apply Kd.R_alloc | apply Kd.R_drewN | apply Kd.R_drew)); exact HO_799002.out⟩, ⟨by (with_reducible repeat (first | apply Kd.R_alloc | apply Kd.R_drewN | apply Kd.R_drew)); exact HO_806002.out⟩, ⟨by (with_reducible repeat (first | apply Kd.R_alloc | apply Kd.R_drewN | apply Kd.R_drew)); exact Kd.R_mono HO814.out (fun _ hk => ⟨hk.1.2, hk.2⟩)⟩, ⟨by (with_reducible repeat (first | refine blk_drewN ?_ _ | refine blk_drew ?_ | refine blk_alloc ?_ _)); exact BK798.out⟩, ⟨by (with_reducible repeat (first | refine blk_drewN ?_ _ | refine blk_drew ?_ | refine blk_alloc ?_ _)); exact BK805.out⟩, ⟨by (with_reducible repeat (first | refine blk_drewN ?_ _ | refine blk_drew ?_ | refine blk_alloc ?_ _)); exact BK816.out⟩, ⟨by repeat (first | (with_reducible first | exact HB.out | apply below_alloc | apply pw_below_drewN | apply below_drew1 | refine below_set ?_ GE798.out | refine below_set ?_ GE805.out | refine below_set ?_ GE816.out) | exact HB.out)⟩⟩
              case rest =>
                clear HC38
                try clear c1
                try clear c2
                try clear p2
                try clear c3
                try clear c4
                try clear c4b0
                try clear c4b1
                try clear c5
                try clear c6
                try clear c7
                try clear c14
                try clear c18
                try clear c19
                try clear c23
                try clear c27
                try clear c30
                try clear c30b0
                try clear c31
                try clear c33
                try clear c34
                try clear c36
                try clear c36b0
                try clear c36b1
                try clear c39
                try clear c42
                try clear c43
                try clear c46
                try clear c47
                try clear c51
                try clear c52
                try clear c53
                try clear c55
                try clear c58
                try clear c59
                try clear c61
                try clear hcz10_0
                try clear hcz10_1
                try clear hcz10_2
                try clear hcz15_0
                try clear hcz15_1
                try clear hcz15_2
                try clear hcz20_0
                try clear hcz20_1
                try clear hcz20_2
                try clear hcz21_0
                try clear hcz21_1
                try clear hcz21_2
                try clear hcz24_0
                try clear hcz24_1
                try clear hcz24_2
                try clear hcz25_0
                try clear hcz25_1
                try clear hcz25_2
                try clear hcz32_0
                try clear hcz32_1
                try clear hcz32_2
                try clear hcz34_0
                try clear hcz34_1
                try clear hcz34_2
                try clear hcz40_0
                try clear hcz40_1
                try clear hcz40_2
                try clear hcz42_0
                try clear hcz42_1
                try clear hcz42_2
                try clear hcz48_0
                try clear hcz48_1
                try clear hcz48_2
                try clear hcz54_0
                try clear hcz54_1
                try clear hcz54_2
                try clear hcz56_0
                try clear hcz56_1
                try clear hcz56_2
                try clear hcz60_0
                try clear hcz60_1
                try clear hcz60_2
                try clear hcz62_0
                try clear hcz62_1
                try clear hcz62_2
                try clear hfz10_0
                try clear hfz10_1
                try clear hfz10_2
                try clear hfz15_0
                try clear hfz15_1
                try clear hfz15_2
                try clear hfz20_0
                try clear hfz20_1
                try clear hfz20_2
                try clear hfz21_0
                try clear hfz21_1
                try clear hfz21_2
                try clear hfz24_0
                try clear hfz24_1
                try clear hfz24_2
                try clear hfz25_0
                try clear hfz25_1
                try clear hfz25_2
                try clear hfz32_0
                try clear hfz32_1
                try clear hfz32_2
                try clear hfz34_0
                try clear hfz34_1
                try clear hfz34_2
                try clear hfz40_0
                try clear hfz40_1
                try clear hfz40_2
                try clear hfz42_0
                try clear hfz42_1
                try clear hfz42_2
                try clear hfz48_0
                try clear hfz48_1
                try clear hfz48_2
                try clear hfz54_0
                try clear hfz54_1
                try clear hfz54_2
                try clear hfz56_0
                try clear hfz56_1
                try clear hfz56_2
                try clear hfz60_0
                try clear hfz60_1
                try clear hfz60_2
                try clear hfz62_0
                try clear hfz62_1
                try clear hfz62_2
                try clear p2
                obtain ⟨kq, x67_37, rfl, HA, HJ37, HO_799002, HO_806002, HO_817002, BK798, BK805, BK816, HB⟩ := hcut
                have hl806002_37 := (Kd.R_reads' HO_806002.out).1
                rw [hl806002_37] at HO_806002
                (try simp only [hl806002_37])
                (try simp only [hl806002_37] at BK798)
                (try simp only [hl806002_37] at BK805)
                (try simp only [hl806002_37] at BK816)
                (try simp only [hl806002_37] at HO_799002)
                (try simp only [hl806002_37] at HO_817002)
                cases kq with
                | zero => exact absurd HA.out (by simp [laws_FnExactLeftBracket.j1])
                | succ kj37 =>
                  have H := HA.out
                  clear HA
                  simp only [laws_FnExactLeftBracket.j1] at H
                  by_cases c64 : x67_37 = true
                  · subst c64
                    have H1 : (some false) = some r := by rw [if_pos rfl] at H; exact H
                    clear H
                    have H := H1
                    clear H1
                    obtain rfl := Option.some.inj H
                    go_wp2
                    go_ret
                    exact ⟨by first | rfl | (simp [errW_none, errW_some] <;> rfl) | (simp [*, errW_none, errW_some] <;> rfl), by repeat (first | (with_reducible first | exact HB.out | apply below_alloc | apply pw_below_drewN | apply below_drew1 | refine below_set ?_ GE798.out | refine below_set ?_ GE805.out | refine below_set ?_ GE816.out) | exact HB.out)⟩
                  · replace c64 := Bool.eq_false_iff.mpr c64
                    subst c64
                    have H1 : ((laws_heldSeries.f kj37 t799 t800 t808 1).bind fun t818 => (if t818 < 0 then (some false) else (if t818 = t807 then (some true) else (some false)))) = some r := by rw [if_neg (show ¬ (false = true) by decide)] at H; exact H
                    clear H
                    have H := H1
                    clear H1
                    replace H := Option.bind_eq_some_iff.mp H
                    obtain ⟨t818, A650, H⟩ := H
                    replace H : (if t818 < 0 then (some false) else (if t818 = t807 then (some true) else (some false))) = some r := H
                    have A65 := Aside0.mk A650
                    clear A650
                    by_cases c66 : t818 < 0
                    · rw [if_pos c66] at H
                      have c66b0 : decide (t818 < 0) = true := decide_eq_true c66
                      clear c66
                      obtain rfl := Option.some.inj H
                      have hnb67 := NB805_798.out
                      have hnc67 := NB798_805.out
                      have hnb68 := NB805_816.out
                      have hnc68 := NB816_805.out
                      have hcz69_0 : wc.cell? ⟨gb805, 0, none⟩ = some (.int .i64 t799) := (blk_cell BK805.out 0).trans rfl
                      have hcz69_1 : wc.cell? ⟨gb805, 1, none⟩ = some (.int .i64 t800) := (blk_cell BK805.out 1).trans rfl
                      have hcz69_2 : wc.cell? ⟨gb805, 2, none⟩ = some (.slice Ao16 t808.length co16) := (blk_cell BK805.out 2).trans rfl
                      have hfz69_0 := blk_frozen BK805.out 0
                      have hfz69_1 := blk_frozen BK805.out 1
                      have hfz69_2 := blk_frozen BK805.out 2
                      go_wp2_with (first | ((with_reducible refine gate_callee (f := 39) rfl ?_); refine goesL_ (some 70) rfl rfl Try.func39 (by kernel_rfl) rfl #[.agg #[.int .i64 t799, .int .i64 t800, .slice Ao16 t808.length co16], .int .i64 1] rfl (by (try simp only [List.map_toArray, List.map_cons, List.map_nil]); first | done | rfl | (simp only [List.length_drop, List.length_take]; rfl)) ?_; (with_reducible refine (laws_heldSeries.calls kj37 t799 t800 _ _ t808 1 t818 _ ?side1 ?side2 A65.out).mono ?_); (case side1 => repeat (first | exact (Kd.R_reads' HO_806002.out).2.2 | (with_reducible refine Kd.C_alloc ?_ _) | (with_reducible refine Kd.C_drewN ?_ _) | (with_reducible refine Kd.C_drew ?_))); (case side2 => exact (Kd.R_reads' HO_806002.out).2.1); rintro e w70 ⟨rfl, hb⟩; refine ⟨_, rfl, ?_⟩; have n0_ := Aside0.mk (Kd.R_below (by (with_reducible repeat (first | apply Kd.R_alloc | apply Kd.R_drewN | apply Kd.R_drew)); exact HO_799002.out) hb); have n1_ := Aside0.mk (Kd.R_below (by (with_reducible repeat (first | apply Kd.R_alloc | apply Kd.R_drewN | apply Kd.R_drew)); exact HO_806002.out) hb); have n2_ := Aside0.mk (Kd.R_below (by (with_reducible repeat (first | apply Kd.R_alloc | apply Kd.R_drewN | apply Kd.R_drew)); exact HO_817002.out) hb); have n3_ := Aside0.mk (blk_below (g := gb798) (o := .cells #[.int .i64 t792, .int .i64 t793, .slice Ao11 t794.length co11] 38 (0, 0)) (by (with_reducible repeat (first | refine blk_drewN ?_ _ | refine blk_drew ?_ | refine blk_alloc ?_ _)); exact BK798.out) hb); have n4_ := Aside0.mk (blk_below (g := gb805) (o := .cells #[.int .i64 t799, .int .i64 t800, .slice Ao16 t808.length co16] 38 (0, 0)) (by (with_reducible repeat (first | refine blk_drewN ?_ _ | refine blk_drew ?_ | refine blk_alloc ?_ _)); exact BK805.out) hb); have n5_ := Aside0.mk (blk_below (g := gb816) (o := .cells #[.int .i64 t810, .int .i64 t811, .slice Ao49 t812.length co49] 38 (0, 0)) (by (with_reducible repeat (first | refine blk_drewN ?_ _ | refine blk_drew ?_ | refine blk_alloc ?_ _)); exact BK816.out) hb); have n6_ := Aside0.mk (below_step (by repeat (first | (with_reducible first | exact HB.out | apply below_alloc | apply pw_below_drewN | apply below_drew1 | refine below_set ?_ GE798.out | refine below_set ?_ GE805.out | refine below_set ?_ GE816.out) | exact HB.out)) hb); clear HO_799002; clear HO_806002; clear HO_817002; clear BK798; clear BK805; clear BK816; clear HB; have HO_799002 := n0_; have HO_806002 := n1_; have HO_817002 := n2_; have BK798 := n3_; have BK805 := n4_; have BK816 := n5_; have HB := n6_; clear n0_ n1_ n2_ n3_ n4_ n5_ n6_; (try clear hb); (try clear hb2); (try clear hk); (try clear hi)))
                      go_ret
                      exact ⟨by first | rfl | (simp [errW_none, errW_some] <;> rfl) | (simp [*, errW_none, errW_some] <;> rfl), by repeat (first | (with_reducible first | exact HB.out | apply below_alloc | apply pw_below_drewN | apply below_drew1 | refine below_set ?_ GE798.out | refine below_set ?_ GE805.out | refine below_set ?_ GE816.out) | exact HB.out)⟩
                    · rw [if_neg c66] at H
                      have c66b0 : decide (t818 < 0) = false := decide_eq_false c66
                      clear c66
                      by_cases c71 : t818 = t807
                      · rw [if_pos c71] at H
                        have c71b0 : (t818 == t807) = true := beq_iff_eq.mpr c71
                        have c71b1 : (t818 != t807) = false := bne_eq_false_iff_eq.mpr c71
                        clear c71
                        obtain rfl := Option.some.inj H
                        have hnb72 := NB805_798.out
                        have hnc72 := NB798_805.out
                        have hnb73 := NB805_816.out
                        have hnc73 := NB816_805.out
                        have hcz74_0 : wc.cell? ⟨gb805, 0, none⟩ = some (.int .i64 t799) := (blk_cell BK805.out 0).trans rfl
                        have hcz74_1 : wc.cell? ⟨gb805, 1, none⟩ = some (.int .i64 t800) := (blk_cell BK805.out 1).trans rfl
                        have hcz74_2 : wc.cell? ⟨gb805, 2, none⟩ = some (.slice Ao16 t808.length co16) := (blk_cell BK805.out 2).trans rfl
                        have hfz74_0 := blk_frozen BK805.out 0
                        have hfz74_1 := blk_frozen BK805.out 1
                        have hfz74_2 := blk_frozen BK805.out 2
                        go_wp2_with (first | ((with_reducible refine gate_callee (f := 39) rfl ?_); refine goesL_ (some 70) rfl rfl Try.func39 (by kernel_rfl) rfl #[.agg #[.int .i64 t799, .int .i64 t800, .slice Ao16 t808.length co16], .int .i64 1] rfl (by (try simp only [List.map_toArray, List.map_cons, List.map_nil]); first | done | rfl | (simp only [List.length_drop, List.length_take]; rfl)) ?_; (with_reducible refine (laws_heldSeries.calls kj37 t799 t800 _ _ t808 1 t818 _ ?side1 ?side2 A65.out).mono ?_); (case side1 => repeat (first | exact (Kd.R_reads' HO_806002.out).2.2 | (with_reducible refine Kd.C_alloc ?_ _) | (with_reducible refine Kd.C_drewN ?_ _) | (with_reducible refine Kd.C_drew ?_))); (case side2 => exact (Kd.R_reads' HO_806002.out).2.1); rintro e w75 ⟨rfl, hb⟩; refine ⟨_, rfl, ?_⟩; have n0_ := Aside0.mk (Kd.R_below (by (with_reducible repeat (first | apply Kd.R_alloc | apply Kd.R_drewN | apply Kd.R_drew)); exact HO_799002.out) hb); have n1_ := Aside0.mk (Kd.R_below (by (with_reducible repeat (first | apply Kd.R_alloc | apply Kd.R_drewN | apply Kd.R_drew)); exact HO_806002.out) hb); have n2_ := Aside0.mk (Kd.R_below (by (with_reducible repeat (first | apply Kd.R_alloc | apply Kd.R_drewN | apply Kd.R_drew)); exact HO_817002.out) hb); have n3_ := Aside0.mk (blk_below (g := gb798) (o := .cells #[.int .i64 t792, .int .i64 t793, .slice Ao11 t794.length co11] 38 (0, 0)) (by (with_reducible repeat (first | refine blk_drewN ?_ _ | refine blk_drew ?_ | refine blk_alloc ?_ _)); exact BK798.out) hb); have n4_ := Aside0.mk (blk_below (g := gb805) (o := .cells #[.int .i64 t799, .int .i64 t800, .slice Ao16 t808.length co16] 38 (0, 0)) (by (with_reducible repeat (first | refine blk_drewN ?_ _ | refine blk_drew ?_ | refine blk_alloc ?_ _)); exact BK805.out) hb); have n5_ := Aside0.mk (blk_below (g := gb816) (o := .cells #[.int .i64 t810, .int .i64 t811, .slice Ao49 t812.length co49] 38 (0, 0)) (by (with_reducible repeat (first | refine blk_drewN ?_ _ | refine blk_drew ?_ | refine blk_alloc ?_ _)); exact BK816.out) hb); have n6_ := Aside0.mk (below_step (by repeat (first | (with_reducible first | exact HB.out | apply below_alloc | apply pw_below_drewN | apply below_drew1 | refine below_set ?_ GE798.out | refine below_set ?_ GE805.out | refine below_set ?_ GE816.out) | exact HB.out)) hb); clear HO_799002; clear HO_806002; clear HO_817002; clear BK798; clear BK805; clear BK816; clear HB; have HO_799002 := n0_; have HO_806002 := n1_; have HO_817002 := n2_; have BK798 := n3_; have BK805 := n4_; have BK816 := n5_; have HB := n6_; clear n0_ n1_ n2_ n3_ n4_ n5_ n6_; (try clear hb); (try clear hb2); (try clear hk); (try clear hi)))
                        go_ret
                        exact ⟨by first | rfl | (simp [errW_none, errW_some] <;> rfl) | (simp [*, errW_none, errW_some] <;> rfl), by repeat (first | (with_reducible first | exact HB.out | apply below_alloc | apply pw_below_drewN | apply below_drew1 | refine below_set ?_ GE798.out | refine below_set ?_ GE805.out | refine below_set ?_ GE816.out) | exact HB.out)⟩
                      · rw [if_neg c71] at H
                        have c71b0 : (t818 == t807) = false := beq_eq_false_iff_ne.mpr c71
                        have c71b1 : (t818 != t807) = true := bne_iff_ne.mpr c71
                        obtain rfl := Option.some.inj H
                        have hnb76 := NB805_798.out
                        have hnc76 := NB798_805.out
                        have hnb77 := NB805_816.out
                        have hnc77 := NB816_805.out
                        have hcz78_0 : wc.cell? ⟨gb805, 0, none⟩ = some (.int .i64 t799) := (blk_cell BK805.out 0).trans rfl
                        have hcz78_1 : wc.cell? ⟨gb805, 1, none⟩ = some (.int .i64 t800) := (blk_cell BK805.out 1).trans rfl
                        have hcz78_2 : wc.cell? ⟨gb805, 2, none⟩ = some (.slice Ao16 t808.length co16) := (blk_cell BK805.out 2).trans rfl
                        have hfz78_0 := blk_frozen BK805.out 0
                        have hfz78_1 := blk_frozen BK805.out 1
                        have hfz78_2 := blk_frozen BK805.out 2
                        go_wp2_with (first | ((with_reducible refine gate_callee (f := 39) rfl ?_); refine goesL_ (some 70) rfl rfl Try.func39 (by kernel_rfl) rfl #[.agg #[.int .i64 t799, .int .i64 t800, .slice Ao16 t808.length co16], .int .i64 1] rfl (by (try simp only [List.map_toArray, List.map_cons, List.map_nil]); first | done | rfl | (simp only [List.length_drop, List.length_take]; rfl)) ?_; (with_reducible refine (laws_heldSeries.calls kj37 t799 t800 _ _ t808 1 t818 _ ?side1 ?side2 A65.out).mono ?_); (case side1 => repeat (first | exact (Kd.R_reads' HO_806002.out).2.2 | (with_reducible refine Kd.C_alloc ?_ _) | (with_reducible refine Kd.C_drewN ?_ _) | (with_reducible refine Kd.C_drew ?_))); (case side2 => exact (Kd.R_reads' HO_806002.out).2.1); rintro e w79 ⟨rfl, hb⟩; refine ⟨_, rfl, ?_⟩; have n0_ := Aside0.mk (Kd.R_below (by (with_reducible repeat (first | apply Kd.R_alloc | apply Kd.R_drewN | apply Kd.R_drew)); exact HO_799002.out) hb); have n1_ := Aside0.mk (Kd.R_below (by (with_reducible repeat (first | apply Kd.R_alloc | apply Kd.R_drewN | apply Kd.R_drew)); exact HO_806002.out) hb); have n2_ := Aside0.mk (Kd.R_below (by (with_reducible repeat (first | apply Kd.R_alloc | apply Kd.R_drewN | apply Kd.R_drew)); exact HO_817002.out) hb); have n3_ := Aside0.mk (blk_below (g := gb798) (o := .cells #[.int .i64 t792, .int .i64 t793, .slice Ao11 t794.length co11] 38 (0, 0)) (by (with_reducible repeat (first | refine blk_drewN ?_ _ | refine blk_drew ?_ | refine blk_alloc ?_ _)); exact BK798.out) hb); have n4_ := Aside0.mk (blk_below (g := gb805) (o := .cells #[.int .i64 t799, .int .i64 t800, .slice Ao16 t808.length co16] 38 (0, 0)) (by (with_reducible repeat (first | refine blk_drewN ?_ _ | refine blk_drew ?_ | refine blk_alloc ?_ _)); exact BK805.out) hb); have n5_ := Aside0.mk (blk_below (g := gb816) (o := .cells #[.int .i64 t810, .int .i64 t811, .slice Ao49 t812.length co49] 38 (0, 0)) (by (with_reducible repeat (first | refine blk_drewN ?_ _ | refine blk_drew ?_ | refine blk_alloc ?_ _)); exact BK816.out) hb); have n6_ := Aside0.mk (below_step (by repeat (first | (with_reducible first | exact HB.out | apply below_alloc | apply pw_below_drewN | apply below_drew1 | refine below_set ?_ GE798.out | refine below_set ?_ GE805.out | refine below_set ?_ GE816.out) | exact HB.out)) hb); clear HO_799002; clear HO_806002; clear HO_817002; clear BK798; clear BK805; clear BK816; clear HB; have HO_799002 := n0_; have HO_806002 := n1_; have HO_817002 := n2_; have BK798 := n3_; have BK805 := n4_; have BK816 := n5_; have HB := n6_; clear n0_ n1_ n2_ n3_ n4_ n5_ n6_; (try clear hb); (try clear hb2); (try clear hk); (try clear hi)))
                        go_ret
                        exact ⟨by first | rfl | (simp [errW_none, errW_some] <;> rfl) | (simp [*, errW_none, errW_some] <;> rfl), by repeat (first | (with_reducible first | exact HB.out | apply below_alloc | apply pw_below_drewN | apply below_drew1 | refine below_set ?_ GE798.out | refine below_set ?_ GE805.out | refine below_set ?_ GE816.out) | exact HB.out)⟩
            · rw [if_neg c36] at H
              have c36b0 : (t809 == t807) = false := beq_eq_false_iff_ne.mpr c36
              have c36b1 : (t809 != t807) = true := bne_iff_ne.mpr c36
              obtain rfl := Option.some.inj H
              have hnb80 := NB805_798.out
              have hnc80 := NB798_805.out
              have hcz81_0 : wc.cell? ⟨gb805, 0, none⟩ = some (.int .i64 t799) := (blk_cell BK805.out 0).trans rfl
              have hcz81_1 : wc.cell? ⟨gb805, 1, none⟩ = some (.int .i64 t800) := (blk_cell BK805.out 1).trans rfl
              have hcz81_2 : wc.cell? ⟨gb805, 2, none⟩ = some (.slice Ao16 t801.length co16) := (blk_cell BK805.out 2).trans rfl
              have hfz81_0 := blk_frozen BK805.out 0
              have hfz81_1 := blk_frozen BK805.out 1
              have hfz81_2 := blk_frozen BK805.out 2
              go_wp2_with (first | ((with_reducible refine gate_callee (f := 34) rfl ?_); refine goesL_ (some 43) rfl rfl Try.func34 (by kernel_rfl) rfl #[.agg #[.int .i64 t799, .int .i64 t800, .slice Ao16 t801.length co16], .int .i64 1] rfl (by (try simp only [List.map_toArray, List.map_cons, List.map_nil]); first | done | rfl | (simp only [List.length_drop, List.length_take]; rfl)) ?_; (with_reducible refine (laws_markSeries.calls kj6 t799 t800 (fun k_ => some k_ = (.slice Ao16 t801.length co16 : Value).ownBlock) (.slice Ao16 t801.length co16) t801 1 t807 t808 w _ ?side1 ?side2 A28.out).mono ?_); (case side1 => repeat (first | (with_reducible first | exact HB.out | apply below_alloc | apply pw_below_drewN | apply below_drew1 | refine below_set ?_ GE798.out | refine below_set ?_ GE805.out) | exact HB.out)); (case side2 => exact Kd.R_tight rfl HO_806002.out); rintro e w82 ⟨rfl, hy0, hb, hkp⟩; refine ⟨_, rfl, ?_⟩; have n0_ := Aside0.mk (Kd.R_mono (ok' := fun k_ => some k_ ≠ (.slice Ao16 t801.length co16 : Value).ownBlock) (Kd.R_keptB (HO_799002.out) hkp (fun k_ hk_ hs_ => (hk_) hs_)) (fun k_ hk_ => hk_.1)); have n1_ := Aside0.mk (Kd.R_reok rfl hy0 (fun k_ e_ => HO_806002.out.1 k_ e_)); have n2_ := Aside0.mk (blk_kept (by (with_reducible repeat (first | refine blk_drewN ?_ _ | refine blk_drew ?_ | refine blk_alloc ?_ _)); exact BK798.out) hkp (fun hs_ => (fun e_ => (Kd.R_ne HO_806002.out BK798.out (by decide)) e_) hs_)); have n3_ := Aside0.mk (blk_kept (by (with_reducible repeat (first | refine blk_drewN ?_ _ | refine blk_drew ?_ | refine blk_alloc ?_ _)); exact BK805.out) hkp (fun hs_ => (fun e_ => (Kd.R_ne HO_806002.out BK805.out (by decide)) e_) hs_)); have n4_ := Aside0.mk (hb); clear HO_799002; clear HO_806002; clear BK798; clear BK805; clear HB; have HO_799002 := n0_; have HO_806002 := n1_; have BK798 := n2_; have BK805 := n3_; have HB := n4_; clear n0_ n1_ n2_ n3_ n4_; (try clear hb); (try clear hkp); (try clear hy0); have hcz83_0 : w82.cell? ⟨gb805, 0, none⟩ = some (.int .i64 t799) := (blk_cell BK805.out 0).trans rfl; have hcz83_1 : w82.cell? ⟨gb805, 1, none⟩ = some (.int .i64 t800) := (blk_cell BK805.out 1).trans rfl; have hcz83_2 : w82.cell? ⟨gb805, 2, none⟩ = some (.slice Ao16 t801.length co16) := (blk_cell BK805.out 2).trans rfl; have hfz83_0 := blk_frozen BK805.out 0; have hfz83_1 := blk_frozen BK805.out 1; have hfz83_2 := blk_frozen BK805.out 2) | ((with_reducible refine gate_callee (f := 39) rfl ?_); refine goesL_ (some 46) rfl rfl Try.func39 (by kernel_rfl) rfl #[.agg #[.int .i64 t799, .int .i64 t800, .slice Ao16 t808.length co16], .int .i64 1] rfl (by (try simp only [List.map_toArray, List.map_cons, List.map_nil]); first | done | (rw [show t808.length = t801.length from (Kd.R_reads' HO_806002.out).1.symm] <;> rfl) | rfl | (simp only [List.length_drop, List.length_take]; rfl)) ?_; (with_reducible refine (laws_heldSeries.calls kj6 t799 t800 _ _ t808 1 t809 _ ?side1 ?side2 A29.out).mono ?_); (case side1 => repeat (first | exact (Kd.R_reads' HO_806002.out).2.2 | (with_reducible refine Kd.C_alloc ?_ _) | (with_reducible refine Kd.C_drewN ?_ _) | (with_reducible refine Kd.C_drew ?_))); (case side2 => rw [show t808.length = t801.length from (Kd.R_reads' HO_806002.out).1.symm]; exact (Kd.R_reads' HO_806002.out).2.1); rintro e w84 ⟨rfl, hb⟩; refine ⟨_, rfl, ?_⟩; have n0_ := Aside0.mk (Kd.R_below (by (with_reducible repeat (first | apply Kd.R_alloc | apply Kd.R_drewN | apply Kd.R_drew)); exact HO_799002.out) hb); have n1_ := Aside0.mk (Kd.R_below (by (with_reducible repeat (first | apply Kd.R_alloc | apply Kd.R_drewN | apply Kd.R_drew)); exact HO_806002.out) hb); have n2_ := Aside0.mk (blk_below (g := gb798) (o := .cells #[.int .i64 t792, .int .i64 t793, .slice Ao11 t794.length co11] 38 (0, 0)) (by (with_reducible repeat (first | refine blk_drewN ?_ _ | refine blk_drew ?_ | refine blk_alloc ?_ _)); exact BK798.out) hb); have n3_ := Aside0.mk (blk_below (g := gb805) (o := .cells #[.int .i64 t799, .int .i64 t800, .slice Ao16 t801.length co16] 38 (0, 0)) (by (with_reducible repeat (first | refine blk_drewN ?_ _ | refine blk_drew ?_ | refine blk_alloc ?_ _)); exact BK805.out) hb); have n4_ := Aside0.mk (below_step (by repeat (first | (with_reducible first | exact HB.out | apply below_alloc | apply pw_below_drewN | apply below_drew1 | refine below_set ?_ GE798.out | refine below_set ?_ GE805.out) | exact HB.out)) hb); clear HO_799002; clear HO_806002; clear BK798; clear BK805; clear HB; have HO_799002 := n0_; have HO_806002 := n1_; have BK798 := n2_; have BK805 := n3_; have HB := n4_; clear n0_ n1_ n2_ n3_ n4_; (try clear hb); (try clear hb2); (try clear hk); (try clear hi)))
              go_ret
              exact ⟨by first | rfl | (simp [errW_none, errW_some] <;> rfl) | (simp [*, errW_none, errW_some] <;> rfl), by repeat (first | (with_reducible first | exact HB.out | apply below_alloc | apply pw_below_drewN | apply below_drew1 | refine below_set ?_ GE798.out | refine below_set ?_ GE805.out) | exact HB.out)⟩
end Go.Proofs.Ytaiefdhenikiiaa.Base
