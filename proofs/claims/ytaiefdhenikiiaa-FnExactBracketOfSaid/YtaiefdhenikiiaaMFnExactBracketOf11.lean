/- Texts that the proof of FnExactBracketOf needs, part 11. No condition. -/
import Derived.Test.YtaiefdhenikiiaaMFnExactBracketOf10
namespace Go.Proofs.Ytaiefdhenikiiaa.Base
open Go.RowKit Go.Proofs.YtaiefdhenikiiaaW.PrintWords Go.Proofs.YtaiefdhenikiiaaW.PrintLast Go.Proofs.YtaiefdhenikiiaaW.PrintMore
attribute [local go_sem] max2_int min2_int max_two min_two max_three min_three max_four min_four Go.Proofs.YtaiefdhenikiiaaZ.min2_string   -- for this text's walks alone
set_option linter.unusedVariables false
set_option linter.unusedSimpArgs false
mutual
def laws_FnExactBracketOf.j0 : Nat → Int → Int → ByteArray → Int → Bool → Int → Int → List (S79) → Int → Int → List (S79) → Option (Bool)
  | 0, _, _, _, _, _, _, _, _, _, _, _ => none
  | k + 1, x0, x1, x2, x8, x40, x855000, x855001, x855002, x862000, x862001, x862002 => if x40 = true then (some false) else ((laws_markSeries.f k x862000 x862001 x862002 1).bind fun bt863 => ((laws_heldSeries.f k x862000 x862001 bt863.2 1).bind fun t865 => (if t865 < 0 then (some false) else (if t865 = bt863.1 then ((impl_BracketOf.f x0 x1 x2).bind fun bt866 => ((laws_eqSeries.f k bt866.1 bt866.2.1 bt866.2.2.1 x855000 x855001 x855002).bind fun t873 => (if t873 = true then (laws_FnExactBracketOf.j1 k bt863.1 (bt866.2.2.2 != x8) x862000 x862001 bt863.2) else (laws_FnExactBracketOf.j1 k bt863.1 true x862000 x862001 bt863.2)))) else (some false)))))
def laws_FnExactBracketOf.j1 : Nat → Int → Bool → Int → Int → List (S79) → Option (Bool)
  | 0, _, _, _, _, _ => none
  | k + 1, x11, x67, x862000, x862001, x862002 => if x67 = true then (some false) else ((laws_heldSeries.f k x862000 x862001 x862002 1).bind fun t874 => (if t874 < 0 then (some false) else (if t874 = x11 then (some true) else (some false))))
end
def laws_FnExactBracketOf.f (k : Nat) (a0 : Int) (a1 : Int) (a2 : ByteArray) : Option (Bool) := if (a2.size : Int) > 1048576 then (some true) else ((spec_BracketOf.f a0 a1 a2).bind fun bt848 => ((impl_BracketOf.f a0 a1 a2).bind fun bt855 => ((laws_eqSeries.f k bt855.1 bt855.2.1 bt855.2.2.1 bt848.1 bt848.2.1 bt848.2.2.1).bind fun t862 => (if t862 = true then (laws_FnExactBracketOf.j0 k a0 a1 a2 bt848.2.2.2 (bt855.2.2.2 != bt848.2.2.2) bt848.1 bt848.2.1 bt848.2.2.1 bt855.1 bt855.2.1 bt855.2.2.1) else (laws_FnExactBracketOf.j0 k a0 a1 a2 bt848.2.2.2 true bt848.1 bt848.2.1 bt848.2.2.1 bt855.1 bt855.2.1 bt855.2.2.1)))))
theorem laws_FnExactBracketOf.mono_l : ∀ k, (∀ y0 y1 y2 y3 y4 y5 y6 y7 y8 y9 y10, LeO (laws_FnExactBracketOf.j0 k y0 y1 y2 y3 y4 y5 y6 y7 y8 y9 y10) (laws_FnExactBracketOf.j0 (k + 1) y0 y1 y2 y3 y4 y5 y6 y7 y8 y9 y10)) ∧ (∀ y0 y1 y2 y3 y4, LeO (laws_FnExactBracketOf.j1 k y0 y1 y2 y3 y4) (laws_FnExactBracketOf.j1 (k + 1) y0 y1 y2 y3 y4))
  | 0 => ⟨fun _ _ _ _ _ _ _ _ _ _ _ r h => by simp [laws_FnExactBracketOf.j0] at h, fun _ _ _ _ _ r h => by simp [laws_FnExactBracketOf.j1] at h⟩
  | k + 1 => by
    obtain ⟨ih0, ih1⟩ := laws_FnExactBracketOf.mono_l k
    refine ⟨?_, ?_⟩
    · intro y0 y1 y2 y3 y4 y5 y6 y7 y8 y9 y10
      unfold laws_FnExactBracketOf.j0
      repeat' first
      | (with_reducible exact ih0 _ _ _ _ _ _ _ _ _ _ _)
      | (with_reducible exact ih1 _ _ _ _ _)
      | (with_reducible exact laws_eqSeries.mono _ _ _ _ _ _ _)
      | (with_reducible exact laws_heldSeries.mono _ _ _ _ _)
      | (with_reducible exact laws_markSeries.mono _ _ _ _ _)
      | (with_reducible exact LeO.refl _)
      | (with_reducible exact LeO.none _)
      | (with_reducible refine LeO.ite ?_ ?_)
      | (with_reducible refine LeO.bind ?_ (fun _ => ?_))
      | exact ih0 _ _ _ _ _ _ _ _ _ _ _
      | exact ih1 _ _ _ _ _
      | exact laws_eqSeries.mono _ _ _ _ _ _ _
      | exact laws_heldSeries.mono _ _ _ _ _
      | exact laws_markSeries.mono _ _ _ _ _
      | exact LeO.none _
      | refine LeO.ite ?_ ?_
      | refine LeO.bind ?_ (fun _ => ?_)
    · intro y0 y1 y2 y3 y4
      unfold laws_FnExactBracketOf.j1
      repeat' first
      | (with_reducible exact ih0 _ _ _ _ _ _ _ _ _ _ _)
      | (with_reducible exact ih1 _ _ _ _ _)
      | (with_reducible exact laws_eqSeries.mono _ _ _ _ _ _ _)
      | (with_reducible exact laws_heldSeries.mono _ _ _ _ _)
      | (with_reducible exact laws_markSeries.mono _ _ _ _ _)
      | (with_reducible exact LeO.refl _)
      | (with_reducible exact LeO.none _)
      | (with_reducible refine LeO.ite ?_ ?_)
      | (with_reducible refine LeO.bind ?_ (fun _ => ?_))
      | exact ih0 _ _ _ _ _ _ _ _ _ _ _
      | exact ih1 _ _ _ _ _
      | exact laws_eqSeries.mono _ _ _ _ _ _ _
      | exact laws_heldSeries.mono _ _ _ _ _
      | exact laws_markSeries.mono _ _ _ _ _
      | exact LeO.none _
      | refine LeO.ite ?_ ?_
      | refine LeO.bind ?_ (fun _ => ?_)
theorem laws_FnExactBracketOf.mono : ∀ a0 a1 a2 k, LeO (laws_FnExactBracketOf.f k a0 a1 a2) (laws_FnExactBracketOf.f (k + 1) a0 a1 a2) := by
  intro a0 a1 a2 k
  obtain ⟨ih0, ih1⟩ := laws_FnExactBracketOf.mono_l k
  unfold laws_FnExactBracketOf.f
  repeat' first
      | (with_reducible exact ih0 _ _ _ _ _ _ _ _ _ _ _)
      | (with_reducible exact ih1 _ _ _ _ _)
      | (with_reducible exact laws_eqSeries.mono _ _ _ _ _ _ _)
      | (with_reducible exact laws_heldSeries.mono _ _ _ _ _)
      | (with_reducible exact laws_markSeries.mono _ _ _ _ _)
      | (with_reducible exact LeO.refl _)
      | (with_reducible exact LeO.none _)
      | (with_reducible refine LeO.ite ?_ ?_)
      | (with_reducible refine LeO.bind ?_ (fun _ => ?_))
      | exact ih0 _ _ _ _ _ _ _ _ _ _ _
      | exact ih1 _ _ _ _ _
      | exact laws_eqSeries.mono _ _ _ _ _ _ _
      | exact laws_heldSeries.mono _ _ _ _ _
      | exact laws_markSeries.mono _ _ _ _ _
      | exact LeO.none _
      | refine LeO.ite ?_ ?_
      | refine LeO.bind ?_ (fun _ => ?_)
set_option maxHeartbeats 8000000 in
set_option maxRecDepth 100000 in
theorem laws_FnExactBracketOf.calls (k : Nat) (a0 : Int) (a1 : Int) (a2 : ByteArray) (r : Bool) (w : World) (h : laws_FnExactBracketOf.f k a0 a1 a2 = some r) :
    Calls Try.prog 8 #[.int .i64 a0, .int .i64 a1, .string a2] w fun e w' => e = .returned (.bool r) ∧ Below w.heap.size w w' := by
  have hu38 := Try.underlying38
  have HB := Aside0.mk (Below.refl w.heap.size w)
  have H : (if (a2.size : Int) > 1048576 then (some true) else ((spec_BracketOf.f a0 a1 a2).bind fun bt848 => ((impl_BracketOf.f a0 a1 a2).bind fun bt855 => ((laws_eqSeries.f k bt855.1 bt855.2.1 bt855.2.2.1 bt848.1 bt848.2.1 bt848.2.2.1).bind fun t862 => (if t862 = true then (laws_FnExactBracketOf.j0 k a0 a1 a2 bt848.2.2.2 (bt855.2.2.2 != bt848.2.2.2) bt848.1 bt848.2.1 bt848.2.2.1 bt855.1 bt855.2.1 bt855.2.2.1) else (laws_FnExactBracketOf.j0 k a0 a1 a2 bt848.2.2.2 true bt848.1 bt848.2.1 bt848.2.2.1 bt855.1 bt855.2.1 bt855.2.2.1)))))) = some r := h
  clear h
  by_cases c4 : (a2.size : Int) > 1048576
  · rw [if_pos c4] at H
    have c4b0 : decide (1048576 < (a2.size : Int)) = true := decide_eq_true c4
    have c4b1 : decide (1048576 < a2.size) = true := decide_eq_true (by omega)
    clear c4
    obtain rfl := Option.some.inj H
    go_enter Try.func8, Try.ntmps8
    go_wp2
    go_ret
    exact ⟨by first | rfl | (simp [errW_none, errW_some] <;> rfl) | (simp [*, errW_none, errW_some] <;> rfl), by repeat (first | (with_reducible first | exact HB.out | apply below_alloc | apply pw_below_drewN | apply below_drew1) | exact HB.out)⟩
  · rw [if_neg c4] at H
    have c4b0 : decide (1048576 < (a2.size : Int)) = false := decide_eq_false c4
    have c4b1 : decide (1048576 < a2.size) = false := decide_eq_false (by omega)
    clear c4
    replace H := Option.bind_eq_some_iff.mp H
    obtain ⟨⟨t848, t849, t850, t853⟩, A50, H⟩ := H
    replace H : ((impl_BracketOf.f a0 a1 a2).bind fun bt855 => ((laws_eqSeries.f k bt855.1 bt855.2.1 bt855.2.2.1 t848 t849 t850).bind fun t862 => (if t862 = true then (laws_FnExactBracketOf.j0 k a0 a1 a2 t853 (bt855.2.2.2 != t853) t848 t849 t850 bt855.1 bt855.2.1 bt855.2.2.1) else (laws_FnExactBracketOf.j0 k a0 a1 a2 t853 true t848 t849 t850 bt855.1 bt855.2.1 bt855.2.2.1)))) = some r := H
    have A5 := Aside0.mk A50
    clear A50
    replace H := Option.bind_eq_some_iff.mp H
    obtain ⟨⟨t855, t856, t857, t860⟩, A60, H⟩ := H
    replace H : ((laws_eqSeries.f k t855 t856 t857 t848 t849 t850).bind fun t862 => (if t862 = true then (laws_FnExactBracketOf.j0 k a0 a1 a2 t853 (t860 != t853) t848 t849 t850 t855 t856 t857) else (laws_FnExactBracketOf.j0 k a0 a1 a2 t853 true t848 t849 t850 t855 t856 t857))) = some r := H
    have A6 := Aside0.mk A60
    clear A60
    have HC7 := Aside0.mk H
    clear H
    go_enter Try.func8, Try.ntmps8
    go_upto_region 5 with (first | ((with_reducible refine gate_callee (f := 44) rfl ?_); refine goesL_ (some 22) rfl rfl Try.func44 (by kernel_rfl) rfl #[.int .i64 a0, .int .i64 a1, .string a2] rfl (by (try simp only [List.map_toArray, List.map_cons, List.map_nil]); first | done | rfl | (simp only [List.length_drop, List.length_take]; rfl)) ?_; (with_reducible refine (spec_BracketOf.calls a0 a1 a2 t848 t849 t850 t853 _ A5.out).mono ?_); rintro e w8 ⟨v851, rfl, ho0, hb⟩; refine ⟨_, rfl, ?_⟩; have n0_ := Aside0.mk (Kd.R_lower ho0 (below_size (by repeat (first | (with_reducible first | exact HB.out | apply below_alloc | apply pw_below_drewN | apply below_drew1) | exact HB.out)))); have n1_ := Aside0.mk (below_step (by repeat (first | (with_reducible first | exact HB.out | apply below_alloc | apply pw_below_drewN | apply below_drew1) | exact HB.out)) hb); clear HB; have HO852 := n0_; have HB := n1_; clear n0_ n1_; (try clear hb); (try clear hb2); (try clear hk); (try clear hi); (try clear ho0)) | ((with_reducible refine gate_dst (N := 7) rfl ?_); refine box_event ?hg (N := 7) ?hd (cs := #[.int .i64 0, .int .i64 0, .slice none 0 0]) (t := 38) ?hr ?_; (case hd => rfl); (case hg => rfl); (case hr => first | (go_simp; done) | (go_simp; rfl)); intro gb854 hg w9 hbox hb; have n0_ := Aside0.mk (Kd.R_below (by (with_reducible repeat (first | apply Kd.R_alloc | apply Kd.R_drewN | apply Kd.R_drew)); exact HO852.out) hb); have n1_ := Aside0.mk (below_step (by repeat (first | (with_reducible first | exact HB.out | apply below_alloc | apply pw_below_drewN | apply below_drew1) | exact HB.out)) hb); have n2_ := Aside0.mk (hbox); have n3_ := Aside0.mk ((by rw [hg]; exact (below_size (by repeat (first | (with_reducible first | exact HB.out | apply below_alloc | apply pw_below_drewN | apply below_drew1) | exact HB.out))) : w.heap.size ≤ gb854)); have n4_ := Aside0.mk ((by rw [hg]; exact (below_size (by repeat (first | (with_reducible first | exact HB.out | apply below_alloc | apply pw_below_drewN | apply below_drew1) | exact HB.out))) : w.heap.size ≤ gb854)); clear HO852; clear HB; have HO852 := n0_; have HB := n1_; have BK854 := n2_; have GW854 := n3_; have GE854 := n4_; clear n0_ n1_ n2_ n3_ n4_; clear hb hbox hg; have hcz10_0 : w9.cell? ⟨gb854, 0, none⟩ = some (.int .i64 0) := (blk_cell BK854.out 0).trans rfl; have hcz10_1 : w9.cell? ⟨gb854, 1, none⟩ = some (.int .i64 0) := (blk_cell BK854.out 1).trans rfl; have hcz10_2 : w9.cell? ⟨gb854, 2, none⟩ = some (.slice none 0 0) := (blk_cell BK854.out 2).trans rfl; have hfz10_0 := blk_frozen BK854.out 0; have hfz10_1 := blk_frozen BK854.out 1; have hfz10_2 := blk_frozen BK854.out 2; obtain ⟨Ao11, co11, eo11⟩ := Kd.R_slice HO852.out; subst eo11) | ((with_reducible refine gate_callee (f := 45) rfl ?_); refine goesL_ (some 29) rfl rfl Try.func45 (by kernel_rfl) rfl #[.int .i64 a0, .int .i64 a1, .string a2] rfl (by (try simp only [List.map_toArray, List.map_cons, List.map_nil]); first | done | rfl | (simp only [List.length_drop, List.length_take]; rfl)) ?_; (with_reducible refine (impl_BracketOf.calls a0 a1 a2 t855 t856 t857 t860 _ A6.out).mono ?_); rintro e w12 ⟨v858, rfl, ho0, hb⟩; refine ⟨_, rfl, ?_⟩; have n0_ := Aside0.mk (Kd.R_elder' (by (with_reducible repeat (first | apply Kd.R_alloc | apply Kd.R_drewN | apply Kd.R_drew)); exact (Kd.R_mono (Kd.R_far (p := ⟨gb854, 2, none⟩) (Kd.R_far (p := ⟨gb854, 1, none⟩) (Kd.R_far (p := ⟨gb854, 0, none⟩) (Kd.R_types HO852.out BK854.out (by decide)) (fun _ hk => hk.2) (.int .i64 t848)) (fun _ hk => hk.2) (.int .i64 t849)) (fun _ hk => hk.2) (.slice Ao11 t850.length co11)) (fun _ h_ => h_.1))) (Kd.R_base ho0) hb); have n1_ := Aside0.mk (Kd.R_lower (Kd.R_new' ho0 (Kd.R_lt (by (with_reducible repeat (first | apply Kd.R_alloc | apply Kd.R_drewN | apply Kd.R_drew)); exact (Kd.R_mono (Kd.R_far (p := ⟨gb854, 2, none⟩) (Kd.R_far (p := ⟨gb854, 1, none⟩) (Kd.R_far (p := ⟨gb854, 0, none⟩) (Kd.R_types HO852.out BK854.out (by decide)) (fun _ hk => hk.2) (.int .i64 t848)) (fun _ hk => hk.2) (.int .i64 t849)) (fun _ hk => hk.2) (.slice Ao11 t850.length co11)) (fun _ h_ => h_.1))))) (below_size (by repeat (first | (with_reducible first | exact HB.out | apply below_alloc | apply pw_below_drewN | apply below_drew1 | refine below_set ?_ GE854.out) | exact HB.out)))); have n2_ := Aside0.mk (blk_below (g := gb854) (o := .cells #[.int .i64 t848, .int .i64 t849, .slice Ao11 t850.length co11] 38 (0, 0)) (by (with_reducible repeat (first | refine blk_drewN ?_ _ | refine blk_drew ?_ | refine blk_alloc ?_ _)); refine blk_put (cs := #[.int .i64 t848, .int .i64 t849, .slice none 0 0]) ?_ 2 _ rfl; (with_reducible repeat (first | refine blk_drewN ?_ _ | refine blk_drew ?_ | refine blk_alloc ?_ _)); refine blk_put (cs := #[.int .i64 t848, .int .i64 0, .slice none 0 0]) ?_ 1 _ rfl; (with_reducible repeat (first | refine blk_drewN ?_ _ | refine blk_drew ?_ | refine blk_alloc ?_ _)); refine blk_put (cs := #[.int .i64 0, .int .i64 0, .slice none 0 0]) ?_ 0 _ rfl; (with_reducible repeat (first | refine blk_drewN ?_ _ | refine blk_drew ?_ | refine blk_alloc ?_ _)); exact BK854.out) hb); have n3_ := Aside0.mk (below_step (by repeat (first | (with_reducible first | exact HB.out | apply below_alloc | apply pw_below_drewN | apply below_drew1 | refine below_set ?_ GE854.out) | exact HB.out)) hb); clear HO852; clear BK854; clear HB; have HO852 := n0_; have HO859 := n1_; have BK854 := n2_; have HB := n3_; clear n0_ n1_ n2_ n3_; (try clear hb); (try clear hb2); (try clear hk); (try clear hi); (try clear ho0)) | ((with_reducible refine gate_dst (N := 9) rfl ?_); refine box_event ?hg (N := 9) ?hd (cs := #[.int .i64 0, .int .i64 0, .slice none 0 0]) (t := 38) ?hr ?_; (case hd => rfl); (case hg => rfl); (case hr => first | (go_simp; done) | (go_simp; rfl)); intro gb861 hg w13 hbox hb; have n0_ := Aside0.mk (Kd.R_below (by (with_reducible repeat (first | apply Kd.R_alloc | apply Kd.R_drewN | apply Kd.R_drew)); exact HO852.out) hb); have n1_ := Aside0.mk (Kd.R_below (by (with_reducible repeat (first | apply Kd.R_alloc | apply Kd.R_drewN | apply Kd.R_drew)); exact HO859.out) hb); have n2_ := Aside0.mk (blk_below (g := gb854) (o := .cells #[.int .i64 t848, .int .i64 t849, .slice Ao11 t850.length co11] 38 (0, 0)) (by (with_reducible repeat (first | refine blk_drewN ?_ _ | refine blk_drew ?_ | refine blk_alloc ?_ _)); exact BK854.out) hb); have n3_ := Aside0.mk (below_step (by repeat (first | (with_reducible first | exact HB.out | apply below_alloc | apply pw_below_drewN | apply below_drew1 | refine below_set ?_ GE854.out) | exact HB.out)) hb); have n4_ := Aside0.mk (hbox); have n5_ := Aside0.mk ((by rw [hg]; exact (below_size (by repeat (first | (with_reducible first | exact HB.out | apply below_alloc | apply pw_below_drewN | apply below_drew1 | refine below_set ?_ GE854.out) | exact HB.out))) : w.heap.size ≤ gb861)); have n6_ := Aside0.mk ((by rw [hg]; exact (below_size (by repeat (first | (with_reducible first | exact HB.out | apply below_alloc | apply pw_below_drewN | apply below_drew1 | refine below_set ?_ GE854.out) | exact HB.out))) : w.heap.size ≤ gb861)); have n7_ := Aside0.mk ((by rw [hg]; exact Nat.ne_of_lt (blk_lt (g := gb854) (o := .cells #[.int .i64 t848, .int .i64 t849, .slice Ao11 t850.length co11] 38 (0, 0)) (by (with_reducible repeat (first | refine blk_drewN ?_ _ | refine blk_drew ?_ | refine blk_alloc ?_ _)); exact BK854.out)) : gb854 ≠ gb861)); have n8_ := Aside0.mk ((by rw [hg]; exact Nat.ne_of_gt (blk_lt (g := gb854) (o := .cells #[.int .i64 t848, .int .i64 t849, .slice Ao11 t850.length co11] 38 (0, 0)) (by (with_reducible repeat (first | refine blk_drewN ?_ _ | refine blk_drew ?_ | refine blk_alloc ?_ _)); exact BK854.out)) : gb861 ≠ gb854)); clear HO852; clear HO859; clear BK854; clear HB; have HO852 := n0_; have HO859 := n1_; have BK854 := n2_; have HB := n3_; have BK861 := n4_; have GW861 := n5_; have GE861 := n6_; have NB854_861 := n7_; have NB861_854 := n8_; clear n0_ n1_ n2_ n3_ n4_ n5_ n6_ n7_ n8_; clear hb hbox hg; have hnb14 := NB861_854.out; have hnc14 := NB854_861.out; have hcz15_0 : w13.cell? ⟨gb861, 0, none⟩ = some (.int .i64 0) := (blk_cell BK861.out 0).trans rfl; have hcz15_1 : w13.cell? ⟨gb861, 1, none⟩ = some (.int .i64 0) := (blk_cell BK861.out 1).trans rfl; have hcz15_2 : w13.cell? ⟨gb861, 2, none⟩ = some (.slice none 0 0) := (blk_cell BK861.out 2).trans rfl; have hfz15_0 := blk_frozen BK861.out 0; have hfz15_1 := blk_frozen BK861.out 1; have hfz15_2 := blk_frozen BK861.out 2; obtain ⟨Ao16, co16, eo16⟩ := Kd.R_slice HO859.out; subst eo16))
    (try simp only [Act.put, List.setIfInBounds_toArray, List.set_cons_zero, List.set_cons_succ])
    go_cut [40] (fun v40 wc => ∃ (kq : Nat) (x40_6 : Bool), v40 = .bool x40_6 ∧ Aside0 (laws_FnExactBracketOf.j0 kq a0 a1 a2 t853 x40_6 t848 t849 t850 t855 t856 t857 = some r) ∧ Aside0 (kq ≤ k) ∧ Aside0 (Kd.R k79 79 wc w.heap.size (fun k_ => some k_ ≠ ((.slice Ao16 t857.length co16) : Value).ownBlock) (.slice Ao11 t850.length co11) t850) ∧ Aside0 (Kd.R k79 79 wc w.heap.size (fun k_ => some k_ ≠ ((.slice Ao11 t850.length co11) : Value).ownBlock) (.slice Ao16 t857.length co16) t857) ∧ Aside0 (wc.heap[gb854]? = some (.cells #[.int .i64 t848, .int .i64 t849, (.slice Ao11 t850.length co11)] 38 (0, 0))) ∧ Aside0 (wc.heap[gb861]? = some (.cells #[.int .i64 t855, .int .i64 t856, (.slice Ao16 t857.length co16)] 38 (0, 0))) ∧ Aside0 (Below w.heap.size w wc))
    case first =>
      have H := HC7.out
      clear HC7
      replace H := Option.bind_eq_some_iff.mp H
      obtain ⟨t862, A170, H⟩ := H
      replace H : (if t862 = true then (laws_FnExactBracketOf.j0 k a0 a1 a2 t853 (t860 != t853) t848 t849 t850 t855 t856 t857) else (laws_FnExactBracketOf.j0 k a0 a1 a2 t853 true t848 t849 t850 t855 t856 t857)) = some r := H
      have A17 := Aside0.mk A170
      clear A170
      by_cases c18 : t862 = true
      · subst c18
        have H1 : (laws_FnExactBracketOf.j0 k a0 a1 a2 t853 (t860 != t853) t848 t849 t850 t855 t856 t857) = some r := by rw [if_pos rfl] at H; exact H
        clear H
        have H := H1
        clear H1
        have H' := Aside0.mk H
        clear H
        have hnb19 := NB861_854.out
        have hnc19 := NB854_861.out
        have hcz20_0 : w13.cell? ⟨gb861, 0, none⟩ = some (.int .i64 0) := (blk_cell BK861.out 0).trans rfl
        have hcz20_1 : w13.cell? ⟨gb861, 1, none⟩ = some (.int .i64 0) := (blk_cell BK861.out 1).trans rfl
        have hcz20_2 : w13.cell? ⟨gb861, 2, none⟩ = some (.slice none 0 0) := (blk_cell BK861.out 2).trans rfl
        have hfz20_0 := blk_frozen BK861.out 0
        have hfz20_1 := blk_frozen BK861.out 1
        have hfz20_2 := blk_frozen BK861.out 2
        have hcz21_0 : w13.cell? ⟨gb854, 0, none⟩ = some (.int .i64 t848) := (blk_cell BK854.out 0).trans rfl
        have hcz21_1 : w13.cell? ⟨gb854, 1, none⟩ = some (.int .i64 t849) := (blk_cell BK854.out 1).trans rfl
        have hcz21_2 : w13.cell? ⟨gb854, 2, none⟩ = some (.slice Ao11 t850.length co11) := (blk_cell BK854.out 2).trans rfl
        have hfz21_0 := blk_frozen BK854.out 0
        have hfz21_1 := blk_frozen BK854.out 1
        have hfz21_2 := blk_frozen BK854.out 2
        go_wp2_with (first | ((with_reducible refine gate_callee (f := 33) rfl ?_); refine goesL_ (some 34) rfl rfl Try.func33 (by kernel_rfl) rfl #[.agg #[.int .i64 t855, .int .i64 t856, .slice Ao16 t857.length co16], .agg #[.int .i64 t848, .int .i64 t849, .slice Ao11 t850.length co11]] rfl (by (try simp only [List.map_toArray, List.map_cons, List.map_nil]); first | done | rfl | (simp only [List.length_drop, List.length_take]; rfl)) ?_; (with_reducible refine (laws_eqSeries.calls k t855 t856 _ _ t857 t848 t849 _ _ t850 true _ ?side1 ?side2 ?side3 ?side4 A17.out).mono ?_); (case side1 => refine (Kd.R_reads' (e := 79) (base := w.heap.size) (ok := fun k_ => (True ∧ some k_ ≠ (.slice Ao11 t850.length co11 : Value).ownBlock)) (n := t857.length) (c := co16) ?_).2.2; exact (by (with_reducible repeat (first | apply Kd.R_alloc | apply Kd.R_drewN | apply Kd.R_drew)); exact (Kd.R_mono (Kd.R_far (p := ⟨gb861, 2, none⟩) (Kd.R_far (p := ⟨gb861, 1, none⟩) (Kd.R_far (p := ⟨gb861, 0, none⟩) (Kd.R_types HO859.out BK861.out (by decide)) (fun _ hk => hk.2) (.int .i64 t855)) (fun _ hk => hk.2) (.int .i64 t856)) (fun _ hk => hk.2) (.slice Ao16 t857.length co16)) (fun _ h_ => h_.1)))); (case side2 => exact (Kd.R_reads' HO859.out).2.1); (case side3 => refine (Kd.R_reads' (e := 79) (base := w.heap.size) (ok := fun k_ => (True ∧ some k_ ≠ (.slice Ao16 t857.length co16 : Value).ownBlock)) (n := t850.length) (c := co11) ?_).2.2; exact (by (with_reducible repeat (first | apply Kd.R_alloc | apply Kd.R_drewN | apply Kd.R_drew)); exact (Kd.R_mono (Kd.R_far (p := ⟨gb861, 2, none⟩) (Kd.R_far (p := ⟨gb861, 1, none⟩) (Kd.R_far (p := ⟨gb861, 0, none⟩) (Kd.R_types HO852.out BK861.out (by decide)) (fun _ hk => hk.2) (.int .i64 t855)) (fun _ hk => hk.2) (.int .i64 t856)) (fun _ hk => hk.2) (.slice Ao16 t857.length co16)) (fun _ h_ => h_.1)))); (case side4 => exact (Kd.R_reads' HO852.out).2.1); rintro e w22 ⟨rfl, hb⟩; refine ⟨_, rfl, ?_⟩; have n0_ := Aside0.mk (Kd.R_below (by (with_reducible repeat (first | apply Kd.R_alloc | apply Kd.R_drewN | apply Kd.R_drew)); exact (Kd.R_mono (Kd.R_far (p := ⟨gb861, 2, none⟩) (Kd.R_far (p := ⟨gb861, 1, none⟩) (Kd.R_far (p := ⟨gb861, 0, none⟩) (Kd.R_types HO852.out BK861.out (by decide)) (fun _ hk => hk.2) (.int .i64 t855)) (fun _ hk => hk.2) (.int .i64 t856)) (fun _ hk => hk.2) (.slice Ao16 t857.length co16)) (fun _ h_ => h_.1))) hb); have n1_ := Aside0.mk (Kd.R_below (by (with_reducible repeat (first | apply Kd.R_alloc | apply Kd.R_drewN | apply Kd.R_drew)); exact (Kd.R_mono (Kd.R_far (p := ⟨gb861, 2, none⟩) (Kd.R_far (p := ⟨gb861, 1, none⟩) (Kd.R_far (p := ⟨gb861, 0, none⟩) (Kd.R_types HO859.out BK861.out (by decide)) (fun _ hk => hk.2) (.int .i64 t855)) (fun _ hk => hk.2) (.int .i64 t856)) (fun _ hk => hk.2) (.slice Ao16 t857.length co16)) (fun _ h_ => h_.1))) hb); have n2_ := Aside0.mk (blk_below (g := gb854) (o := .cells #[.int .i64 t848, .int .i64 t849, .slice Ao11 t850.length co11] 38 (0, 0)) (by (with_reducible repeat (first | refine blk_drewN ?_ _ | refine blk_drew ?_ | refine blk_alloc ?_ _)); refine blk_far ?_ NB854_861.out _; (with_reducible repeat (first | refine blk_drewN ?_ _ | refine blk_drew ?_ | refine blk_alloc ?_ _)); refine blk_far ?_ NB854_861.out _; (with_reducible repeat (first | refine blk_drewN ?_ _ | refine blk_drew ?_ | refine blk_alloc ?_ _)); refine blk_far ?_ NB854_861.out _; (with_reducible repeat (first | refine blk_drewN ?_ _ | refine blk_drew ?_ | refine blk_alloc ?_ _)); exact BK854.out) hb); have n3_ := Aside0.mk (blk_below (g := gb861) (o := .cells #[.int .i64 t855, .int .i64 t856, .slice Ao16 t857.length co16] 38 (0, 0)) (by (with_reducible repeat (first | refine blk_drewN ?_ _ | refine blk_drew ?_ | refine blk_alloc ?_ _)); refine blk_put (cs := #[.int .i64 t855, .int .i64 t856, .slice none 0 0]) ?_ 2 _ rfl; (with_reducible repeat (first | refine blk_drewN ?_ _ | refine blk_drew ?_ | refine blk_alloc ?_ _)); refine blk_put (cs := #[.int .i64 t855, .int .i64 0, .slice none 0 0]) ?_ 1 _ rfl; (with_reducible repeat (first | refine blk_drewN ?_ _ | refine blk_drew ?_ | refine blk_alloc ?_ _)); refine blk_put (cs := #[.int .i64 0, .int .i64 0, .slice none 0 0]) ?_ 0 _ rfl; (with_reducible repeat (first | refine blk_drewN ?_ _ | refine blk_drew ?_ | refine blk_alloc ?_ _)); exact BK861.out) hb); have n4_ := Aside0.mk (below_step (by repeat (first | (with_reducible first | exact HB.out | apply below_alloc | apply pw_below_drewN | apply below_drew1 | refine below_set ?_ GE854.out | refine below_set ?_ GE861.out) | exact HB.out)) hb); clear HO852; clear HO859; clear BK854; clear BK861; clear HB; have HO852 := n0_; have HO859 := n1_; have BK854 := n2_; have BK861 := n3_; have HB := n4_; clear n0_ n1_ n2_ n3_ n4_; (try clear hb); (try clear hb2); (try clear hk); (try clear hi)))
        go_meet
        case rel => exact ⟨_, ((t860 != t853)), (by first | rfl | (simp; done) | (simp [*]; done)), H', ⟨by first | omega | exact Nat.le_refl _⟩, ⟨by (with_reducible repeat (first | apply Kd.R_alloc | apply Kd.R_drewN | apply Kd.R_drew)); exact Kd.R_mono HO852.out (fun _ hk => hk.2)⟩, ⟨by (with_reducible repeat (first | apply Kd.R_alloc | apply Kd.R_drewN | apply Kd.R_drew)); exact Kd.R_mono HO859.out (fun _ hk => hk.2)⟩, ⟨by (with_reducible repeat (first | refine blk_drewN ?_ _ | refine blk_drew ?_ | refine blk_alloc ?_ _)); exact BK854.out⟩, ⟨by (with_reducible repeat (first | refine blk_drewN ?_ _ | refine blk_drew ?_ | refine blk_alloc ?_ _)); exact BK861.out⟩, ⟨by repeat (first | (with_reducible first | exact HB.out | apply below_alloc | apply pw_below_drewN | apply below_drew1 | refine below_set ?_ GE854.out | refine below_set ?_ GE861.out) | exact HB.out)⟩⟩
      · replace c18 := Bool.eq_false_iff.mpr c18
        subst c18
        have H1 : (laws_FnExactBracketOf.j0 k a0 a1 a2 t853 true t848 t849 t850 t855 t856 t857) = some r := by rw [if_neg (show ¬ (false = true) by decide)] at H; exact H
        clear H
        have H := H1
        clear H1
        have H' := Aside0.mk H
        clear H
        have hnb23 := NB861_854.out
        have hnc23 := NB854_861.out
        have hcz24_0 : w13.cell? ⟨gb861, 0, none⟩ = some (.int .i64 0) := (blk_cell BK861.out 0).trans rfl
        have hcz24_1 : w13.cell? ⟨gb861, 1, none⟩ = some (.int .i64 0) := (blk_cell BK861.out 1).trans rfl
        have hcz24_2 : w13.cell? ⟨gb861, 2, none⟩ = some (.slice none 0 0) := (blk_cell BK861.out 2).trans rfl
        have hfz24_0 := blk_frozen BK861.out 0
        have hfz24_1 := blk_frozen BK861.out 1
        have hfz24_2 := blk_frozen BK861.out 2
        have hcz25_0 : w13.cell? ⟨gb854, 0, none⟩ = some (.int .i64 t848) := (blk_cell BK854.out 0).trans rfl
        have hcz25_1 : w13.cell? ⟨gb854, 1, none⟩ = some (.int .i64 t849) := (blk_cell BK854.out 1).trans rfl
        have hcz25_2 : w13.cell? ⟨gb854, 2, none⟩ = some (.slice Ao11 t850.length co11) := (blk_cell BK854.out 2).trans rfl
        have hfz25_0 := blk_frozen BK854.out 0
        have hfz25_1 := blk_frozen BK854.out 1
        have hfz25_2 := blk_frozen BK854.out 2
        go_wp2_with (first | ((with_reducible refine gate_callee (f := 33) rfl ?_); refine goesL_ (some 34) rfl rfl Try.func33 (by kernel_rfl) rfl #[.agg #[.int .i64 t855, .int .i64 t856, .slice Ao16 t857.length co16], .agg #[.int .i64 t848, .int .i64 t849, .slice Ao11 t850.length co11]] rfl (by (try simp only [List.map_toArray, List.map_cons, List.map_nil]); first | done | rfl | (simp only [List.length_drop, List.length_take]; rfl)) ?_; (with_reducible refine (laws_eqSeries.calls k t855 t856 _ _ t857 t848 t849 _ _ t850 false _ ?side1 ?side2 ?side3 ?side4 A17.out).mono ?_); (case side1 => refine (Kd.R_reads' (e := 79) (base := w.heap.size) (ok := fun k_ => (True ∧ some k_ ≠ (.slice Ao11 t850.length co11 : Value).ownBlock)) (n := t857.length) (c := co16) ?_).2.2; exact (by (with_reducible repeat (first | apply Kd.R_alloc | apply Kd.R_drewN | apply Kd.R_drew)); exact (Kd.R_mono (Kd.R_far (p := ⟨gb861, 2, none⟩) (Kd.R_far (p := ⟨gb861, 1, none⟩) (Kd.R_far (p := ⟨gb861, 0, none⟩) (Kd.R_types HO859.out BK861.out (by decide)) (fun _ hk => hk.2) (.int .i64 t855)) (fun _ hk => hk.2) (.int .i64 t856)) (fun _ hk => hk.2) (.slice Ao16 t857.length co16)) (fun _ h_ => h_.1)))); (case side2 => exact (Kd.R_reads' HO859.out).2.1); (case side3 => refine (Kd.R_reads' (e := 79) (base := w.heap.size) (ok := fun k_ => (True ∧ some k_ ≠ (.slice Ao16 t857.length co16 : Value).ownBlock)) (n := t850.length) (c := co11) ?_).2.2; exact (by (with_reducible repeat (first | apply Kd.R_alloc | apply Kd.R_drewN | apply Kd.R_drew)); exact (Kd.R_mono (Kd.R_far (p := ⟨gb861, 2, none⟩) (Kd.R_far (p := ⟨gb861, 1, none⟩) (Kd.R_far (p := ⟨gb861, 0, none⟩) (Kd.R_types HO852.out BK861.out (by decide)) (fun _ hk => hk.2) (.int .i64 t855)) (fun _ hk => hk.2) (.int .i64 t856)) (fun _ hk => hk.2) (.slice Ao16 t857.length co16)) (fun _ h_ => h_.1)))); (case side4 => exact (Kd.R_reads' HO852.out).2.1); rintro e w26 ⟨rfl, hb⟩; refine ⟨_, rfl, ?_⟩; have n0_ := Aside0.mk (Kd.R_below (by (with_reducible repeat (first | apply Kd.R_alloc | apply Kd.R_drewN | apply Kd.R_drew)); exact (Kd.R_mono (Kd.R_far (p := ⟨gb861, 2, none⟩) (Kd.R_far (p := ⟨gb861, 1, none⟩) (Kd.R_far (p := ⟨gb861, 0, none⟩) (Kd.R_types HO852.out BK861.out (by decide)) (fun _ hk => hk.2) (.int .i64 t855)) (fun _ hk => hk.2) (.int .i64 t856)) (fun _ hk => hk.2) (.slice Ao16 t857.length co16)) (fun _ h_ => h_.1))) hb); have n1_ := Aside0.mk (Kd.R_below (by (with_reducible repeat (first | apply Kd.R_alloc | apply Kd.R_drewN | apply Kd.R_drew)); exact (Kd.R_mono (Kd.R_far (p := ⟨gb861, 2, none⟩) (Kd.R_far (p := ⟨gb861, 1, none⟩) (Kd.R_far (p := ⟨gb861, 0, none⟩) (Kd.R_types HO859.out BK861.out (by decide)) (fun _ hk => hk.2) (.int .i64 t855)) (fun _ hk => hk.2) (.int .i64 t856)) (fun _ hk => hk.2) (.slice Ao16 t857.length co16)) (fun _ h_ => h_.1))) hb); have n2_ := Aside0.mk (blk_below (g := gb854) (o := .cells #[.int .i64 t848, .int .i64 t849, .slice Ao11 t850.length co11] 38 (0, 0)) (by (with_reducible repeat (first | refine blk_drewN ?_ _ | refine blk_drew ?_ | refine blk_alloc ?_ _)); refine blk_far ?_ NB854_861.out _; (with_reducible repeat (first | refine blk_drewN ?_ _ | refine blk_drew ?_ | refine blk_alloc ?_ _)); refine blk_far ?_ NB854_861.out _; (with_reducible repeat (first | refine blk_drewN ?_ _ | refine blk_drew ?_ | refine blk_alloc ?_ _)); refine blk_far ?_ NB854_861.out _; (with_reducible repeat (first | refine blk_drewN ?_ _ | refine blk_drew ?_ | refine blk_alloc ?_ _)); exact BK854.out) hb); have n3_ := Aside0.mk (blk_below (g := gb861) (o := .cells #[.int .i64 t855, .int .i64 t856, .slice Ao16 t857.length co16] 38 (0, 0)) (by (with_reducible repeat (first | refine blk_drewN ?_ _ | refine blk_drew ?_ | refine blk_alloc ?_ _)); refine blk_put (cs := #[.int .i64 t855, .int .i64 t856, .slice none 0 0]) ?_ 2 _ rfl; (with_reducible repeat (first | refine blk_drewN ?_ _ | refine blk_drew ?_ | refine blk_alloc ?_ _)); refine blk_put (cs := #[.int .i64 t855, .int .i64 0, .slice none 0 0]) ?_ 1 _ rfl; (with_reducible repeat (first | refine blk_drewN ?_ _ | refine blk_drew ?_ | refine blk_alloc ?_ _)); refine blk_put (cs := #[.int .i64 0, .int .i64 0, .slice none 0 0]) ?_ 0 _ rfl; (with_reducible repeat (first | refine blk_drewN ?_ _ | refine blk_drew ?_ | refine blk_alloc ?_ _)); exact BK861.out) hb); have n4_ := Aside0.mk (below_step (by repeat (first | (with_reducible first | exact HB.out | apply below_alloc | apply pw_below_drewN | apply below_drew1 | refine below_set ?_ GE854.out | refine below_set ?_ GE861.out) | exact HB.out)) hb); clear HO852; clear HO859; clear BK854; clear BK861; clear HB; have HO852 := n0_; have HO859 := n1_; have BK854 := n2_; have BK861 := n3_; have HB := n4_; clear n0_ n1_ n2_ n3_ n4_; (try clear hb); (try clear hb2); (try clear hk); (try clear hi)))
        go_meet
        case rel => exact ⟨_, (true), (by first | rfl | (simp; done) | (simp [*]; done)), H', ⟨by first | omega | exact Nat.le_refl _⟩, ⟨by (with_reducible repeat (first | apply Kd.R_alloc | apply Kd.R_drewN | apply Kd.R_drew)); exact Kd.R_mono HO852.out (fun _ hk => hk.2)⟩, ⟨by (with_reducible repeat (first | apply Kd.R_alloc | apply Kd.R_drewN | apply Kd.R_drew)); exact Kd.R_mono HO859.out (fun _ hk => hk.2)⟩, ⟨by (with_reducible repeat (first | refine blk_drewN ?_ _ | refine blk_drew ?_ | refine blk_alloc ?_ _)); exact BK854.out⟩, ⟨by (with_reducible repeat (first | refine blk_drewN ?_ _ | refine blk_drew ?_ | refine blk_alloc ?_ _)); exact BK861.out⟩, ⟨by repeat (first | (with_reducible first | exact HB.out | apply below_alloc | apply pw_below_drewN | apply below_drew1 | refine below_set ?_ GE854.out | refine below_set ?_ GE861.out) | exact HB.out)⟩⟩
    case rest =>
      clear HC7
      try clear c1
      try clear c2
      try clear p2
      try clear c3
      try clear c4
      try clear c4b0
      try clear c4b1
      try clear c8
      try clear c14
      try clear c18
      try clear c19
      try clear c23
      try clear hcz10_0
      try clear hcz10_1
      try clear hcz10_2
      try clear hcz15_0
      try clear hcz15_1
      try clear hcz15_2
      try clear hcz20_0
      try clear hcz20_1
      try clear hcz20_2
      try clear hcz21_0
      try clear hcz21_1
      try clear hcz21_2
      try clear hcz24_0
      try clear hcz24_1
      try clear hcz24_2
      try clear hcz25_0
      try clear hcz25_1
      try clear hcz25_2
      try clear hfz10_0
      try clear hfz10_1
      try clear hfz10_2
      try clear hfz15_0
      try clear hfz15_1
      try clear hfz15_2
      try clear hfz20_0
      try clear hfz20_1
      try clear hfz20_2
      try clear hfz21_0
      try clear hfz21_1
      try clear hfz21_2
      try clear hfz24_0
      try clear hfz24_1
      try clear hfz24_2
      try clear hfz25_0
      try clear hfz25_1
      try clear hfz25_2
      obtain ⟨kq, x40_6, rfl, HA, HJ6, HO_855002, HO_862002, BK854, BK861, HB⟩ := hcut
      cases kq with
      | zero => exact absurd HA.out (by simp [laws_FnExactBracketOf.j0])
      | succ kj6 =>
        have H := HA.out
        clear HA
        simp only [laws_FnExactBracketOf.j0] at H
        by_cases c27 : x40_6 = true
        · subst c27
          have H1 : (some false) = some r := by rw [if_pos rfl] at H; exact H
          clear H
          have H := H1
          clear H1
          obtain rfl := Option.some.inj H
          go_wp2
          go_ret
          exact ⟨by first | rfl | (simp [errW_none, errW_some] <;> rfl) | (simp [*, errW_none, errW_some] <;> rfl), by repeat (first | (with_reducible first | exact HB.out | apply below_alloc | apply pw_below_drewN | apply below_drew1 | refine below_set ?_ GE854.out | refine below_set ?_ GE861.out) | exact HB.out)⟩
        · replace c27 := Bool.eq_false_iff.mpr c27
          subst c27
          have H1 : ((laws_markSeries.f kj6 t855 t856 t857 1).bind fun bt863 => ((laws_heldSeries.f kj6 t855 t856 bt863.2 1).bind fun t865 => (if t865 < 0 then (some false) else (if t865 = bt863.1 then ((impl_BracketOf.f a0 a1 a2).bind fun bt866 => ((laws_eqSeries.f kj6 bt866.1 bt866.2.1 bt866.2.2.1 t848 t849 t850).bind fun t873 => (if t873 = true then (laws_FnExactBracketOf.j1 kj6 bt863.1 (bt866.2.2.2 != t853) t855 t856 bt863.2) else (laws_FnExactBracketOf.j1 kj6 bt863.1 true t855 t856 bt863.2)))) else (some false))))) = some r := by rw [if_neg (show ¬ (false = true) by decide)] at H; exact H
          clear H
          have H := H1
          clear H1
          replace H := Option.bind_eq_some_iff.mp H
          obtain ⟨⟨t863, t864⟩, A280, H⟩ := H
          replace H : ((laws_heldSeries.f kj6 t855 t856 t864 1).bind fun t865 => (if t865 < 0 then (some false) else (if t865 = t863 then ((impl_BracketOf.f a0 a1 a2).bind fun bt866 => ((laws_eqSeries.f kj6 bt866.1 bt866.2.1 bt866.2.2.1 t848 t849 t850).bind fun t873 => (if t873 = true then (laws_FnExactBracketOf.j1 kj6 t863 (bt866.2.2.2 != t853) t855 t856 t864) else (laws_FnExactBracketOf.j1 kj6 t863 true t855 t856 t864)))) else (some false)))) = some r := H
          have A28 := Aside0.mk A280
          clear A280
          replace H := Option.bind_eq_some_iff.mp H
          obtain ⟨t865, A290, H⟩ := H
          replace H : (if t865 < 0 then (some false) else (if t865 = t863 then ((impl_BracketOf.f a0 a1 a2).bind fun bt866 => ((laws_eqSeries.f kj6 bt866.1 bt866.2.1 bt866.2.2.1 t848 t849 t850).bind fun t873 => (if t873 = true then (laws_FnExactBracketOf.j1 kj6 t863 (bt866.2.2.2 != t853) t855 t856 t864) else (laws_FnExactBracketOf.j1 kj6 t863 true t855 t856 t864)))) else (some false))) = some r := H
          have A29 := Aside0.mk A290
          clear A290
          by_cases c30 : t865 < 0
          · rw [if_pos c30] at H
            have c30b0 : decide (t865 < 0) = true := decide_eq_true c30
            clear c30
            obtain rfl := Option.some.inj H
            have hnb31 := NB861_854.out
            have hnc31 := NB854_861.out
            have hcz32_0 : wc.cell? ⟨gb861, 0, none⟩ = some (.int .i64 t855) := (blk_cell BK861.out 0).trans rfl
            have hcz32_1 : wc.cell? ⟨gb861, 1, none⟩ = some (.int .i64 t856) := (blk_cell BK861.out 1).trans rfl
            have hcz32_2 : wc.cell? ⟨gb861, 2, none⟩ = some (.slice Ao16 t857.length co16) := (blk_cell BK861.out 2).trans rfl
            have hfz32_0 := blk_frozen BK861.out 0
            have hfz32_1 := blk_frozen BK861.out 1
            have hfz32_2 := blk_frozen BK861.out 2
            go_wp2_with (first | ((with_reducible refine gate_callee (f := 34) rfl ?_); refine goesL_ (some 43) rfl rfl Try.func34 (by kernel_rfl) rfl #[.agg #[.int .i64 t855, .int .i64 t856, .slice Ao16 t857.length co16], .int .i64 1] rfl (by (try simp only [List.map_toArray, List.map_cons, List.map_nil]); first | done | rfl | (simp only [List.length_drop, List.length_take]; rfl)) ?_; (with_reducible refine (laws_markSeries.calls kj6 t855 t856 (fun k_ => some k_ = (.slice Ao16 t857.length co16 : Value).ownBlock) (.slice Ao16 t857.length co16) t857 1 t863 t864 w _ ?side1 ?side2 A28.out).mono ?_); (case side1 => repeat (first | (with_reducible first | exact HB.out | apply below_alloc | apply pw_below_drewN | apply below_drew1 | refine below_set ?_ GE854.out | refine below_set ?_ GE861.out) | exact HB.out)); (case side2 => exact Kd.R_tight rfl HO_862002.out); rintro e w33 ⟨rfl, hy0, hb, hkp⟩; refine ⟨_, rfl, ?_⟩; have n0_ := Aside0.mk (Kd.R_mono (ok' := fun k_ => some k_ ≠ (.slice Ao16 t857.length co16 : Value).ownBlock) (Kd.R_keptB (HO_855002.out) hkp (fun k_ hk_ hs_ => (hk_) hs_)) (fun k_ hk_ => hk_.1)); have n1_ := Aside0.mk (Kd.R_reok rfl hy0 (fun k_ e_ => HO_862002.out.1 k_ e_)); have n2_ := Aside0.mk (blk_kept (by (with_reducible repeat (first | refine blk_drewN ?_ _ | refine blk_drew ?_ | refine blk_alloc ?_ _)); exact BK854.out) hkp (fun hs_ => (fun e_ => (Kd.R_ne HO_862002.out BK854.out (by decide)) e_) hs_)); have n3_ := Aside0.mk (blk_kept (by (with_reducible repeat (first | refine blk_drewN ?_ _ | refine blk_drew ?_ | refine blk_alloc ?_ _)); exact BK861.out) hkp (fun hs_ => (fun e_ => (Kd.R_ne HO_862002.out BK861.out (by decide)) e_) hs_)); have n4_ := Aside0.mk (hb); clear HO_855002; clear HO_862002; clear BK854; clear BK861; clear HB; have HO_855002 := n0_; have HO_862002 := n1_; have BK854 := n2_; have BK861 := n3_; have HB := n4_; clear n0_ n1_ n2_ n3_ n4_; (try clear hb); (try clear hkp); (try clear hy0); have hcz34_0 : w33.cell? ⟨gb861, 0, none⟩ = some (.int .i64 t855) := (blk_cell BK861.out 0).trans rfl; have hcz34_1 : w33.cell? ⟨gb861, 1, none⟩ = some (.int .i64 t856) := (blk_cell BK861.out 1).trans rfl; have hcz34_2 : w33.cell? ⟨gb861, 2, none⟩ = some (.slice Ao16 t857.length co16) := (blk_cell BK861.out 2).trans rfl; have hfz34_0 := blk_frozen BK861.out 0; have hfz34_1 := blk_frozen BK861.out 1; have hfz34_2 := blk_frozen BK861.out 2) | ((with_reducible refine gate_callee (f := 39) rfl ?_); refine goesL_ (some 46) rfl rfl Try.func39 (by kernel_rfl) rfl #[.agg #[.int .i64 t855, .int .i64 t856, .slice Ao16 t864.length co16], .int .i64 1] rfl (by (try simp only [List.map_toArray, List.map_cons, List.map_nil]); first | done | (rw [show t864.length = t857.length from (Kd.R_reads' HO_862002.out).1.symm] <;> rfl) | rfl | (simp only [List.length_drop, List.length_take]; rfl)) ?_; (with_reducible refine (laws_heldSeries.calls kj6 t855 t856 _ _ t864 1 t865 _ ?side1 ?side2 A29.out).mono ?_); (case side1 => repeat (first | exact (Kd.R_reads' HO_862002.out).2.2 | (with_reducible refine Kd.C_alloc ?_ _) | (with_reducible refine Kd.C_drewN ?_ _) | (with_reducible refine Kd.C_drew ?_))); (case side2 => rw [show t864.length = t857.length from (Kd.R_reads' HO_862002.out).1.symm]; exact (Kd.R_reads' HO_862002.out).2.1); rintro e w35 ⟨rfl, hb⟩; refine ⟨_, rfl, ?_⟩; have n0_ := Aside0.mk (Kd.R_below (by (with_reducible repeat (first | apply Kd.R_alloc | apply Kd.R_drewN | apply Kd.R_drew)); exact HO_855002.out) hb); have n1_ := Aside0.mk (Kd.R_below (by (with_reducible repeat (first | apply Kd.R_alloc | apply Kd.R_drewN | apply Kd.R_drew)); exact HO_862002.out) hb); have n2_ := Aside0.mk (blk_below (g := gb854) (o := .cells #[.int .i64 t848, .int .i64 t849, .slice Ao11 t850.length co11] 38 (0, 0)) (by (with_reducible repeat (first | refine blk_drewN ?_ _ | refine blk_drew ?_ | refine blk_alloc ?_ _)); exact BK854.out) hb); have n3_ := Aside0.mk (blk_below (g := gb861) (o := .cells #[.int .i64 t855, .int .i64 t856, .slice Ao16 t857.length co16] 38 (0, 0)) (by (with_reducible repeat (first | refine blk_drewN ?_ _ | refine blk_drew ?_ | refine blk_alloc ?_ _)); exact BK861.out) hb); have n4_ := Aside0.mk (below_step (by repeat (first | (with_reducible first | exact HB.out | apply below_alloc | apply pw_below_drewN | apply below_drew1 | refine below_set ?_ GE854.out | refine below_set ?_ GE861.out) | exact HB.out)) hb); clear HO_855002; clear HO_862002; clear BK854; clear BK861; clear HB; have HO_855002 := n0_; have HO_862002 := n1_; have BK854 := n2_; have BK861 := n3_; have HB := n4_; clear n0_ n1_ n2_ n3_ n4_; (try clear hb); (try clear hb2); (try clear hk); (try clear hi)))
            go_ret
            exact ⟨by first | rfl | (simp [errW_none, errW_some] <;> rfl) | (simp [*, errW_none, errW_some] <;> rfl), by repeat (first | (with_reducible first | exact HB.out | apply below_alloc | apply pw_below_drewN | apply below_drew1 | refine below_set ?_ GE854.out | refine below_set ?_ GE861.out) | exact HB.out)⟩
          · rw [if_neg c30] at H
            have c30b0 : decide (t865 < 0) = false := decide_eq_false c30
            clear c30
            by_cases c36 : t865 = t863
            · rw [if_pos c36] at H
              have c36b0 : (t865 == t863) = true := beq_iff_eq.mpr c36
              have c36b1 : (t865 != t863) = false := bne_eq_false_iff_eq.mpr c36
              clear c36
              replace H := Option.bind_eq_some_iff.mp H
              obtain ⟨⟨t866, t867, t868, t871⟩, A370, H⟩ := H
              replace H : ((laws_eqSeries.f kj6 t866 t867 t868 t848 t849 t850).bind fun t873 => (if t873 = true then (laws_FnExactBracketOf.j1 kj6 t863 (t871 != t853) t855 t856 t864) else (laws_FnExactBracketOf.j1 kj6 t863 true t855 t856 t864))) = some r := H
              have A37 := Aside0.mk A370
              clear A370
              have HC38 := Aside0.mk H
              clear H
              have hnb39 := NB861_854.out
              have hnc39 := NB854_861.out
              have hcz40_0 : wc.cell? ⟨gb861, 0, none⟩ = some (.int .i64 t855) := (blk_cell BK861.out 0).trans rfl
              have hcz40_1 : wc.cell? ⟨gb861, 1, none⟩ = some (.int .i64 t856) := (blk_cell BK861.out 1).trans rfl
              have hcz40_2 : wc.cell? ⟨gb861, 2, none⟩ = some (.slice Ao16 t857.length co16) := (blk_cell BK861.out 2).trans rfl
              have hfz40_0 := blk_frozen BK861.out 0
              have hfz40_1 := blk_frozen BK861.out 1
              have hfz40_2 := blk_frozen BK861.out 2
              go_upto_region 16 with (first | ((with_reducible refine gate_callee (f := 34) rfl ?_); refine goesL_ (some 43) rfl rfl Try.func34 (by kernel_rfl) rfl #[.agg #[.int .i64 t855, .int .i64 t856, .slice Ao16 t857.length co16], .int .i64 1] rfl (by (try simp only [List.map_toArray, List.map_cons, List.map_nil]); first | done | rfl | (simp only [List.length_drop, List.length_take]; rfl)) ?_; (with_reducible refine (laws_markSeries.calls kj6 t855 t856 (fun k_ => some k_ = (.slice Ao16 t857.length co16 : Value).ownBlock) (.slice Ao16 t857.length co16) t857 1 t863 t864 w _ ?side1 ?side2 A28.out).mono ?_); (case side1 => repeat (first | (with_reducible first | exact HB.out | apply below_alloc | apply pw_below_drewN | apply below_drew1 | refine below_set ?_ GE854.out | refine below_set ?_ GE861.out) | exact HB.out)); (case side2 => exact Kd.R_tight rfl HO_862002.out); rintro e w41 ⟨rfl, hy0, hb, hkp⟩; refine ⟨_, rfl, ?_⟩; have n0_ := Aside0.mk (Kd.R_mono (ok' := fun k_ => some k_ ≠ (.slice Ao16 t857.length co16 : Value).ownBlock) (Kd.R_keptB (HO_855002.out) hkp (fun k_ hk_ hs_ => (hk_) hs_)) (fun k_ hk_ => hk_.1)); have n1_ := Aside0.mk (Kd.R_reok rfl hy0 (fun k_ e_ => HO_862002.out.1 k_ e_)); have n2_ := Aside0.mk (blk_kept (by (with_reducible repeat (first | refine blk_drewN ?_ _ | refine blk_drew ?_ | refine blk_alloc ?_ _)); exact BK854.out) hkp (fun hs_ => (fun e_ => (Kd.R_ne HO_862002.out BK854.out (by decide)) e_) hs_)); have n3_ := Aside0.mk (blk_kept (by (with_reducible repeat (first | refine blk_drewN ?_ _ | refine blk_drew ?_ | refine blk_alloc ?_ _)); exact BK861.out) hkp (fun hs_ => (fun e_ => (Kd.R_ne HO_862002.out BK861.out (by decide)) e_) hs_)); have n4_ := Aside0.mk (hb); clear HO_855002; clear HO_862002; clear BK854; clear BK861; clear HB; have HO_855002 := n0_; have HO_862002 := n1_; have BK854 := n2_; have BK861 := n3_; have HB := n4_; clear n0_ n1_ n2_ n3_ n4_; (try clear hb); (try clear hkp); (try clear hy0); have hcz42_0 : w41.cell? ⟨gb861, 0, none⟩ = some (.int .i64 t855) := (blk_cell BK861.out 0).trans rfl; have hcz42_1 : w41.cell? ⟨gb861, 1, none⟩ = some (.int .i64 t856) := (blk_cell BK861.out 1).trans rfl; have hcz42_2 : w41.cell? ⟨gb861, 2, none⟩ = some (.slice Ao16 t857.length co16) := (blk_cell BK861.out 2).trans rfl; have hfz42_0 := blk_frozen BK861.out 0; have hfz42_1 := blk_frozen BK861.out 1; have hfz42_2 := blk_frozen BK861.out 2) | ((with_reducible refine gate_callee (f := 39) rfl ?_); refine goesL_ (some 46) rfl rfl Try.func39 (by kernel_rfl) rfl #[.agg #[.int .i64 t855, .int .i64 t856, .slice Ao16 t864.length co16], .int .i64 1] rfl (by (try simp only [List.map_toArray, List.map_cons, List.map_nil]); first | done | (rw [show t864.length = t857.length from (Kd.R_reads' HO_862002.out).1.symm] <;> rfl) | rfl | (simp only [List.length_drop, List.length_take]; rfl)) ?_; (with_reducible refine (laws_heldSeries.calls kj6 t855 t856 _ _ t864 1 t865 _ ?side1 ?side2 A29.out).mono ?_); (case side1 => repeat (first | exact (Kd.R_reads' HO_862002.out).2.2 | (with_reducible refine Kd.C_alloc ?_ _) | (with_reducible refine Kd.C_drewN ?_ _) | (with_reducible refine Kd.C_drew ?_))); (case side2 => rw [show t864.length = t857.length from (Kd.R_reads' HO_862002.out).1.symm]; exact (Kd.R_reads' HO_862002.out).2.1); rintro e w43 ⟨rfl, hb⟩; refine ⟨_, rfl, ?_⟩; have n0_ := Aside0.mk (Kd.R_below (by (with_reducible repeat (first | apply Kd.R_alloc | apply Kd.R_drewN | apply Kd.R_drew)); exact HO_855002.out) hb); have n1_ := Aside0.mk (Kd.R_below (by (with_reducible repeat (first | apply Kd.R_alloc | apply Kd.R_drewN | apply Kd.R_drew)); exact HO_862002.out) hb); have n2_ := Aside0.mk (blk_below (g := gb854) (o := .cells #[.int .i64 t848, .int .i64 t849, .slice Ao11 t850.length co11] 38 (0, 0)) (by (with_reducible repeat (first | refine blk_drewN ?_ _ | refine blk_drew ?_ | refine blk_alloc ?_ _)); exact BK854.out) hb); have n3_ := Aside0.mk (blk_below (g := gb861) (o := .cells #[.int .i64 t855, .int .i64 t856, .slice Ao16 t857.length co16] 38 (0, 0)) (by (with_reducible repeat (first | refine blk_drewN ?_ _ | refine blk_drew ?_ | refine blk_alloc ?_ _)); exact BK861.out) hb); have n4_ := Aside0.mk (below_step (by repeat (first | (with_reducible first | exact HB.out | apply below_alloc | apply pw_below_drewN | apply below_drew1 | refine below_set ?_ GE854.out | refine below_set ?_ GE861.out) | exact HB.out)) hb); clear HO_855002; clear HO_862002; clear BK854; clear BK861; clear HB; have HO_855002 := n0_; have HO_862002 := n1_; have BK854 := n2_; have BK861 := n3_; have HB := n4_; clear n0_ n1_ n2_ n3_ n4_; (try clear hb); (try clear hb2); (try clear hk); (try clear hi)) | ((with_reducible refine gate_callee (f := 45) rfl ?_); refine goesL_ (some 56) rfl rfl Try.func45 (by kernel_rfl) rfl #[.int .i64 a0, .int .i64 a1, .string a2] rfl (by (try simp only [List.map_toArray, List.map_cons, List.map_nil]); first | done | rfl | (simp only [List.length_drop, List.length_take]; rfl)) ?_; (with_reducible refine (impl_BracketOf.calls a0 a1 a2 t866 t867 t868 t871 _ A37.out).mono ?_); rintro e w44 ⟨v869, rfl, ho0, hb⟩; refine ⟨_, rfl, ?_⟩; have n0_ := Aside0.mk (Kd.R_elder' (by (with_reducible repeat (first | apply Kd.R_alloc | apply Kd.R_drewN | apply Kd.R_drew)); exact HO_855002.out) (Kd.R_base ho0) hb); have n1_ := Aside0.mk (Kd.R_elder' (by (with_reducible repeat (first | apply Kd.R_alloc | apply Kd.R_drewN | apply Kd.R_drew)); exact HO_862002.out) (Kd.R_base ho0) hb); have n2_ := Aside0.mk (Kd.R_lower (Kd.R_new' (Kd.R_new' ho0 (Kd.R_lt (by (with_reducible repeat (first | apply Kd.R_alloc | apply Kd.R_drewN | apply Kd.R_drew)); exact HO_855002.out))) (Kd.R_lt (by (with_reducible repeat (first | apply Kd.R_alloc | apply Kd.R_drewN | apply Kd.R_drew)); exact HO_862002.out))) (below_size (by repeat (first | (with_reducible first | exact HB.out | apply below_alloc | apply pw_below_drewN | apply below_drew1 | refine below_set ?_ GE854.out | refine below_set ?_ GE861.out) | exact HB.out)))); have n3_ := Aside0.mk (blk_below (g := gb854) (o := .cells #[.int .i64 t848, .int .i64 t849, .slice Ao11 t850.length co11] 38 (0, 0)) (by (with_reducible repeat (first | refine blk_drewN ?_ _ | refine blk_drew ?_ | refine blk_alloc ?_ _)); exact BK854.out) hb); have n4_ := Aside0.mk (blk_below (g := gb861) (o := .cells #[.int .i64 t855, .int .i64 t856, .slice Ao16 t857.length co16] 38 (0, 0)) (by (with_reducible repeat (first | refine blk_drewN ?_ _ | refine blk_drew ?_ | refine blk_alloc ?_ _)); exact BK861.out) hb); have n5_ := Aside0.mk (below_step (by repeat (first | (with_reducible first | exact HB.out | apply below_alloc | apply pw_below_drewN | apply below_drew1 | refine below_set ?_ GE854.out | refine below_set ?_ GE861.out) | exact HB.out)) hb); clear HO_855002; clear HO_862002; clear BK854; clear BK861; clear HB; have HO_855002 := n0_; have HO_862002 := n1_; have HO870 := n2_; have BK854 := n3_; have BK861 := n4_; have HB := n5_; clear n0_ n1_ n2_ n3_ n4_ n5_; (try clear hb); (try clear hb2); (try clear hk); (try clear hi); (try clear ho0)) | ((with_reducible refine gate_dst (N := 13) rfl ?_); refine box_event ?hg (N := 13) ?hd (cs := #[.int .i64 0, .int .i64 0, .slice none 0 0]) (t := 38) ?hr ?_; (case hd => rfl); (case hg => rfl); (case hr => first | (go_simp; done) | (go_simp; rfl)); intro gb872 hg w45 hbox hb; have n0_ := Aside0.mk (Kd.R_below (by (with_reducible repeat (first | apply Kd.R_alloc | apply Kd.R_drewN | apply Kd.R_drew)); exact HO_855002.out) hb); have n1_ := Aside0.mk (Kd.R_below (by (with_reducible repeat (first | apply Kd.R_alloc | apply Kd.R_drewN | apply Kd.R_drew)); exact HO_862002.out) hb); have n2_ := Aside0.mk (Kd.R_below (by (with_reducible repeat (first | apply Kd.R_alloc | apply Kd.R_drewN | apply Kd.R_drew)); exact HO870.out) hb); have n3_ := Aside0.mk (blk_below (g := gb854) (o := .cells #[.int .i64 t848, .int .i64 t849, .slice Ao11 t850.length co11] 38 (0, 0)) (by (with_reducible repeat (first | refine blk_drewN ?_ _ | refine blk_drew ?_ | refine blk_alloc ?_ _)); exact BK854.out) hb); have n4_ := Aside0.mk (blk_below (g := gb861) (o := .cells #[.int .i64 t855, .int .i64 t856, .slice Ao16 t857.length co16] 38 (0, 0)) (by (with_reducible repeat (first | refine blk_drewN ?_ _ | refine blk_drew ?_ | refine blk_alloc ?_ _)); exact BK861.out) hb); have n5_ := Aside0.mk (below_step (by repeat (first | (with_reducible first | exact HB.out | apply below_alloc | apply pw_below_drewN | apply below_drew1 | refine below_set ?_ GE854.out | refine below_set ?_ GE861.out) | exact HB.out)) hb); have n6_ := Aside0.mk (hbox); have n7_ := Aside0.mk ((by rw [hg]; exact (below_size (by repeat (first | (with_reducible first | exact HB.out | apply below_alloc | apply pw_below_drewN | apply below_drew1 | refine below_set ?_ GE854.out | refine below_set ?_ GE861.out) | exact HB.out))) : w.heap.size ≤ gb872)); have n8_ := Aside0.mk ((by rw [hg]; exact (below_size (by repeat (first | (with_reducible first | exact HB.out | apply below_alloc | apply pw_below_drewN | apply below_drew1 | refine below_set ?_ GE854.out | refine below_set ?_ GE861.out) | exact HB.out))) : w.heap.size ≤ gb872)); have n9_ := Aside0.mk ((by rw [hg]; exact Nat.ne_of_lt (blk_lt (g := gb854) (o := .cells #[.int .i64 t848, .int .i64 t849, .slice Ao11 t850.length co11] 38 (0, 0)) (by (with_reducible repeat (first | refine blk_drewN ?_ _ | refine blk_drew ?_ | refine blk_alloc ?_ _)); exact BK854.out)) : gb854 ≠ gb872)); have n10_ := Aside0.mk ((by rw [hg]; exact Nat.ne_of_gt (blk_lt (g := gb854) (o := .cells #[.int .i64 t848, .int .i64 t849, .slice Ao11 t850.length co11] 38 (0, 0)) (by (with_reducible repeat (first | refine blk_drewN ?_ _ | refine blk_drew ?_ | refine blk_alloc ?_ _)); exact BK854.out)) : gb872 ≠ gb854)); have n11_ := Aside0.mk ((by rw [hg]; exact Nat.ne_of_lt (blk_lt (g := gb861) (o := .cells #[.int .i64 t855, .int .i64 t856, .slice Ao16 t857.length co16] 38 (0, 0)) (by (with_reducible repeat (first | refine blk_drewN ?_ _ | refine blk_drew ?_ | refine blk_alloc ?_ _)); exact BK861.out)) : gb861 ≠ gb872)); have n12_ := Aside0.mk ((by rw [hg]; exact Nat.ne_of_gt (blk_lt (g := gb861) (o := .cells #[.int .i64 t855, .int .i64 t856, .slice Ao16 t857.length co16] 38 (0, 0)) (by (with_reducible repeat (first | refine blk_drewN ?_ _ | refine blk_drew ?_ | refine blk_alloc ?_ _)); exact BK861.out)) : gb872 ≠ gb861)); clear HO_855002; clear HO_862002; clear HO870; clear BK854; clear BK861; clear HB; have HO_855002 := n0_; have HO_862002 := n1_; have HO870 := n2_; have BK854 := n3_; have BK861 := n4_; have HB := n5_; have BK872 := n6_; have GW872 := n7_; have GE872 := n8_; have NB854_872 := n9_; have NB872_854 := n10_; have NB861_872 := n11_; have NB872_861 := n12_; clear n0_ n1_ n2_ n3_ n4_ n5_ n6_ n7_ n8_ n9_ n10_ n11_ n12_; clear hb hbox hg; have hnb46 := NB872_854.out; have hnc46 := NB854_872.out; have hnb47 := NB872_861.out; have hnc47 := NB861_872.out; have hcz48_0 : w45.cell? ⟨gb872, 0, none⟩ = some (.int .i64 0) := (blk_cell BK872.out 0).trans rfl; have hcz48_1 : w45.cell? ⟨gb872, 1, none⟩ = some (.int .i64 0) := (blk_cell BK872.out 1).trans rfl; have hcz48_2 : w45.cell? ⟨gb872, 2, none⟩ = some (.slice none 0 0) := (blk_cell BK872.out 2).trans rfl; have hfz48_0 := blk_frozen BK872.out 0; have hfz48_1 := blk_frozen BK872.out 1; have hfz48_2 := blk_frozen BK872.out 2; obtain ⟨Ao49, co49, eo49⟩ := Kd.R_slice HO870.out; subst eo49))
              (try simp only [Act.put, List.setIfInBounds_toArray, List.set_cons_zero, List.set_cons_succ])
              go_cut [67] (fun v67 wc => ∃ (kq : Nat) (x67_37 : Bool), v67 = .bool x67_37 ∧ Aside0 (laws_FnExactBracketOf.j1 kq t863 x67_37 t855 t856 t864 = some r) ∧ Aside0 (kq ≤ kj6) ∧ Aside0 (Kd.R k79 79 wc w.heap.size (fun k_ => some k_ ≠ ((.slice Ao16 t857.length co16) : Value).ownBlock ∧ some k_ ≠ ((.slice Ao49 t868.length co49) : Value).ownBlock) (.slice Ao11 t850.length co11) t850) ∧ Aside0 (Kd.R k79 79 wc w.heap.size (fun k_ => some k_ ≠ ((.slice Ao11 t850.length co11) : Value).ownBlock ∧ some k_ ≠ ((.slice Ao49 t868.length co49) : Value).ownBlock) (.slice Ao16 t857.length co16) t864) ∧ Aside0 (Kd.R k79 79 wc w.heap.size (fun k_ => some k_ ≠ ((.slice Ao11 t850.length co11) : Value).ownBlock ∧ some k_ ≠ ((.slice Ao16 t857.length co16) : Value).ownBlock) (.slice Ao49 t868.length co49) t868) ∧ Aside0 (wc.heap[gb854]? = some (.cells #[.int .i64 t848, .int .i64 t849, (.slice Ao11 t850.length co11)] 38 (0, 0))) ∧ Aside0 (wc.heap[gb861]? = some (.cells #[.int .i64 t855, .int .i64 t856, (.slice Ao16 t857.length co16)] 38 (0, 0))) ∧ Aside0 (wc.heap[gb872]? = some (.cells #[.int .i64 t866, .int .i64 t867, (.slice Ao49 t868.length co49)] 38 (0, 0))) ∧ Aside0 (Below w.heap.size w wc))
              case first =>
                have H := HC38.out
                clear HC38
                replace H := Option.bind_eq_some_iff.mp H
                obtain ⟨t873, A500, H⟩ := H
                replace H : (if t873 = true then (laws_FnExactBracketOf.j1 kj6 t863 (t871 != t853) t855 t856 t864) else (laws_FnExactBracketOf.j1 kj6 t863 true t855 t856 t864)) = some r := H
                have A50 := Aside0.mk A500
                clear A500
                by_cases c51 : t873 = true
                · subst c51
                  have H1 : (laws_FnExactBracketOf.j1 kj6 t863 (t871 != t853) t855 t856 t864) = some r := by rw [if_pos rfl] at H; exact H
                  clear H
                  have H := H1
                  clear H1
                  have H' := Aside0.mk H
                  clear H
                  have hnb52 := NB872_854.out
                  have hnc52 := NB854_872.out
                  have hnb53 := NB872_861.out
                  have hnc53 := NB861_872.out
                  have hcz54_0 : w45.cell? ⟨gb872, 0, none⟩ = some (.int .i64 0) := (blk_cell BK872.out 0).trans rfl
                  have hcz54_1 : w45.cell? ⟨gb872, 1, none⟩ = some (.int .i64 0) := (blk_cell BK872.out 1).trans rfl
                  have hcz54_2 : w45.cell? ⟨gb872, 2, none⟩ = some (.slice none 0 0) := (blk_cell BK872.out 2).trans rfl
                  have hfz54_0 := blk_frozen BK872.out 0
                  have hfz54_1 := blk_frozen BK872.out 1
                  have hfz54_2 := blk_frozen BK872.out 2
                  have hnb55 := NB854_861.out
                  have hnc55 := NB861_854.out
                  have hcz56_0 : w45.cell? ⟨gb854, 0, none⟩ = some (.int .i64 t848) := (blk_cell BK854.out 0).trans rfl
                  have hcz56_1 : w45.cell? ⟨gb854, 1, none⟩ = some (.int .i64 t849) := (blk_cell BK854.out 1).trans rfl
                  have hcz56_2 : w45.cell? ⟨gb854, 2, none⟩ = some (.slice Ao11 t850.length co11) := (blk_cell BK854.out 2).trans rfl
                  have hfz56_0 := blk_frozen BK854.out 0
                  have hfz56_1 := blk_frozen BK854.out 1
                  have hfz56_2 := blk_frozen BK854.out 2
                  go_wp2_with (first | ((with_reducible refine gate_callee (f := 33) rfl ?_); refine goesL_ (some 61) rfl rfl Try.func33 (by kernel_rfl) rfl #[.agg #[.int .i64 t866, .int .i64 t867, .slice Ao49 t868.length co49], .agg #[.int .i64 t848, .int .i64 t849, .slice Ao11 t850.length co11]] rfl (by (try simp only [List.map_toArray, List.map_cons, List.map_nil]); first | done | rfl | (simp only [List.length_drop, List.length_take]; rfl)) ?_; (with_reducible refine (laws_eqSeries.calls kj6 t866 t867 _ _ t868 t848 t849 _ _ t850 true _ ?side1 ?side2 ?side3 ?side4 A50.out).mono ?_); (case side1 => refine (Kd.R_reads' (e := 79) (base := w.heap.size) (ok := fun k_ => ((True ∧ some k_ ≠ (.slice Ao11 t850.length co11 : Value).ownBlock) ∧ some k_ ≠ (.slice Ao16 t857.length co16 : Value).ownBlock)) (n := t868.length) (c := co49) ?_).2.2; exact (by (with_reducible repeat (first | apply Kd.R_alloc | apply Kd.R_drewN | apply Kd.R_drew)); exact (Kd.R_mono (Kd.R_far (p := ⟨gb872, 2, none⟩) (Kd.R_far (p := ⟨gb872, 1, none⟩) (Kd.R_far (p := ⟨gb872, 0, none⟩) (Kd.R_types HO870.out BK872.out (by decide)) (fun _ hk => hk.2) (.int .i64 t866)) (fun _ hk => hk.2) (.int .i64 t867)) (fun _ hk => hk.2) (.slice Ao49 t868.length co49)) (fun _ h_ => h_.1)))); (case side2 => exact (Kd.R_reads' HO870.out).2.1); (case side3 => refine (Kd.R_reads' (e := 79) (base := w.heap.size) (ok := fun k_ => (some k_ ≠ (.slice Ao16 t857.length co16 : Value).ownBlock ∧ some k_ ≠ (.slice Ao49 t868.length co49 : Value).ownBlock)) (n := t850.length) (c := co11) ?_).2.2; exact (by (with_reducible repeat (first | apply Kd.R_alloc | apply Kd.R_drewN | apply Kd.R_drew)); exact (Kd.R_mono (Kd.R_far (p := ⟨gb872, 2, none⟩) (Kd.R_far (p := ⟨gb872, 1, none⟩) (Kd.R_far (p := ⟨gb872, 0, none⟩) (Kd.R_types HO_855002.out BK872.out (by decide)) (fun _ hk => hk.2) (.int .i64 t866)) (fun _ hk => hk.2) (.int .i64 t867)) (fun _ hk => hk.2) (.slice Ao49 t868.length co49)) (fun _ h_ => h_.1)))); (case side4 => exact (Kd.R_reads' HO_855002.out).2.1); rintro e w57 ⟨rfl, hb⟩; refine ⟨_, rfl, ?_⟩; have n0_ := Aside0.mk (Kd.R_below (by (with_reducible repeat (first | apply Kd.R_alloc | apply Kd.R_drewN | apply Kd.R_drew)); exact (Kd.R_mono (Kd.R_far (p := ⟨gb872, 2, none⟩) (Kd.R_far (p := ⟨gb872, 1, none⟩) (Kd.R_far (p := ⟨gb872, 0, none⟩) (Kd.R_types HO_855002.out BK872.out (by decide)) (fun _ hk => hk.2) (.int .i64 t866)) (fun _ hk => hk.2) (.int .i64 t867)) (fun _ hk => hk.2) (.slice Ao49 t868.length co49)) (fun _ h_ => h_.1))) hb); have n1_ := Aside0.mk (Kd.R_below (by (with_reducible repeat (first | apply Kd.R_alloc | apply Kd.R_drewN | apply Kd.R_drew)); exact (Kd.R_mono (Kd.R_far (p := ⟨gb872, 2, none⟩) (Kd.R_far (p := ⟨gb872, 1, none⟩) (Kd.R_far (p := ⟨gb872, 0, none⟩) (Kd.R_types HO_862002.out BK872.out (by decide)) (fun _ hk => hk.2) (.int .i64 t866)) (fun _ hk => hk.2) (.int .i64 t867)) (fun _ hk => hk.2) (.slice Ao49 t868.length co49)) (fun _ h_ => h_.1))) hb); have n2_ := Aside0.mk (Kd.R_below (by (with_reducible repeat (first | apply Kd.R_alloc | apply Kd.R_drewN | apply Kd.R_drew)); exact (Kd.R_mono (Kd.R_far (p := ⟨gb872, 2, none⟩) (Kd.R_far (p := ⟨gb872, 1, none⟩) (Kd.R_far (p := ⟨gb872, 0, none⟩) (Kd.R_types HO870.out BK872.out (by decide)) (fun _ hk => hk.2) (.int .i64 t866)) (fun _ hk => hk.2) (.int .i64 t867)) (fun _ hk => hk.2) (.slice Ao49 t868.length co49)) (fun _ h_ => h_.1))) hb); have n3_ := Aside0.mk (blk_below (g := gb854) (o := .cells #[.int .i64 t848, .int .i64 t849, .slice Ao11 t850.length co11] 38 (0, 0)) (by (with_reducible repeat (first | refine blk_drewN ?_ _ | refine blk_drew ?_ | refine blk_alloc ?_ _)); refine blk_far ?_ NB854_872.out _; (with_reducible repeat (first | refine blk_drewN ?_ _ | refine blk_drew ?_ | refine blk_alloc ?_ _)); refine blk_far ?_ NB854_872.out _; (with_reducible repeat (first | refine blk_drewN ?_ _ | refine blk_drew ?_ | refine blk_alloc ?_ _)); refine blk_far ?_ NB854_872.out _; (with_reducible repeat (first | refine blk_drewN ?_ _ | refine blk_drew ?_ | refine blk_alloc ?_ _)); exact BK854.out) hb); have n4_ := Aside0.mk (blk_below (g := gb861) (o := .cells #[.int .i64 t855, .int .i64 t856, .slice Ao16 t857.length co16] 38 (0, 0)) (by (with_reducible repeat (first | refine blk_drewN ?_ _ | refine blk_drew ?_ | refine blk_alloc ?_ _)); refine blk_far ?_ NB861_872.out _; (with_reducible repeat (first | refine blk_drewN ?_ _ | refine blk_drew ?_ | refine blk_alloc ?_ _)); refine blk_far ?_ NB861_872.out _; (with_reducible repeat (first | refine blk_drewN ?_ _ | refine blk_drew ?_ | refine blk_alloc ?_ _)); refine blk_far ?_ NB861_872.out _; (with_reducible repeat (first | refine blk_drewN ?_ _ | refine blk_drew ?_ | refine blk_alloc ?_ _)); exact BK861.out) hb); have n5_ := Aside0.mk (blk_below (g := gb872) (o := .cells #[.int .i64 t866, .int .i64 t867, .slice Ao49 t868.length co49] 38 (0, 0)) (by (with_reducible repeat (first | refine blk_drewN ?_ _ | refine blk_drew ?_ | refine blk_alloc ?_ _)); refine blk_put (cs := #[.int .i64 t866, .int .i64 t867, .slice none 0 0]) ?_ 2 _ rfl; (with_reducible repeat (first | refine blk_drewN ?_ _ | refine blk_drew ?_ | refine blk_alloc ?_ _)); refine blk_put (cs := #[.int .i64 t866, .int .i64 0, .slice none 0 0]) ?_ 1 _ rfl; (with_reducible repeat (first | refine blk_drewN ?_ _ | refine blk_drew ?_ | refine blk_alloc ?_ _)); refine blk_put (cs := #[.int .i64 0, .int .i64 0, .slice none 0 0]) ?_ 0 _ rfl; (with_reducible repeat (first | refine blk_drewN ?_ _ | refine blk_drew ?_ | refine blk_alloc ?_ _)); exact BK872.out) hb); have n6_ := Aside0.mk (below_step (by repeat (first | (with_reducible first | exact HB.out | apply below_alloc | apply pw_below_drewN | apply below_drew1 | refine below_set ?_ GE854.out | refine below_set ?_ GE861.out | refine below_set ?_ GE872.out) | exact HB.out)) hb); clear HO_855002; clear HO_862002; clear HO870; clear BK854; clear BK861; clear BK872; clear HB; have HO_855002 := n0_; have HO_862002 := n1_; have HO870 := n2_; have BK854 := n3_; have BK861 := n4_; have BK872 := n5_; have HB := n6_; clear n0_ n1_ n2_ n3_ n4_ n5_ n6_; (try clear hb); (try clear hb2); (try clear hk); (try clear hi)))
                  go_meet
                  case rel => exact ⟨_, ((t871 != t853)), (by first | rfl | (simp; done) | (simp [*]; done)), H', ⟨by have := HJ6.out; first | omega | exact Nat.le_refl _⟩, ⟨by (with_reducible repeat (first | apply Kd.R_alloc | apply Kd.R_drewN | apply Kd.R_drew)); exact HO_855002.out⟩, ⟨by (with_reducible repeat (first | apply Kd.R_alloc | apply Kd.R_drewN | apply Kd.R_drew)); exact HO_862002.out⟩, ⟨by (with_reducible repeat (first | apply Kd.R_alloc | apply Kd.R_drewN | apply Kd.R_drew)); exact Kd.R_mono HO870.out (fun _ hk => ⟨hk.1.2, hk.2⟩)⟩, ⟨by (with_reducible repeat (first | refine blk_drewN ?_ _ | refine blk_drew ?_ | refine blk_alloc ?_ _)); exact BK854.out⟩, ⟨by (with_reducible repeat (first | refine blk_drewN ?_ _ | refine blk_drew ?_ | refine blk_alloc ?_ _)); exact BK861.out⟩, ⟨by (with_reducible repeat (first | refine blk_drewN ?_ _ | refine blk_drew ?_ | refine blk_alloc ?_ _)); exact BK872.out⟩, ⟨by repeat (first | (with_reducible first | exact HB.out | apply below_alloc | apply pw_below_drewN | apply below_drew1 | refine below_set ?_ GE854.out | refine below_set ?_ GE861.out | refine below_set ?_ GE872.out) | exact HB.out)⟩⟩
                · replace c51 := Bool.eq_false_iff.mpr c51
                  subst c51
                  have H1 : (laws_FnExactBracketOf.j1 kj6 t863 true t855 t856 t864) = some r := by rw [if_neg (show ¬ (false = true) by decide)] at H; exact H
                  clear H
                  have H := H1
                  clear H1
                  have H' := Aside0.mk H
                  clear H
                  have hnb58 := NB872_854.out
                  have hnc58 := NB854_872.out
                  have hnb59 := NB872_861.out
                  have hnc59 := NB861_872.out
                  have hcz60_0 : w45.cell? ⟨gb872, 0, none⟩ = some (.int .i64 0) := (blk_cell BK872.out 0).trans rfl
                  have hcz60_1 : w45.cell? ⟨gb872, 1, none⟩ = some (.int .i64 0) := (blk_cell BK872.out 1).trans rfl
                  have hcz60_2 : w45.cell? ⟨gb872, 2, none⟩ = some (.slice none 0 0) := (blk_cell BK872.out 2).trans rfl
                  have hfz60_0 := blk_frozen BK872.out 0
                  have hfz60_1 := blk_frozen BK872.out 1
                  have hfz60_2 := blk_frozen BK872.out 2
                  have hnb61 := NB854_861.out
                  have hnc61 := NB861_854.out
                  have hcz62_0 : w45.cell? ⟨gb854, 0, none⟩ = some (.int .i64 t848) := (blk_cell BK854.out 0).trans rfl
                  have hcz62_1 : w45.cell? ⟨gb854, 1, none⟩ = some (.int .i64 t849) := (blk_cell BK854.out 1).trans rfl
                  have hcz62_2 : w45.cell? ⟨gb854, 2, none⟩ = some (.slice Ao11 t850.length co11) := (blk_cell BK854.out 2).trans rfl
                  have hfz62_0 := blk_frozen BK854.out 0
                  have hfz62_1 := blk_frozen BK854.out 1
                  have hfz62_2 := blk_frozen BK854.out 2
                  go_wp2_with (first | ((with_reducible refine gate_callee (f := 33) rfl ?_); refine goesL_ (some 61) rfl rfl Try.func33 (by kernel_rfl) rfl #[.agg #[.int .i64 t866, .int .i64 t867, .slice Ao49 t868.length co49], .agg #[.int .i64 t848, .int .i64 t849, .slice Ao11 t850.length co11]] rfl (by (try simp only [List.map_toArray, List.map_cons, List.map_nil]); first | done | rfl | (simp only [List.length_drop, List.length_take]; rfl)) ?_; (with_reducible refine (laws_eqSeries.calls kj6 t866 t867 _ _ t868 t848 t849 _ _ t850 false _ ?side1 ?side2 ?side3 ?side4 A50.out).mono ?_); (case side1 => refine (Kd.R_reads' (e := 79) (base := w.heap.size) (ok := fun k_ => ((True ∧ some k_ ≠ (.slice Ao11 t850.length co11 : Value).ownBlock) ∧ some k_ ≠ (.slice Ao16 t857.length co16 : Value).ownBlock)) (n := t868.length) (c := co49) ?_).2.2; exact (by (with_reducible repeat (first | apply Kd.R_alloc | apply Kd.R_drewN | apply Kd.R_drew)); exact (Kd.R_mono (Kd.R_far (p := ⟨gb872, 2, none⟩) (Kd.R_far (p := ⟨gb872, 1, none⟩) (Kd.R_far (p := ⟨gb872, 0, none⟩) (Kd.R_types HO870.out BK872.out (by decide)) (fun _ hk => hk.2) (.int .i64 t866)) (fun _ hk => hk.2) (.int .i64 t867)) (fun _ hk => hk.2) (.slice Ao49 t868.length co49)) (fun _ h_ => h_.1)))); (case side2 => exact (Kd.R_reads' HO870.out).2.1); (case side3 => refine (Kd.R_reads' (e := 79) (base := w.heap.size) (ok := fun k_ => (some k_ ≠ (.slice Ao16 t857.length co16 : Value).ownBlock ∧ some k_ ≠ (.slice Ao49 t868.length co49 : Value).ownBlock)) (n := t850.length) (c := co11) ?_).2.2; exact (by (with_reducible repeat (first | apply Kd.R_alloc | apply Kd.R_drewN | apply Kd.R_drew)); exact (Kd.R_mono (Kd.R_far (p := ⟨gb872, 2, none⟩) (Kd.R_far (p := ⟨gb872, 1, none⟩) (Kd.R_far (p := ⟨gb872, 0, none⟩) (Kd.R_types HO_855002.out BK872.out (by decide)) (fun _ hk => hk.2) (.int .i64 t866)) (fun _ hk => hk.2) (.int .i64 t867)) (fun _ hk => hk.2) (.slice Ao49 t868.length co49)) (fun _ h_ => h_.1)))); (case side4 => exact (Kd.R_reads' HO_855002.out).2.1); rintro e w63 ⟨rfl, hb⟩; refine ⟨_, rfl, ?_⟩; have n0_ := Aside0.mk (Kd.R_below (by (with_reducible repeat (first | apply Kd.R_alloc | apply Kd.R_drewN | apply Kd.R_drew)); exact (Kd.R_mono (Kd.R_far (p := ⟨gb872, 2, none⟩) (Kd.R_far (p := ⟨gb872, 1, none⟩) (Kd.R_far (p := ⟨gb872, 0, none⟩) (Kd.R_types HO_855002.out BK872.out (by decide)) (fun _ hk => hk.2) (.int .i64 t866)) (fun _ hk => hk.2) (.int .i64 t867)) (fun _ hk => hk.2) (.slice Ao49 t868.length co49)) (fun _ h_ => h_.1))) hb); have n1_ := Aside0.mk (Kd.R_below (by (with_reducible repeat (first | apply Kd.R_alloc | apply Kd.R_drewN | apply Kd.R_drew)); exact (Kd.R_mono (Kd.R_far (p := ⟨gb872, 2, none⟩) (Kd.R_far (p := ⟨gb872, 1, none⟩) (Kd.R_far (p := ⟨gb872, 0, none⟩) (Kd.R_types HO_862002.out BK872.out (by decide)) (fun _ hk => hk.2) (.int .i64 t866)) (fun _ hk => hk.2) (.int .i64 t867)) (fun _ hk => hk.2) (.slice Ao49 t868.length co49)) (fun _ h_ => h_.1))) hb); have n2_ := Aside0.mk (Kd.R_below (by (with_reducible repeat (first | apply Kd.R_alloc | apply Kd.R_drewN | apply Kd.R_drew)); exact (Kd.R_mono (Kd.R_far (p := ⟨gb872, 2, none⟩) (Kd.R_far (p := ⟨gb872, 1, none⟩) (Kd.R_far (p := ⟨gb872, 0, none⟩) (Kd.R_types HO870.out BK872.out (by decide)) (fun _ hk => hk.2) (.int .i64 t866)) (fun _ hk => hk.2) (.int .i64 t867)) (fun _ hk => hk.2) (.slice Ao49 t868.length co49)) (fun _ h_ => h_.1))) hb); have n3_ := Aside0.mk (blk_below (g := gb854) (o := .cells #[.int .i64 t848, .int .i64 t849, .slice Ao11 t850.length co11] 38 (0, 0)) (by (with_reducible repeat (first | refine blk_drewN ?_ _ | refine blk_drew ?_ | refine blk_alloc ?_ _)); refine blk_far ?_ NB854_872.out _; (with_reducible repeat (first | refine blk_drewN ?_ _ | refine blk_drew ?_ | refine blk_alloc ?_ _)); refine blk_far ?_ NB854_872.out _; (with_reducible repeat (first | refine blk_drewN ?_ _ | refine blk_drew ?_ | refine blk_alloc ?_ _)); refine blk_far ?_ NB854_872.out _; (with_reducible repeat (first | refine blk_drewN ?_ _ | refine blk_drew ?_ | refine blk_alloc ?_ _)); exact BK854.out) hb); have n4_ := Aside0.mk (blk_below (g := gb861) (o := .cells #[.int .i64 t855, .int .i64 t856, .slice Ao16 t857.length co16] 38 (0, 0)) (by (with_reducible repeat (first | refine blk_drewN ?_ _ | refine blk_drew ?_ | refine blk_alloc ?_ _)); refine blk_far ?_ NB861_872.out _; (with_reducible repeat (first | refine blk_drewN ?_ _ | refine blk_drew ?_ | refine blk_alloc ?_ _)); refine blk_far ?_ NB861_872.out _; (with_reducible repeat (first | refine blk_drewN ?_ _ | refine blk_drew ?_ | refine blk_alloc ?_ _)); refine blk_far ?_ NB861_872.out _; (with_reducible repeat (first | refine blk_drewN ?_ _ | refine blk_drew ?_ | refine blk_alloc ?_ _)); exact BK861.out) hb); have n5_ := Aside0.mk (blk_below (g := gb872) (o := .cells #[.int .i64 t866, .int .i64 t867, .slice Ao49 t868.length co49] 38 (0, 0)) (by (with_reducible repeat (first | refine blk_drewN ?_ _ | refine blk_drew ?_ | refine blk_alloc ?_ _)); refine blk_put (cs := #[.int .i64 t866, .int .i64 t867, .slice none 0 0]) ?_ 2 _ rfl; (with_reducible repeat (first | refine blk_drewN ?_ _ | refine blk_drew ?_ | refine blk_alloc ?_ _)); refine blk_put (cs := #[.int .i64 t866, .int .i64 0, .slice none 0 0]) ?_ 1 _ rfl; (with_reducible repeat (first | refine blk_drewN ?_ _ | refine blk_drew ?_ | refine blk_alloc ?_ _)); refine blk_put (cs := #[.int .i64 0, .int .i64 0, .slice none 0 0]) ?_ 0 _ rfl; (with_reducible repeat (first | refine blk_drewN ?_ _ | refine blk_drew ?_ | refine blk_alloc ?_ _)); exact BK872.out) hb); have n6_ := Aside0.mk (below_step (by repeat (first | (with_reducible first | exact HB.out | apply below_alloc | apply pw_below_drewN | apply below_drew1 | refine below_set ?_ GE854.out | refine below_set ?_ GE861.out | refine below_set ?_ GE872.out) | exact HB.out)) hb); clear HO_855002; clear HO_862002; clear HO870; clear BK854; clear BK861; clear BK872; clear HB; have HO_855002 := n0_; have HO_862002 := n1_; have HO870 := n2_; have BK854 := n3_; have BK861 := n4_; have BK872 := n5_; have HB := n6_; clear n0_ n1_ n2_ n3_ n4_ n5_ n6_; (try clear hb); (try clear hb2); (try clear hk); (try clear hi)))
                  go_meet
                  case rel => exact ⟨_, (true), (by first | rfl | (simp; done) | (simp [*]; done)), H', ⟨by have := HJ6.out; first | omega | exact Nat.le_refl _⟩, ⟨by (with_reducible repeat (first | apply Kd.R_alloc | apply Kd.R_drewN | apply Kd.R_drew)); exact HO_855002.out⟩, ⟨by (with_reducible repeat (first | apply Kd.R_alloc | apply Kd.R_drewN | apply Kd.R_drew)); exact HO_862002.out⟩, ⟨by (with_reducible repeat (first | apply Kd.R_alloc | apply Kd.R_drewN | apply Kd.R_drew)); exact Kd.R_mono HO870.out (fun _ hk => ⟨hk.1.2, hk.2⟩)⟩, ⟨by (with_reducible repeat (first | refine blk_drewN ?_ _ | refine blk_drew ?_ | refine blk_alloc ?_ _)); exact BK854.out⟩, ⟨by (with_reducible repeat (first | refine blk_drewN ?_ _ | refine blk_drew ?_ | refine blk_alloc ?_ _)); exact BK861.out⟩, ⟨by (with_reducible repeat (first | refine blk_drewN ?_ _ | refine blk_drew ?_ | refine blk_alloc ?_ _)); exact BK872.out⟩, ⟨by repeat (first | (with_reducible first | exact HB.out | apply below_alloc | apply pw_below_drewN | apply below_drew1 | refine below_set ?_ GE854.out | refine below_set ?_ GE861.out | refine below_set ?_ GE872.out) | exact HB.out)⟩⟩
              case rest =>
                clear HC38
                try clear c1
                try clear c2
                try clear p2
                try clear c3
                try clear c4
                try clear c4b0
                try clear c4b1
                try clear c5
                try clear c6
                try clear c8
                try clear c14
                try clear c18
                try clear c19
                try clear c23
                try clear c27
                try clear c30
                try clear c30b0
                try clear c31
                try clear c33
                try clear c34
                try clear c36
                try clear c36b0
                try clear c36b1
                try clear c39
                try clear c44
                try clear c45
                try clear c46
                try clear c47
                try clear c51
                try clear c52
                try clear c53
                try clear c55
                try clear c58
                try clear c59
                try clear c61
                try clear hcz10_0
                try clear hcz10_1
                try clear hcz10_2
                try clear hcz15_0
                try clear hcz15_1
                try clear hcz15_2
                try clear hcz20_0
                try clear hcz20_1
                try clear hcz20_2
                try clear hcz21_0
                try clear hcz21_1
                try clear hcz21_2
                try clear hcz24_0
                try clear hcz24_1
                try clear hcz24_2
                try clear hcz25_0
                try clear hcz25_1
                try clear hcz25_2
                try clear hcz32_0
                try clear hcz32_1
                try clear hcz32_2
                try clear hcz34_0
                try clear hcz34_1
                try clear hcz34_2
                try clear hcz40_0
                try clear hcz40_1
                try clear hcz40_2
                try clear hcz42_0
                try clear hcz42_1
                try clear hcz42_2
                try clear hcz48_0
                try clear hcz48_1
                try clear hcz48_2
                try clear hcz54_0
                try clear hcz54_1
                try clear hcz54_2
                try clear hcz56_0
                try clear hcz56_1
                try clear hcz56_2
                try clear hcz60_0
                try clear hcz60_1
                try clear hcz60_2
                try clear hcz62_0
                try clear hcz62_1
                try clear hcz62_2
                try clear hfz10_0
                try clear hfz10_1
                try clear hfz10_2
                try clear hfz15_0
                try clear hfz15_1
                try clear hfz15_2
                try clear hfz20_0
                try clear hfz20_1
                try clear hfz20_2
                try clear hfz21_0
                try clear hfz21_1
                try clear hfz21_2
                try clear hfz24_0
                try clear hfz24_1
                try clear hfz24_2
                try clear hfz25_0
                try clear hfz25_1
                try clear hfz25_2
                try clear hfz32_0
                try clear hfz32_1
                try clear hfz32_2
                try clear hfz34_0
                try clear hfz34_1
                try clear hfz34_2
                try clear hfz40_0
                try clear hfz40_1
                try clear hfz40_2
                try clear hfz42_0
                try clear hfz42_1
                try clear hfz42_2
                try clear hfz48_0
                try clear hfz48_1
                try clear hfz48_2
                try clear hfz54_0
                try clear hfz54_1
                try clear hfz54_2
                try clear hfz56_0
                try clear hfz56_1
                try clear hfz56_2
                try clear hfz60_0
                try clear hfz60_1
                try clear hfz60_2
                try clear hfz62_0
                try clear hfz62_1
                try clear hfz62_2
                try clear p2
                obtain ⟨kq, x67_37, rfl, HA, HJ37, HO_855002, HO_862002, HO_873002, BK854, BK861, BK872, HB⟩ := hcut
                have hl862002_37 := (Kd.R_reads' HO_862002.out).1
                rw [hl862002_37] at HO_862002
                (try simp only [hl862002_37])
                (try simp only [hl862002_37] at BK854)
                (try simp only [hl862002_37] at BK861)
                (try simp only [hl862002_37] at BK872)
                (try simp only [hl862002_37] at HO_855002)
                (try simp only [hl862002_37] at HO_873002)
                cases kq with
                | zero => exact absurd HA.out (by simp [laws_FnExactBracketOf.j1])
                | succ kj37 =>
                  have H := HA.out
                  clear HA
                  simp only [laws_FnExactBracketOf.j1] at H
                  by_cases c64 : x67_37 = true
                  · subst c64
                    have H1 : (some false) = some r := by rw [if_pos rfl] at H; exact H
                    clear H
                    have H := H1
                    clear H1
                    obtain rfl := Option.some.inj H
                    go_wp2
                    go_ret
                    exact ⟨by first | rfl | (simp [errW_none, errW_some] <;> rfl) | (simp [*, errW_none, errW_some] <;> rfl), by repeat (first | (with_reducible first | exact HB.out | apply below_alloc | apply pw_below_drewN | apply below_drew1 | refine below_set ?_ GE854.out | refine below_set ?_ GE861.out | refine below_set ?_ GE872.out) | exact HB.out)⟩
                  · replace c64 := Bool.eq_false_iff.mpr c64
                    subst c64
                    have H1 : ((laws_heldSeries.f kj37 t855 t856 t864 1).bind fun t874 => (if t874 < 0 then (some false) else (if t874 = t863 then (some true) else (some false)))) = some r := by rw [if_neg (show ¬ (false = true) by decide)] at H; exact H
                    clear H
                    have H := H1
                    clear H1
                    replace H := Option.bind_eq_some_iff.mp H
                    obtain ⟨t874, A650, H⟩ := H
                    replace H : (if t874 < 0 then (some false) else (if t874 = t863 then (some true) else (some false))) = some r := H
                    have A65 := Aside0.mk A650
                    clear A650
                    by_cases c66 : t874 < 0
                    · rw [if_pos c66] at H
                      have c66b0 : decide (t874 < 0) = true := decide_eq_true c66
                      clear c66
                      obtain rfl := Option.some.inj H
                      have hnb67 := NB861_854.out
                      have hnc67 := NB854_861.out
                      have hnb68 := NB861_872.out
                      have hnc68 := NB872_861.out
                      have hcz69_0 : wc.cell? ⟨gb861, 0, none⟩ = some (.int .i64 t855) := (blk_cell BK861.out 0).trans rfl
                      have hcz69_1 : wc.cell? ⟨gb861, 1, none⟩ = some (.int .i64 t856) := (blk_cell BK861.out 1).trans rfl
                      have hcz69_2 : wc.cell? ⟨gb861, 2, none⟩ = some (.slice Ao16 t864.length co16) := (blk_cell BK861.out 2).trans rfl
                      have hfz69_0 := blk_frozen BK861.out 0
                      have hfz69_1 := blk_frozen BK861.out 1
                      have hfz69_2 := blk_frozen BK861.out 2
                      go_wp2_with (first | ((with_reducible refine gate_callee (f := 39) rfl ?_); refine goesL_ (some 70) rfl rfl Try.func39 (by kernel_rfl) rfl #[.agg #[.int .i64 t855, .int .i64 t856, .slice Ao16 t864.length co16], .int .i64 1] rfl (by (try simp only [List.map_toArray, List.map_cons, List.map_nil]); first | done | rfl | (simp only [List.length_drop, List.length_take]; rfl)) ?_; (with_reducible refine (laws_heldSeries.calls kj37 t855 t856 _ _ t864 1 t874 _ ?side1 ?side2 A65.out).mono ?_); (case side1 => repeat (first | exact (Kd.R_reads' HO_862002.out).2.2 | (with_reducible refine Kd.C_alloc ?_ _) | (with_reducible refine Kd.C_drewN ?_ _) | (with_reducible refine Kd.C_drew ?_))); (case side2 => exact (Kd.R_reads' HO_862002.out).2.1); rintro e w70 ⟨rfl, hb⟩; refine ⟨_, rfl, ?_⟩; have n0_ := Aside0.mk (Kd.R_below (by (with_reducible repeat (first | apply Kd.R_alloc | apply Kd.R_drewN | apply Kd.R_drew)); exact HO_855002.out) hb); have n1_ := Aside0.mk (Kd.R_below (by (with_reducible repeat (first | apply Kd.R_alloc | apply Kd.R_drewN | apply Kd.R_drew)); exact HO_862002.out) hb); have n2_ := Aside0.mk (Kd.R_below (by (with_reducible repeat (first | apply Kd.R_alloc | apply Kd.R_drewN | apply Kd.R_drew)); exact HO_873002.out) hb); have n3_ := Aside0.mk (blk_below (g := gb854) (o := .cells #[.int .i64 t848, .int .i64 t849, .slice Ao11 t850.length co11] 38 (0, 0)) (by (with_reducible repeat (first | refine blk_drewN ?_ _ | refine blk_drew ?_ | refine blk_alloc ?_ _)); exact BK854.out) hb); have n4_ := Aside0.mk (blk_below (g := gb861) (o := .cells #[.int .i64 t855, .int .i64 t856, .slice Ao16 t864.length co16] 38 (0, 0)) (by (with_reducible repeat (first | refine blk_drewN ?_ _ | refine blk_drew ?_ | refine blk_alloc ?_ _)); exact BK861.out) hb); have n5_ := Aside0.mk (blk_below (g := gb872) (o := .cells #[.int .i64 t866, .int .i64 t867, .slice Ao49 t868.length co49] 38 (0, 0)) (by (with_reducible repeat (first | refine blk_drewN ?_ _ | refine blk_drew ?_ | refine blk_alloc ?_ _)); exact BK872.out) hb); have n6_ := Aside0.mk (below_step (by repeat (first | (with_reducible first | exact HB.out | apply below_alloc | apply pw_below_drewN | apply below_drew1 | refine below_set ?_ GE854.out | refine below_set ?_ GE861.out | refine below_set ?_ GE872.out) | exact HB.out)) hb); clear HO_855002; clear HO_862002; clear HO_873002; clear BK854; clear BK861; clear BK872; clear HB; have HO_855002 := n0_; have HO_862002 := n1_; have HO_873002 := n2_; have BK854 := n3_; have BK861 := n4_; have BK872 := n5_; have HB := n6_; clear n0_ n1_ n2_ n3_ n4_ n5_ n6_; (try clear hb); (try clear hb2); (try clear hk); (try clear hi)))
                      go_ret
                      exact ⟨by first | rfl | (simp [errW_none, errW_some] <;> rfl) | (simp [*, errW_none, errW_some] <;> rfl), by repeat (first | (with_reducible first | exact HB.out | apply below_alloc | apply pw_below_drewN | apply below_drew1 | refine below_set ?_ GE854.out | refine below_set ?_ GE861.out | refine below_set ?_ GE872.out) | exact HB.out)⟩
                    · rw [if_neg c66] at H
                      have c66b0 : decide (t874 < 0) = false := decide_eq_false c66
                      clear c66
                      by_cases c71 : t874 = t863
                      · rw [if_pos c71] at H
                        have c71b0 : (t874 == t863) = true := beq_iff_eq.mpr c71
                        have c71b1 : (t874 != t863) = false := bne_eq_false_iff_eq.mpr c71
                        clear c71
                        obtain rfl := Option.some.inj H
                        have hnb72 := NB861_854.out
                        have hnc72 := NB854_861.out
                        have hnb73 := NB861_872.out
                        have hnc73 := NB872_861.out
                        have hcz74_0 : wc.cell? ⟨gb861, 0, none⟩ = some (.int .i64 t855) := (blk_cell BK861.out 0).trans rfl
                        have hcz74_1 : wc.cell? ⟨gb861, 1, none⟩ = some (.int .i64 t856) := (blk_cell BK861.out 1).trans rfl
                        have hcz74_2 : wc.cell? ⟨gb861, 2, none⟩ = some (.slice Ao16 t864.length co16) := (blk_cell BK861.out 2).trans rfl
                        have hfz74_0 := blk_frozen BK861.out 0
                        have hfz74_1 := blk_frozen BK861.out 1
                        have hfz74_2 := blk_frozen BK861.out 2
                        go_wp2_with (first | ((with_reducible refine gate_callee (f := 39) rfl ?_); refine goesL_ (some 70) rfl rfl Try.func39 (by kernel_rfl) rfl #[.agg #[.int .i64 t855, .int .i64 t856, .slice Ao16 t864.length co16], .int .i64 1] rfl (by (try simp only [List.map_toArray, List.map_cons, List.map_nil]); first | done | rfl | (simp only [List.length_drop, List.length_take]; rfl)) ?_; (with_reducible refine (laws_heldSeries.calls kj37 t855 t856 _ _ t864 1 t874 _ ?side1 ?side2 A65.out).mono ?_); (case side1 => repeat (first | exact (Kd.R_reads' HO_862002.out).2.2 | (with_reducible refine Kd.C_alloc ?_ _) | (with_reducible refine Kd.C_drewN ?_ _) | (with_reducible refine Kd.C_drew ?_))); (case side2 => exact (Kd.R_reads' HO_862002.out).2.1); rintro e w75 ⟨rfl, hb⟩; refine ⟨_, rfl, ?_⟩; have n0_ := Aside0.mk (Kd.R_below (by (with_reducible repeat (first | apply Kd.R_alloc | apply Kd.R_drewN | apply Kd.R_drew)); exact HO_855002.out) hb); have n1_ := Aside0.mk (Kd.R_below (by (with_reducible repeat (first | apply Kd.R_alloc | apply Kd.R_drewN | apply Kd.R_drew)); exact HO_862002.out) hb); have n2_ := Aside0.mk (Kd.R_below (by (with_reducible repeat (first | apply Kd.R_alloc | apply Kd.R_drewN | apply Kd.R_drew)); exact HO_873002.out) hb); have n3_ := Aside0.mk (blk_below (g := gb854) (o := .cells #[.int .i64 t848, .int .i64 t849, .slice Ao11 t850.length co11] 38 (0, 0)) (by (with_reducible repeat (first | refine blk_drewN ?_ _ | refine blk_drew ?_ | refine blk_alloc ?_ _)); exact BK854.out) hb); have n4_ := Aside0.mk (blk_below (g := gb861) (o := .cells #[.int .i64 t855, .int .i64 t856, .slice Ao16 t864.length co16] 38 (0, 0)) (by (with_reducible repeat (first | refine blk_drewN ?_ _ | refine blk_drew ?_ | refine blk_alloc ?_ _)); exact BK861.out) hb); have n5_ := Aside0.mk (blk_below (g := gb872) (o := .cells #[.int .i64 t866, .int .i64 t867, .slice Ao49 t868.length co49] 38 (0, 0)) (by (with_reducible repeat (first | refine blk_drewN ?_ _ | refine blk_drew ?_ | refine blk_alloc ?_ _)); exact BK872.out) hb); have n6_ := Aside0.mk (below_step (by repeat (first | (with_reducible first | exact HB.out | apply below_alloc | apply pw_below_drewN | apply below_drew1 | refine below_set ?_ GE854.out | refine below_set ?_ GE861.out | refine below_set ?_ GE872.out) | exact HB.out)) hb); clear HO_855002; clear HO_862002; clear HO_873002; clear BK854; clear BK861; clear BK872; clear HB; have HO_855002 := n0_; have HO_862002 := n1_; have HO_873002 := n2_; have BK854 := n3_; have BK861 := n4_; have BK872 := n5_; have HB := n6_; clear n0_ n1_ n2_ n3_ n4_ n5_ n6_; (try clear hb); (try clear hb2); (try clear hk); (try clear hi)))
                        go_ret
                        exact ⟨by first | rfl | (simp [errW_none, errW_some] <;> rfl) | (simp [*, errW_none, errW_some] <;> rfl), by repeat (first | (with_reducible first | exact HB.out | apply below_alloc | apply pw_below_drewN | apply below_drew1 | refine below_set ?_ GE854.out | refine below_set ?_ GE861.out | refine below_set ?_ GE872.out) | exact HB.out)⟩
                      · rw [if_neg c71] at H
                        have c71b0 : (t874 == t863) = false := beq_eq_false_iff_ne.mpr c71
                        have c71b1 : (t874 != t863) = true := bne_iff_ne.mpr c71
                        obtain rfl := Option.some.inj H
                        have hnb76 := NB861_854.out
                        have hnc76 := NB854_861.out
                        have hnb77 := NB861_872.out
                        have hnc77 := NB872_861.out
                        have hcz78_0 : wc.cell? ⟨gb861, 0, none⟩ = some (.int .i64 t855) := (blk_cell BK861.out 0).trans rfl
                        have hcz78_1 : wc.cell? ⟨gb861, 1, none⟩ = some (.int .i64 t856) := (blk_cell BK861.out 1).trans rfl
                        have hcz78_2 : wc.cell? ⟨gb861, 2, none⟩ = some (.slice Ao16 t864.length co16) := (blk_cell BK861.out 2).trans rfl
                        have hfz78_0 := blk_frozen BK861.out 0
                        have hfz78_1 := blk_frozen BK861.out 1
                        have hfz78_2 := blk_frozen BK861.out 2
                        go_wp2_with (first | ((with_reducible refine gate_callee (f := 39) rfl ?_); refine goesL_ (some 70) rfl rfl Try.func39 (by kernel_rfl) rfl #[.agg #[.int .i64 t855, .int .i64 t856, .slice Ao16 t864.length co16], .int .i64 1] rfl (by (try simp only [List.map_toArray, List.map_cons, List.map_nil]); first | done | rfl | (simp only [List.length_drop, List.length_take]; rfl)) ?_; (with_reducible refine (laws_heldSeries.calls kj37 t855 t856 _ _ t864 1 t874 _ ?side1 ?side2 A65.out).mono ?_); (case side1 => repeat (first | exact (Kd.R_reads' HO_862002.out).2.2 | (with_reducible refine Kd.C_alloc ?_ _) | (with_reducible refine Kd.C_drewN ?_ _) | (with_reducible refine Kd.C_drew ?_))); (case side2 => exact (Kd.R_reads' HO_862002.out).2.1); rintro e w79 ⟨rfl, hb⟩; refine ⟨_, rfl, ?_⟩; have n0_ := Aside0.mk (Kd.R_below (by (with_reducible repeat (first | apply Kd.R_alloc | apply Kd.R_drewN | apply Kd.R_drew)); exact HO_855002.out) hb); have n1_ := Aside0.mk (Kd.R_below (by (with_reducible repeat (first | apply Kd.R_alloc | apply Kd.R_drewN | apply Kd.R_drew)); exact HO_862002.out) hb); have n2_ := Aside0.mk (Kd.R_below (by (with_reducible repeat (first | apply Kd.R_alloc | apply Kd.R_drewN | apply Kd.R_drew)); exact HO_873002.out) hb); have n3_ := Aside0.mk (blk_below (g := gb854) (o := .cells #[.int .i64 t848, .int .i64 t849, .slice Ao11 t850.length co11] 38 (0, 0)) (by (with_reducible repeat (first | refine blk_drewN ?_ _ | refine blk_drew ?_ | refine blk_alloc ?_ _)); exact BK854.out) hb); have n4_ := Aside0.mk (blk_below (g := gb861) (o := .cells #[.int .i64 t855, .int .i64 t856, .slice Ao16 t864.length co16] 38 (0, 0)) (by (with_reducible repeat (first | refine blk_drewN ?_ _ | refine blk_drew ?_ | refine blk_alloc ?_ _)); exact BK861.out) hb); have n5_ := Aside0.mk (blk_below (g := gb872) (o := .cells #[.int .i64 t866, .int .i64 t867, .slice Ao49 t868.length co49] 38 (0, 0)) (by (with_reducible repeat (first | refine blk_drewN ?_ _ | refine blk_drew ?_ | refine blk_alloc ?_ _)); exact BK872.out) hb); have n6_ := Aside0.mk (below_step (by repeat (first | (with_reducible first | exact HB.out | apply below_alloc | apply pw_below_drewN | apply below_drew1 | refine below_set ?_ GE854.out | refine below_set ?_ GE861.out | refine below_set ?_ GE872.out) | exact HB.out)) hb); clear HO_855002; clear HO_862002; clear HO_873002; clear BK854; clear BK861; clear BK872; clear HB; have HO_855002 := n0_; have HO_862002 := n1_; have HO_873002 := n2_; have BK854 := n3_; have BK861 := n4_; have BK872 := n5_; have HB := n6_; clear n0_ n1_ n2_ n3_ n4_ n5_ n6_; (try clear hb); (try clear hb2); (try clear hk); (try clear hi)))
                        go_ret
                        exact ⟨by first | rfl | (simp [errW_none, errW_some] <;> rfl) | (simp [*, errW_none, errW_some] <;> rfl), by repeat (first | (with_reducible first | exact HB.out | apply below_alloc | apply pw_below_drewN | apply below_drew1 | refine below_set ?_ GE854.out | refine below_set ?_ GE861.out | refine below_set ?_ GE872.out) | exact HB.out)⟩
            · rw [if_neg c36] at H
              have c36b0 : (t865 == t863) = false := beq_eq_false_iff_ne.mpr c36
              have c36b1 : (t865 != t863) = true := bne_iff_ne.mpr c36
              obtain rfl := Option.some.inj H
              have hnb80 := NB861_854.out
              have hnc80 := NB854_861.out
              have hcz81_0 : wc.cell? ⟨gb861, 0, none⟩ = some (.int .i64 t855) := (blk_cell BK861.out 0).trans rfl
              have hcz81_1 : wc.cell? ⟨gb861, 1, none⟩ = some (.int .i64 t856) := (blk_cell BK861.out 1).trans rfl
              have hcz81_2 : wc.cell? ⟨gb861, 2, none⟩ = some (.slice Ao16 t857.length co16) := (blk_cell BK861.out 2).trans rfl
              have hfz81_0 := blk_frozen BK861.out 0
              have hfz81_1 := blk_frozen BK861.out 1
              have hfz81_2 := blk_frozen BK861.out 2
              go_wp2_with (first | ((with_reducible refine gate_callee (f := 34) rfl ?_); refine goesL_ (some 43) rfl rfl Try.func34 (by kernel_rfl) rfl #[.agg #[.int .i64 t855, .int .i64 t856, .slice Ao16 t857.length co16], .int .i64 1] rfl (by (try simp only [List.map_toArray, List.map_cons, List.map_nil]); first | done | rfl | (simp only [List.length_drop, List.length_take]; rfl)) ?_; (with_reducible refine (laws_markSeries.calls kj6 t855 t856 (fun k_ => some k_ = (.slice Ao16 t857.length co16 : Value).ownBlock) (.slice Ao16 t857.length co16) t857 1 t863 t864 w _ ?side1 ?side2 A28.out).mono ?_); (case side1 => repeat (first | (with_reducible first | exact HB.out | apply below_alloc | apply pw_below_drewN | apply below_drew1 | refine below_set ?_ GE854.out | refine below_set ?_ GE861.out) | exact HB.out)); (case side2 => exact Kd.R_tight rfl HO_862002.out); rintro e w82 ⟨rfl, hy0, hb, hkp⟩; refine ⟨_, rfl, ?_⟩; have n0_ := Aside0.mk (Kd.R_mono (ok' := fun k_ => some k_ ≠ (.slice Ao16 t857.length co16 : Value).ownBlock) (Kd.R_keptB (HO_855002.out) hkp (fun k_ hk_ hs_ => (hk_) hs_)) (fun k_ hk_ => hk_.1)); have n1_ := Aside0.mk (Kd.R_reok rfl hy0 (fun k_ e_ => HO_862002.out.1 k_ e_)); have n2_ := Aside0.mk (blk_kept (by (with_reducible repeat (first | refine blk_drewN ?_ _ | refine blk_drew ?_ | refine blk_alloc ?_ _)); exact BK854.out) hkp (fun hs_ => (fun e_ => (Kd.R_ne HO_862002.out BK854.out (by decide)) e_) hs_)); have n3_ := Aside0.mk (blk_kept (by (with_reducible repeat (first | refine blk_drewN ?_ _ | refine blk_drew ?_ | refine blk_alloc ?_ _)); exact BK861.out) hkp (fun hs_ => (fun e_ => (Kd.R_ne HO_862002.out BK861.out (by decide)) e_) hs_)); have n4_ := Aside0.mk (hb); clear HO_855002; clear HO_862002; clear BK854; clear BK861; clear HB; have HO_855002 := n0_; have HO_862002 := n1_; have BK854 := n2_; have BK861 := n3_; have HB := n4_; clear n0_ n1_ n2_ n3_ n4_; (try clear hb); (try clear hkp); (try clear hy0); have hcz83_0 : w82.cell? ⟨gb861, 0, none⟩ = some (.int .i64 t855) := (blk_cell BK861.out 0).trans rfl; have hcz83_1 : w82.cell? ⟨gb861, 1, none⟩ = some (.int .i64 t856) := (blk_cell BK861.out 1).trans rfl; have hcz83_2 : w82.cell? ⟨gb861, 2, none⟩ = some (.slice Ao16 t857.length co16) := (blk_cell BK861.out 2).trans rfl; have hfz83_0 := blk_frozen BK861.out 0; have hfz83_1 := blk_frozen BK861.out 1; have hfz83_2 := blk_frozen BK861.out 2) | ((with_reducible refine gate_callee (f := 39) rfl ?_); refine goesL_ (some 46) rfl rfl Try.func39 (by kernel_rfl) rfl #[.agg #[.int .i64 t855, .int .i64 t856, .slice Ao16 t864.length co16], .int .i64 1] rfl (by (try simp only [List.map_toArray, List.map_cons, List.map_nil]); first | done | (rw [show t864.length = t857.length from (Kd.R_reads' HO_862002.out).1.symm] <;> rfl) | rfl | (simp only [List.length_drop, List.length_take]; rfl)) ?_; (with_reducible refine (laws_heldSeries.calls kj6 t855 t856 _ _ t864 1 t865 _ ?side1 ?side2 A29.out).mono ?_); (case side1 => repeat (first | exact (Kd.R_reads' HO_862002.out).2.2 | (with_reducible refine Kd.C_alloc ?_ _) | (with_reducible refine Kd.C_drewN ?_ _) | (with_reducible refine Kd.C_drew ?_))); (case side2 => rw [show t864.length = t857.length from (Kd.R_reads' HO_862002.out).1.symm]; exact (Kd.R_reads' HO_862002.out).2.1); rintro e w84 ⟨rfl, hb⟩; refine ⟨_, rfl, ?_⟩; have n0_ := Aside0.mk (Kd.R_below (by (with_reducible repeat (first | apply Kd.R_alloc | apply Kd.R_drewN | apply Kd.R_drew)); exact HO_855002.out) hb); have n1_ := Aside0.mk (Kd.R_below (by (with_reducible repeat (first | apply Kd.R_alloc | apply Kd.R_drewN | apply Kd.R_drew)); exact HO_862002.out) hb); have n2_ := Aside0.mk (blk_below (g := gb854) (o := .cells #[.int .i64 t848, .int .i64 t849, .slice Ao11 t850.length co11] 38 (0, 0)) (by (with_reducible repeat (first | refine blk_drewN ?_ _ | refine blk_drew ?_ | refine blk_alloc ?_ _)); exact BK854.out) hb); have n3_ := Aside0.mk (blk_below (g := gb861) (o := .cells #[.int .i64 t855, .int .i64 t856, .slice Ao16 t857.length co16] 38 (0, 0)) (by (with_reducible repeat (first | refine blk_drewN ?_ _ | refine blk_drew ?_ | refine blk_alloc ?_ _)); exact BK861.out) hb); have n4_ := Aside0.mk (below_step (by repeat (first | (with_reducible first | exact HB.out | apply below_alloc | apply pw_below_drewN | apply below_drew1 | refine below_set ?_ GE854.out | refine below_set ?_ GE861.out) | exact HB.out)) hb); clear HO_855002; clear HO_862002; clear BK854; clear BK861; clear HB; have HO_855002 := n0_; have HO_862002 := n1_; have BK854 := n2_; have BK861 := n3_; have HB := n4_; clear n0_ n1_ n2_ n3_ n4_; (try clear hb); (try clear hb2); (try clear hk); (try clear hi)))
              go_ret
              exact ⟨by first | rfl | (simp [errW_none, errW_some] <;> rfl) | (simp [*, errW_none, errW_some] <;> rfl), by repeat (first | (with_reducible first | exact HB.out | apply below_alloc | apply pw_below_drewN | apply below_drew1 | refine below_set ?_ GE854.out | refine below_set ?_ GE861.out) | exact HB.out)⟩
end Go.Proofs.Ytaiefdhenikiiaa.Base
