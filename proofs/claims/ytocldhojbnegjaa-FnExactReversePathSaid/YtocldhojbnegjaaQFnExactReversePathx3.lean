import Derived.Test.YtocldhojbnegjaaQFnExactReversePathx0
import Derived.Test.YtocldhojbnegjaaQFnExactReversePathx1
import Derived.Test.YtocldhojbnegjaaQFnExactReversePathx2
namespace Go.Proofs.Ytocldhojbnegjaa.PFnExactReversePath
open Go.RowKit Go.Proofs.YtocldhojbnegjaaW.PrintWords Go.Proofs.YtocldhojbnegjaaW.PrintLast Go.Proofs.YtocldhojbnegjaaW.PrintMore
attribute [local go_sem] max2_int min2_int max_two min_two max_three min_three max_four min_four Go.Proofs.YtocldhojbnegjaaZ.min2_string   -- for this text's walks alone
set_option linter.unusedVariables false
set_option linter.unusedSimpArgs false

/-! ### spec_ReversePath: function 42 -/
def spec_ReversePath.l0 : Nat → List (List Int) → List (List Int) → Int → Option ((List (List Int)) × Int)
  | 0, _, _, _ => none
  | k + 1, x1, x6, x7 => if x7 ≥ 0 then (if 0 ≤ x7 then (if x7 < (x1.length : Int) then ((spec_l04Times.f k (rd_L1 x1 x7) (-1)).bind fun t143 => (if x6.length < 5864062014805 then (spec_ReversePath.l0 k x1 (x6 ++ [t143]) (wrap64 (x7 - 1))) else (none))) else (none)) else (none)) else (some (x6, 0))
def spec_ReversePath.f (k : Nat) (a0 : Int) (l1 : List (List Int)) : Option ((List (List Int)) × Int) := (spec_l04Is.f k a0 l1).bind fun t138 => (if t138 = true then (spec_ReversePath.l0 k l1 (([] : List (List Int))) (wrap64 ((l1.length : Int) - 1))) else (some (([] : List (List Int)), 1)))
theorem spec_ReversePath.mono_l : ∀ k, (∀ y0 y1 y2, LeO (spec_ReversePath.l0 k y0 y1 y2) (spec_ReversePath.l0 (k + 1) y0 y1 y2))
  | 0 => fun _ _ _ r h => by simp [spec_ReversePath.l0] at h
  | k + 1 => by
    have ih0 := spec_ReversePath.mono_l k
    · intro y0 y1 y2
      unfold spec_ReversePath.l0
      repeat' first
      | (with_reducible exact ih0 _ _ _)
      | (with_reducible exact spec_l04Is.mono _ _ _)
      | (with_reducible exact spec_l04Times.mono _ _ _)
      | (with_reducible exact LeO.refl _)
      | (with_reducible exact LeO.none _)
      | (with_reducible refine LeO.ite ?_ ?_)
      | (with_reducible refine LeO.bind ?_ (fun _ => ?_))
      | exact ih0 _ _ _
      | exact spec_l04Is.mono _ _ _
      | exact spec_l04Times.mono _ _ _
      | exact LeO.none _
      | refine LeO.ite ?_ ?_
      | refine LeO.bind ?_ (fun _ => ?_)
theorem spec_ReversePath.mono : ∀ a0 a1 k, LeO (spec_ReversePath.f k a0 a1) (spec_ReversePath.f (k + 1) a0 a1) := by
  intro a0 a1 k
  have ih0 := spec_ReversePath.mono_l k
  unfold spec_ReversePath.f
  repeat' first
      | (with_reducible exact ih0 _ _ _)
      | (with_reducible exact spec_l04Is.mono _ _ _)
      | (with_reducible exact spec_l04Times.mono _ _ _)
      | (with_reducible exact LeO.refl _)
      | (with_reducible exact LeO.none _)
      | (with_reducible refine LeO.ite ?_ ?_)
      | (with_reducible refine LeO.bind ?_ (fun _ => ?_))
      | exact ih0 _ _ _
      | exact spec_l04Is.mono _ _ _
      | exact spec_l04Times.mono _ _ _
      | exact LeO.none _
      | refine LeO.ite ?_ ?_
      | refine LeO.bind ?_ (fun _ => ?_)
set_option maxHeartbeats 8000000 in
set_option maxRecDepth 100000 in
theorem spec_ReversePath.calls (k : Nat) (a0 : Int) (A1 : Option Addr) (c1 : Nat) (l1 : List (List Int)) (r1 : List (List Int)) (r2 : Int) (w : World) (hr1 : Kd.C (Kd.slice 2 (Kd.int .i64)) w A1 l1.length l1) (hc1 : l1.length ≤ c1) (h : spec_ReversePath.f k a0 l1 = some (r1, r2)) :
    Calls Try.prog 42 #[.int .i64 a0, .slice A1 l1.length c1] w fun e w' => ∃ v0_ : Value, e = .returned (.tuple #[v0_, .int .i64 r2]) ∧ Kd.S (Kd.slice 2 (Kd.int .i64)) 40 w' w.heap.size (fun _ => True) v0_ r1 ∧ Below w.heap.size w w' := by
  have HR1 := Aside0.mk hr1
  have HC1 := Aside0.mk hc1
  clear hr1 hc1
  have HB := Aside0.mk (Below.refl w.heap.size w)
  have H : ((spec_l04Is.f k a0 l1).bind fun t138 => (if t138 = true then (spec_ReversePath.l0 k l1 (([] : List (List Int))) (wrap64 ((l1.length : Int) - 1))) else (some (([] : List (List Int)), 1)))) = some (r1, r2) := h
  clear h
  replace H := Option.bind_eq_some_iff.mp H
  obtain ⟨t138, A30, H⟩ := H
  replace H : (if t138 = true then (spec_ReversePath.l0 k l1 (([] : List (List Int))) (wrap64 ((l1.length : Int) - 1))) else (some (([] : List (List Int)), 1))) = some (r1, r2) := H
  have A3 := Aside0.mk A30
  clear A30
  by_cases c4 : t138 = true
  · subst c4
    have H1 : (spec_ReversePath.l0 k l1 (([] : List (List Int))) (wrap64 ((l1.length : Int) - 1))) = some (r1, r2) := by rw [if_pos rfl] at H; exact H
    clear H
    have H := H1
    clear H1
    obtain ⟨y139, hy139⟩ : ∃ y_ : List (List Int), y_ = (([] : List (List Int))) := ⟨_, rfl⟩
    replace H : (spec_ReversePath.l0 k l1 y139 (wrap64 ((l1.length : Int) - 1))) = some (r1, r2) := by first | (rw [hy139]; with_reducible exact H) | (have H2_ := (Option.bind_some _ _).symm.trans H; rw [hy139]; with_reducible exact H2_) | (have H2_ := (Option.bind_some _ _).symm.trans H; with_reducible exact H2_) | with_reducible exact H | (rw [hy139]; exact H) | exact H
    have Ny139 := Aside0.mk hy139
    clear hy139
    have H' := Aside0.mk H
    clear H
    go_enter Try.func42, Try.ntmps42
    go_wp2_with (first | ((with_reducible refine gate_callee (f := 73) rfl ?_); refine goesL_ (some 10) rfl rfl Try.func73 (by kernel_rfl) rfl #[.int .i64 a0, .slice A1 l1.length c1] rfl (by (try simp only [List.map_toArray, List.map_cons, List.map_nil]); first | done | rfl | (simp only [List.length_drop, List.length_take]; rfl)) ?_; (with_reducible refine (spec_l04Is.calls k a0 _ _ l1 true _ ?side1 ?side2 A3.out).mono ?_); (case side1 => repeat (first | exact HR1.out | (with_reducible refine Kd.C_alloc ?_ _) | (with_reducible refine Kd.C_drewN ?_ _) | (with_reducible refine Kd.C_drew ?_))); (case side2 => exact HC1.out); rintro e w' ⟨rfl, ⟨nd, rfl⟩⟩; refine ⟨_, rfl, ?_⟩) | ((with_reducible refine gate_dst (N := 12) rfl ?_); refine Kd.S_lit (Kd.slice 2 (Kd.int .i64)) _ 40 ?hg (N := 12) ?hd (xs := ([] : List (List Int))) (inner := []) (ok := fun _ => True) (okp := fun _ => True) ?hr ?hp (fun _ hk => hk) trivial (Below.refl _ _) (Nat.le_refl _) (by simp) ?_; (case hd => rfl); (case hg => rfl); (case hr => first | (go_simp; done) | (go_simp; rfl)); (case hp => exact (Reps.none _ _)); intro v140 w5 ho6 hb hg_ hnew_; clear hg_ hnew_; (first | rw [← Ny139.out] at ho6 | (simp only [Int.reduceToNat] at ho6; rw [← Ny139.out] at ho6)); have n0_ := Aside0.mk (Kd.S_lower ho6 (below_size (by repeat (first | (with_reducible first | exact HB.out | apply below_alloc | apply pw_below_drewN | apply below_drew1) | exact HB.out)))); have n1_ := Aside0.mk (below_step (by repeat (first | (with_reducible first | exact HB.out | apply below_alloc | apply pw_below_drewN | apply below_drew1) | exact HB.out)) hb); clear HB; have HO141 := n0_; have HB := n1_; clear n0_ n1_; clear hb ho6))
    go_loopg [6, 7] k (fun kq v6 v7 w' => ∃ (x6_1 : List (List Int)) (x7_1 : Int), v7 = .int .i64 x7_1 ∧ Aside0 (spec_ReversePath.l0 kq l1 x6_1 x7_1 = some (r1, r2)) ∧ Aside0 (kq ≤ k) ∧ Aside0 (Kd.S (Kd.slice 2 (Kd.int .i64)) 40 w' w.heap.size (fun _ => True) v6 x6_1) ∧ Aside0 (Below w.heap.size w w'))
    case atStart => exact ⟨(y139), (wrap64 ((l1.length : Int) - 1)), (by first | rfl | (simp; done) | (simp [*]; done)), H', ⟨Nat.le_refl _⟩, ⟨by (with_reducible repeat (first | apply Kd.S_alloc | apply Kd.S_drewN | apply Kd.S_drew)); exact HO141.out⟩, ⟨by repeat (first | (with_reducible first | exact HB.out | apply below_alloc | apply pw_below_drewN | apply below_drew1) | exact HB.out)⟩⟩
    case round =>
      clear H'
      try clear c1
      try clear p2
      try clear c4
      try clear p6
      obtain ⟨x6_1, x7_1, rfl, HA, HK1, HO_6, HB⟩ := hrel
      cases gk with
      | zero => exact absurd HA.out (by simp [spec_ReversePath.l0])
      | succ k1 =>
        have H := HA.out
        clear HA
        simp only [spec_ReversePath.l0] at H
        by_cases c7 : x7_1 ≥ 0
        · rw [if_pos c7] at H
          have c7b0 : decide (0 ≤ x7_1) = true := decide_eq_true c7
          clear c7
          by_cases c8 : 0 ≤ x7_1
          · rw [if_pos c8] at H
            have c8b0 : decide (0 ≤ x7_1) = true := decide_eq_true c8
            clear c8
            by_cases c9 : x7_1 < (l1.length : Int)
            · rw [if_pos c9] at H
              have c9b0 : decide (x7_1 < (l1.length : Int)) = true := decide_eq_true c9
              clear c9
              replace H := Option.bind_eq_some_iff.mp H
              obtain ⟨t143, A100, H⟩ := H
              replace H : (if x6_1.length < 5864062014805 then (spec_ReversePath.l0 k1 l1 (x6_1 ++ [t143]) (wrap64 (x7_1 - 1))) else (none)) = some (r1, r2) := H
              have A10 := Aside0.mk A100
              clear A100
              by_cases c11 : x6_1.length < 5864062014805
              · rw [if_pos c11] at H
                have LMc11 := Aside0.mk c11
                clear c11
                obtain ⟨y146, hy146⟩ : ∃ y_ : List (List Int), y_ = (x6_1 ++ [t143]) := ⟨_, rfl⟩
                replace H : (spec_ReversePath.l0 k1 l1 y146 (wrap64 (x7_1 - 1))) = some (r1, r2) := by first | (rw [hy146]; with_reducible exact H) | (have H2_ := (Option.bind_some _ _).symm.trans H; rw [hy146]; with_reducible exact H2_) | (have H2_ := (Option.bind_some _ _).symm.trans H; with_reducible exact H2_) | with_reducible exact H | (rw [hy146]; exact H) | exact H
                have Ny146 := Aside0.mk hy146
                clear hy146
                have H' := Aside0.mk H
                clear H
                have p142 : 0 ≤ (x7_1 : Int) := of_decide_eq_true (by first | (with_reducible assumption) | assumption)
                have q142 : x7_1 < (l1.length : Int) := of_decide_eq_true (by first | (with_reducible assumption) | assumption)
                obtain ⟨ad142, A142_0, c142_0, e142, hx142_0, hl142_0, hi142_0⟩ := at_L1 HR1.out x7_1 p142 q142
                cases e142
                replace hx142_0 := (HB.out.cell (World.block_lt_of_cell? w _ hx142_0)).trans hx142_0
                have HR142_0 := Aside0.mk hi142_0
                have HC142_0 := Aside0.mk hl142_0
                clear hi142_0 hl142_0
                replace p142 := eq_true p142
                replace q142 := eq_true q142
                go_wp2_with (first | ((with_reducible refine gate_callee (f := 83) rfl ?_); refine goesL_ (some 25) rfl rfl Try.func83 (by kernel_rfl) rfl #[.slice A142_0 (rd_L1 l1 x7_1).length c142_0, .int .i64 (-1)] rfl (by (try simp only [List.map_toArray, List.map_cons, List.map_nil]); first | done | rfl | (simp only [List.length_drop, List.length_take]; rfl)) ?_; (with_reducible refine (spec_l04Times.calls k1 _ _ (rd_L1 l1 x7_1) (-1) t143 _ ?side1 ?side2 A10.out).mono ?_); (case side1 => repeat (first | exact (Kd.C_below HR142_0.out HB.out) | (with_reducible refine Kd.C_alloc ?_ _) | (with_reducible refine Kd.C_drewN ?_ _) | (with_reducible refine Kd.C_drew ?_))); (case side2 => exact HC142_0.out); rintro e w12 ⟨v144, rfl, ho0, hb⟩; refine ⟨_, rfl, ?_⟩; have n0_ := Aside0.mk (Kd.S_elder' (by (with_reducible repeat (first | apply Kd.S_alloc | apply Kd.S_drewN | apply Kd.S_drew)); exact HO_6.out) (Kd.R_base ho0) hb); have n1_ := Aside0.mk (Kd.R_lower ho0 (below_size (by repeat (first | (with_reducible first | exact HB.out | apply below_alloc | apply pw_below_drewN | apply below_drew1) | exact HB.out)))); have n2_ := Aside0.mk (below_step (by repeat (first | (with_reducible first | exact HB.out | apply below_alloc | apply pw_below_drewN | apply below_drew1) | exact HB.out)) hb); clear HO_6; clear HB; have HO_6 := n0_; have HO145 := n1_; have HB := n2_; clear n0_ n1_ n2_; (try clear hb); (try clear hb2); (try clear hk); (try clear hi); (try clear ho0); obtain ⟨Ao14, co14, eo14⟩ := Kd.R_slice HO145.out; subst eo14) | ((with_reducible refine gate_builtin (b := .append) (xs := #[.tmp 20, .tmp 26]) rfl ?_); at_builtin; refine Kd.S_append (Kd.slice 2 (Kd.int .i64)) (w0 := w) w.heap.size rfl (.tmp 20) (.tmp 26) 30 40 (.slice none 0 0) 24 rfl Try.underlying30 info40 rfl (by decide) (by omega) u6 x6_1 t143 [.slice Ao14 t143.length co14] (fun _ => True) (fun k_ => some k_ = (.slice Ao14 t143.length co14 : Value).ownBlock) rfl rfl ?aP (fun k_ hk_ => ((Kd.R_mono (ok' := fun k_ => ((fun _ => True)) k_ ∧ some k_ ≠ (u6 : Value).ownBlock) (Kd.R_apart' (HO145.out) (Kd.S_typed HO_6.out) (by decide)) (fun k_ hk => ⟨trivial, hk.2⟩))).1 k_ hk_.symm) ?aF ?aO ?aB ?aS ?aL ?_; (case aP => exact Kd.M_row (Kd.R_mono (Kd.R_tight rfl (Kd.R_mono (ok' := fun k_ => ((fun _ => True)) k_ ∧ some k_ ≠ (u6 : Value).ownBlock) (Kd.R_apart' (HO145.out) (Kd.S_typed HO_6.out) (by decide)) (fun k_ hk => ⟨trivial, hk.2⟩))) (fun _ h_ => h_))); (case aB => exact (by repeat (first | (with_reducible first | exact HB.out | apply below_alloc | apply pw_below_drewN | apply below_drew1) | exact HB.out))); (case aF => exact (fun _ _ => trivial)); (case aO => exact (by (with_reducible repeat (first | apply Kd.S_alloc | apply Kd.S_drewN | apply Kd.S_drew)); exact Kd.S_mono HO_6.out (fun k_ hk => ⟨trivial, fun e_ => hk.2 e_⟩))); (case aS => exact (below_size (by repeat (first | (with_reducible first | exact HB.out | apply below_alloc | apply pw_below_drewN | apply below_drew1) | exact HB.out)))); (case aL => have := LMc11.out; omega); intro v147 w13 ho hb hg hat; rw [← Ny146.out] at ho; have n0_ := Aside0.mk (hb); have n1_ := Aside0.mk (ho); clear HB; clear HO_6; clear HO145; have HB := n0_; have HO148 := n1_; clear n0_ n1_; clear ho hb hg hat))
                go_roundg k1
                case measure => have := HK1.out; omega
                case rel => exact ⟨(y146), (wrap64 (x7_1 - 1)), (by first | rfl | (simp; done) | (simp [*]; done)), H', ⟨by have := HK1.out; omega⟩, ⟨by (with_reducible repeat (first | apply Kd.S_alloc | apply Kd.S_drewN | apply Kd.S_drew)); exact HO148.out⟩, ⟨by repeat (first | (with_reducible first | exact HB.out | apply below_alloc | apply pw_below_drewN | apply below_drew1) | exact HB.out)⟩⟩
              · rw [if_neg c11] at H
                exact absurd H (by simp)
            · rw [if_neg c9] at H
              exact absurd H (by simp)
          · rw [if_neg c8] at H
            exact absurd H (by simp)
        · rw [if_neg c7] at H
          have c7b0 : decide (0 ≤ x7_1) = false := decide_eq_false c7
          clear c7
          simp only [Option.some.injEq, Prod.mk.injEq] at H
          obtain ⟨rfl, rfl⟩ := H
          go_wp2
          go_ret2
          exact ⟨_, by first | rfl | (simp [errW_none, errW_some] <;> rfl) | (simp [*, errW_none, errW_some] <;> rfl), by (with_reducible repeat (first | apply Kd.S_alloc | apply Kd.S_drewN | apply Kd.S_drew)); exact HO_6.out, by repeat (first | (with_reducible first | exact HB.out | apply below_alloc | apply pw_below_drewN | apply below_drew1) | exact HB.out)⟩
  · replace c4 := Bool.eq_false_iff.mpr c4
    subst c4
    have H1 : (some (([] : List (List Int)), 1)) = some (r1, r2) := by rw [if_neg (show ¬ (false = true) by decide)] at H; exact H
    clear H
    have H := H1
    clear H1
    simp only [Option.some.injEq, Prod.mk.injEq] at H
    obtain ⟨rfl, rfl⟩ := H
    go_enter Try.func42, Try.ntmps42
    go_wp2_with (first | ((with_reducible refine gate_callee (f := 73) rfl ?_); refine goesL_ (some 10) rfl rfl Try.func73 (by kernel_rfl) rfl #[.int .i64 a0, .slice A1 l1.length c1] rfl (by (try simp only [List.map_toArray, List.map_cons, List.map_nil]); first | done | rfl | (simp only [List.length_drop, List.length_take]; rfl)) ?_; (with_reducible refine (spec_l04Is.calls k a0 _ _ l1 false _ ?side1 ?side2 A3.out).mono ?_); (case side1 => repeat (first | exact HR1.out | (with_reducible refine Kd.C_alloc ?_ _) | (with_reducible refine Kd.C_drewN ?_ _) | (with_reducible refine Kd.C_drew ?_))); (case side2 => exact HC1.out); rintro e w' ⟨rfl, ⟨nd, rfl⟩⟩; refine ⟨_, rfl, ?_⟩))
    go_ret2
    exact ⟨_, by first | rfl | (simp [errW_none, errW_some] <;> rfl) | (simp [*, errW_none, errW_some] <;> rfl), by first | exact Kd.S_nil _ _ _ _ _ | exact Kd.N_nil _ _ _ _ _ | exact Kd.V_nil _ _ _ _ _ | exact Kd.Q_nil _ _ _ _ _ | exact Kd.R_nil _ _ _ _ _, by repeat (first | (with_reducible first | exact HB.out | apply below_alloc | apply pw_below_drewN | apply below_drew1) | exact HB.out)⟩

/-! ### impl_within: function 76 -/
def impl_within.f (a0 : Int) (a1 : Int) (a2 : Int) : Option (Bool) := if a0 ≥ a1 then (some (decide (a0 ≤ a2))) else (some false)
set_option maxHeartbeats 8000000 in
set_option maxRecDepth 100000 in
theorem impl_within.calls (a0 : Int) (a1 : Int) (a2 : Int) (r : Bool) (w : World) (h : impl_within.f a0 a1 a2 = some r) :
    Calls Try.prog 76 #[.int .i64 a0, .int .i64 a1, .int .i64 a2] w fun e w' => e = .returned (.bool r) ∧ Drawn0 w w' := by
  have H : (if a0 ≥ a1 then (some (decide (a0 ≤ a2))) else (some false)) = some r := h
  clear h
  by_cases c4 : a0 ≥ a1
  · rw [if_pos c4] at H
    have c4b0 : decide (a1 ≤ a0) = true := decide_eq_true c4
    clear c4
    obtain rfl := Option.some.inj H
    go_enter Try.func76, Try.ntmps76
    go_wp2
    go_ret
    exact ⟨by first | rfl | (simp; done) | (simp [*]; done) | (simp [Go.Proofs.YtocldhojbnegjaaZ.bne_nil]; done), by repeat (first | exact Drawn0.refl _ | apply Drawn0.step)⟩
  · rw [if_neg c4] at H
    have c4b0 : decide (a1 ≤ a0) = false := decide_eq_false c4
    clear c4
    obtain rfl := Option.some.inj H
    go_enter Try.func76, Try.ntmps76
    go_wp2
    go_ret
    exact ⟨by first | rfl | (simp; done) | (simp [*]; done) | (simp [Go.Proofs.YtocldhojbnegjaaZ.bne_nil]; done), by repeat (first | exact Drawn0.refl _ | apply Drawn0.step)⟩

/-! ### impl_areLetters: function 67 -/
def impl_areLetters.f (a0 : Int) : Option (Bool) := (impl_within.f a0 1 3).bind fun t149 => (some t149)
set_option maxHeartbeats 8000000 in
set_option maxRecDepth 100000 in
theorem impl_areLetters.calls (a0 : Int) (r : Bool) (w : World) (h : impl_areLetters.f a0 = some r) :
    Calls Try.prog 67 #[.int .i64 a0] w fun e w' => e = .returned (.bool r) ∧ Drawn0 w w' := by
  have H : ((impl_within.f a0 1 3).bind fun t149 => (some t149)) = some r := h
  clear h
  replace H := Option.bind_eq_some_iff.mp H
  obtain ⟨t149, A20, H⟩ := H
  replace H : (some t149) = some r := H
  have A2 := Aside0.mk A20
  clear A20
  obtain rfl := Option.some.inj H
  go_enter Try.func67, Try.ntmps67
  go_wp2_with (first | ((with_reducible refine gate_callee (f := 76) rfl ?_); refine goesL_ (some 4) rfl rfl Try.func76 (by kernel_rfl) rfl #[.int .i64 a0, .int .i64 1, .int .i64 3] rfl (by (try simp only [List.map_toArray, List.map_cons, List.map_nil]); first | done | rfl | (simp only [List.length_drop, List.length_take]; rfl)) ?_; (with_reducible refine (impl_within.calls a0 1 3 t149 _ A2.out).mono ?_); rintro e w' ⟨rfl, ⟨nd, rfl⟩⟩; refine ⟨_, rfl, ?_⟩))
  go_ret
  exact ⟨by first | rfl | (simp; done) | (simp [*]; done) | (simp [Go.Proofs.YtocldhojbnegjaaZ.bne_nil]; done), by repeat (first | exact Drawn0.refl _ | apply Drawn0.step)⟩

-- NOT PRINTED: function 135 (slices_IndexFunc_int64_int64)

-- NOT PRINTED: function 111 (slices_ContainsFunc_int64_int64)

/-! ### impl_IsPath: function 75 -/
def impl_IsPath.f (a0 : Int) (l1 : List (List Int)) : Option (Bool) := some (Go.Proofs.YtocldhojbnegjaaC.isPath a0 l1)
theorem impl_IsPath.calls (a0 : Int) (A1 : Option Addr) (c1 : Nat) (l1 : List (List Int)) (r : Bool) (w : World) (hr1 : Kd.C (Kd.slice 2 (Kd.int .i64)) w A1 l1.length l1) (hc1 : l1.length ≤ c1) (h : impl_IsPath.f a0 l1 = some r) :
    Calls Try.prog 75 #[.int .i64 a0, .slice A1 l1.length c1] w fun e w' => e = .returned (.bool r) ∧ Below w.heap.size w w' := by
  obtain rfl := Option.some.inj h
  exact Go.Proofs.YtocldhojbnegjaaC.isPath_any a0 A1 c1 l1 w hr1

-- NOT PRINTED: function 84 (impl_mapSteps)

/-! ### slices_Clone_int64_int64: function 94 -/
def slices_Clone_int64_int64.f (l0 : List Int) : Option (List Int) := if l0.length < 17592186044416 then some l0 else none
set_option maxHeartbeats 8000000 in
set_option maxRecDepth 100000 in
theorem slices_Clone_int64_int64.calls (A0 : Option Addr) (c0 : Nat) (l0 : List Int) (r : List Int) (w : World) (hr0 : Kd.C (Kd.int .i64) w A0 l0.length l0) (hc0 : l0.length ≤ c0) (h : slices_Clone_int64_int64.f l0 = some r) :
    Calls Try.prog 94 #[.slice A0 l0.length c0] w fun e w' => ∃ v0_ : Value, e = .returned (v0_) ∧ Kd.R (Kd.int .i64) 2 w' w.heap.size (fun _ => True) v0_ r ∧ Below w.heap.size w w' := by
  unfold slices_Clone_int64_int64.f at h
  split at h
  · rename_i hL
    obtain rfl := Option.some.inj h
    cases A0 with
    | none =>
      have hn : l0 = [] := by
        cases l0 with
        | nil => rfl
        | cons a l =>
          obtain ⟨ad, e, _⟩ := hr0.2.2 (by simp)
          cases e
      subst hn
      refine (Try.slices_Clone_nil _ _ w).mono ?_
      rintro e w' ⟨rfl, rfl⟩
      exact ⟨_, rfl, Kd.R_nil _ _ _ _ _, Below.refl _ _⟩
    | some ad =>
      have HL := Aside0.mk hL
      have HR0 := Aside0.mk hr0
      clear hr0 hL
      have HB := Aside0.mk (Below.refl w.heap.size w)
      have hE : ∀ w, (binOp .eql 40 (.slice (some ad) l0.length c0) (.slice none 0 0)).run Try.prog w = .ok (.bool false) w := fun w => Go.Lib.run_eql_slice_nil w _ _ _ _ _ _ _ Try.underlying40
      go_enter Try.func94, Try.ntmps94
      obtain ⟨y2, hy2⟩ : ∃ y_ : List Int, y_ = ([] : List Int) ++ l0 := ⟨_, rfl⟩
      have Ny2 := Aside0.mk hy2
      go_wp2_with (first | ((with_reducible refine gate_dst (N := 5) rfl ?_); refine Kd.R_lit (Kd.int .i64) _ 2 ?hg (N := 5) ?hd (xs := ([] : List Int)) (inner := []) (ok := fun _ => True) (okp := fun _ => True) ?hr ?hp (fun _ hk => hk) trivial (Below.refl _ _) (Nat.le_refl _) (by simp) ?_; (case hd => rfl); (case hg => rfl); (case hr => first | (go_simp; done) | (go_simp; rfl)); (case hp => exact (Reps.none _ _)); intro v133 w3 ho4 hb hg_ hnew_; clear hg_ hnew_; have n0_ := Aside0.mk (Kd.R_lower ho4 (below_size (by repeat (first | (with_reducible first | exact HB.out | apply below_alloc | apply pw_below_drewN | apply below_drew1) | exact HB.out)))); have n1_ := Aside0.mk (below_step (by repeat (first | (with_reducible first | exact HB.out | apply below_alloc | apply pw_below_drewN | apply below_drew1) | exact HB.out)) hb); clear HB; have HO134 := n0_; have HB := n1_; clear n0_ n1_; clear hb ho4) | ((with_reducible refine gate_builtin (b := .append) (xs := #[.tmp 5, .tmp 6]) rfl ?_); at_builtin; refine Kd.R_append_rows (Kd.int .i64) (w0 := w) w.heap.size rfl (.tmp 5) (.tmp 6) 40 2 (.int .i64 0) 8 rfl Try.underlying40 info2 rfl (by decide) (by omega) v133 ([] : List Int) l0 _ _ _ (fun _ => True) (fun _ => False) rfl rfl ?aO ?aR (fun _ _ h => h) (fun _ h => h.elim) ?aF ?aB ?aS ?aL ?_; (case aR => repeat (first | exact (Kd.C_below HR0.out HB.out) | (with_reducible refine Kd.C_alloc ?_ _) | (with_reducible refine Kd.C_drewN ?_ _) | (with_reducible refine Kd.C_drew ?_))); (case aB => exact (by repeat (first | (with_reducible first | exact HB.out | apply below_alloc | apply pw_below_drewN | apply below_drew1) | exact HB.out))); (case aF => exact (fun _ _ => trivial)); (case aO => exact (by (with_reducible repeat (first | apply Kd.R_alloc | apply Kd.R_drewN | apply Kd.R_drew)); exact HO134.out)); (case aS => exact (below_size (by repeat (first | (with_reducible first | exact HB.out | apply below_alloc | apply pw_below_drewN | apply below_drew1) | exact HB.out)))); (case aL => have := HL.out; have e0_ : ([] : List Int).length = 0 := rfl; omega); intro v136 w5 ho hb hg hat; rw [← Ny2.out] at ho; have n0_ := Aside0.mk (hb); have n1_ := Aside0.mk (ho); clear HB; clear HO134; have HB := n0_; have HO137 := n1_; clear n0_ n1_; clear ho hb hg hat))
      go_ret
      refine ⟨_, rfl, ?_, HB.out⟩
      have h5 := HO137.out
      rw [hy2, List.nil_append] at h5
      exact h5
  · cases h

/-! ### impl_multiplied: function 86 -/
def impl_multiplied.l0 : Nat → Int → List Int → Int → Int → Option (List Int)
  | 0, _, _, _, _ => none
  | k + 1, x1, x5, x10, x11 => if x11 < x10 then (if 0 ≤ x11 then (if x11 < (x5.length : Int) then (impl_multiplied.l0 k x1 (x5.set (x11 : Int).toNat (wrap64 ((rd x5 x11) * x1))) x10 (wrap64 (x11 + 1))) else (none)) else (none)) else (some x5)
def impl_multiplied.f (k : Nat) (l0 : List Int) (a1 : Int) : Option (List Int) := (slices_Clone_int64_int64.f l0).bind fun t150 => (impl_multiplied.l0 k a1 t150 (t150.length : Int) 0)
theorem impl_multiplied.mono_l : ∀ k, (∀ y0 y1 y2 y3, LeO (impl_multiplied.l0 k y0 y1 y2 y3) (impl_multiplied.l0 (k + 1) y0 y1 y2 y3))
  | 0 => fun _ _ _ _ r h => by simp [impl_multiplied.l0] at h
  | k + 1 => by
    have ih0 := impl_multiplied.mono_l k
    · intro y0 y1 y2 y3
      unfold impl_multiplied.l0
      repeat' first
      | (with_reducible exact ih0 _ _ _ _)
      | (with_reducible exact LeO.refl _)
      | (with_reducible exact LeO.none _)
      | (with_reducible refine LeO.ite ?_ ?_)
      | (with_reducible refine LeO.bind ?_ (fun _ => ?_))
      | exact ih0 _ _ _ _
      | exact LeO.none _
      | refine LeO.ite ?_ ?_
      | refine LeO.bind ?_ (fun _ => ?_)
theorem impl_multiplied.mono : ∀ a0 a1 k, LeO (impl_multiplied.f k a0 a1) (impl_multiplied.f (k + 1) a0 a1) := by
  intro a0 a1 k
  have ih0 := impl_multiplied.mono_l k
  unfold impl_multiplied.f
  repeat' first
      | (with_reducible exact ih0 _ _ _ _)
      | (with_reducible exact LeO.refl _)
      | (with_reducible exact LeO.none _)
      | (with_reducible refine LeO.ite ?_ ?_)
      | (with_reducible refine LeO.bind ?_ (fun _ => ?_))
      | exact ih0 _ _ _ _
      | exact LeO.none _
      | refine LeO.ite ?_ ?_
      | refine LeO.bind ?_ (fun _ => ?_)
set_option maxHeartbeats 8000000 in
set_option maxRecDepth 100000 in
theorem impl_multiplied.calls (k : Nat) (A0 : Option Addr) (c0 : Nat) (l0 : List Int) (a1 : Int) (r : List Int) (w : World) (hr0 : Kd.C (Kd.int .i64) w A0 l0.length l0) (hc0 : l0.length ≤ c0) (h : impl_multiplied.f k l0 a1 = some r) :
    Calls Try.prog 86 #[.slice A0 l0.length c0, .int .i64 a1] w fun e w' => ∃ v0_ : Value, e = .returned (v0_) ∧ Kd.R (Kd.int .i64) 2 w' w.heap.size (fun _ => True) v0_ r ∧ Below w.heap.size w w' := by
  have HR0 := Aside0.mk hr0
  have HC0 := Aside0.mk hc0
  clear hr0 hc0
  have HB := Aside0.mk (Below.refl w.heap.size w)
  have H : ((slices_Clone_int64_int64.f l0).bind fun t150 => (impl_multiplied.l0 k a1 t150 (t150.length : Int) 0)) = some r := h
  clear h
  replace H := Option.bind_eq_some_iff.mp H
  obtain ⟨t150, A30, H⟩ := H
  replace H : (impl_multiplied.l0 k a1 t150 (t150.length : Int) 0) = some r := H
  have A3 := Aside0.mk A30
  clear A30
  have H' := Aside0.mk H
  clear H
  go_enter Try.func86, Try.ntmps86
  go_wp2_with (first | ((with_reducible refine gate_callee (f := 94) rfl ?_); refine goesL_ (some 8) rfl rfl Try.func94 (by kernel_rfl) rfl #[.slice A0 l0.length c0] rfl (by (try simp only [List.map_toArray, List.map_cons, List.map_nil]); first | done | rfl | (simp only [List.length_drop, List.length_take]; rfl)) ?_; (with_reducible refine (slices_Clone_int64_int64.calls _ _ l0 t150 _ ?side1 ?side2 A3.out).mono ?_); (case side1 => repeat (first | exact HR0.out | (with_reducible refine Kd.C_alloc ?_ _) | (with_reducible refine Kd.C_drewN ?_ _) | (with_reducible refine Kd.C_drew ?_))); (case side2 => exact HC0.out); rintro e w4 ⟨v151, rfl, ho0, hb⟩; refine ⟨_, rfl, ?_⟩; have n0_ := Aside0.mk (Kd.R_lower ho0 (below_size (by repeat (first | (with_reducible first | exact HB.out | apply below_alloc | apply pw_below_drewN | apply below_drew1) | exact HB.out)))); have n1_ := Aside0.mk (below_step (by repeat (first | (with_reducible first | exact HB.out | apply below_alloc | apply pw_below_drewN | apply below_drew1) | exact HB.out)) hb); clear HB; have HO152 := n0_; have HB := n1_; clear n0_ n1_; (try clear hb); (try clear hb2); (try clear hk); (try clear hi); (try clear ho0); obtain ⟨Ao5, co5, eo5⟩ := Kd.R_slice HO152.out; subst eo5))
  go_loopg [11] k (fun kq v11 w' => ∃ (x5_1 : List Int) (x11_1 : Int), v11 = .int .i64 x11_1 ∧ Aside0 (impl_multiplied.l0 kq a1 x5_1 (t150.length : Int) x11_1 = some r) ∧ Aside0 (kq ≤ k) ∧ Aside0 (Kd.R (Kd.int .i64) 2 w' w.heap.size (fun _ => True) (.slice Ao5 t150.length co5) x5_1) ∧ Aside0 (Below w.heap.size w w'))
  case atStart => exact ⟨(t150), (0), (by first | rfl | (simp; done) | (simp [*]; done)), H', ⟨Nat.le_refl _⟩, ⟨by (with_reducible repeat (first | apply Kd.R_alloc | apply Kd.R_drewN | apply Kd.R_drew)); exact HO152.out⟩, ⟨by repeat (first | (with_reducible first | exact HB.out | apply below_alloc | apply pw_below_drewN | apply below_drew1) | exact HB.out)⟩⟩
  case round =>
    clear H'
    try clear p2
    obtain ⟨x5_1, x11_1, rfl, HA, HK1, HO_5, HB⟩ := hrel
    have hl5_1 := (Kd.R_reads' HO_5.out).1
    rw [hl5_1] at HO_5
    (try simp only [hl5_1])
    cases gk with
    | zero => exact absurd HA.out (by simp [impl_multiplied.l0])
    | succ k1 =>
      have H := HA.out
      clear HA
      simp only [impl_multiplied.l0] at H
      by_cases c6 : x11_1 < (t150.length : Int)
      · rw [if_pos c6] at H
        have c6b0 : decide (x11_1 < (t150.length : Int)) = true := decide_eq_true c6
        (try have c6bh := c6b0); (try simp only [hl5_1] at c6bh)
        clear c6
        by_cases c7 : 0 ≤ x11_1
        · rw [if_pos c7] at H
          have c7b0 : decide (0 ≤ x11_1) = true := decide_eq_true c7
          clear c7
          by_cases c8 : x11_1 < (x5_1.length : Int)
          · rw [if_pos c8] at H
            have c8b0 : decide (x11_1 < (x5_1.length : Int)) = true := decide_eq_true c8
            (try have c8bh := c8b0); (try simp only [hl5_1] at c8bh)
            clear c8
            obtain ⟨y154, hy154⟩ : ∃ y_ : List Int, y_ = (x5_1.set (x11_1 : Int).toNat (wrap64 ((rd x5_1 x11_1) * a1))) := ⟨_, rfl⟩
            replace H : (impl_multiplied.l0 k1 a1 y154 (t150.length : Int) (wrap64 (x11_1 + 1))) = some r := by first | (rw [hy154]; with_reducible exact H) | (have H2_ := (Option.bind_some _ _).symm.trans H; rw [hy154]; with_reducible exact H2_) | (have H2_ := (Option.bind_some _ _).symm.trans H; with_reducible exact H2_) | with_reducible exact H | (rw [hy154]; exact H) | exact H
            have Ny154 := Aside0.mk hy154
            clear hy154
            have H' := Aside0.mk H
            clear H
            have p153 : 0 ≤ (x11_1 : Int) := of_decide_eq_true (by first | (with_reducible assumption) | assumption)
            have q153 : x11_1 < (x5_1.length : Int) := of_decide_eq_true (by first | (with_reducible assumption) | assumption)
            obtain ⟨ad153, e153, hx153_0⟩ := Kd.at_int (Kd.R_reads' HO_5.out).2.2 x11_1 p153 q153
            cases e153
            replace p153 := eq_true p153
            replace q153 := eq_true q153
            have p9 : 0 ≤ (x11_1 : Int) := of_decide_eq_true (by first | (with_reducible assumption) | assumption)
            have q9 : (x11_1 : Int) < ((x5_1.length : Int) : Int) := of_decide_eq_true (by first | (with_reducible assumption) | assumption)
            obtain ⟨go9, co9, eo9, gb9, gl9, cl9, HG9⟩ := Kd.R_form HO_5.out (by omega)
            (first | cases eo9 | (injection eo9 with ea_ en_ ec_; (first | subst ea_ | (injection ea_ with ea_; subst ea_)); subst ec_; clear en_))
            have GB9 := Aside0.mk gb9
            have GG9 := Aside0.mk HG9
            clear gb9 gl9 HG9
            (first | simp only [add_plain] at hx153_0 | skip)
            obtain ⟨hx9_0, hf9_0⟩ := Kd.R_celln 0 HO_5.out (x11_1 : Int) p9 q9
            replace p9 := eq_true p9
            replace q9 := eq_true q9
            have HP10 := Kd.R_putg HO_5.out (x11_1 : Int) (wrap64 ((rd x5_1 x11_1) * a1))
            go_wp2_with (first | ((with_reducible refine gate_store (t := 2) (p := 20) rfl ?_); refine store_event (t := 2) (p := 20) (v := ?vo_w11) (w1 := (wr.setCell ⟨go9, (x11_1 : Int).toNat, none⟩ (.int .i64 (wrap64 ((rd x5_1 x11_1) * a1))))) ?hg ?ho ?hn ?hr ?_; (case ho => rfl); (case hg => rfl); (case hn => rfl); (case hr => first | (go_simp; done) | (go_simp; rfl)); intro w11 hw; have hg : wr.grownBy w11 (some go9) := (by rw [hw]; exact HP10.2); have hp_ : Kd.R (Kd.int .i64) 2 w11 w.heap.size (fun _ => True) (.slice (some ⟨go9, 0, none⟩) x5_1.length co5) y154 := (by rw [hw, Ny154.out]; exact HP10.1); clear HP10; have n0_ := Aside0.mk (hp_); have n1_ := Aside0.mk ((by rw [hw]; exact below_set (HB.out) GB9.out : Below w.heap.size w w11)); clear HO_5; clear HB; have HO_5 := n0_; have HB := n1_; clear n0_ n1_; clear hg hw hp_))
            (try simp only [← hl5_1])
            go_roundg k1
            case measure => have := HK1.out; omega
            case rel => exact ⟨(y154), (wrap64 (x11_1 + 1)), (by first | rfl | (simp; done) | (simp [*]; done)), H', ⟨by have := HK1.out; omega⟩, ⟨by (try simp only [hl5_1]); (with_reducible repeat (first | apply Kd.R_alloc | apply Kd.R_drewN | apply Kd.R_drew)); exact HO_5.out⟩, ⟨by repeat (first | (with_reducible first | exact HB.out | apply below_alloc | apply pw_below_drewN | apply below_drew1) | exact HB.out)⟩⟩
          · rw [if_neg c8] at H
            exact absurd H (by simp)
        · rw [if_neg c7] at H
          exact absurd H (by simp)
      · rw [if_neg c6] at H
        have c6b0 : decide (x11_1 < (t150.length : Int)) = false := decide_eq_false c6
        (try have c6bh := c6b0); (try simp only [hl5_1] at c6bh)
        clear c6
        obtain rfl := Option.some.inj H
        go_wp2
        go_ret
        exact ⟨_, by first | rfl | (simp [errW_none, errW_some] <;> rfl) | (simp [*, errW_none, errW_some] <;> rfl), by (with_reducible repeat (first | apply Kd.R_alloc | apply Kd.R_drewN | apply Kd.R_drew)); exact HO_5.out, by repeat (first | (with_reducible first | exact HB.out | apply below_alloc | apply pw_below_drewN | apply below_drew1) | exact HB.out)⟩

-- NOT PRINTED: function 87 (slices_Reverse_int64_int64)

/-! ### impl_ReversePath: function 43 -/
theorem impl_ReversePath.setn (a : List Int) (f : Int → Int) (j : Nat) (hj : j < a.length) : ((a.map f).take j ++ a.drop j).set j (f (rd ((a.map f).take j ++ a.drop j) (j : Int))) = (a.map f).take (j + 1) ++ a.drop (j + 1) := by
  have hjm : j < (a.map f).length := by rw [List.length_map]; exact hj
  have hr : rd ((a.map f).take j ++ a.drop j) (j : Int) = a[j] := by
    simp only [rd, Int.toNat_natCast, List.getD_eq_getElem?_getD]
    rw [List.getElem?_append_right (by rw [List.length_take]; omega)]
    simp only [List.length_take, List.length_map, Nat.min_eq_left (Nat.le_of_lt hj), Nat.sub_self, List.getElem?_drop, Nat.add_zero, List.getElem?_eq_getElem hj, Option.getD_some]
  rw [hr, List.set_append, if_neg (by rw [List.length_take]; omega)]
  simp only [List.length_take, List.length_map, Nat.min_eq_left (Nat.le_of_lt hj), Nat.sub_self]
  rw [List.drop_eq_getElem_cons hj, List.set_cons_zero, List.take_succ_eq_append_getElem hjm, List.append_assoc, List.getElem_map]; rfl
def impl_ReversePath.times (m : Int) (x : Int) : Int := wrap64 (x * m)
theorem impl_ReversePath.loop (a : List Int) (m : Int) (hl : a.length ≤ 1048576) (p : Nat) : ∀ j : Nat, j + p = a.length → Ev (fun k => impl_multiplied.l0 k m ((a.map (impl_ReversePath.times m)).take j ++ a.drop j) (a.length : Int) (j : Int)) (a.map (impl_ReversePath.times m)) := by
  induction p with
  | zero =>
    intro j hj
    refine Ev.step (f := fun _ => some (a.map (impl_ReversePath.times m))) (fun k => ?_) (Ev.now _)
    simp only [impl_multiplied.l0]
    rw [if_neg (by omega), List.drop_eq_nil_of_le (by omega), List.append_nil, List.take_of_length_le (by rw [List.length_map]; omega)]
  | succ p ih =>
    intro j hj
    have hlen : ((a.map (impl_ReversePath.times m)).take j ++ a.drop j).length = a.length := by rw [List.length_append, List.length_take, List.length_map, List.length_drop]; omega
    refine Ev.step (fun k => ?_) (ih (j + 1) (by omega))
    simp only [impl_multiplied.l0]
    rw [if_pos (by omega), if_pos (by omega), if_pos (by omega), show wrap64 ((j : Int) + 1) = ((j + 1 : Nat) : Int) from by unfold wrap64; omega, Int.toNat_natCast]
    rw [← impl_ReversePath.setn a (impl_ReversePath.times m) j (by omega)]
    rfl
theorem impl_ReversePath.mult (a : List Int) (m : Int) (hl : a.length ≤ 1048576) : ∃ k, impl_multiplied.f k a m = some (a.map (impl_ReversePath.times m)) := by
  have h := impl_ReversePath.loop a m hl a.length 0 (by omega)
  refine Ev.rounds (Ev.congr (fun k => ?_) h)
  unfold impl_multiplied.f slices_Clone_int64_int64.f
  rw [if_pos (by omega)]; rfl

open Go.Proofs.YtocldhojbnegjaaC in
def impl_ReversePath.f (a0 : Int) (l1 : List (List Int)) : Option (List (List Int) × Int) := some (if isPath a0 l1 = true then ((l1.map fun r => r.map (impl_ReversePath.times (-1))).reverse, 0) else ([], 1))
open Go.Proofs.YtocldhojbnegjaaC in
set_option maxHeartbeats 4000000 in
theorem impl_ReversePath.lit (w : World) (l : List (List Int)) (hs : ∀ r ∈ l, r.length ≤ 1048576) : Maps 85 #[] (fun r => r.map (impl_ReversePath.times (-1))) w l := by
  intro j hj A0 c0 V hV hc hK
  have hrow : (l.getD j []).length ≤ 1048576 := by
    rw [List.getD_eq_getElem?_getD, List.getElem?_eq_getElem hj]; exact hs _ (List.getElem_mem hj)
  generalize l.getD j [] = row at hc hK hrow ⊢
  obtain ⟨k, hk⟩ := impl_ReversePath.mult row (-1) hrow
  have HK := Aside0.mk hK
  have HC := Aside0.mk hc
  have HE := Aside0.mk hk
  clear hK hc hk hrow hV
  show Calls Try.prog 85 #[.slice A0 row.length c0] V _
  go_enter Try.func85, Try.ntmps85
  go_wp2_with (go_at_call 86; refine (impl_multiplied.calls k A0 c0 row (-1) _ _ (Kd.C_below HK.out (by repeat (first | (with_reducible first | exact Below.refl _ _ | apply below_alloc | apply pw_below_drewN | apply below_drew1) | exact Below.refl _ _))) HC.out HE.out).mono ?_; rintro e w' ⟨v, rfl, ho, hb⟩; have HO := Aside0.mk ho; have HB := Aside0.mk (below_step (by repeat (first | (with_reducible first | exact Below.refl _ _ | apply below_alloc | apply pw_below_drewN | apply below_drew1) | exact Below.refl _ _)) hb); clear ho hb)
  go_ret
  exact ⟨_, rfl, HO.out, HB.out⟩
open Go.Proofs.YtocldhojbnegjaaC in
set_option maxHeartbeats 4000000 in
set_option maxRecDepth 100000 in
theorem impl_ReversePath.calls (a0 : Int) (A1 : Option Addr) (c1 : Nat) (l1 : List (List Int)) (r1 : List (List Int)) (r2 : Int) (w : World) (hr1 : Kd.C (Kd.slice 2 (Kd.int .i64)) w A1 l1.length l1) (hc1 : l1.length ≤ c1) (h : impl_ReversePath.f a0 l1 = some (r1, r2)) :
    Calls Try.prog 43 #[.int .i64 a0, .slice A1 l1.length c1] w fun e w' => ∃ v0_ : Value, e = .returned (.tuple #[v0_, .int .i64 r2]) ∧ Kd.S (Kd.slice 2 (Kd.int .i64)) 40 w' w.heap.size (fun _ => True) v0_ r1 ∧ Below w.heap.size w w' := by
  unfold impl_ReversePath.f at h
  have h := Option.some.inj h
  have HR := Aside0.mk hr1
  clear hr1
  by_cases c : isPath a0 l1 = true
  · rw [if_pos c] at h
    obtain ⟨rfl, rfl⟩ := Prod.mk.inj h
    have hsm : l1.length ≤ 12 ∧ ∀ r ∈ l1, r.length ≤ 1048576 := by
      have c2 := c
      unfold isPath letters at c2
      simp only [Bool.and_eq_true, decide_eq_true_eq, List.all_eq_true] at c2
      refine ⟨by omega, fun r hr => ?_⟩
      have := c2.2 r hr
      unfold rowOk at this
      simp only [Bool.and_eq_true, decide_eq_true_eq] at this
      omega
    have HL := Aside0.mk hsm.1
    have HS := Aside0.mk hsm.2
    have HC := Aside0.mk c
    clear h c hsm
    go_enter Try.func43, Try.ntmps43
    go_wp2_with (go_at_call 75; refine (isPath_any a0 A1 c1 l1 _ (Kd.C_below HR.out (by repeat (first | (with_reducible first | exact Below.refl _ _ | apply below_alloc | apply pw_below_drewN | apply below_drew1) | exact Below.refl _ _)))).mono ?_; rintro e w1 ⟨he, hb⟩; rw [HC.out] at he; subst he; have B1 := Aside0.mk (show Below w.heap.size w w1 from below_step (by repeat (first | (with_reducible first | exact Below.refl _ _ | apply below_alloc | apply pw_below_drewN | apply below_drew1) | exact Below.refl _ _)) hb); clear hb)
    go_wp2_with (go_at_call 84; refine (mapSteps_any 85 #[] (fun r => r.map (impl_ReversePath.times (-1))) A1 c1 l1 _ (enters_of Try.func85 (by kernel_rfl) rfl) (Kd.C_below HR.out (by repeat (first | (with_reducible first | exact B1.out | apply below_alloc | apply pw_below_drewN | apply below_drew1) | exact B1.out))) (impl_ReversePath.lit _ l1 HS.out) (by have := HL.out; omega)).mono ?_; rintro e w2 ⟨v2, rfl, hs, hb⟩; have B2 := Aside0.mk (show Below w.heap.size w w2 from below_step (by repeat (first | (with_reducible first | exact B1.out | apply below_alloc | apply pw_below_drewN | apply below_drew1) | exact B1.out)) hb); have HO := Aside0.mk (show Kd.S (Kd.slice 2 (Kd.int .i64)) 40 w2 w.heap.size (fun _ => True) v2 _ from Kd.S_lower hs (below_size (by repeat (first | (with_reducible first | exact B1.out | apply below_alloc | apply pw_below_drewN | apply below_drew1) | exact B1.out)))); clear hs hb)
    obtain ⟨A2, c2, e2⟩ := Kd.R_slice (Kd.S_R HO.out)
    subst e2
    go_wp2_with (go_at_call 87; refine (reverse_any (by repeat (first | (with_reducible first | exact B2.out | apply below_alloc | apply pw_below_drewN | apply below_drew1) | exact B2.out)) (by (with_reducible repeat (first | apply Kd.S_alloc | apply Kd.S_drewN | apply Kd.S_drew)); exact HO.out)).mono ?_; rintro e w3 ⟨rfl, hs, hb⟩; have B3 := Aside0.mk hb; have HO3 := Aside0.mk hs; clear hs hb)
    go_ret2
    refine ⟨_, rfl, ?_, B3.out⟩
    have h5 := HO3.out
    rw [List.length_map] at h5
    exact h5
  · rw [if_neg c] at h
    obtain ⟨rfl, rfl⟩ := Prod.mk.inj h
    have HC := Aside0.mk (Bool.eq_false_iff.2 c)
    clear h c
    go_enter Try.func43, Try.ntmps43
    go_wp2_with (go_at_call 75; refine (isPath_any a0 A1 c1 l1 _ (Kd.C_below HR.out (by repeat (first | (with_reducible first | exact Below.refl _ _ | apply below_alloc | apply pw_below_drewN | apply below_drew1) | exact Below.refl _ _)))).mono ?_; rintro e w1 ⟨he, hb⟩; rw [HC.out] at he; subst he; have B1 := Aside0.mk (show Below w.heap.size w w1 from below_step (by repeat (first | (with_reducible first | exact Below.refl _ _ | apply below_alloc | apply pw_below_drewN | apply below_drew1) | exact Below.refl _ _)) hb); clear hb)
    go_ret2
    exact ⟨_, rfl, Kd.S_nil _ _ _ _ _, B1.out⟩

/-! ### laws_FnExactReversePath: function 10 -/
def laws_FnExactReversePath.f (k : Nat) (a0 : Int) (l1 : List (List Int)) : Option Bool := (laws_szInt64SS.f k l1 1048576).bind fun y1_0 => if y1_0 < 0 then some true else (laws_toInt64SS.f k l1).bind fun y2_0 => (spec_ReversePath.f k a0 y2_0).bind fun p3 => (laws_toInt64SS.f k l1).bind fun y4_0 => (impl_ReversePath.f a0 y4_0).bind fun p5 => if p5.2 = p3.2 then (laws_eqInt64SS.f k p5.1 p3.1).bind fun y6_0 => if y6_0 = true then (laws_toInt64SS.f k l1).bind fun y7_0 => (laws_eqInt64SS.f k y4_0 y7_0).bind fun y8_0 => if y8_0 = true then (laws_markInt64SS.f k y4_0 1).bind fun p9 => if 0 ≤ p9.1 then (laws_eqInt64SS.f k p5.1 p3.1).bind fun y10_0 => if y10_0 = true then (laws_markInt64SS.f k p5.1 1).bind fun p11 => if 0 ≤ p11.1 then (laws_heldInt64SS.f k p11.2 1).bind fun y12_0 => if 0 ≤ y12_0 ∧ y12_0 = p11.1 then (laws_toInt64SS.f k l1).bind fun y13_0 => (impl_ReversePath.f a0 y13_0).bind fun p14 => if p14.2 = p3.2 then (laws_eqInt64SS.f k p14.1 p3.1).bind fun y15_0 => if y15_0 = true then (laws_heldInt64SS.f k p11.2 1).bind fun y16_0 => if 0 ≤ y16_0 ∧ y16_0 = p11.1 then some true else none else none else none else none else none else none else none else none else none else none
theorem laws_FnExactReversePath.mono : ∀ a0 l1 k, LeO (laws_FnExactReversePath.f k a0 l1) (laws_FnExactReversePath.f (k + 1) a0 l1) := by
  intro a0 l1 k
  unfold laws_FnExactReversePath.f
  repeat' first
    | (with_reducible exact laws_eqInt64SS.mono _ _ _)
    | (with_reducible exact laws_heldInt64SS.mono _ _ _)
    | (with_reducible exact laws_markInt64SS.mono _ _ _)
    | (with_reducible exact laws_szInt64SS.mono _ _ _)
    | (with_reducible exact laws_toInt64SS.mono _ _)
    | (with_reducible exact spec_ReversePath.mono _ _ _)
    | (with_reducible exact LeO.refl _)
    | (with_reducible refine LeO.ite ?_ ?_)
    | (with_reducible refine LeO.bind ?_ (fun _ => ?_))
    | exact LeO.refl _
    | exact LeO.none _
set_option maxHeartbeats 8000000 in
set_option maxRecDepth 100000 in
theorem laws_FnExactReversePath.calls (k : Nat) (a0 : Int) (A1 : Option Addr) (c1 : Nat) (l1 : List (List Int)) (r : Bool) (w : World) (hr1 : Kd.C (Kd.slice 2 (Kd.int .i64)) w A1 l1.length l1) (hc1 : l1.length ≤ c1) (h : laws_FnExactReversePath.f k a0 l1 = some r) :
    Calls Try.prog 10 #[.int .i64 a0, .slice A1 l1.length c1] w fun e w' => e = .returned (.bool r) ∧ Below w.heap.size w w' := by
  unfold laws_FnExactReversePath.f at h
  have HR1 := Aside0.mk hr1
  have HC1 := Aside0.mk hc1
  clear hr1 hc1
  have B0 := Aside0.mk (Below.refl w.heap.size w)
  have h0 := h
  clear h
  replace h0 := Option.bind_eq_some_iff.mp h0
  obtain ⟨y1_0, E1, h0⟩ := h0
  replace E1 := Aside0.mk E1
  by_cases c1 : y1_0 < 0
  · rw [if_pos c1] at h0
    obtain rfl := Option.some.inj h0
    clear h0
    have d1 : decide (y1_0 < 0) = true := decide_eq_true c1
    clear c1
    go_enter Try.func10, Try.ntmps10
    go_wp2_with (go_at_call 26; refine (laws_szInt64SS.calls k A1 c1 l1 1048576 y1_0 _ (Kd.C_below HR1.out (by repeat (first | (with_reducible first | exact B0.out | apply below_alloc | apply pw_below_drewN | apply below_drew1) | exact B0.out))) HC1.out E1.out).mono ?_; rintro e w1 ⟨rfl, hd⟩; have B1 := Aside0.mk (below_step (by repeat (first | (with_reducible first | exact B0.out | apply below_alloc | apply pw_below_drewN | apply below_drew1) | exact B0.out)) (Go.Proofs.YtocldhojbnegjaaA.below_drawn hd)); clear hd)
    go_ret
    exact ⟨rfl, B1.out⟩
  · rw [if_neg c1] at h0
    have d1 : decide (y1_0 < 0) = false := decide_eq_false c1
    clear c1
    replace h0 := Option.bind_eq_some_iff.mp h0
    obtain ⟨y2_0, E2, h0⟩ := h0
    replace E2 := Aside0.mk E2
    replace h0 := Option.bind_eq_some_iff.mp h0
    obtain ⟨⟨y3_0, y3_1⟩, E3, h0⟩ := h0
    dsimp only at h0
    replace E3 := Aside0.mk E3
    replace h0 := Option.bind_eq_some_iff.mp h0
    obtain ⟨y4_0, E4, h0⟩ := h0
    replace E4 := Aside0.mk E4
    replace h0 := Option.bind_eq_some_iff.mp h0
    obtain ⟨⟨y5_0, y5_1⟩, E5, h0⟩ := h0
    dsimp only at h0
    replace E5 := Aside0.mk E5
    by_cases c5 : y5_1 = y3_1
    rotate_left
    · rw [if_neg c5] at h0; cases h0
    rw [if_pos c5] at h0
    have f5_1 : (y5_1 != y3_1) = false := by rw [bne_eq_false_iff_eq]; exact c5
    clear c5
    replace h0 := Option.bind_eq_some_iff.mp h0
    obtain ⟨y6_0, E6, h0⟩ := h0
    replace E6 := Aside0.mk E6
    by_cases c6 : y6_0 = true
    rotate_left
    · rw [if_neg c6] at h0; cases h0
    rw [if_pos c6] at h0
    subst c6
    replace h0 := Option.bind_eq_some_iff.mp h0
    obtain ⟨y7_0, E7, h0⟩ := h0
    replace E7 := Aside0.mk E7
    replace h0 := Option.bind_eq_some_iff.mp h0
    obtain ⟨y8_0, E8, h0⟩ := h0
    replace E8 := Aside0.mk E8
    by_cases c8 : y8_0 = true
    rotate_left
    · rw [if_neg c8] at h0; cases h0
    rw [if_pos c8] at h0
    subst c8
    replace h0 := Option.bind_eq_some_iff.mp h0
    obtain ⟨⟨y9_0, z9⟩, E9, h0⟩ := h0
    dsimp only at h0
    replace E9 := Aside0.mk E9
    by_cases c9 : 0 ≤ y9_0
    rotate_left
    · rw [if_neg c9] at h0; cases h0
    rw [if_pos c9] at h0
    have d9 : decide (y9_0 < 0) = false := decide_eq_false (by omega)
    clear c9
    replace h0 := Option.bind_eq_some_iff.mp h0
    obtain ⟨y10_0, E10, h0⟩ := h0
    replace E10 := Aside0.mk E10
    by_cases c10 : y10_0 = true
    rotate_left
    · rw [if_neg c10] at h0; cases h0
    rw [if_pos c10] at h0
    subst c10
    replace h0 := Option.bind_eq_some_iff.mp h0
    obtain ⟨⟨y11_0, z11⟩, E11, h0⟩ := h0
    dsimp only at h0
    replace E11 := Aside0.mk E11
    by_cases c11 : 0 ≤ y11_0
    rotate_left
    · rw [if_neg c11] at h0; cases h0
    rw [if_pos c11] at h0
    have d11 : decide (y11_0 < 0) = false := decide_eq_false (by omega)
    clear c11
    replace h0 := Option.bind_eq_some_iff.mp h0
    obtain ⟨y12_0, E12, h0⟩ := h0
    replace E12 := Aside0.mk E12
    by_cases c12 : 0 ≤ y12_0 ∧ y12_0 = y11_0
    rotate_left
    · rw [if_neg c12] at h0; cases h0
    rw [if_pos c12] at h0
    have d12 : decide (y12_0 < 0) = false := decide_eq_false (by omega)
    have f12 : (y12_0 != y11_0) = false := by rw [bne_eq_false_iff_eq]; exact c12.2
    clear c12
    replace h0 := Option.bind_eq_some_iff.mp h0
    obtain ⟨y13_0, E13, h0⟩ := h0
    replace E13 := Aside0.mk E13
    replace h0 := Option.bind_eq_some_iff.mp h0
    obtain ⟨⟨y14_0, y14_1⟩, E14, h0⟩ := h0
    dsimp only at h0
    replace E14 := Aside0.mk E14
    by_cases c14 : y14_1 = y3_1
    rotate_left
    · rw [if_neg c14] at h0; cases h0
    rw [if_pos c14] at h0
    have f14_1 : (y14_1 != y3_1) = false := by rw [bne_eq_false_iff_eq]; exact c14
    clear c14
    replace h0 := Option.bind_eq_some_iff.mp h0
    obtain ⟨y15_0, E15, h0⟩ := h0
    replace E15 := Aside0.mk E15
    by_cases c15 : y15_0 = true
    rotate_left
    · rw [if_neg c15] at h0; cases h0
    rw [if_pos c15] at h0
    subst c15
    replace h0 := Option.bind_eq_some_iff.mp h0
    obtain ⟨y16_0, E16, h0⟩ := h0
    replace E16 := Aside0.mk E16
    by_cases c16 : 0 ≤ y16_0 ∧ y16_0 = y11_0
    rotate_left
    · rw [if_neg c16] at h0; cases h0
    rw [if_pos c16] at h0
    have d16 : decide (y16_0 < 0) = false := decide_eq_false (by omega)
    have f16 : (y16_0 != y11_0) = false := by rw [bne_eq_false_iff_eq]; exact c16.2
    clear c16
    obtain rfl := Option.some.inj h0
    clear h0
    go_enter Try.func10, Try.ntmps10
    go_wp2_with (go_at_call 26; refine (laws_szInt64SS.calls k A1 c1 l1 1048576 y1_0 _ (Kd.C_below HR1.out (by repeat (first | (with_reducible first | exact B0.out | apply below_alloc | apply pw_below_drewN | apply below_drew1) | exact B0.out))) HC1.out E1.out).mono ?_; rintro e w1 ⟨rfl, hd⟩; have D_ := Aside0.mk (show Below w.heap.size w w1 from below_step (by repeat (first | (with_reducible first | exact Below.refl _ _ | apply below_alloc | apply pw_below_drewN | apply below_drew1) | exact Below.refl _ _)) (Go.Proofs.YtocldhojbnegjaaA.below_drawn hd)); clear hd)
    have B1 := Aside0.mk (below_step B0.out D_.out)
    clear D_
    go_wp2_with (go_at_call 28; refine (laws_toInt64SS.calls k A1 c1 l1 y2_0 _ (Kd.C_below HR1.out (by repeat (first | (with_reducible first | exact B1.out | apply below_alloc | apply pw_below_drewN | apply below_drew1) | exact B1.out))) HC1.out E2.out).mono ?_; rintro e w2 ⟨v2_0, rfl, ho0, hb⟩; have D_ := Aside0.mk (show Below w1.heap.size w1 w2 from below_step (by repeat (first | (with_reducible first | exact Below.refl _ _ | apply below_alloc | apply pw_below_drewN | apply below_drew1) | exact Below.refl _ _)) hb); have H2_0 := Aside0.mk (Go.Proofs.YtocldhojbnegjaaA.AtS.of ho0); clear ho0; clear hb)
    have B2 := Aside0.mk (below_step B1.out D_.out)
    obtain ⟨A2_0, c2_0, rfl, l_⟩ := H2_0.out.form
    have H2_0L := Aside0.mk l_
    clear l_
    obtain ⟨lo_H2_0, hlo⟩ : ∃ x_ : Nat, x_ = w1.heap.size := ⟨_, rfl⟩
    obtain ⟨hi_H2_0, hhi⟩ : ∃ x_ : Nat, x_ = w2.heap.size := ⟨_, rfl⟩
    have LO_H2_0 := Aside0.mk (show w.heap.size ≤ lo_H2_0 from by rw [hlo]; exact B1.out.size)
    have SZ_H2_0 := Aside0.mk (show lo_H2_0 ≤ hi_H2_0 from by rw [hlo, hhi]; exact D_.out.size)
    replace H2_0 := Aside0.mk (show Go.Proofs.YtocldhojbnegjaaA.AtS (Kd.slice 2 (Kd.int .i64)) 40 lo_H2_0 hi_H2_0 w2 (.slice A2_0 y2_0.length c2_0) y2_0 from by rw [hlo, hhi]; exact H2_0.out)
    clear hlo hhi
    clear D_
    have PS_H2_0 := Aside0.mk (show hi_H2_0 ≤ w2.heap.size from H2_0.out.2)
    go_wp2_with (go_at_call 42; refine (spec_ReversePath.calls k a0 _ _ y2_0 y3_0 y3_1 _ (Kd.C_below H2_0.out.C (by repeat (first | (with_reducible first | exact Below.refl _ _ | apply below_alloc | apply pw_below_drewN | apply below_drew1) | exact Below.refl _ _))) H2_0L.out E3.out).mono ?_; rintro e w3 ⟨v3_0, rfl, ho0, hb⟩; have D_ := Aside0.mk (show Below w2.heap.size w2 w3 from below_step (by repeat (first | (with_reducible first | exact Below.refl _ _ | apply below_alloc | apply pw_below_drewN | apply below_drew1) | exact Below.refl _ _)) hb); have H3_0 := Aside0.mk (Go.Proofs.YtocldhojbnegjaaA.AtS.of ho0); clear ho0; clear hb)
    have B3 := Aside0.mk (below_step B2.out D_.out)
    replace H2_0 := Aside0.mk (H2_0.out.below D_.out)
    obtain ⟨A3_0, c3_0, rfl, l_⟩ := H3_0.out.form
    have H3_0L := Aside0.mk l_
    clear l_
    obtain ⟨lo_H3_0, hlo⟩ : ∃ x_ : Nat, x_ = w2.heap.size := ⟨_, rfl⟩
    obtain ⟨hi_H3_0, hhi⟩ : ∃ x_ : Nat, x_ = w3.heap.size := ⟨_, rfl⟩
    have LO_H3_0 := Aside0.mk (show w.heap.size ≤ lo_H3_0 from by rw [hlo]; exact B2.out.size)
    have SZ_H3_0 := Aside0.mk (show lo_H3_0 ≤ hi_H3_0 ∧ hi_H2_0 ≤ lo_H3_0 from ⟨by rw [hlo, hhi]; exact D_.out.size, by rw [hlo]; exact PS_H2_0.out⟩)
    replace H3_0 := Aside0.mk (show Go.Proofs.YtocldhojbnegjaaA.AtS (Kd.slice 2 (Kd.int .i64)) 40 lo_H3_0 hi_H3_0 w3 (.slice A3_0 y3_0.length c3_0) y3_0 from by rw [hlo, hhi]; exact H3_0.out)
    clear hlo hhi
    clear D_
    have PS_H2_0 := Aside0.mk (show hi_H2_0 ≤ w3.heap.size from H2_0.out.2)
    have PS_H3_0 := Aside0.mk (show hi_H3_0 ≤ w3.heap.size from H3_0.out.2)
    go_wp2_with (go_at_call 28; refine (laws_toInt64SS.calls k A1 c1 l1 y4_0 _ (Kd.C_below HR1.out (by repeat (first | (with_reducible first | exact B3.out | apply below_alloc | apply pw_below_drewN | apply below_drew1) | exact B3.out))) HC1.out E4.out).mono ?_; rintro e w4 ⟨v4_0, rfl, ho0, hb⟩; have D_ := Aside0.mk (show Below w3.heap.size w3 w4 from below_step (by repeat (first | (with_reducible first | exact Below.refl _ _ | apply below_alloc | apply pw_below_drewN | apply below_drew1) | exact Below.refl _ _)) hb); have H4_0 := Aside0.mk (Go.Proofs.YtocldhojbnegjaaA.AtS.of ho0); clear ho0; clear hb)
    have B4 := Aside0.mk (below_step B3.out D_.out)
    replace H2_0 := Aside0.mk (H2_0.out.below D_.out)
    replace H3_0 := Aside0.mk (H3_0.out.below D_.out)
    obtain ⟨A4_0, c4_0, rfl, l_⟩ := H4_0.out.form
    have H4_0L := Aside0.mk l_
    clear l_
    obtain ⟨lo_H4_0, hlo⟩ : ∃ x_ : Nat, x_ = w3.heap.size := ⟨_, rfl⟩
    obtain ⟨hi_H4_0, hhi⟩ : ∃ x_ : Nat, x_ = w4.heap.size := ⟨_, rfl⟩
    have LO_H4_0 := Aside0.mk (show w.heap.size ≤ lo_H4_0 from by rw [hlo]; exact B3.out.size)
    have SZ_H4_0 := Aside0.mk (show lo_H4_0 ≤ hi_H4_0 ∧ hi_H2_0 ≤ lo_H4_0 ∧ hi_H3_0 ≤ lo_H4_0 from ⟨by rw [hlo, hhi]; exact D_.out.size, by rw [hlo]; exact PS_H2_0.out, by rw [hlo]; exact PS_H3_0.out⟩)
    replace H4_0 := Aside0.mk (show Go.Proofs.YtocldhojbnegjaaA.AtS (Kd.slice 2 (Kd.int .i64)) 40 lo_H4_0 hi_H4_0 w4 (.slice A4_0 y4_0.length c4_0) y4_0 from by rw [hlo, hhi]; exact H4_0.out)
    clear hlo hhi
    clear D_
    have PS_H2_0 := Aside0.mk (show hi_H2_0 ≤ w4.heap.size from H2_0.out.2)
    have PS_H3_0 := Aside0.mk (show hi_H3_0 ≤ w4.heap.size from H3_0.out.2)
    have PS_H4_0 := Aside0.mk (show hi_H4_0 ≤ w4.heap.size from H4_0.out.2)
    go_wp2_with (go_at_call 43; refine (impl_ReversePath.calls a0 _ _ y4_0 y5_0 y5_1 _ (Kd.C_below H4_0.out.C (by repeat (first | (with_reducible first | exact Below.refl _ _ | apply below_alloc | apply pw_below_drewN | apply below_drew1) | exact Below.refl _ _))) H4_0L.out E5.out).mono ?_; rintro e w5 ⟨v5_0, rfl, ho0, hb⟩; have D_ := Aside0.mk (show Below w4.heap.size w4 w5 from below_step (by repeat (first | (with_reducible first | exact Below.refl _ _ | apply below_alloc | apply pw_below_drewN | apply below_drew1) | exact Below.refl _ _)) hb); have H5_0 := Aside0.mk (Go.Proofs.YtocldhojbnegjaaA.AtS.of ho0); clear ho0; clear hb)
    have B5 := Aside0.mk (below_step B4.out D_.out)
    replace H2_0 := Aside0.mk (H2_0.out.below D_.out)
    replace H3_0 := Aside0.mk (H3_0.out.below D_.out)
    replace H4_0 := Aside0.mk (H4_0.out.below D_.out)
    obtain ⟨A5_0, c5_0, rfl, l_⟩ := H5_0.out.form
    have H5_0L := Aside0.mk l_
    clear l_
    obtain ⟨lo_H5_0, hlo⟩ : ∃ x_ : Nat, x_ = w4.heap.size := ⟨_, rfl⟩
    obtain ⟨hi_H5_0, hhi⟩ : ∃ x_ : Nat, x_ = w5.heap.size := ⟨_, rfl⟩
    have LO_H5_0 := Aside0.mk (show w.heap.size ≤ lo_H5_0 from by rw [hlo]; exact B4.out.size)
    have SZ_H5_0 := Aside0.mk (show lo_H5_0 ≤ hi_H5_0 ∧ hi_H2_0 ≤ lo_H5_0 ∧ hi_H3_0 ≤ lo_H5_0 ∧ hi_H4_0 ≤ lo_H5_0 from ⟨by rw [hlo, hhi]; exact D_.out.size, by rw [hlo]; exact PS_H2_0.out, by rw [hlo]; exact PS_H3_0.out, by rw [hlo]; exact PS_H4_0.out⟩)
    replace H5_0 := Aside0.mk (show Go.Proofs.YtocldhojbnegjaaA.AtS (Kd.slice 2 (Kd.int .i64)) 40 lo_H5_0 hi_H5_0 w5 (.slice A5_0 y5_0.length c5_0) y5_0 from by rw [hlo, hhi]; exact H5_0.out)
    clear hlo hhi
    clear D_
    have PS_H2_0 := Aside0.mk (show hi_H2_0 ≤ w5.heap.size from H2_0.out.2)
    have PS_H3_0 := Aside0.mk (show hi_H3_0 ≤ w5.heap.size from H3_0.out.2)
    have PS_H4_0 := Aside0.mk (show hi_H4_0 ≤ w5.heap.size from H4_0.out.2)
    have PS_H5_0 := Aside0.mk (show hi_H5_0 ≤ w5.heap.size from H5_0.out.2)
    go_wp2_with (go_at_call 30; refine (laws_eqInt64SS.calls k _ _ y5_0 _ _ y3_0 true _ (Kd.C_below H5_0.out.C (by repeat (first | (with_reducible first | exact Below.refl _ _ | apply below_alloc | apply pw_below_drewN | apply below_drew1) | exact Below.refl _ _))) H5_0L.out (Kd.C_below H3_0.out.C (by repeat (first | (with_reducible first | exact Below.refl _ _ | apply below_alloc | apply pw_below_drewN | apply below_drew1) | exact Below.refl _ _))) H3_0L.out E6.out).mono ?_; rintro e w6 ⟨rfl, hd⟩; have D_ := Aside0.mk (show Below w5.heap.size w5 w6 from below_step (by repeat (first | (with_reducible first | exact Below.refl _ _ | apply below_alloc | apply pw_below_drewN | apply below_drew1) | exact Below.refl _ _)) (Go.Proofs.YtocldhojbnegjaaA.below_drawn hd)); clear hd)
    have B6 := Aside0.mk (below_step B5.out D_.out)
    replace H2_0 := Aside0.mk (H2_0.out.below D_.out)
    replace H3_0 := Aside0.mk (H3_0.out.below D_.out)
    replace H4_0 := Aside0.mk (H4_0.out.below D_.out)
    replace H5_0 := Aside0.mk (H5_0.out.below D_.out)
    clear D_
    have PS_H2_0 := Aside0.mk (show hi_H2_0 ≤ w6.heap.size from H2_0.out.2)
    have PS_H3_0 := Aside0.mk (show hi_H3_0 ≤ w6.heap.size from H3_0.out.2)
    have PS_H4_0 := Aside0.mk (show hi_H4_0 ≤ w6.heap.size from H4_0.out.2)
    have PS_H5_0 := Aside0.mk (show hi_H5_0 ≤ w6.heap.size from H5_0.out.2)
    go_wp2_with (go_at_call 28; refine (laws_toInt64SS.calls k A1 c1 l1 y7_0 _ (Kd.C_below HR1.out (by repeat (first | (with_reducible first | exact B6.out | apply below_alloc | apply pw_below_drewN | apply below_drew1) | exact B6.out))) HC1.out E7.out).mono ?_; rintro e w7 ⟨v7_0, rfl, ho0, hb⟩; have D_ := Aside0.mk (show Below w6.heap.size w6 w7 from below_step (by repeat (first | (with_reducible first | exact Below.refl _ _ | apply below_alloc | apply pw_below_drewN | apply below_drew1) | exact Below.refl _ _)) hb); have H7_0 := Aside0.mk (Go.Proofs.YtocldhojbnegjaaA.AtS.of ho0); clear ho0; clear hb)
    have B7 := Aside0.mk (below_step B6.out D_.out)
    replace H2_0 := Aside0.mk (H2_0.out.below D_.out)
    replace H3_0 := Aside0.mk (H3_0.out.below D_.out)
    replace H4_0 := Aside0.mk (H4_0.out.below D_.out)
    replace H5_0 := Aside0.mk (H5_0.out.below D_.out)
    obtain ⟨A7_0, c7_0, rfl, l_⟩ := H7_0.out.form
    have H7_0L := Aside0.mk l_
    clear l_
    obtain ⟨lo_H7_0, hlo⟩ : ∃ x_ : Nat, x_ = w6.heap.size := ⟨_, rfl⟩
    obtain ⟨hi_H7_0, hhi⟩ : ∃ x_ : Nat, x_ = w7.heap.size := ⟨_, rfl⟩
    have LO_H7_0 := Aside0.mk (show w.heap.size ≤ lo_H7_0 from by rw [hlo]; exact B6.out.size)
    have SZ_H7_0 := Aside0.mk (show lo_H7_0 ≤ hi_H7_0 ∧ hi_H2_0 ≤ lo_H7_0 ∧ hi_H3_0 ≤ lo_H7_0 ∧ hi_H4_0 ≤ lo_H7_0 ∧ hi_H5_0 ≤ lo_H7_0 from ⟨by rw [hlo, hhi]; exact D_.out.size, by rw [hlo]; exact PS_H2_0.out, by rw [hlo]; exact PS_H3_0.out, by rw [hlo]; exact PS_H4_0.out, by rw [hlo]; exact PS_H5_0.out⟩)
    replace H7_0 := Aside0.mk (show Go.Proofs.YtocldhojbnegjaaA.AtS (Kd.slice 2 (Kd.int .i64)) 40 lo_H7_0 hi_H7_0 w7 (.slice A7_0 y7_0.length c7_0) y7_0 from by rw [hlo, hhi]; exact H7_0.out)
    clear hlo hhi
    clear D_
    have PS_H2_0 := Aside0.mk (show hi_H2_0 ≤ w7.heap.size from H2_0.out.2)
    have PS_H3_0 := Aside0.mk (show hi_H3_0 ≤ w7.heap.size from H3_0.out.2)
    have PS_H4_0 := Aside0.mk (show hi_H4_0 ≤ w7.heap.size from H4_0.out.2)
    have PS_H5_0 := Aside0.mk (show hi_H5_0 ≤ w7.heap.size from H5_0.out.2)
    have PS_H7_0 := Aside0.mk (show hi_H7_0 ≤ w7.heap.size from H7_0.out.2)
    go_wp2_with (go_at_call 30; refine (laws_eqInt64SS.calls k _ _ y4_0 _ _ y7_0 true _ (Kd.C_below H4_0.out.C (by repeat (first | (with_reducible first | exact Below.refl _ _ | apply below_alloc | apply pw_below_drewN | apply below_drew1) | exact Below.refl _ _))) H4_0L.out (Kd.C_below H7_0.out.C (by repeat (first | (with_reducible first | exact Below.refl _ _ | apply below_alloc | apply pw_below_drewN | apply below_drew1) | exact Below.refl _ _))) H7_0L.out E8.out).mono ?_; rintro e w8 ⟨rfl, hd⟩; have D_ := Aside0.mk (show Below w7.heap.size w7 w8 from below_step (by repeat (first | (with_reducible first | exact Below.refl _ _ | apply below_alloc | apply pw_below_drewN | apply below_drew1) | exact Below.refl _ _)) (Go.Proofs.YtocldhojbnegjaaA.below_drawn hd)); clear hd)
    have B8 := Aside0.mk (below_step B7.out D_.out)
    replace H2_0 := Aside0.mk (H2_0.out.below D_.out)
    replace H3_0 := Aside0.mk (H3_0.out.below D_.out)
    replace H4_0 := Aside0.mk (H4_0.out.below D_.out)
    replace H5_0 := Aside0.mk (H5_0.out.below D_.out)
    replace H7_0 := Aside0.mk (H7_0.out.below D_.out)
    clear D_
    have PS_H2_0 := Aside0.mk (show hi_H2_0 ≤ w8.heap.size from H2_0.out.2)
    have PS_H3_0 := Aside0.mk (show hi_H3_0 ≤ w8.heap.size from H3_0.out.2)
    have PS_H4_0 := Aside0.mk (show hi_H4_0 ≤ w8.heap.size from H4_0.out.2)
    have PS_H5_0 := Aside0.mk (show hi_H5_0 ≤ w8.heap.size from H5_0.out.2)
    have PS_H7_0 := Aside0.mk (show hi_H7_0 ≤ w8.heap.size from H7_0.out.2)
    go_wp2_with (go_at_call 33; refine (laws_markInt64SS.calls k (fun k_ => lo_H4_0 ≤ k_ ∧ k_ < hi_H4_0) _ y4_0 1 y9_0 z9 w _ (by repeat (first | (with_reducible first | exact B8.out | apply below_alloc | apply pw_below_drewN | apply below_drew1) | exact B8.out)) (Kd.S_below (Go.Proofs.YtocldhojbnegjaaA.AtS.mark H4_0.out LO_H4_0.out) (by repeat (first | (with_reducible first | exact Below.refl _ _ | apply below_alloc | apply pw_below_drewN | apply below_drew1) | exact Below.refl _ _))) E9.out).mono ?_; rintro e w9 ⟨rfl, ho, hb, hk⟩; have B9 := Aside0.mk hb; have KP := Aside0.mk (show Kept w8 w9 (fun k_ => lo_H4_0 ≤ k_ ∧ k_ < hi_H4_0) from Kept.then_ (Kept.of_below (by repeat (first | (with_reducible first | exact Below.refl _ _ | apply below_alloc | apply pw_below_drewN | apply below_drew1) | exact Below.refl _ _)) _) hk (fun _ h_ => .inl h_)); have HN := Aside0.mk (Go.Proofs.YtocldhojbnegjaaA.AtS.of ho); clear ho hb hk)
    replace H2_0 := Aside0.mk (Go.Proofs.YtocldhojbnegjaaA.AtS.kept H2_0.out KP.out (by have := SZ_H4_0.out; have := SZ_H2_0.out; have := LO_H4_0.out; have := LO_H2_0.out; omega))
    replace H3_0 := Aside0.mk (Go.Proofs.YtocldhojbnegjaaA.AtS.kept H3_0.out KP.out (by have := SZ_H4_0.out; have := SZ_H3_0.out; have := LO_H4_0.out; have := LO_H3_0.out; omega))
    replace H5_0 := Aside0.mk (Go.Proofs.YtocldhojbnegjaaA.AtS.kept H5_0.out KP.out (by have := SZ_H4_0.out; have := SZ_H5_0.out; have := LO_H4_0.out; have := LO_H5_0.out; omega))
    replace H7_0 := Aside0.mk (Go.Proofs.YtocldhojbnegjaaA.AtS.kept H7_0.out KP.out (by have := SZ_H4_0.out; have := SZ_H7_0.out; have := LO_H4_0.out; have := LO_H7_0.out; omega))
    replace H4_0 := HN
    clear HN KP
    obtain ⟨A_, c_, e_, l_⟩ := H4_0.out.form
    injection e_ with e1_ e2_ e3_
    have H4_0L := Aside0.mk (e3_ ▸ l_)
    clear l_ e1_ e3_
    first | rw [e2_] | skip
    replace H4_0 := Aside0.mk (e2_ ▸ H4_0.out)
    clear e2_
    have PS_H2_0 := Aside0.mk (show hi_H2_0 ≤ w9.heap.size from H2_0.out.2)
    have PS_H3_0 := Aside0.mk (show hi_H3_0 ≤ w9.heap.size from H3_0.out.2)
    have PS_H5_0 := Aside0.mk (show hi_H5_0 ≤ w9.heap.size from H5_0.out.2)
    have PS_H7_0 := Aside0.mk (show hi_H7_0 ≤ w9.heap.size from H7_0.out.2)
    go_wp2_with (go_at_call 30; refine (laws_eqInt64SS.calls k _ _ y5_0 _ _ y3_0 true _ (Kd.C_below H5_0.out.C (by repeat (first | (with_reducible first | exact Below.refl _ _ | apply below_alloc | apply pw_below_drewN | apply below_drew1) | exact Below.refl _ _))) H5_0L.out (Kd.C_below H3_0.out.C (by repeat (first | (with_reducible first | exact Below.refl _ _ | apply below_alloc | apply pw_below_drewN | apply below_drew1) | exact Below.refl _ _))) H3_0L.out E10.out).mono ?_; rintro e w10 ⟨rfl, hd⟩; have D_ := Aside0.mk (show Below w9.heap.size w9 w10 from below_step (by repeat (first | (with_reducible first | exact Below.refl _ _ | apply below_alloc | apply pw_below_drewN | apply below_drew1) | exact Below.refl _ _)) (Go.Proofs.YtocldhojbnegjaaA.below_drawn hd)); clear hd)
    have B10 := Aside0.mk (below_step B9.out D_.out)
    replace H2_0 := Aside0.mk (H2_0.out.below D_.out)
    replace H3_0 := Aside0.mk (H3_0.out.below D_.out)
    replace H4_0 := Aside0.mk (H4_0.out.below D_.out)
    replace H5_0 := Aside0.mk (H5_0.out.below D_.out)
    replace H7_0 := Aside0.mk (H7_0.out.below D_.out)
    clear D_
    have PS_H2_0 := Aside0.mk (show hi_H2_0 ≤ w10.heap.size from H2_0.out.2)
    have PS_H3_0 := Aside0.mk (show hi_H3_0 ≤ w10.heap.size from H3_0.out.2)
    have PS_H5_0 := Aside0.mk (show hi_H5_0 ≤ w10.heap.size from H5_0.out.2)
    have PS_H7_0 := Aside0.mk (show hi_H7_0 ≤ w10.heap.size from H7_0.out.2)
    go_wp2_with (go_at_call 33; refine (laws_markInt64SS.calls k (fun k_ => lo_H5_0 ≤ k_ ∧ k_ < hi_H5_0) _ y5_0 1 y11_0 z11 w _ (by repeat (first | (with_reducible first | exact B10.out | apply below_alloc | apply pw_below_drewN | apply below_drew1) | exact B10.out)) (Kd.S_below (Go.Proofs.YtocldhojbnegjaaA.AtS.mark H5_0.out LO_H5_0.out) (by repeat (first | (with_reducible first | exact Below.refl _ _ | apply below_alloc | apply pw_below_drewN | apply below_drew1) | exact Below.refl _ _))) E11.out).mono ?_; rintro e w11 ⟨rfl, ho, hb, hk⟩; have B11 := Aside0.mk hb; have KP := Aside0.mk (show Kept w10 w11 (fun k_ => lo_H5_0 ≤ k_ ∧ k_ < hi_H5_0) from Kept.then_ (Kept.of_below (by repeat (first | (with_reducible first | exact Below.refl _ _ | apply below_alloc | apply pw_below_drewN | apply below_drew1) | exact Below.refl _ _)) _) hk (fun _ h_ => .inl h_)); have HN := Aside0.mk (Go.Proofs.YtocldhojbnegjaaA.AtS.of ho); clear ho hb hk)
    replace H2_0 := Aside0.mk (Go.Proofs.YtocldhojbnegjaaA.AtS.kept H2_0.out KP.out (by have := SZ_H5_0.out; have := SZ_H2_0.out; have := LO_H5_0.out; have := LO_H2_0.out; omega))
    replace H3_0 := Aside0.mk (Go.Proofs.YtocldhojbnegjaaA.AtS.kept H3_0.out KP.out (by have := SZ_H5_0.out; have := SZ_H3_0.out; have := LO_H5_0.out; have := LO_H3_0.out; omega))
    clear H4_0
    replace H7_0 := Aside0.mk (Go.Proofs.YtocldhojbnegjaaA.AtS.kept H7_0.out KP.out (by have := SZ_H5_0.out; have := SZ_H7_0.out; have := LO_H5_0.out; have := LO_H7_0.out; omega))
    replace H5_0 := HN
    clear HN KP
    obtain ⟨A_, c_, e_, l_⟩ := H5_0.out.form
    injection e_ with e1_ e2_ e3_
    have H5_0L := Aside0.mk (e3_ ▸ l_)
    clear l_ e1_ e3_
    first | rw [e2_] | skip
    replace H5_0 := Aside0.mk (e2_ ▸ H5_0.out)
    clear e2_
    have PS_H2_0 := Aside0.mk (show hi_H2_0 ≤ w11.heap.size from H2_0.out.2)
    have PS_H3_0 := Aside0.mk (show hi_H3_0 ≤ w11.heap.size from H3_0.out.2)
    have PS_H7_0 := Aside0.mk (show hi_H7_0 ≤ w11.heap.size from H7_0.out.2)
    go_wp2_with (go_at_call 34; refine (laws_heldInt64SS.calls k _ _ z11 1 y12_0 _ (Kd.C_below H5_0.out.C (by repeat (first | (with_reducible first | exact Below.refl _ _ | apply below_alloc | apply pw_below_drewN | apply below_drew1) | exact Below.refl _ _))) H5_0L.out E12.out).mono ?_; rintro e w12 ⟨rfl, hd⟩; have D_ := Aside0.mk (show Below w11.heap.size w11 w12 from below_step (by repeat (first | (with_reducible first | exact Below.refl _ _ | apply below_alloc | apply pw_below_drewN | apply below_drew1) | exact Below.refl _ _)) (Go.Proofs.YtocldhojbnegjaaA.below_drawn hd)); clear hd)
    have B12 := Aside0.mk (below_step B11.out D_.out)
    replace H2_0 := Aside0.mk (H2_0.out.below D_.out)
    replace H3_0 := Aside0.mk (H3_0.out.below D_.out)
    replace H5_0 := Aside0.mk (H5_0.out.below D_.out)
    replace H7_0 := Aside0.mk (H7_0.out.below D_.out)
    clear D_
    have PS_H2_0 := Aside0.mk (show hi_H2_0 ≤ w12.heap.size from H2_0.out.2)
    have PS_H3_0 := Aside0.mk (show hi_H3_0 ≤ w12.heap.size from H3_0.out.2)
    have PS_H7_0 := Aside0.mk (show hi_H7_0 ≤ w12.heap.size from H7_0.out.2)
    go_wp2_with (go_at_call 28; refine (laws_toInt64SS.calls k A1 c1 l1 y13_0 _ (Kd.C_below HR1.out (by repeat (first | (with_reducible first | exact B12.out | apply below_alloc | apply pw_below_drewN | apply below_drew1) | exact B12.out))) HC1.out E13.out).mono ?_; rintro e w13 ⟨v13_0, rfl, ho0, hb⟩; have D_ := Aside0.mk (show Below w12.heap.size w12 w13 from below_step (by repeat (first | (with_reducible first | exact Below.refl _ _ | apply below_alloc | apply pw_below_drewN | apply below_drew1) | exact Below.refl _ _)) hb); have H13_0 := Aside0.mk (Go.Proofs.YtocldhojbnegjaaA.AtS.of ho0); clear ho0; clear hb)
    have B13 := Aside0.mk (below_step B12.out D_.out)
    replace H2_0 := Aside0.mk (H2_0.out.below D_.out)
    replace H3_0 := Aside0.mk (H3_0.out.below D_.out)
    replace H5_0 := Aside0.mk (H5_0.out.below D_.out)
    replace H7_0 := Aside0.mk (H7_0.out.below D_.out)
    obtain ⟨A13_0, c13_0, rfl, l_⟩ := H13_0.out.form
    have H13_0L := Aside0.mk l_
    clear l_
    obtain ⟨lo_H13_0, hlo⟩ : ∃ x_ : Nat, x_ = w12.heap.size := ⟨_, rfl⟩
    obtain ⟨hi_H13_0, hhi⟩ : ∃ x_ : Nat, x_ = w13.heap.size := ⟨_, rfl⟩
    have LO_H13_0 := Aside0.mk (show w.heap.size ≤ lo_H13_0 from by rw [hlo]; exact B12.out.size)
    have SZ_H13_0 := Aside0.mk (show lo_H13_0 ≤ hi_H13_0 ∧ hi_H2_0 ≤ lo_H13_0 ∧ hi_H3_0 ≤ lo_H13_0 ∧ hi_H7_0 ≤ lo_H13_0 from ⟨by rw [hlo, hhi]; exact D_.out.size, by rw [hlo]; exact PS_H2_0.out, by rw [hlo]; exact PS_H3_0.out, by rw [hlo]; exact PS_H7_0.out⟩)
    replace H13_0 := Aside0.mk (show Go.Proofs.YtocldhojbnegjaaA.AtS (Kd.slice 2 (Kd.int .i64)) 40 lo_H13_0 hi_H13_0 w13 (.slice A13_0 y13_0.length c13_0) y13_0 from by rw [hlo, hhi]; exact H13_0.out)
    clear hlo hhi
    clear D_
    have PS_H2_0 := Aside0.mk (show hi_H2_0 ≤ w13.heap.size from H2_0.out.2)
    have PS_H3_0 := Aside0.mk (show hi_H3_0 ≤ w13.heap.size from H3_0.out.2)
    have PS_H7_0 := Aside0.mk (show hi_H7_0 ≤ w13.heap.size from H7_0.out.2)
    have PS_H13_0 := Aside0.mk (show hi_H13_0 ≤ w13.heap.size from H13_0.out.2)
    go_wp2_with (go_at_call 43; refine (impl_ReversePath.calls a0 _ _ y13_0 y14_0 y14_1 _ (Kd.C_below H13_0.out.C (by repeat (first | (with_reducible first | exact Below.refl _ _ | apply below_alloc | apply pw_below_drewN | apply below_drew1) | exact Below.refl _ _))) H13_0L.out E14.out).mono ?_; rintro e w14 ⟨v14_0, rfl, ho0, hb⟩; have D_ := Aside0.mk (show Below w13.heap.size w13 w14 from below_step (by repeat (first | (with_reducible first | exact Below.refl _ _ | apply below_alloc | apply pw_below_drewN | apply below_drew1) | exact Below.refl _ _)) hb); have H14_0 := Aside0.mk (Go.Proofs.YtocldhojbnegjaaA.AtS.of ho0); clear ho0; clear hb)
    have B14 := Aside0.mk (below_step B13.out D_.out)
    replace H2_0 := Aside0.mk (H2_0.out.below D_.out)
    replace H3_0 := Aside0.mk (H3_0.out.below D_.out)
    replace H5_0 := Aside0.mk (H5_0.out.below D_.out)
    replace H7_0 := Aside0.mk (H7_0.out.below D_.out)
    replace H13_0 := Aside0.mk (H13_0.out.below D_.out)
    obtain ⟨A14_0, c14_0, rfl, l_⟩ := H14_0.out.form
    have H14_0L := Aside0.mk l_
    clear l_
    obtain ⟨lo_H14_0, hlo⟩ : ∃ x_ : Nat, x_ = w13.heap.size := ⟨_, rfl⟩
    obtain ⟨hi_H14_0, hhi⟩ : ∃ x_ : Nat, x_ = w14.heap.size := ⟨_, rfl⟩
    have LO_H14_0 := Aside0.mk (show w.heap.size ≤ lo_H14_0 from by rw [hlo]; exact B13.out.size)
    have SZ_H14_0 := Aside0.mk (show lo_H14_0 ≤ hi_H14_0 ∧ hi_H2_0 ≤ lo_H14_0 ∧ hi_H3_0 ≤ lo_H14_0 ∧ hi_H7_0 ≤ lo_H14_0 ∧ hi_H13_0 ≤ lo_H14_0 from ⟨by rw [hlo, hhi]; exact D_.out.size, by rw [hlo]; exact PS_H2_0.out, by rw [hlo]; exact PS_H3_0.out, by rw [hlo]; exact PS_H7_0.out, by rw [hlo]; exact PS_H13_0.out⟩)
    replace H14_0 := Aside0.mk (show Go.Proofs.YtocldhojbnegjaaA.AtS (Kd.slice 2 (Kd.int .i64)) 40 lo_H14_0 hi_H14_0 w14 (.slice A14_0 y14_0.length c14_0) y14_0 from by rw [hlo, hhi]; exact H14_0.out)
    clear hlo hhi
    clear D_
    have PS_H2_0 := Aside0.mk (show hi_H2_0 ≤ w14.heap.size from H2_0.out.2)
    have PS_H3_0 := Aside0.mk (show hi_H3_0 ≤ w14.heap.size from H3_0.out.2)
    have PS_H7_0 := Aside0.mk (show hi_H7_0 ≤ w14.heap.size from H7_0.out.2)
    have PS_H13_0 := Aside0.mk (show hi_H13_0 ≤ w14.heap.size from H13_0.out.2)
    have PS_H14_0 := Aside0.mk (show hi_H14_0 ≤ w14.heap.size from H14_0.out.2)
    go_wp2_with (go_at_call 30; refine (laws_eqInt64SS.calls k _ _ y14_0 _ _ y3_0 true _ (Kd.C_below H14_0.out.C (by repeat (first | (with_reducible first | exact Below.refl _ _ | apply below_alloc | apply pw_below_drewN | apply below_drew1) | exact Below.refl _ _))) H14_0L.out (Kd.C_below H3_0.out.C (by repeat (first | (with_reducible first | exact Below.refl _ _ | apply below_alloc | apply pw_below_drewN | apply below_drew1) | exact Below.refl _ _))) H3_0L.out E15.out).mono ?_; rintro e w15 ⟨rfl, hd⟩; have D_ := Aside0.mk (show Below w14.heap.size w14 w15 from below_step (by repeat (first | (with_reducible first | exact Below.refl _ _ | apply below_alloc | apply pw_below_drewN | apply below_drew1) | exact Below.refl _ _)) (Go.Proofs.YtocldhojbnegjaaA.below_drawn hd)); clear hd)
    have B15 := Aside0.mk (below_step B14.out D_.out)
    replace H2_0 := Aside0.mk (H2_0.out.below D_.out)
    replace H3_0 := Aside0.mk (H3_0.out.below D_.out)
    replace H5_0 := Aside0.mk (H5_0.out.below D_.out)
    replace H7_0 := Aside0.mk (H7_0.out.below D_.out)
    replace H13_0 := Aside0.mk (H13_0.out.below D_.out)
    replace H14_0 := Aside0.mk (H14_0.out.below D_.out)
    clear D_
    have PS_H2_0 := Aside0.mk (show hi_H2_0 ≤ w15.heap.size from H2_0.out.2)
    have PS_H3_0 := Aside0.mk (show hi_H3_0 ≤ w15.heap.size from H3_0.out.2)
    have PS_H7_0 := Aside0.mk (show hi_H7_0 ≤ w15.heap.size from H7_0.out.2)
    have PS_H13_0 := Aside0.mk (show hi_H13_0 ≤ w15.heap.size from H13_0.out.2)
    have PS_H14_0 := Aside0.mk (show hi_H14_0 ≤ w15.heap.size from H14_0.out.2)
    go_wp2_with (go_at_call 34; refine (laws_heldInt64SS.calls k _ _ z11 1 y16_0 _ (Kd.C_below H5_0.out.C (by repeat (first | (with_reducible first | exact Below.refl _ _ | apply below_alloc | apply pw_below_drewN | apply below_drew1) | exact Below.refl _ _))) H5_0L.out E16.out).mono ?_; rintro e w16 ⟨rfl, hd⟩; have D_ := Aside0.mk (show Below w15.heap.size w15 w16 from below_step (by repeat (first | (with_reducible first | exact Below.refl _ _ | apply below_alloc | apply pw_below_drewN | apply below_drew1) | exact Below.refl _ _)) (Go.Proofs.YtocldhojbnegjaaA.below_drawn hd)); clear hd)
    have B16 := Aside0.mk (below_step B15.out D_.out)
    replace H2_0 := Aside0.mk (H2_0.out.below D_.out)
    replace H3_0 := Aside0.mk (H3_0.out.below D_.out)
    replace H5_0 := Aside0.mk (H5_0.out.below D_.out)
    replace H7_0 := Aside0.mk (H7_0.out.below D_.out)
    replace H13_0 := Aside0.mk (H13_0.out.below D_.out)
    replace H14_0 := Aside0.mk (H14_0.out.below D_.out)
    clear D_
    have PS_H2_0 := Aside0.mk (show hi_H2_0 ≤ w16.heap.size from H2_0.out.2)
    have PS_H3_0 := Aside0.mk (show hi_H3_0 ≤ w16.heap.size from H3_0.out.2)
    have PS_H7_0 := Aside0.mk (show hi_H7_0 ≤ w16.heap.size from H7_0.out.2)
    have PS_H13_0 := Aside0.mk (show hi_H13_0 ≤ w16.heap.size from H13_0.out.2)
    have PS_H14_0 := Aside0.mk (show hi_H14_0 ≤ w16.heap.size from H14_0.out.2)
    go_wp2
    go_ret
    exact ⟨rfl, B16.out⟩

end Go.Proofs.Ytocldhojbnegjaa.PFnExactReversePath
