import Derived.Test.YtocldhojbnegjaaQFnExactMapPathx0
import Derived.Test.YtocldhojbnegjaaQFnExactMapPathx4
namespace Go.Proofs.Ytocldhojbnegjaa.PFnExactMapPath
open Go.RowKit Go.Proofs.YtocldhojbnegjaaW.PrintWords Go.Proofs.YtocldhojbnegjaaW.PrintLast Go.Proofs.YtocldhojbnegjaaW.PrintMore
attribute [local go_sem] max2_int min2_int max_two min_two max_three min_three max_four min_four Go.Proofs.YtocldhojbnegjaaZ.min2_string   -- for this text's walks alone
set_option linter.unusedVariables false
set_option linter.unusedSimpArgs false

/-! ### impl_led: function 97 -/
def impl_led.l0 : Nat → List (List Int) → List Int → List Int → Int → Int → Option (List Int)
  | 0, _, _, _, _, _ => none
  | k + 1, x1, x7, x12, x13, x14 => if x14 < x13 then (if 0 ≤ x14 then (if x14 < (x12.length : Int) then (if x14 < (x1.length : Int) then ((impl_multiplied.f k (rd_L1 x1 x14) (rd x12 x14)).bind fun t182 => ((impl_added.f k x7 t182).bind fun t185 => (impl_led.l0 k x1 t185 x12 x13 (wrap64 (x14 + 1))))) else (none)) else (none)) else (none)) else (some x7)
def impl_led.f (k : Nat) (l0 : List Int) (l1 : List (List Int)) (a2 : Int) : Option (List Int) := if 0 ≤ a2 then (if (a2 : Int).toNat ≤ 35184372088832 then (impl_led.l0 k l1 (List.replicate (a2 : Int).toNat 0) l0 (l0.length : Int) 0) else (none)) else (none)
theorem impl_led.mono_l : ∀ k, (∀ y0 y1 y2 y3 y4, LeO (impl_led.l0 k y0 y1 y2 y3 y4) (impl_led.l0 (k + 1) y0 y1 y2 y3 y4))
  | 0 => fun _ _ _ _ _ r h => by simp [impl_led.l0] at h
  | k + 1 => by
    have ih0 := impl_led.mono_l k
    · intro y0 y1 y2 y3 y4
      unfold impl_led.l0
      repeat' first
      | (with_reducible exact ih0 _ _ _ _ _)
      | (with_reducible exact impl_added.mono _ _ _)
      | (with_reducible exact impl_multiplied.mono _ _ _)
      | (with_reducible exact LeO.refl _)
      | (with_reducible exact LeO.none _)
      | (with_reducible refine LeO.ite ?_ ?_)
      | (with_reducible refine LeO.bind ?_ (fun _ => ?_))
      | exact ih0 _ _ _ _ _
      | exact impl_added.mono _ _ _
      | exact impl_multiplied.mono _ _ _
      | exact LeO.none _
      | refine LeO.ite ?_ ?_
      | refine LeO.bind ?_ (fun _ => ?_)
theorem impl_led.mono : ∀ a0 a1 a2 k, LeO (impl_led.f k a0 a1 a2) (impl_led.f (k + 1) a0 a1 a2) := by
  intro a0 a1 a2 k
  have ih0 := impl_led.mono_l k
  unfold impl_led.f
  repeat' first
      | (with_reducible exact ih0 _ _ _ _ _)
      | (with_reducible exact impl_added.mono _ _ _)
      | (with_reducible exact impl_multiplied.mono _ _ _)
      | (with_reducible exact LeO.refl _)
      | (with_reducible exact LeO.none _)
      | (with_reducible refine LeO.ite ?_ ?_)
      | (with_reducible refine LeO.bind ?_ (fun _ => ?_))
      | exact ih0 _ _ _ _ _
      | exact impl_added.mono _ _ _
      | exact impl_multiplied.mono _ _ _
      | exact LeO.none _
      | refine LeO.ite ?_ ?_
      | refine LeO.bind ?_ (fun _ => ?_)
set_option maxHeartbeats 8000000 in
set_option maxRecDepth 100000 in
theorem impl_led.calls (k : Nat) (A0 : Option Addr) (c0 : Nat) (l0 : List Int) (A1 : Option Addr) (c1 : Nat) (l1 : List (List Int)) (a2 : Int) (r : List Int) (w : World) (hr0 : Kd.C (Kd.int .i64) w A0 l0.length l0) (hc0 : l0.length ≤ c0) (hr1 : Kd.C (Kd.slice 2 (Kd.int .i64)) w A1 l1.length l1) (hc1 : l1.length ≤ c1) (h : impl_led.f k l0 l1 a2 = some r) :
    Calls Try.prog 97 #[.slice A0 l0.length c0, .slice A1 l1.length c1, .int .i64 a2] w fun e w' => ∃ v0_ : Value, e = .returned (v0_) ∧ Kd.R (Kd.int .i64) 2 w' w.heap.size (fun _ => True) v0_ r ∧ Below w.heap.size w w' := by
  have HR0 := Aside0.mk hr0
  have HC0 := Aside0.mk hc0
  clear hr0 hc0
  have HR1 := Aside0.mk hr1
  have HC1 := Aside0.mk hc1
  clear hr1 hc1
  have HB := Aside0.mk (Below.refl w.heap.size w)
  have H : (if 0 ≤ a2 then (if (a2 : Int).toNat ≤ 35184372088832 then (impl_led.l0 k l1 (List.replicate (a2 : Int).toNat 0) l0 (l0.length : Int) 0) else (none)) else (none)) = some r := h
  clear h
  by_cases c4 : 0 ≤ a2
  · rw [if_pos c4] at H
    have c4b0 := eq_true c4
    have c4b1 : decide (0 ≤ a2) = true := decide_eq_true c4
    clear c4
    by_cases c5 : (a2 : Int).toNat ≤ 35184372088832
    · rw [if_pos c5] at H
      have c5b0 := eq_true c5
      have c5b1 : decide ((a2 : Int).toNat ≤ 35184372088832) = true := decide_eq_true c5
      clear c5
      obtain ⟨y177, hy177⟩ : ∃ y_ : List Int, y_ = (List.replicate (a2 : Int).toNat 0) := ⟨_, rfl⟩
      replace H : (impl_led.l0 k l1 y177 l0 (l0.length : Int) 0) = some r := by first | (rw [hy177]; with_reducible exact H) | (have H2_ := (Option.bind_some _ _).symm.trans H; rw [hy177]; with_reducible exact H2_) | (have H2_ := (Option.bind_some _ _).symm.trans H; with_reducible exact H2_) | with_reducible exact H | (rw [hy177]; exact H) | exact H
      have Ny177 := Aside0.mk hy177
      clear hy177
      have H' := Aside0.mk H
      clear H
      go_enter Try.func97, Try.ntmps97
      go_wp2_with (first | ((with_reducible refine gate_dst (N := 11) rfl ?_); refine Kd.R_make (Kd.int .i64) _ 2 rfl (N := 11) rfl 40 _ _ rfl a2 rfl rfl Try.underlying40 (.int .i64 0) 8 info2 rfl (by decide) (by omega) 0 (ok := fun _ => True) (okp := fun _ => True) rfl (fun _ hk => hk) trivial (of_decide_eq_true (by first | (with_reducible assumption) | assumption)) (Nat.le_trans (Nat.mul_le_mul_right _ (of_decide_eq_true (by first | (with_reducible assumption) | assumption) : a2.toNat ≤ 35184372088832)) (by omega)) (Below.refl _ _) (Nat.le_refl _) ?_; intro v178 w6 ho7 hb hg_ hnew_; clear hg_ hnew_; (first | rw [← Ny177.out] at ho7 | (simp only [Int.reduceToNat] at ho7; rw [← Ny177.out] at ho7)); have n0_ := Aside0.mk (Kd.R_lower ho7 (below_size (by repeat (first | (with_reducible first | exact HB.out | apply below_alloc | apply pw_below_drewN | apply below_drew1) | exact HB.out)))); have n1_ := Aside0.mk (below_step (by repeat (first | (with_reducible first | exact HB.out | apply below_alloc | apply pw_below_drewN | apply below_drew1) | exact HB.out)) hb); clear HB; have HO179 := n0_; have HB := n1_; clear n0_ n1_; clear hb ho7))
      go_loopg [7, 14] k (fun kq v7 v14 w' => ∃ (x7_1 : List Int) (x14_1 : Int), v14 = .int .i64 x14_1 ∧ Aside0 (impl_led.l0 kq l1 x7_1 l0 (l0.length : Int) x14_1 = some r) ∧ Aside0 (kq ≤ k) ∧ Aside0 (Kd.R (Kd.int .i64) 2 w' w.heap.size (fun _ => True) v7 x7_1) ∧ Aside0 (Below w.heap.size w w'))
      case atStart => exact ⟨(y177), (0), (by first | rfl | (simp; done) | (simp [*]; done)), H', ⟨Nat.le_refl _⟩, ⟨by (with_reducible repeat (first | apply Kd.R_alloc | apply Kd.R_drewN | apply Kd.R_drew)); exact HO179.out⟩, ⟨by repeat (first | (with_reducible first | exact HB.out | apply below_alloc | apply pw_below_drewN | apply below_drew1) | exact HB.out)⟩⟩
      case round =>
        clear H'
        try clear c1
        try clear p2
        try clear c4
        try clear c4b0
        try clear c4b1
        try clear c5
        try clear c5b0
        try clear c5b1
        obtain ⟨x7_1, x14_1, rfl, HA, HK1, HO_7, HB⟩ := hrel
        cases gk with
        | zero => exact absurd HA.out (by simp [impl_led.l0])
        | succ k1 =>
          have H := HA.out
          clear HA
          simp only [impl_led.l0] at H
          by_cases c8 : x14_1 < (l0.length : Int)
          · rw [if_pos c8] at H
            have c8b0 : decide (x14_1 < (l0.length : Int)) = true := decide_eq_true c8
            clear c8
            by_cases c9 : 0 ≤ x14_1
            · rw [if_pos c9] at H
              have c9b0 : decide (0 ≤ x14_1) = true := decide_eq_true c9
              clear c9
              by_cases c10 : x14_1 < (l0.length : Int)
              · rw [if_pos c10] at H
                have c10b0 : decide (x14_1 < (l0.length : Int)) = true := decide_eq_true c10
                clear c10
                by_cases c11 : x14_1 < (l1.length : Int)
                · rw [if_pos c11] at H
                  have c11b0 : decide (x14_1 < (l1.length : Int)) = true := decide_eq_true c11
                  clear c11
                  replace H := Option.bind_eq_some_iff.mp H
                  obtain ⟨t182, A120, H⟩ := H
                  replace H : ((impl_added.f k1 x7_1 t182).bind fun t185 => (impl_led.l0 k1 l1 t185 l0 (l0.length : Int) (wrap64 (x14_1 + 1)))) = some r := H
                  have A12 := Aside0.mk A120
                  clear A120
                  replace H := Option.bind_eq_some_iff.mp H
                  obtain ⟨t185, A130, H⟩ := H
                  replace H : (impl_led.l0 k1 l1 t185 l0 (l0.length : Int) (wrap64 (x14_1 + 1))) = some r := H
                  have A13 := Aside0.mk A130
                  clear A130
                  have H' := Aside0.mk H
                  clear H
                  have p180 : 0 ≤ (x14_1 : Int) := of_decide_eq_true (by first | (with_reducible assumption) | assumption)
                  have q180 : x14_1 < (l0.length : Int) := of_decide_eq_true (by first | (with_reducible assumption) | assumption)
                  obtain ⟨ad180, e180, hx180_0⟩ := Kd.at_int HR0.out x14_1 p180 q180
                  cases e180
                  replace hx180_0 := (HB.out.cell (World.block_lt_of_cell? w _ hx180_0)).trans hx180_0
                  replace p180 := eq_true p180
                  replace q180 := eq_true q180
                  have p181 : 0 ≤ (x14_1 : Int) := of_decide_eq_true (by first | (with_reducible assumption) | assumption)
                  have q181 : x14_1 < (l1.length : Int) := of_decide_eq_true (by first | (with_reducible assumption) | assumption)
                  obtain ⟨ad181, A181_0, c181_0, e181, hx181_0, hl181_0, hi181_0⟩ := at_L1 HR1.out x14_1 p181 q181
                  cases e181
                  replace hx181_0 := (HB.out.cell (World.block_lt_of_cell? w _ hx181_0)).trans hx181_0
                  have HR181_0 := Aside0.mk hi181_0
                  have HC181_0 := Aside0.mk hl181_0
                  clear hi181_0 hl181_0
                  replace p181 := eq_true p181
                  replace q181 := eq_true q181
                  go_wp2_with (first | ((with_reducible refine gate_callee (f := 86) rfl ?_); refine goesL_ (some 25) rfl rfl Try.func86 (by kernel_rfl) rfl #[.slice A181_0 (rd_L1 l1 x14_1).length c181_0, .int .i64 (rd l0 x14_1)] rfl (by (try simp only [List.map_toArray, List.map_cons, List.map_nil]); first | done | rfl | (simp only [List.length_drop, List.length_take]; rfl)) ?_; (with_reducible refine (impl_multiplied.calls k1 _ _ (rd_L1 l1 x14_1) (rd l0 x14_1) t182 _ ?side1 ?side2 A12.out).mono ?_); (case side1 => repeat (first | exact (Kd.C_below HR181_0.out HB.out) | (with_reducible refine Kd.C_alloc ?_ _) | (with_reducible refine Kd.C_drewN ?_ _) | (with_reducible refine Kd.C_drew ?_))); (case side2 => exact HC181_0.out); rintro e w14 ⟨v183, rfl, ho0, hb⟩; refine ⟨_, rfl, ?_⟩; have n0_ := Aside0.mk (Kd.R_elder' (by (with_reducible repeat (first | apply Kd.R_alloc | apply Kd.R_drewN | apply Kd.R_drew)); exact HO_7.out) (Kd.R_base ho0) hb); have n1_ := Aside0.mk (Kd.R_lower (Kd.R_new' ho0 (Kd.R_lt (by (with_reducible repeat (first | apply Kd.R_alloc | apply Kd.R_drewN | apply Kd.R_drew)); exact HO_7.out))) (below_size (by repeat (first | (with_reducible first | exact HB.out | apply below_alloc | apply pw_below_drewN | apply below_drew1) | exact HB.out)))); have n2_ := Aside0.mk (below_step (by repeat (first | (with_reducible first | exact HB.out | apply below_alloc | apply pw_below_drewN | apply below_drew1) | exact HB.out)) hb); clear HO_7; clear HB; have HO_7 := n0_; have HO184 := n1_; have HB := n2_; clear n0_ n1_ n2_; (try clear hb); (try clear hb2); (try clear hk); (try clear hi); (try clear ho0); obtain ⟨Ao15, co15, eo15⟩ := Kd.R_slice HO_7.out; subst eo15; obtain ⟨Ao16, co16, eo16⟩ := Kd.R_slice HO184.out; subst eo16) | ((with_reducible refine gate_callee (f := 77) rfl ?_); refine goesL_ (some 26) rfl rfl Try.func77 (by kernel_rfl) rfl #[.slice Ao15 x7_1.length co15, .slice Ao16 t182.length co16] rfl (by (try simp only [List.map_toArray, List.map_cons, List.map_nil]); first | done | rfl | (simp only [List.length_drop, List.length_take]; rfl)) ?_; (with_reducible refine (impl_added.calls k1 _ _ x7_1 _ _ t182 t185 _ ?side1 ?side2 ?side3 ?side4 A13.out).mono ?_); (case side1 => repeat (first | exact (Kd.R_reads' HO_7.out).2.2 | (with_reducible refine Kd.C_alloc ?_ _) | (with_reducible refine Kd.C_drewN ?_ _) | (with_reducible refine Kd.C_drew ?_))); (case side2 => exact (Kd.R_reads' HO_7.out).2.1); (case side3 => repeat (first | exact (Kd.R_reads' HO184.out).2.2 | (with_reducible refine Kd.C_alloc ?_ _) | (with_reducible refine Kd.C_drewN ?_ _) | (with_reducible refine Kd.C_drew ?_))); (case side4 => exact (Kd.R_reads' HO184.out).2.1); rintro e w17 ⟨v186, rfl, ho0, hb⟩; refine ⟨_, rfl, ?_⟩; have n0_ := Aside0.mk (Kd.R_elder' (by (with_reducible repeat (first | apply Kd.R_alloc | apply Kd.R_drewN | apply Kd.R_drew)); exact HO_7.out) (Kd.R_base ho0) hb); have n1_ := Aside0.mk (Kd.R_elder' (by (with_reducible repeat (first | apply Kd.R_alloc | apply Kd.R_drewN | apply Kd.R_drew)); exact HO184.out) (Kd.R_base ho0) hb); have n2_ := Aside0.mk (Kd.R_lower (Kd.R_new' (Kd.R_new' ho0 (Kd.R_lt (by (with_reducible repeat (first | apply Kd.R_alloc | apply Kd.R_drewN | apply Kd.R_drew)); exact HO_7.out))) (Kd.R_lt (by (with_reducible repeat (first | apply Kd.R_alloc | apply Kd.R_drewN | apply Kd.R_drew)); exact HO184.out))) (below_size (by repeat (first | (with_reducible first | exact HB.out | apply below_alloc | apply pw_below_drewN | apply below_drew1) | exact HB.out)))); have n3_ := Aside0.mk (below_step (by repeat (first | (with_reducible first | exact HB.out | apply below_alloc | apply pw_below_drewN | apply below_drew1) | exact HB.out)) hb); clear HO_7; clear HO184; clear HB; have HO_7 := n0_; have HO184 := n1_; have HO187 := n2_; have HB := n3_; clear n0_ n1_ n2_ n3_; (try clear hb); (try clear hb2); (try clear hk); (try clear hi); (try clear ho0)))
                  go_roundg k1
                  case measure => have := HK1.out; omega
                  case rel => exact ⟨(t185), (wrap64 (x14_1 + 1)), (by first | rfl | (simp; done) | (simp [*]; done)), H', ⟨by have := HK1.out; omega⟩, ⟨by (with_reducible repeat (first | apply Kd.R_alloc | apply Kd.R_drewN | apply Kd.R_drew)); exact Kd.R_mono HO187.out (fun _ hk => trivial)⟩, ⟨by repeat (first | (with_reducible first | exact HB.out | apply below_alloc | apply pw_below_drewN | apply below_drew1) | exact HB.out)⟩⟩
                · rw [if_neg c11] at H
                  exact absurd H (by simp)
              · rw [if_neg c10] at H
                exact absurd H (by simp)
            · rw [if_neg c9] at H
              exact absurd H (by simp)
          · rw [if_neg c8] at H
            have c8b0 : decide (x14_1 < (l0.length : Int)) = false := decide_eq_false c8
            clear c8
            obtain rfl := Option.some.inj H
            go_wp2
            go_ret
            exact ⟨_, by first | rfl | (simp [errW_none, errW_some] <;> rfl) | (simp [*, errW_none, errW_some] <;> rfl), by (with_reducible repeat (first | apply Kd.R_alloc | apply Kd.R_drewN | apply Kd.R_drew)); exact HO_7.out, by repeat (first | (with_reducible first | exact HB.out | apply below_alloc | apply pw_below_drewN | apply below_drew1) | exact HB.out)⟩
    · rw [if_neg c5] at H
      exact absurd H (by simp)
  · rw [if_neg c4] at H
    exact absurd H (by simp)

/-! ### impl_MapPath: function 53 -/
theorem impl_MapPath.setn (a : List Int) (f : Int → Int) (j : Nat) (hj : j < a.length) : ((a.map f).take j ++ a.drop j).set j (f (rd ((a.map f).take j ++ a.drop j) (j : Int))) = (a.map f).take (j + 1) ++ a.drop (j + 1) := by
  have hjm : j < (a.map f).length := by rw [List.length_map]; exact hj
  have hr : rd ((a.map f).take j ++ a.drop j) (j : Int) = a[j] := by
    simp only [rd, Int.toNat_natCast, List.getD_eq_getElem?_getD]
    rw [List.getElem?_append_right (by rw [List.length_take]; omega)]
    simp only [List.length_take, List.length_map, Nat.min_eq_left (Nat.le_of_lt hj), Nat.sub_self, List.getElem?_drop, Nat.add_zero, List.getElem?_eq_getElem hj, Option.getD_some]
  rw [hr, List.set_append, if_neg (by rw [List.length_take]; omega)]
  simp only [List.length_take, List.length_map, Nat.min_eq_left (Nat.le_of_lt hj), Nat.sub_self]
  rw [List.drop_eq_getElem_cons hj, List.set_cons_zero, List.take_succ_eq_append_getElem hjm, List.append_assoc, List.getElem_map]; rfl
def impl_MapPath.times (m : Int) (x : Int) : Int := wrap64 (x * m)
theorem impl_MapPath.loop (a : List Int) (m : Int) (hl : a.length ≤ 1048576) (p : Nat) : ∀ j : Nat, j + p = a.length → Ev (fun k => impl_multiplied.l0 k m ((a.map (impl_MapPath.times m)).take j ++ a.drop j) (a.length : Int) (j : Int)) (a.map (impl_MapPath.times m)) := by
  induction p with
  | zero =>
    intro j hj
    refine Ev.step (f := fun _ => some (a.map (impl_MapPath.times m))) (fun k => ?_) (Ev.now _)
    simp only [impl_multiplied.l0]
    rw [if_neg (by omega), List.drop_eq_nil_of_le (by omega), List.append_nil, List.take_of_length_le (by rw [List.length_map]; omega)]
  | succ p ih =>
    intro j hj
    have hlen : ((a.map (impl_MapPath.times m)).take j ++ a.drop j).length = a.length := by rw [List.length_append, List.length_take, List.length_map, List.length_drop]; omega
    refine Ev.step (fun k => ?_) (ih (j + 1) (by omega))
    simp only [impl_multiplied.l0]
    rw [if_pos (by omega), if_pos (by omega), if_pos (by omega), show wrap64 ((j : Int) + 1) = ((j + 1 : Nat) : Int) from by unfold wrap64; omega, Int.toNat_natCast]
    rw [← impl_MapPath.setn a (impl_MapPath.times m) j (by omega)]
    rfl
theorem impl_MapPath.mult (a : List Int) (m : Int) (hl : a.length ≤ 1048576) : ∃ k, impl_multiplied.f k a m = some (a.map (impl_MapPath.times m)) := by
  have h := impl_MapPath.loop a m hl a.length 0 (by omega)
  refine Ev.rounds (Ev.congr (fun k => ?_) h)
  unfold impl_multiplied.f slices_Clone_int64_int64.f
  rw [if_pos (by omega)]; rfl

def impl_MapPath.addI (x y : Int) : Int := wrap64 (x + y)
theorem impl_MapPath.setz (a v : List Int) (h : v.length = a.length) (j : Nat) (hj : j < a.length) : ((List.zipWith impl_MapPath.addI a v).take j ++ a.drop j).set j (impl_MapPath.addI (rd ((List.zipWith impl_MapPath.addI a v).take j ++ a.drop j) (j : Int)) (rd v (j : Int))) = (List.zipWith impl_MapPath.addI a v).take (j + 1) ++ a.drop (j + 1) := by
  have hjm : j < (List.zipWith impl_MapPath.addI a v).length := by rw [List.length_zipWith]; omega
  have hr : rd ((List.zipWith impl_MapPath.addI a v).take j ++ a.drop j) (j : Int) = a[j] := by
    simp only [rd, Int.toNat_natCast, List.getD_eq_getElem?_getD]
    rw [List.getElem?_append_right (by rw [List.length_take]; omega)]
    simp only [List.length_take, List.length_zipWith, h, Nat.min_self, Nat.min_eq_left (Nat.le_of_lt hj), Nat.sub_self, List.getElem?_drop, Nat.add_zero, List.getElem?_eq_getElem hj, Option.getD_some]
  have hv : rd v (j : Int) = v[j]'(by omega) := by simp [rd, List.getElem?_eq_getElem (show j < v.length by omega)]
  rw [hr, hv, List.set_append, if_neg (by rw [List.length_take]; omega)]
  simp only [List.length_take, List.length_zipWith, h, Nat.min_self, Nat.min_eq_left (Nat.le_of_lt hj), Nat.sub_self]
  rw [List.drop_eq_getElem_cons hj, List.set_cons_zero, List.take_succ_eq_append_getElem hjm, List.append_assoc, List.getElem_zipWith]; rfl
def impl_MapPath.addR (a v : List Int) : List Int := List.zipWith impl_MapPath.addI a v
theorem impl_MapPath.addL (a v : List Int) (h : v.length = a.length) (hl : a.length ≤ 1048576) (p : Nat) : ∀ j : Nat, j + p = a.length → Ev (fun k => impl_added.l0 k ((impl_MapPath.addR a v).take j ++ a.drop j) v (v.length : Int) (j : Int)) (impl_MapPath.addR a v) := by
  have hlz : (impl_MapPath.addR a v).length = a.length := by unfold impl_MapPath.addR; rw [List.length_zipWith]; omega
  induction p with
  | zero =>
    intro j hj
    refine Ev.step (f := fun _ => some (impl_MapPath.addR a v)) (fun k => ?_) (Ev.now _)
    simp only [impl_added.l0]
    rw [if_neg (by omega), List.drop_eq_nil_of_le (by omega), List.append_nil, List.take_of_length_le (by omega)]
  | succ p ih =>
    intro j hj
    have hlen : ((impl_MapPath.addR a v).take j ++ a.drop j).length = a.length := by rw [List.length_append, List.length_take, List.length_drop]; omega
    refine Ev.step (fun k => ?_) (ih (j + 1) (by omega))
    simp only [impl_added.l0]
    rw [if_pos (by omega), if_pos (by omega), if_pos (by omega), if_pos (by omega), show wrap64 ((j : Int) + 1) = ((j + 1 : Nat) : Int) from by unfold wrap64; omega, Int.toNat_natCast]
    unfold impl_MapPath.addR
    rw [← impl_MapPath.setz a v h j (by omega)]
    rfl
theorem impl_MapPath.added (a v : List Int) (h : v.length = a.length) (hl : a.length ≤ 1048576) : Ev (fun k => impl_added.f k a v) (impl_MapPath.addR a v) := by
  refine Ev.congr (fun k => ?_) (impl_MapPath.addL a v h hl a.length 0 (by omega))
  unfold impl_added.f slices_Clone_int64_int64.f
  rw [if_pos (by omega)]; rfl
/-- The sum of the numbers times the rows. -/
def impl_MapPath.led (rows : List (List Int)) (e : Nat) (row : List Int) : List Int := (row.zip rows).foldl (fun out p => impl_MapPath.addR out (p.2.map (impl_MapPath.times p.1))) (List.replicate e 0)
theorem impl_MapPath.ledL (rows : List (List Int)) (e : Nat) (he : e ≤ 3) (row : List Int) (hl : row.length ≤ rows.length) (hl2 : rows.length ≤ 3) (hr : ∀ r ∈ rows, r.length = e) (p : Nat) : ∀ (j : Nat) (out : List Int), j + p = row.length → out.length = e →
    Ev (fun k => impl_led.l0 k rows out row (row.length : Int) (j : Int)) (((row.drop j).zip (rows.drop j)).foldl (fun out p => impl_MapPath.addR out (p.2.map (impl_MapPath.times p.1))) out) := by
  induction p with
  | zero =>
    intro j out hj ho
    rw [List.drop_eq_nil_of_le (show row.length ≤ j by omega)]
    refine Ev.step (f := fun _ => some out) (fun k => ?_) (by simpa using Ev.now out)
    simp only [impl_led.l0]; rw [if_neg (by omega)]
  | succ p ih =>
    intro j out hj ho
    have hj1 : j < row.length := by omega
    have hj2 : j < rows.length := by omega
    have e3 : rd_L1 rows (j : Int) = rows[j] := by simp [rd_L1, List.getElem?_eq_getElem hj2]
    have e4 : rd row (j : Int) = row[j] := by simp [rd, List.getElem?_eq_getElem hj1]
    have hrl := hr _ (List.getElem_mem hj2)
    have hm : (rows[j].map (impl_MapPath.times row[j])).length = out.length := by rw [List.length_map]; omega
    rw [List.drop_eq_getElem_cons hj1, List.drop_eq_getElem_cons hj2, List.zip_cons_cons, List.foldl_cons]
    have hlz : (impl_MapPath.addR out (rows[j].map (impl_MapPath.times row[j]))).length = e := by unfold impl_MapPath.addR; rw [List.length_zipWith]; omega
    have h0 := impl_MapPath.loop rows[j] row[j] (by omega) rows[j].length 0 (by omega)
    have h1 : Ev (fun k => impl_multiplied.f k rows[j] row[j]) (rows[j].map (impl_MapPath.times row[j])) := by
      refine Ev.congr (fun k => ?_) h0
      unfold impl_multiplied.f slices_Clone_int64_int64.f
      rw [if_pos (by omega)]; rfl
    refine Ev.step (f := fun k => (impl_multiplied.f k rows[j] row[j]).bind fun t => (impl_added.f k out t).bind fun t => impl_led.l0 k rows t row (row.length : Int) ((j + 1 : Nat) : Int)) (fun k => ?_) (Ev.bind h1 (Ev.bind (impl_MapPath.added out _ hm (by omega)) (ih (j + 1) _ (by omega) hlz)))
    simp only [impl_led.l0]
    rw [if_pos (by omega), if_pos (by omega), if_pos (by omega), if_pos (by omega), e3, e4, show wrap64 ((j : Int) + 1) = ((j + 1 : Nat) : Int) from by unfold wrap64; omega]
theorem impl_MapPath.led_is (rows : List (List Int)) (e : Nat) (he : e ≤ 3) (row : List Int) (hl : row.length ≤ rows.length) (hl2 : rows.length ≤ 3) (hr : ∀ r ∈ rows, r.length = e) : ∃ k, impl_led.f k row rows (e : Int) = some (impl_MapPath.led rows e row) := by
  have h := impl_MapPath.ledL rows e he row hl hl2 hr row.length 0 (List.replicate e 0) (by omega) (by simp)
  refine Ev.rounds (Ev.congr (fun k => ?_) h)
  unfold impl_led.f
  rw [if_pos (by omega), if_pos (by omega), Int.toNat_natCast]
  rfl
theorem impl_MapPath.facts {d e : Int} {l : List (List Int)} (c : Go.Proofs.YtocldhojbnegjaaC.isMap d e l = true) : 1 ≤ d ∧ d ≤ 3 ∧ 1 ≤ e ∧ e ≤ 3 ∧ (l.length : Int) = d ∧ ∀ r ∈ l, (r.length : Int) = e := by
  unfold Go.Proofs.YtocldhojbnegjaaC.isMap Go.Proofs.YtocldhojbnegjaaC.letters at c
  simp only [Bool.and_eq_true, decide_eq_true_eq, List.all_eq_true] at c
  refine ⟨by omega, by omega, by omega, by omega, by omega, fun r hr => ?_⟩
  have := c.2 r hr
  unfold Go.Proofs.YtocldhojbnegjaaC.rowOk at this
  simp only [Bool.and_eq_true, decide_eq_true_eq] at this
  exact this.1

open Go.Proofs.YtocldhojbnegjaaC in
def impl_MapPath.f (a0 : Int) (l1 : List (List Int)) (a2 : Int) (l3 : List (List Int)) : Option (List (List Int) × Int) := some (if isPath a0 l1 = true then (if isMap a0 a2 l3 = true then (if isPath a2 (l1.map (impl_MapPath.led l3 a2.toNat)) = true then l1.map (impl_MapPath.led l3 a2.toNat) else [], if isPath a2 (l1.map (impl_MapPath.led l3 a2.toNat)) = true then 0 else 3) else ([], 2)) else ([], 1))
open Go.Proofs.YtocldhojbnegjaaC in
set_option maxHeartbeats 4000000 in
theorem impl_MapPath.lit (f : Int) (hf : 0 ≤ f ∧ f ≤ 3) (B1 B2 : Nat) (w : World) (A4 : Option Addr) (c4 : Nat) (l4 : List (List Int)) (hc4 : l4.length ≤ c4) (h1 : w.cell? ⟨B1, 0, none⟩ = some (.int .i64 f)) (h2 : w.cell? ⟨B2, 0, none⟩ = some (.slice A4 l4.length c4))
    (hr4 : Kd.C (Kd.slice 2 (Kd.int .i64)) w A4 l4.length l4) (hl4 : l4.length ≤ 3) (hrow4 : ∀ r ∈ l4, (r.length : Int) = f) (l : List (List Int)) (hs : ∀ r ∈ l, r.length ≤ l4.length) :
    Maps 99 #[.pointer (some ⟨B2, 0, none⟩), .pointer (some ⟨B1, 0, none⟩)] (impl_MapPath.led l4 f.toNat) w l := by
  intro j hj A0 c0 V hV hc hK
  have hrow : (l.getD j []).length ≤ l4.length := by
    rw [List.getD_eq_getElem?_getD, List.getElem?_eq_getElem hj]; exact hs _ (List.getElem_mem hj)
  have hx1 : V.cell? ⟨B1, 0, none⟩ = some (.int .i64 f) := (hV.cell (World.block_lt_of_cell? w _ h1)).trans h1
  have hx2 : V.cell? ⟨B2, 0, none⟩ = some (.slice A4 l4.length c4) := (hV.cell (World.block_lt_of_cell? w _ h2)).trans h2
  have HR4 := Aside0.mk (Kd.C_below hr4 hV)
  have HC4 := Aside0.mk hc4
  generalize l.getD j [] = row at hc hK hrow ⊢
  obtain ⟨k, hk⟩ := impl_MapPath.led_is l4 f.toNat (by omega) row hrow hl4 (fun r hr => by have := hrow4 r hr; omega)
  rw [show ((f.toNat : Nat) : Int) = f by omega] at hk
  have HK := Aside0.mk hK
  have HC := Aside0.mk hc
  have HE := Aside0.mk hk
  clear hK hc hk hrow hV h1 h2 hr4 hl4 hrow4 hc4
  show Calls Try.prog 99 #[.slice A0 row.length c0, .pointer (some ⟨B2, 0, none⟩), .pointer (some ⟨B1, 0, none⟩)] V _
  go_enter Try.func99, Try.ntmps99
  go_wp2_with (go_at_call 97; refine (impl_led.calls k A0 c0 row A4 c4 l4 f _ _ (Kd.C_below HK.out (by repeat (first | (with_reducible first | exact Below.refl _ _ | apply below_alloc | apply pw_below_drewN | apply below_drew1) | exact Below.refl _ _))) HC.out (Kd.C_below HR4.out (by repeat (first | (with_reducible first | exact Below.refl _ _ | apply below_alloc | apply pw_below_drewN | apply below_drew1) | exact Below.refl _ _))) HC4.out HE.out).mono ?_; rintro e w' ⟨v, rfl, ho, hb⟩; have HO := Aside0.mk ho; have HB := Aside0.mk (below_step (by repeat (first | (with_reducible first | exact Below.refl _ _ | apply below_alloc | apply pw_below_drewN | apply below_drew1) | exact Below.refl _ _)) hb); clear ho hb)
  go_ret
  exact ⟨_, rfl, HO.out, HB.out⟩

open Go.Proofs.YtocldhojbnegjaaC in
set_option maxHeartbeats 4000000 in
set_option maxRecDepth 100000 in
theorem impl_MapPath.calls (a0 : Int) (A1 : Option Addr) (c1 : Nat) (l1 : List (List Int)) (a2 : Int) (A3 : Option Addr) (c3 : Nat) (l3 : List (List Int)) (r1 : List (List Int)) (r2 : Int) (w : World) (hr1 : Kd.C (Kd.slice 2 (Kd.int .i64)) w A1 l1.length l1) (hc1 : l1.length ≤ c1) (hr3 : Kd.C (Kd.slice 2 (Kd.int .i64)) w A3 l3.length l3) (hc3 : l3.length ≤ c3) (h : impl_MapPath.f a0 l1 a2 l3 = some (r1, r2)) :
    Calls Try.prog 53 #[.int .i64 a0, .slice A1 l1.length c1, .int .i64 a2, .slice A3 l3.length c3] w fun e w' => ∃ v0_ : Value, e = .returned (.tuple #[v0_, .int .i64 r2]) ∧ Kd.S (Kd.slice 2 (Kd.int .i64)) 40 w' w.heap.size (fun _ => True) v0_ r1 ∧ Below w.heap.size w w' := by
  unfold impl_MapPath.f at h
  have h := Option.some.inj h
  have HR1 := Aside0.mk hr1
  have HR3 := Aside0.mk hr3
  have HC3 := Aside0.mk hc3
  obtain ⟨W0, hW0⟩ : ∃ W : World, W = (w.alloc (.cells #[.int .i64 a2] 2)).alloc (.cells #[.slice A3 l3.length c3] 30) := ⟨_, rfl⟩
  have hba : Below w.heap.size w W0 := by rw [hW0]; exact below_alloc (below_alloc (Below.refl _ _) _) _
  have B0 := Aside0.mk hba
  have key : ∀ (W : World) (v : Value) (t : TypeId), (W.alloc (.cells #[v] t)).cell? ⟨W.heap.size, 0, none⟩ = some v := fun W v t => by simp
  have hz : (w.alloc (.cells #[.int .i64 a2] 2)).heap.size = w.heap.size + 1 := by simp
  have hx1 : W0.cell? ⟨w.heap.size, 0, none⟩ = some (.int .i64 a2) := by
    rw [hW0, World.cell?_alloc_lt _ _ _ (by rw [hz]; exact Nat.lt_succ_self _)]
    exact key w _ _
  have hx2 : W0.cell? ⟨w.heap.size + 1, 0, none⟩ = some (.slice A3 l3.length c3) := by
    have h5 := key (w.alloc (.cells #[.int .i64 a2] 2)) (.slice A3 l3.length c3) 30
    rw [hz] at h5
    rw [hW0]; exact h5
  have HX1 := Aside0.mk hx1
  have HX2 := Aside0.mk hx2
  have HW := Aside0.mk hW0
  clear hr1 hr3 hba hx1 hx2 hW0 key hz
  cases m1 : isPath a0 l1 with
  | false =>
    rw [if_neg (by rw [m1]; simp)] at h
    obtain ⟨rfl, rfl⟩ := Prod.mk.inj h
    have HC := Aside0.mk m1
    clear h m1
    go_enter Try.func53, Try.ntmps53
    go_wp2_with (go_at_call 75; rw [← HW.out]; with_reducible refine (isPath_any a0 A1 c1 l1 _ (Kd.C_below HR1.out (by repeat (first | (with_reducible first | exact B0.out | apply below_alloc | apply pw_below_drewN | apply below_drew1) | exact B0.out)))).mono ?_; rintro e w1 ⟨he, hb⟩; rw [HC.out] at he; subst he; have D1 := Aside0.mk (show Below W0.heap.size W0 w1 from below_step (by repeat (first | (with_reducible first | exact Below.refl _ _ | apply below_alloc | apply pw_below_drewN | apply below_drew1) | exact Below.refl _ _)) hb); have hx1 : w1.cell? ⟨w.heap.size, 0, none⟩ = some (.int .i64 a2) := (D1.out.cell (World.block_lt_of_cell? _ _ HX1.out)).trans HX1.out; have hx2 : w1.cell? ⟨w.heap.size + 1, 0, none⟩ = some (.slice A3 l3.length c3) := (D1.out.cell (World.block_lt_of_cell? _ _ HX2.out)).trans HX2.out; have HY1 := Aside0.mk hx1; have HY2 := Aside0.mk hx2; have B1 := Aside0.mk (below_step B0.out D1.out); clear hb)
    go_ret2
    exact ⟨_, rfl, Kd.S_nil _ _ _ _ _, B1.out⟩
  | true =>
    rw [if_pos m1] at h
    cases m2 : isMap a0 a2 l3 with
    | false =>
      rw [if_neg (by rw [m2]; simp)] at h
      obtain ⟨rfl, rfl⟩ := Prod.mk.inj h
      have HC := Aside0.mk m1
      have HD := Aside0.mk m2
      clear h m1 m2
      go_enter Try.func53, Try.ntmps53
      go_wp2_with (go_at_call 75; rw [← HW.out]; with_reducible refine (isPath_any a0 A1 c1 l1 _ (Kd.C_below HR1.out (by repeat (first | (with_reducible first | exact B0.out | apply below_alloc | apply pw_below_drewN | apply below_drew1) | exact B0.out)))).mono ?_; rintro e w1 ⟨he, hb⟩; rw [HC.out] at he; subst he; have D1 := Aside0.mk (show Below W0.heap.size W0 w1 from below_step (by repeat (first | (with_reducible first | exact Below.refl _ _ | apply below_alloc | apply pw_below_drewN | apply below_drew1) | exact Below.refl _ _)) hb); have hx1 : w1.cell? ⟨w.heap.size, 0, none⟩ = some (.int .i64 a2) := (D1.out.cell (World.block_lt_of_cell? _ _ HX1.out)).trans HX1.out; have hx2 : w1.cell? ⟨w.heap.size + 1, 0, none⟩ = some (.slice A3 l3.length c3) := (D1.out.cell (World.block_lt_of_cell? _ _ HX2.out)).trans HX2.out; have HY1 := Aside0.mk hx1; have HY2 := Aside0.mk hx2; have B1 := Aside0.mk (below_step B0.out D1.out); clear hb)
      go_wp2_with (go_at_call 79; with_reducible refine (isMap_any a0 a2 A3 c3 l3 _ (Kd.C_below HR3.out (by repeat (first | (with_reducible first | exact B1.out | apply below_alloc | apply pw_below_drewN | apply below_drew1) | exact B1.out)))).mono ?_; rintro e w2 ⟨he, hb⟩; rw [HD.out] at he; subst he; have D2 := Aside0.mk (show Below w1.heap.size w1 w2 from below_step (by repeat (first | (with_reducible first | exact Below.refl _ _ | apply below_alloc | apply pw_below_drewN | apply below_drew1) | exact Below.refl _ _)) hb); have hz1 : w2.cell? ⟨w.heap.size, 0, none⟩ = some (.int .i64 a2) := (D2.out.cell (World.block_lt_of_cell? _ _ HY1.out)).trans HY1.out; have hz2 : w2.cell? ⟨w.heap.size + 1, 0, none⟩ = some (.slice A3 l3.length c3) := (D2.out.cell (World.block_lt_of_cell? _ _ HY2.out)).trans HY2.out; have HZ1 := Aside0.mk hz1; have HZ2 := Aside0.mk hz2; have B2 := Aside0.mk (below_step B1.out D2.out); clear hb hx1 hx2)
      go_ret2
      exact ⟨_, rfl, Kd.S_nil _ _ _ _ _, B2.out⟩
    | true =>
      rw [if_pos m2] at h
      obtain ⟨_, _, k5, k6⟩ := path_small m1
      obtain ⟨_, j2, j3, j4, j5, j6⟩ := impl_MapPath.facts m2
      have HF3 := Aside0.mk (show ∀ r ∈ l1, r.length ≤ l3.length from fun r hr => by have := k6 r hr; omega)
      have HF4 := Aside0.mk (show l3.length ≤ 3 by omega)
      have HF5 := Aside0.mk j6
      have HF6 := Aside0.mk (show 0 ≤ a2 ∧ a2 ≤ 3 by omega)
      have HF7 := Aside0.mk (show l1.length < 5864062014805 by omega)
      have HC := Aside0.mk m1
      have HD := Aside0.mk m2
      clear m1 m2 k5 k6 j2 j3 j4 j5 j6
      obtain ⟨O, hO⟩ : ∃ O, O = l1.map (impl_MapPath.led l3 a2.toNat) := ⟨_, rfl⟩
      rw [← hO] at h
      have HOO := Aside0.mk hO
      obtain ⟨cc, hcc⟩ : ∃ x : Int, x = (if isPath a2 O = true then 0 else 3) := ⟨_, rfl⟩
      obtain ⟨rr, hrr⟩ : ∃ x : List (List Int), x = (if isPath a2 O = true then O else []) := ⟨_, rfl⟩
      rw [← hcc, ← hrr] at h
      obtain ⟨rfl, rfl⟩ := Prod.mk.inj h
      have HCC := Aside0.mk hcc
      have HRR := Aside0.mk hrr
      clear h hO hcc hrr
      go_enter Try.func53, Try.ntmps53
      go_wp2_with (go_at_call 75; rw [← HW.out]; with_reducible refine (isPath_any a0 A1 c1 l1 _ (Kd.C_below HR1.out (by repeat (first | (with_reducible first | exact B0.out | apply below_alloc | apply pw_below_drewN | apply below_drew1) | exact B0.out)))).mono ?_; rintro e w1 ⟨he, hb⟩; rw [HC.out] at he; subst he; have D1 := Aside0.mk (show Below W0.heap.size W0 w1 from below_step (by repeat (first | (with_reducible first | exact Below.refl _ _ | apply below_alloc | apply pw_below_drewN | apply below_drew1) | exact Below.refl _ _)) hb); have hx1 : w1.cell? ⟨w.heap.size, 0, none⟩ = some (.int .i64 a2) := (D1.out.cell (World.block_lt_of_cell? _ _ HX1.out)).trans HX1.out; have hx2 : w1.cell? ⟨w.heap.size + 1, 0, none⟩ = some (.slice A3 l3.length c3) := (D1.out.cell (World.block_lt_of_cell? _ _ HX2.out)).trans HX2.out; have HY1 := Aside0.mk hx1; have HY2 := Aside0.mk hx2; have B1 := Aside0.mk (below_step B0.out D1.out); clear hb)
      go_wp2_with (go_at_call 79; with_reducible refine (isMap_any a0 a2 A3 c3 l3 _ (Kd.C_below HR3.out (by repeat (first | (with_reducible first | exact B1.out | apply below_alloc | apply pw_below_drewN | apply below_drew1) | exact B1.out)))).mono ?_; rintro e w2 ⟨he, hb⟩; rw [HD.out] at he; subst he; have D2 := Aside0.mk (show Below w1.heap.size w1 w2 from below_step (by repeat (first | (with_reducible first | exact Below.refl _ _ | apply below_alloc | apply pw_below_drewN | apply below_drew1) | exact Below.refl _ _)) hb); have hz1 : w2.cell? ⟨w.heap.size, 0, none⟩ = some (.int .i64 a2) := (D2.out.cell (World.block_lt_of_cell? _ _ HY1.out)).trans HY1.out; have hz2 : w2.cell? ⟨w.heap.size + 1, 0, none⟩ = some (.slice A3 l3.length c3) := (D2.out.cell (World.block_lt_of_cell? _ _ HY2.out)).trans HY2.out; have HZ1 := Aside0.mk hz1; have HZ2 := Aside0.mk hz2; have B2 := Aside0.mk (below_step B1.out D2.out); clear hb hx1 hx2)
      try go_wp2
      refine start_ (n := 9) (S := fun w' => w'.cell? ⟨w.heap.size, 0, none⟩ = some (.int .i64 a2)) (ds := []) #[false, false, false, false, false, false, false, false, false] (by kernel_rfl) rfl rfl HZ1.out (fun hHeld => ?_)
      have n0_ := Aside0.mk (below_drew1 B2.out)
      clear B2
      have B2 := n0_
      clear n0_ D2 hz1 hz2
      replace HZ1 := Aside0.mk (show w2.drew.cell? ⟨w.heap.size, 0, none⟩ = some (.int .i64 a2) from HZ1.out)
      replace HZ2 := Aside0.mk (show w2.drew.cell? ⟨w.heap.size + 1, 0, none⟩ = some (.slice A3 l3.length c3) from HZ2.out)
      generalize w2.drew = w24 at B2 HZ1 HZ2 hHeld ⊢
      refine take_ (i := 0) (N := some 19) (v := ?_) (a' := ?_) #[true, false, false, false, false, false, false, false, false] rfl rfl (by kernel_rfl) (fun _ _ _ h => h) (Or.inl ⟨by rfl, ?_⟩) hHeld ?_ ?_
      rotate_left
      · intro w' s0
        go_simp
        with_reducible rfl
      rotate_left
      · simp only [Act.put, List.setIfInBounds_toArray, List.set_cons_zero, List.set_cons_succ]
        rfl
      refine pure_ (i := 1) (N := some 20) (v := ?_) (a' := ?_) #[true, true, false, false, false, false, false, false, false] rfl rfl (by kernel_rfl) (fun _ _ _ h => h) (Or.inl ⟨by rfl, ?_⟩) ?_ ?_
      rotate_left
      · intro w' 
        go_simp
        with_reducible rfl
      rotate_left
      · simp only [Act.put, List.setIfInBounds_toArray, List.set_cons_zero, List.set_cons_succ]
        rfl
      refine pure_ (i := 2) (N := some 21) (v := ?_) (a' := ?_) #[true, true, true, false, false, false, false, false, false] rfl rfl (by kernel_rfl) (fun _ _ _ h => h) (Or.inl ⟨by rfl, ?_⟩) ?_ ?_
      rotate_left
      · intro w' 
        go_simp
        with_reducible rfl
      rotate_left
      · simp only [Act.put, List.setIfInBounds_toArray, List.set_cons_zero, List.set_cons_succ]
        rfl
      refine one_ (i := 3) (N := some 22) #[true, true, true, true, false, false, false, false, false] rfl rfl (by kernel_rfl) (by decide) (fun K hK => ?_)
      refine goes_ Try.func84 (by kernel_rfl) rfl #[.slice A1 l1.length c1, .func (.func 99) #[] #[.pointer (some ⟨w.heap.size + 1, 0, none⟩), .pointer (some ⟨w.heap.size, 0, none⟩)]] (by rfl) rfl rfl (by (try simp only [List.map_toArray, List.map_cons, List.map_nil]); first | done | rfl) ?_
      refine (mapSteps_any 99 #[.pointer (some ⟨w.heap.size + 1, 0, none⟩), .pointer (some ⟨w.heap.size, 0, none⟩)] (impl_MapPath.led l3 a2.toNat) A1 c1 l1 _ (enters_of Try.func99 (by kernel_rfl) rfl) (Kd.C_below HR1.out (by repeat (first | (with_reducible first | exact B2.out | apply below_alloc | apply pw_below_drewN | apply below_drew1) | exact B2.out))) (impl_MapPath.lit a2 HF6.out w.heap.size (w.heap.size + 1) _ A3 c3 l3 HC3.out HZ1.out HZ2.out (Kd.C_below HR3.out (by repeat (first | (with_reducible first | exact B2.out | apply below_alloc | apply pw_below_drewN | apply below_drew1) | exact B2.out))) HF4.out HF5.out l1 HF3.out) HF7.out).mono ?_
      rintro e w3 ⟨v3, rfl, hs, hb⟩
      refine ⟨_, rfl, ?_⟩
      have D3 := Aside0.mk (show Below w24.heap.size w24 w3 from hb)
      have B3 := Aside0.mk (below_step B2.out D3.out)
      have HO := Aside0.mk (show Kd.S (Kd.slice 2 (Kd.int .i64)) 40 w3 w.heap.size (fun _ => True) v3 O from by rw [HOO.out]; exact Kd.S_lower hs B2.out.size)
      have hu1 : w3.cell? ⟨w.heap.size, 0, none⟩ = some (.int .i64 a2) := (D3.out.cell (World.block_lt_of_cell? _ _ HZ1.out)).trans HZ1.out
      have HU1 := Aside0.mk hu1
      clear hs hb hu1
      obtain ⟨A5, c5, e5⟩ := Kd.R_slice (Kd.S_R HO.out)
      subst e5
      refine hK.out _ _ HU1.out (fun hHeld => ?_)
      clear hK K
      refine norm_ (a' := ?_) ?_ ?_
      rotate_left
      · show Act.put _ (some 22) _ = _
        simp only [Act.put, List.setIfInBounds_toArray, List.set_cons_zero, List.set_cons_succ]
        rfl
      refine one_ (i := 4) (N := some 23) #[true, true, true, true, true, false, false, false, false] rfl rfl (by kernel_rfl) (by decide) (fun K hK => ?_)
      refine goes_ Try.func91 (by kernel_rfl) rfl #[.int .i64 a2, .slice A5 O.length c5] (by rfl) rfl rfl (by (try simp only [List.map_toArray, List.map_cons, List.map_nil]); first | done | rfl) ?_
      refine (limited_own2 a2 (by repeat (first | (with_reducible first | exact B3.out | apply below_alloc | apply pw_below_drewN | apply below_drew1) | exact B3.out)) HO.out).mono ?_
      rintro e w4 ⟨v4, he, hs, hb, hb2⟩
      rw [← HCC.out] at he
      subst he
      rw [← HRR.out] at hs
      refine ⟨_, rfl, ?_⟩
      have B4 := Aside0.mk hb
      have HO4 := Aside0.mk hs
      have hu2 : w4.cell? ⟨w.heap.size, 0, none⟩ = some (.int .i64 a2) := (hb2.cell (World.block_lt_of_cell? _ _ HU1.out)).trans HU1.out
      clear hs hb hb2
      refine hK.out _ _ hu2 (fun hHeld => ?_)
      clear hK K
      refine norm_ (a' := ?_) ?_ ?_
      rotate_left
      · show Act.put _ (some 23) _ = _
        simp only [Act.put, List.setIfInBounds_toArray, List.set_cons_zero, List.set_cons_succ]
        rfl
      refine pure_ (i := 5) (N := some 24) (v := ?_) (a' := ?_) #[true, true, true, true, true, true, false, false, false] rfl rfl (by kernel_rfl) (fun _ _ _ h => h) (Or.inl ⟨by rfl, ?_⟩) ?_ ?_
      rotate_left
      · intro w' 
        go_simp
        with_reducible rfl
      rotate_left
      · simp only [Act.put, List.setIfInBounds_toArray, List.set_cons_zero, List.set_cons_succ]
        rfl
      refine pure_ (i := 6) (N := some 25) (v := ?_) (a' := ?_) #[true, true, true, true, true, true, true, false, false] rfl rfl (by kernel_rfl) (fun _ _ _ h => h) (Or.inl ⟨by rfl, ?_⟩) ?_ ?_
      rotate_left
      · intro w' 
        go_simp
        with_reducible rfl
      rotate_left
      · simp only [Act.put, List.setIfInBounds_toArray, List.set_cons_zero, List.set_cons_succ]
        rfl
      refine pure_ (i := 7) (N := some 8) (v := ?_) (a' := ?_) #[true, true, true, true, true, true, true, true, false] rfl rfl (by kernel_rfl) (fun _ _ _ h => h) (Or.inl ⟨by rfl, ?_⟩) ?_ ?_
      rotate_left
      · intro w' 
        go_simp
        with_reducible rfl
      rotate_left
      · simp only [Act.put, List.setIfInBounds_toArray, List.set_cons_zero, List.set_cons_succ]
        rfl
      refine pure_ (i := 8) (N := some 9) (v := ?_) (a' := ?_) #[true, true, true, true, true, true, true, true, true] rfl rfl (by kernel_rfl) (fun _ _ _ h => h) (Or.inl ⟨by rfl, ?_⟩) ?_ ?_
      rotate_left
      · intro w' 
        go_simp
        with_reducible rfl
      rotate_left
      · simp only [Act.put, List.setIfInBounds_toArray, List.set_cons_zero, List.set_cons_succ]
        rfl
      refine done_ (by kernel_rfl) ?_
      try go_wp2
      go_ret2
      exact ⟨_, rfl, HO4.out, B4.out⟩

end Go.Proofs.Ytocldhojbnegjaa.PFnExactMapPath
