/- impl.limited over rows of the call's own; where a path's rows are short. -/
import Derived.Test.YtmijbppapjcfkaaCM
import Derived.Test.YtmijbppapjcfkaaCP
namespace Go.Proofs.YtmijbppapjcfkaaC
open Go.RowKit Go.Proofs.YtmijbppapjcfkaaW.PrintWords Go.Proofs.YtmijbppapjcfkaaW.PrintLast Go.Proofs.YtmijbppapjcfkaaW.PrintMore
set_option linter.unusedVariables false
set_option linter.unusedSimpArgs false
theorem path_small {e : Int} {l : List (List Int)} (c : isPath e l = true) : 1 ≤ e ∧ e ≤ 3 ∧ l.length ≤ 12 ∧ ∀ r ∈ l, (r.length : Int) = e := by
  unfold isPath letters at c
  simp only [Bool.and_eq_true, decide_eq_true_eq, List.all_eq_true] at c
  refine ⟨by omega, by omega, by omega, fun r hr => ?_⟩
  have := c.2 r hr
  unfold rowOk at this
  simp only [Bool.and_eq_true, decide_eq_true_eq] at this
  exact this.1
set_option maxHeartbeats 4000000 in
theorem limited_own {w0 w : World} {ok : Nat → Prop} {A : Option Addr} {n c : Nat} {xs : List (List Int)} (e : Int) (hB : Below w0.heap.size w0 w) (h : Kd.S (Kd.slice 2 (Kd.int .i64)) 67 w w0.heap.size ok (.slice A n c) xs) :
    Calls Try.prog 65 #[.int .i64 e, .slice A n c] w fun e' w' => ∃ v, e' = .returned (.tuple #[v, .int .i64 (if isPath e xs = true then 0 else 3)]) ∧ Kd.S (Kd.slice 2 (Kd.int .i64)) 67 w' w0.heap.size ok v (if isPath e xs = true then xs else []) ∧ Below w0.heap.size w0 w' := by
  obtain ⟨hn, _, hC⟩ := Kd.R_reads' (Kd.S_R h)
  subst hn
  have HR := Aside0.mk hC
  have HO := Aside0.mk h
  have HB := Aside0.mk hB
  clear hC h hB
  by_cases hc : isPath e xs = true
  · rw [if_pos hc, if_pos hc]
    have HC := Aside0.mk hc
    clear hc
    go_enter Try.func65, Try.ntmps65
    go_wp2_with (go_at_call 64; refine (isPath_any e A c xs _ (Kd.C_below HR.out (by repeat (first | (with_reducible first | exact Below.refl _ _ | apply below_alloc | apply pw_below_drewN | apply below_drew1) | exact Below.refl _ _)))).mono ?_; rintro e' w1 ⟨he, hb⟩; rw [HC.out] at he; subst he; have B1 := Aside0.mk (show Below w.heap.size w w1 from below_step (by repeat (first | (with_reducible first | exact Below.refl _ _ | apply below_alloc | apply pw_below_drewN | apply below_drew1) | exact Below.refl _ _)) hb); clear hb)
    go_ret2
    exact ⟨_, rfl, Kd.S_below HO.out B1.out, below_step HB.out B1.out⟩
  · rw [if_neg hc, if_neg hc]
    have HC := Aside0.mk (Bool.eq_false_iff.2 hc)
    clear hc
    go_enter Try.func65, Try.ntmps65
    go_wp2_with (go_at_call 64; refine (isPath_any e A c xs _ (Kd.C_below HR.out (by repeat (first | (with_reducible first | exact Below.refl _ _ | apply below_alloc | apply pw_below_drewN | apply below_drew1) | exact Below.refl _ _)))).mono ?_; rintro e' w1 ⟨he, hb⟩; rw [HC.out] at he; subst he; have B1 := Aside0.mk (show Below w.heap.size w w1 from below_step (by repeat (first | (with_reducible first | exact Below.refl _ _ | apply below_alloc | apply pw_below_drewN | apply below_drew1) | exact Below.refl _ _)) hb); clear hb)
    go_ret2
    exact ⟨_, rfl, Kd.S_nil _ _ _ _ _, below_step HB.out B1.out⟩
end Go.Proofs.YtmijbppapjcfkaaC
