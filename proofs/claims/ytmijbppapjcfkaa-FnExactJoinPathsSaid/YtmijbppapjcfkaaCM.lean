/- impl.mapSteps: a function value over the rows of a path. -/
import Derived.Test.YtmijbppapjcfkaaC
import Derived.Test.YtmijbppapjcfkaaA
import Derived.Test.YtmijbppapjcfkaaWSized
import Derived.WalkLawsBesides
namespace Go.Proofs.YtmijbppapjcfkaaC
open Go.RowKit Go.Proofs.YtmijbppapjcfkaaW.PrintWords Go.Proofs.YtmijbppapjcfkaaW.PrintLast Go.Proofs.YtmijbppapjcfkaaW.PrintMore
set_option linter.unusedVariables false
set_option linter.unusedSimpArgs false
theorem infoRow : (Try.prog.info? 67).map (fun i => (i.zero, i.size, i.bytes)) = some (some (.slice none 0 0), 1, 24) := by kernel_rfl
theorem infoInt : (Try.prog.info? 2).map (fun i => (i.zero, i.size, i.bytes)) = some (some (.int .i64 0), 1, 8) := by kernel_rfl
/-- What a function value makes of a row, in whatever world over w: a new row. -/
def Maps (g : Nat) (lb : Array Value) (F : List Int → List Int) (w : World) (l : List (List Int)) : Prop :=
  ∀ j, j < l.length → ∀ A0 c0 V, Below w.heap.size w V → (l.getD j []).length ≤ c0 → Kd.C (Kd.int .i64) V A0 (l.getD j []).length (l.getD j []) →
    Calls Try.prog g (#[.slice A0 (l.getD j []).length c0] ++ lb) V fun e w' => ∃ v, e = .returned v ∧ Kd.R (Kd.int .i64) 2 w' V.heap.size (fun _ => True) v (F (l.getD j [])) ∧ Below V.heap.size V w'
set_option maxHeartbeats 8000000 in
set_option maxRecDepth 100000 in
theorem mapSteps_any (g : Nat) (lb : Array Value) (F : List Int → List Int) (A : Option Addr) (c : Nat) (l : List (List Int)) (w : World) (eg : ∀ args w, (callFunc g args).run Try.prog w = .ok (.enter g args) w)
    (hr : Kd.C (Kd.slice 2 (Kd.int .i64)) w A l.length l) (hM : Maps g lb F w l) (hl : l.length < 5864062014805) :
    Calls Try.prog 66 #[.slice A l.length c, .func (.func g) #[] lb] w fun e w' => ∃ v, e = .returned v ∧ Kd.S (Kd.slice 2 (Kd.int .i64)) 67 w' w.heap.size (fun _ => True) v (l.map F) ∧ Below w.heap.size w w' := by
  have HR := Aside0.mk hr
  have HM := Aside0.mk hM
  have HL := Aside0.mk hl
  clear hr hM hl
  go_enter Try.func66, Try.ntmps66
  go_wp2
  go_loopg [5, 10] l.length (fun gg v5 v10 wr => ∃ kk : Nat, kk ≤ l.length ∧ l.length - kk ≤ gg ∧ v10 = .int .i64 kk ∧ Aside0 (Kd.S (Kd.slice 2 (Kd.int .i64)) 67 wr w.heap.size (fun _ => True) v5 ((l.take kk).map F)) ∧ Aside0 (Below w.heap.size w wr))
  case atStart => exact ⟨0, Nat.zero_le _, by omega, rfl, ⟨Kd.S_nil _ _ _ _ _⟩, ⟨Below.refl _ _⟩⟩
  case round =>
    obtain ⟨kk, hkk, hg, rfl, HO_6, HB⟩ := hrel
    by_cases hlt : kk < l.length
    · have hltz : (kk : Int) < (l.length : Int) := by omega
      obtain ⟨ad, A0, c0, rfl, hx, hc0, hK⟩ := row_at HR.out kk hlt
      have hcell := (HB.out.cell (World.block_lt_of_cell? w _ hx)).trans hx
      have HC0 := Aside0.mk hc0
      have HK := Aside0.mk hK
      clear hx hc0 hK
      obtain ⟨row, hrow⟩ : ∃ r, r = l.getD kk [] := ⟨_, rfl⟩
      have HROW := Aside0.mk hrow
      rw [← hrow] at hcell HC0 HK
      have HM2 := Aside0.mk (HM.out kk hlt)
      rw [← hrow] at HM2
      clear hrow
      have LMc10 := Aside0.mk (show ((l.take kk).map F).length < 5864062014805 by have := HL.out; simp; omega)
      obtain ⟨x6_1, hx6⟩ : ∃ x_, x_ = (l.take kk).map F := ⟨_, rfl⟩
      rw [← hx6] at HO_6 LMc10
      have HX6 := Aside0.mk hx6
      obtain ⟨t142, ht142⟩ : ∃ x_, x_ = F row := ⟨_, rfl⟩
      rw [← ht142] at HM2
      have HT := Aside0.mk ht142
      obtain ⟨y145, hy145⟩ : ∃ x_, x_ = x6_1 ++ [t142] := ⟨_, rfl⟩
      have Ny145 := Aside0.mk hy145
      clear hx6 ht142 hy145
      go_wp2_with (first | (go_at_fn g; refine (HM2.out A0 c0 _ (by repeat (first | (with_reducible first | exact HB.out | apply below_alloc | apply pw_below_drewN | apply below_drew1) | exact HB.out)) HC0.out (Kd.C_below HK.out (by repeat (first | (with_reducible first | exact HB.out | apply below_alloc | apply pw_below_drewN | apply below_drew1) | exact HB.out)))).mono ?_; rintro e w11 ⟨v143, rfl, ho0, hb⟩; have n0_ := Aside0.mk (Kd.S_elder' (by (with_reducible repeat (first | apply Kd.S_alloc | apply Kd.S_drewN | apply Kd.S_drew)); exact HO_6.out) (Kd.R_base ho0) hb); have n1_ := Aside0.mk (Kd.R_lower ho0 (below_size (by repeat (first | (with_reducible first | exact HB.out | apply below_alloc | apply pw_below_drewN | apply below_drew1) | exact HB.out)))); have n2_ := Aside0.mk (below_step (by repeat (first | (with_reducible first | exact HB.out | apply below_alloc | apply pw_below_drewN | apply below_drew1) | exact HB.out)) hb); clear HO_6; clear HB; have HO_6 := n0_; have HO144 := n1_; have HB := n2_; clear n0_ n1_ n2_; clear hb ho0; obtain ⟨Ao13, co13, eo13⟩ := Kd.R_slice HO144.out; subst eo13) | ((with_reducible refine gate_builtin (b := .append) (xs := #[.tmp 14, .tmp 18]) rfl ?_); at_builtin; refine Kd.S_append (Kd.slice 2 (Kd.int .i64)) (w0 := w) w.heap.size rfl (.tmp 14) (.tmp 18) 25 67 (.slice none 0 0) 24 rfl Try.underlying25 infoRow rfl (by decide) (by omega) u5 x6_1 t142 [.slice Ao13 t142.length co13] (fun _ => True) (fun k_ => some k_ = (.slice Ao13 t142.length co13 : Value).ownBlock) rfl rfl ?aP (fun k_ hk_ => ((Kd.R_mono (ok' := fun k_ => ((fun _ => True)) k_ ∧ some k_ ≠ (u5 : Value).ownBlock) (Kd.R_apart' (HO144.out) (Kd.S_typed HO_6.out) (by decide)) (fun k_ hk => ⟨trivial, hk.2⟩))).1 k_ hk_.symm) ?aF ?aO ?aB ?aS ?aL ?_; (case aP => exact Kd.M_row (Kd.R_mono (Kd.R_tight rfl (Kd.R_mono (ok' := fun k_ => ((fun _ => True)) k_ ∧ some k_ ≠ (u5 : Value).ownBlock) (Kd.R_apart' (HO144.out) (Kd.S_typed HO_6.out) (by decide)) (fun k_ hk => ⟨trivial, hk.2⟩))) (fun _ h_ => h_))); (case aB => exact (by repeat (first | (with_reducible first | exact HB.out | apply below_alloc | apply pw_below_drewN | apply below_drew1) | exact HB.out))); (case aF => exact (fun _ _ => trivial)); (case aO => exact (by (with_reducible repeat (first | apply Kd.S_alloc | apply Kd.S_drewN | apply Kd.S_drew)); exact Kd.S_mono HO_6.out (fun k_ hk => ⟨trivial, fun e_ => hk.2 e_⟩))); (case aS => exact (below_size (by repeat (first | (with_reducible first | exact HB.out | apply below_alloc | apply pw_below_drewN | apply below_drew1) | exact HB.out)))); (case aL => have := LMc10.out; omega); intro v146 w12 ho hb hg hat; rw [← Ny145.out] at ho; have n0_ := Aside0.mk (hb); have n1_ := Aside0.mk (ho); clear HB; clear HO_6; clear HO144; have HB := n0_; have HO147 := n1_; clear n0_ n1_; clear ho hb hg hat))
      go_roundg (l.length - (kk + 1))
      case measure => omega
      case rel =>
        refine ⟨kk + 1, by omega, by omega, (by have := HL.out; congr 1; unfold wrap64; omega), ⟨?_⟩, HB⟩
        have h1 : (l.take (kk + 1)).map F = y145 := by
          rw [Ny145.out, HX6.out, HT.out, HROW.out, List.take_succ_eq_append_getElem hlt, List.map_append]
          simp [List.getD_eq_getElem?_getD, List.getElem?_eq_getElem hlt]
        rw [h1]
        exact HO147.out
    · have hltz : ¬ (kk : Int) < (l.length : Int) := by omega
      have : kk = l.length := by omega
      subst this
      go_wp2
      go_ret
      refine ⟨_, rfl, ?_, HB.out⟩
      have h5 := HO_6.out
      rw [List.take_length] at h5
      exact h5
end Go.Proofs.YtmijbppapjcfkaaC
