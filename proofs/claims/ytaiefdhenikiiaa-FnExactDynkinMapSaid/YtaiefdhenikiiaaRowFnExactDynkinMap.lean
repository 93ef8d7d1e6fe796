/- The row of FnExactDynkinMap over its pure statement. -/
import Derived.Test.YtaiefdhenikiiaaRows
import Derived.Test.YtaiefdhenikiiaaMFnExactDynkinMap12
import Derived.WalkKit
import Derived.ProofKit
import Derived.OpenShut
import Derived.ShutString
import Derived.ChangeOld
import Derived.Below
import Derived.SizedLaws
import Derived.Carry
namespace Go.Proofs.Ytaiefdhenikiiaa.fnExactDynkinMap
open Go.ChangeShapes Go.WideShapes Go.ChangeAt Go.RowKit Go.Proofs.Ytaiefdhenikiiaa.PFnExactDynkinMap Go.Proofs.YtaiefdhenikiiaaW.PrintWords Go.Proofs.YtaiefdhenikiiaaO Go.Proofs.Ytaiefdhenikiiaa.Base
open Go.ChangeMaps (open_string shut_string)
set_option linter.unusedVariables false
theorem own : ownKnob Try.prog.godebug = none := by kernel_rfl
theorem laidOut : laidOutB Try.prog = true := by kernel_rfl
set_option maxRecDepth 100000 in
theorem lifted (os : Os) (started : os.Started) (H : Type) (enc : TypeId × Value → H) :
    ReturnsInHanded {} Try.checked os 14 .any (Rows.fnExactDynkinMapSpec.pre6 enc Try.prog Try.f14 Rows.fnExactDynkinMapRow.domain false) (Rows.fnExactDynkinMapSpec.post enc Try.prog Try.f14 false true false false) := by
  refine returnsInHanded_of_change_sized (C := Try.checked) own started (by kernel_rfl) Try.func14
    (ChangeSpec.witness6 (enc := enc) (C := Try.checked) false ⟨#[], #[.agg #[.int .i64 0, .int .i64 0, .slice none 0 0]], []⟩ 8 (by kernel_rfl) (by kernel_rfl) (by kernel_rfl) (by kernel_rfl)) ?_
  intro W base args ds gs before hval0 hW hcnd hsz0 _
  have hsz : (DataW.weightsEach Try.prog (Try.f14.params.toList ++ Rows.fnExactDynkinMapSpec.plain.varTypes Try.prog) (ds ++ gs)).all (· ≤ reachBytes) = true := hsz0
  have hval : ∀ (j : Nat) t v, Try.f14.params[j]? = some t → args[j]? = some v → Value.okWide Try.prog W .any base t v := hval0
  have hW' := hW
  obtain ⟨p, q, hA0, hV, rfl, hfz, hnd⟩ := hW
  have hA : DataW.TrodAll enc Try.prog W 0 (fun _ => true) true Try.f14.params.toList args.toList ds p := hA0
  rw [Try.params14] at hA hval hsz
  obtain ⟨v0, vs0, d0, ds0, p0, q0, hargs, rfl, rfl, h0, r0⟩ := trodAll_cons hA
  obtain ⟨rfl, rfl, rfl⟩ := trodAll_nil r0
  obtain rfl : args = #[v0] := by cases args; simp_all
  obtain ⟨rfl, rfl⟩ := trodVars_none hV
  have k0 := h0
  have lt0 : ∀ x ∈ p0, x.block < W.heap.size := by obtain ⟨m, hm⟩ := k0; exact DataW.trod_lt m _ _ _ hm
  obtain ⟨cs0, rfl, hz0⟩ := okWide_struct Try.underlying32 (hval 0 32 v0 rfl rfl)
  obtain ⟨s0, hK0, w0⟩ : ∃ s : S32, k32.K W s cs0.toList ∧ ok32 s := by
    obtain ⟨m, hm⟩ := h0
    exact opens32.2 H enc W m _ _ hm
  obtain ⟨_, _, hE0, rfl, _, _, rfl, rfl, A0_2, c0_2, rfl, hc0_2, hr0_2⟩ := hK0
  obtain rfl : cs0 = #[.int .i64 s0.f0, .int .i64 s0.f1, .slice A0_2 s0.f2.length c0_2] := by rw [← Array.toList_inj]; exact hE0
  clear hA0 hval0 hsz0 hsz
  obtain ⟨k, hP⟩ := Pure.FnExactDynkinMap s0 w0
  refine (qs1_.calls k s0.f0 s0.f1 A0_2 c0_2 s0.f2 true W hr0_2 hc0_2 hP).mono fun e W' ⟨he, bel⟩ => ?_
  subst he
  exact ⟨_, rfl, _, _, _, [], _, [], hW', trodAll_mk1 (shut_bool Try.underlying4 _), (trodAll_cons_mk (Below.trod laidOut (by kernel_rfl) (of_decide_eq_true (by kernel_rfl)) k0 bel lt0) trodAll_mk0), rfl, bel.frame _, fun h => by cases h⟩
set_option maxRecDepth 100000 in
theorem closed : joinedFacts Try.prog 14 Try.f14 Rows.fnExactDynkinMapSpec Rows.fnExactDynkinMapRow = true := by
  delta joinedFacts
  exact (Ws.aa (Ws.aa (Ws.aa (Ws.aa (Ws.aa (Ws.aa (Ws.aa (Ws.aa (Ws.aa (Ws.aa (Ws.aa (Ws.aa (Ws.aa (Ws.aa (Ws.aa (Ws.aa (Ws.aa (Ws.aa (Ws.aa (Ws.aa (Ws.aa (Ws.aa (Ws.aa (Ws.aa (Ws.aa (Ws.aa (Ws.aa (Ws.aa (Ws.aa (Ws.aa (Ws.aa (by kernel_rfl) (by kernel_rfl)) (by kernel_rfl)) (by kernel_rfl)) (by kernel_rfl)) (by kernel_rfl)) (by kernel_rfl)) (by kernel_rfl)) (by kernel_rfl)) (by kernel_rfl)) (by kernel_rfl)) (by kernel_rfl)) (by kernel_rfl)) (by kernel_rfl)) (by kernel_rfl)) (by kernel_rfl)) (by kernel_rfl)) (by kernel_rfl)) (by kernel_rfl)) (by kernel_rfl)) (by kernel_rfl)) (by kernel_rfl)) (by kernel_rfl)) (by kernel_rfl)) (by kernel_rfl)) Ws.mayEnter) Ws.lifts) Ws.make_) (by kernel_rfl)) (by kernel_rfl)) (by kernel_rfl)) (by kernel_rfl))
theorem over : Rows.fnExactDynkinMapRow.holds Try.pinned (OpenSpec.ofChange Rows.fnExactDynkinMapSpec) :=
  OpenClaim.holds_of_wide 14 Try.f14 rfl rfl rfl rfl rfl rfl rfl ⟨rfl, rfl, rfl, rfl, rfl⟩ rfl rfl rfl rfl rfl (by kernel_rfl) Try.func14 closed
    (of_decide_eq_true (by kernel_rfl)) (by unfold Func.isWrapper; first | (rw [if_pos (by decide +kernel)]; kernel_rfl) | (rw [if_neg (by decide +kernel)]; exact ⟨rfl, rfl⟩))
    (fun os started H enc _ => lifted os started H enc)
theorem proved : Rows.FnExactDynkinMapSaid := over
#print axioms proved
end Go.Proofs.Ytaiefdhenikiiaa.fnExactDynkinMap
namespace Go.Proofs.Ytaiefdhenikiiaa
/-- The row, under a short name, for the claim. -/
theorem fnExactDynkinMap_holds : Rows.FnExactDynkinMapSaid := fnExactDynkinMap.proved
end Go.Proofs.Ytaiefdhenikiiaa
