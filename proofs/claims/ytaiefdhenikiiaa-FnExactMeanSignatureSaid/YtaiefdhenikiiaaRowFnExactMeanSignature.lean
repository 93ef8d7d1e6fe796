/- The row of FnExactMeanSignature over its pure statement. -/
import Derived.Test.YtaiefdhenikiiaaRows
import Derived.Test.YtaiefdhenikiiaaMFnExactMeanSignature12
import Derived.WalkKit
import Derived.ProofKit
import Derived.OpenShut
import Derived.ShutString
import Derived.ChangeOld
import Derived.Below
import Derived.SizedLaws
import Derived.Carry
namespace Go.Proofs.Ytaiefdhenikiiaa.fnExactMeanSignature
open Go.ChangeShapes Go.WideShapes Go.ChangeAt Go.RowKit Go.Proofs.Ytaiefdhenikiiaa.PFnExactMeanSignature Go.Proofs.YtaiefdhenikiiaaW.PrintWords Go.Proofs.YtaiefdhenikiiaaO Go.Proofs.Ytaiefdhenikiiaa.Base
open Go.ChangeMaps (open_string shut_string)
set_option linter.unusedVariables false
theorem own : ownKnob Try.prog.godebug = none := by kernel_rfl
theorem laidOut : laidOutB Try.prog = true := by kernel_rfl
set_option maxRecDepth 100000 in
theorem lifted (os : Os) (started : os.Started) (H : Type) (enc : TypeId × Value → H) :
    ReturnsInHanded {} Try.checked os 16 .any (Rows.fnExactMeanSignatureSpec.pre6 enc Try.prog Try.f16 Rows.fnExactMeanSignatureRow.domain false) (Rows.fnExactMeanSignatureSpec.post enc Try.prog Try.f16 false true false false) := by
  refine returnsInHanded_of_change_sized (C := Try.checked) own started (by kernel_rfl) Try.func16
    (ChangeSpec.witness6 (enc := enc) (C := Try.checked) false ⟨#[], #[.int .i64 0, .int .i64 0, .slice none 0 0, .int .i64 0], []⟩ 8 (by kernel_rfl) (by kernel_rfl) (by kernel_rfl) (by kernel_rfl)) ?_
  intro W base args ds gs before hval0 hW hcnd hsz0 _
  have hsz : (DataW.weightsEach Try.prog (Try.f16.params.toList ++ Rows.fnExactMeanSignatureSpec.plain.varTypes Try.prog) (ds ++ gs)).all (· ≤ reachBytes) = true := hsz0
  have hval : ∀ (j : Nat) t v, Try.f16.params[j]? = some t → args[j]? = some v → Value.okWide Try.prog W .any base t v := hval0
  have hW' := hW
  obtain ⟨p, q, hA0, hV, rfl, hfz, hnd⟩ := hW
  have hA : DataW.TrodAll enc Try.prog W 0 (fun _ => true) true Try.f16.params.toList args.toList ds p := hA0
  rw [Try.params16] at hA hval hsz
  obtain ⟨v0, vs0, d0, ds0, p0, q0, hargs, rfl, rfl, h0, r0⟩ := trodAll_cons hA
  obtain ⟨v1, vs1, d1, ds1, p1, q1, rfl, rfl, rfl, h1, r1⟩ := trodAll_cons r0
  obtain ⟨v2, vs2, d2, ds2, p2, q2, rfl, rfl, rfl, h2, r2⟩ := trodAll_cons r1
  obtain ⟨v3, vs3, d3, ds3, p3, q3, rfl, rfl, rfl, h3, r3⟩ := trodAll_cons r2
  obtain ⟨rfl, rfl, rfl⟩ := trodAll_nil r3
  obtain rfl : args = #[v0, v1, v2, v3] := by cases args; simp_all
  obtain ⟨rfl, rfl⟩ := trodVars_none hV
  obtain ⟨a0, rfl, rfl, rfl, w0⟩ := open_int Try.underlying2 (hval 0 2 v0 rfl rfl) h0
  obtain ⟨a1, rfl, rfl, rfl, w1⟩ := open_int Try.underlying2 (hval 1 2 v1 rfl rfl) h1
  have k2 := h2
  have lt2 : ∀ x ∈ p2, x.block < W.heap.size := by obtain ⟨m, hm⟩ := k2; exact DataW.trod_lt m _ _ _ hm
  obtain ⟨A2, n2, c2, rfl⟩ := okWide_slice Try.underlying34 (hval 2 34 v2 rfl rfl)
  obtain ⟨l2, ⟨B2, e2, he2, hc2, hr2⟩, w2⟩ : ∃ l : List (List Int), (Kd.slice 50 (Kd.slice 2 (Kd.int .i64))).K W l [.slice A2 n2 c2] ∧ (l.length ≤ 9223372036854775807 ∧ ∀ a_ ∈ l, (a_.length ≤ 9223372036854775807 ∧ ∀ a__ ∈ a_, (Lit.int .i64 a__).wf = true)) := by
    obtain ⟨m, hm⟩ := h2
    exact ((opens_slice Try.underlying34 (by kernel_rfl) (opens_slice Try.underlying50 (by kernel_rfl) (opens_int Try.underlying2 (by kernel_rfl))))).2 H enc W m _ _ hm
  injection he2 with he2 _
  injection he2 with ha2 hb2 hg2
  subst ha2 hb2 hg2
  obtain ⟨a3, rfl, rfl, rfl, w3⟩ := open_int Try.underlying2 (hval 3 2 v3 rfl rfl) h3
  clear hA0 hval0 hsz0 hsz
  obtain ⟨k, hP⟩ := Pure.FnExactMeanSignature a0 a1 l2 a3 w0 w1 w2 w3
  refine (qu1_.calls k a0 a1 A2 c2 l2 a3 true W hr2 hc2 hP).mono fun e W' ⟨he, bel⟩ => ?_
  subst he
  exact ⟨_, rfl, _, _, _, [], _, [], hW', trodAll_mk1 (shut_bool Try.underlying4 _), (trodAll_cons_mk (shut_int Try.underlying2 w0) (trodAll_cons_mk (shut_int Try.underlying2 w1) (trodAll_cons_mk (Below.trod laidOut (by kernel_rfl) (of_decide_eq_true (by kernel_rfl)) k2 bel lt2) (trodAll_cons_mk (shut_int Try.underlying2 w3) trodAll_mk0)))), rfl, bel.frame _, fun h => by cases h⟩
set_option maxRecDepth 100000 in
theorem closed : joinedFacts Try.prog 16 Try.f16 Rows.fnExactMeanSignatureSpec Rows.fnExactMeanSignatureRow = true := by
  delta joinedFacts
  exact (Ws.aa (Ws.aa (Ws.aa (Ws.aa (Ws.aa (Ws.aa (Ws.aa (Ws.aa (Ws.aa (Ws.aa (Ws.aa (Ws.aa (Ws.aa (Ws.aa (Ws.aa (Ws.aa (Ws.aa (Ws.aa (Ws.aa (Ws.aa (Ws.aa (Ws.aa (Ws.aa (Ws.aa (Ws.aa (Ws.aa (Ws.aa (Ws.aa (Ws.aa (Ws.aa (Ws.aa (by kernel_rfl) (by kernel_rfl)) (by kernel_rfl)) (by kernel_rfl)) (by kernel_rfl)) (by kernel_rfl)) (by kernel_rfl)) (by kernel_rfl)) (by kernel_rfl)) (by kernel_rfl)) (by kernel_rfl)) (by kernel_rfl)) (by kernel_rfl)) (by kernel_rfl)) (by kernel_rfl)) (by kernel_rfl)) (by kernel_rfl)) (by kernel_rfl)) (by kernel_rfl)) (by kernel_rfl)) (by kernel_rfl)) (by kernel_rfl)) (by kernel_rfl)) (by kernel_rfl)) (by kernel_rfl)) Ws.mayEnter) Ws.lifts) Ws.make_) (by kernel_rfl)) (by kernel_rfl)) (by kernel_rfl)) (by kernel_rfl))
theorem over : Rows.fnExactMeanSignatureRow.holds Try.pinned (OpenSpec.ofChange Rows.fnExactMeanSignatureSpec) :=
  OpenClaim.holds_of_wide 16 Try.f16 rfl rfl rfl rfl rfl rfl rfl ⟨rfl, rfl, rfl, rfl, rfl⟩ rfl rfl rfl rfl rfl (by kernel_rfl) Try.func16 closed
    (of_decide_eq_true (by kernel_rfl)) (by unfold Func.isWrapper; first | (rw [if_pos (by decide +kernel)]; kernel_rfl) | (rw [if_neg (by decide +kernel)]; exact ⟨rfl, rfl⟩))
    (fun os started H enc _ => lifted os started H enc)
theorem proved : Rows.FnExactMeanSignatureSaid := over
#print axioms proved
end Go.Proofs.Ytaiefdhenikiiaa.fnExactMeanSignature
namespace Go.Proofs.Ytaiefdhenikiiaa
/-- The row, under a short name, for the claim. -/
theorem fnExactMeanSignature_holds : Rows.FnExactMeanSignatureSaid := fnExactMeanSignature.proved
end Go.Proofs.Ytaiefdhenikiiaa
