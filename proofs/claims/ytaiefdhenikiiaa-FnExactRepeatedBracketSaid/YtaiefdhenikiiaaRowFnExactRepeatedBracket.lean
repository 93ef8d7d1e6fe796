/- The row of FnExactRepeatedBracket over its pure statement. -/
import Derived.Test.YtaiefdhenikiiaaRows
import Derived.Test.YtaiefdhenikiiaaMFnExactRepeatedBracket12
import Derived.WalkKit
import Derived.ProofKit
import Derived.OpenShut
import Derived.ShutString
import Derived.ChangeOld
import Derived.Below
import Derived.SizedLaws
import Derived.Carry
namespace Go.Proofs.Ytaiefdhenikiiaa.fnExactRepeatedBracket
open Go.ChangeShapes Go.WideShapes Go.ChangeAt Go.RowKit Go.Proofs.Ytaiefdhenikiiaa.PFnExactRepeatedBracket Go.Proofs.YtaiefdhenikiiaaW.PrintWords Go.Proofs.YtaiefdhenikiiaaO Go.Proofs.Ytaiefdhenikiiaa.Base
open Go.ChangeMaps (open_string shut_string)
set_option linter.unusedVariables false
theorem own : ownKnob Try.prog.godebug = none := by kernel_rfl
theorem laidOut : laidOutB Try.prog = true := by kernel_rfl
set_option maxRecDepth 100000 in
theorem lifted (os : Os) (started : os.Started) (H : Type) (enc : TypeId × Value → H) :
    ReturnsInHanded {} Try.checked os 10 .any (Rows.fnExactRepeatedBracketSpec.pre6 enc Try.prog Try.f10 Rows.fnExactRepeatedBracketRow.domain false) (Rows.fnExactRepeatedBracketSpec.post enc Try.prog Try.f10 false true false false) := by
  refine returnsInHanded_of_change_sized (C := Try.checked) own started (by kernel_rfl) Try.func10
    (ChangeSpec.witness6 (enc := enc) (C := Try.checked) false ⟨#[], #[.agg #[.int .i64 0, .int .i64 0, .slice none 0 0], .agg #[.int .i64 0, .int .i64 0, .slice none 0 0], .int .i64 0], []⟩ 8 (by kernel_rfl) (by kernel_rfl) (by kernel_rfl) (by kernel_rfl)) ?_
  intro W base args ds gs before hval0 hW hcnd hsz0 _
  have hsz : (DataW.weightsEach Try.prog (Try.f10.params.toList ++ Rows.fnExactRepeatedBracketSpec.plain.varTypes Try.prog) (ds ++ gs)).all (· ≤ reachBytes) = true := hsz0
  have hval : ∀ (j : Nat) t v, Try.f10.params[j]? = some t → args[j]? = some v → Value.okWide Try.prog W .any base t v := hval0
  have hW' := hW
  obtain ⟨p, q, hA0, hV, rfl, hfz, hnd⟩ := hW
  have hA : DataW.TrodAll enc Try.prog W 0 (fun _ => true) true Try.f10.params.toList args.toList ds p := hA0
  rw [Try.params10] at hA hval hsz
  obtain ⟨v0, vs0, d0, ds0, p0, q0, hargs, rfl, rfl, h0, r0⟩ := trodAll_cons hA
  obtain ⟨v1, vs1, d1, ds1, p1, q1, rfl, rfl, rfl, h1, r1⟩ := trodAll_cons r0
  obtain ⟨v2, vs2, d2, ds2, p2, q2, rfl, rfl, rfl, h2, r2⟩ := trodAll_cons r1
  obtain ⟨rfl, rfl, rfl⟩ := trodAll_nil r2
  obtain rfl : args = #[v0, v1, v2] := by cases args; simp_all
  obtain ⟨rfl, rfl⟩ := trodVars_none hV
  have k0 := h0
  have lt0 : ∀ x ∈ p0, x.block < W.heap.size := by obtain ⟨m, hm⟩ := k0; exact DataW.trod_lt m _ _ _ hm
  obtain ⟨cs0, rfl, hz0⟩ := okWide_struct Try.underlying32 (hval 0 32 v0 rfl rfl)
  obtain ⟨s0, hK0, w0⟩ : ∃ s : S32, k32.K W s cs0.toList ∧ ok32 s := by
    obtain ⟨m, hm⟩ := h0
    exact opens32.2 H enc W m _ _ hm
  obtain ⟨_, _, hE0, rfl, _, _, rfl, rfl, A0_2, c0_2, rfl, hc0_2, hr0_2⟩ := hK0
  obtain rfl : cs0 = #[.int .i64 s0.f0, .int .i64 s0.f1, .slice A0_2 s0.f2.length c0_2] := by rw [← Array.toList_inj]; exact hE0
  have k1 := h1
  have lt1 : ∀ x ∈ p1, x.block < W.heap.size := by obtain ⟨m, hm⟩ := k1; exact DataW.trod_lt m _ _ _ hm
  obtain ⟨cs1, rfl, hz1⟩ := okWide_struct Try.underlying32 (hval 1 32 v1 rfl rfl)
  obtain ⟨s1, hK1, w1⟩ : ∃ s : S32, k32.K W s cs1.toList ∧ ok32 s := by
    obtain ⟨m, hm⟩ := h1
    exact opens32.2 H enc W m _ _ hm
  obtain ⟨_, _, hE1, rfl, _, _, rfl, rfl, A1_2, c1_2, rfl, hc1_2, hr1_2⟩ := hK1
  obtain rfl : cs1 = #[.int .i64 s1.f0, .int .i64 s1.f1, .slice A1_2 s1.f2.length c1_2] := by rw [← Array.toList_inj]; exact hE1
  obtain ⟨a2, rfl, rfl, rfl, w2⟩ := open_int Try.underlying2 (hval 2 2 v2 rfl rfl) h2
  clear hA0 hval0 hsz0 hsz
  obtain ⟨k, hP⟩ := Pure.FnExactRepeatedBracket s0 s1 a2 w0 w1 w2
  refine (qc1_.calls k s0.f0 s0.f1 A0_2 c0_2 s0.f2 s1.f0 s1.f1 A1_2 c1_2 s1.f2 a2 true W hr0_2 hc0_2 hr1_2 hc1_2 hP).mono fun e W' ⟨he, bel⟩ => ?_
  subst he
  exact ⟨_, rfl, _, _, _, [], _, [], hW', trodAll_mk1 (shut_bool Try.underlying4 _), (trodAll_cons_mk (Below.trod laidOut (by kernel_rfl) (of_decide_eq_true (by kernel_rfl)) k0 bel lt0) (trodAll_cons_mk (Below.trod laidOut (by kernel_rfl) (of_decide_eq_true (by kernel_rfl)) k1 bel lt1) (trodAll_cons_mk (shut_int Try.underlying2 w2) trodAll_mk0))), rfl, bel.frame _, fun h => by cases h⟩
set_option maxRecDepth 100000 in
theorem closed : joinedFacts Try.prog 10 Try.f10 Rows.fnExactRepeatedBracketSpec Rows.fnExactRepeatedBracketRow = true := by
  delta joinedFacts
  exact (Ws.aa (Ws.aa (Ws.aa (Ws.aa (Ws.aa (Ws.aa (Ws.aa (Ws.aa (Ws.aa (Ws.aa (Ws.aa (Ws.aa (Ws.aa (Ws.aa (Ws.aa (Ws.aa (Ws.aa (Ws.aa (Ws.aa (Ws.aa (Ws.aa (Ws.aa (Ws.aa (Ws.aa (Ws.aa (Ws.aa (Ws.aa (Ws.aa (Ws.aa (Ws.aa (Ws.aa (by kernel_rfl) (by kernel_rfl)) (by kernel_rfl)) (by kernel_rfl)) (by kernel_rfl)) (by kernel_rfl)) (by kernel_rfl)) (by kernel_rfl)) (by kernel_rfl)) (by kernel_rfl)) (by kernel_rfl)) (by kernel_rfl)) (by kernel_rfl)) (by kernel_rfl)) (by kernel_rfl)) (by kernel_rfl)) (by kernel_rfl)) (by kernel_rfl)) (by kernel_rfl)) (by kernel_rfl)) (by kernel_rfl)) (by kernel_rfl)) (by kernel_rfl)) (by kernel_rfl)) (by kernel_rfl)) Ws.mayEnter) Ws.lifts) Ws.make_) (by kernel_rfl)) (by kernel_rfl)) (by kernel_rfl)) (by kernel_rfl))
theorem over : Rows.fnExactRepeatedBracketRow.holds Try.pinned (OpenSpec.ofChange Rows.fnExactRepeatedBracketSpec) :=
  OpenClaim.holds_of_wide 10 Try.f10 rfl rfl rfl rfl rfl rfl rfl ⟨rfl, rfl, rfl, rfl, rfl⟩ rfl rfl rfl rfl rfl (by kernel_rfl) Try.func10 closed
    (of_decide_eq_true (by kernel_rfl)) (by unfold Func.isWrapper; first | (rw [if_pos (by decide +kernel)]; kernel_rfl) | (rw [if_neg (by decide +kernel)]; exact ⟨rfl, rfl⟩))
    (fun os started H enc _ => lifted os started H enc)
theorem proved : Rows.FnExactRepeatedBracketSaid := over
#print axioms proved
end Go.Proofs.Ytaiefdhenikiiaa.fnExactRepeatedBracket
namespace Go.Proofs.Ytaiefdhenikiiaa
/-- The row, under a short name, for the claim. -/
theorem fnExactRepeatedBracket_holds : Rows.FnExactRepeatedBracketSaid := fnExactRepeatedBracket.proved
end Go.Proofs.Ytaiefdhenikiiaa
