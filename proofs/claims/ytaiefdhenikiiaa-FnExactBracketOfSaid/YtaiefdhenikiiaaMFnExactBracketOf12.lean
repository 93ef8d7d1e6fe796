/- Texts that the proof of FnExactBracketOf needs, part 12. No condition. -/
import Derived.Test.YtaiefdhenikiiaaMFnExactBracketOf11
import Derived.ChangeArms
import Derived.Deep.Slices
import Derived.Lib.SmallJoins
import Derived.SizedLaws
import Derived.WideShapes
namespace Go.Proofs.Ytaiefdhenikiiaa.PFnExactBracketOf
open Go.RowKit Go.Proofs.YtaiefdhenikiiaaW.PrintWords Go.Proofs.Ytaiefdhenikiiaa.Base
set_option linter.unusedVariables false
def laws_FnExactBracketOf.Pure : Prop := ∀ (a0 : Int) (a1 : Int) (a2 : ByteArray), (Lit.int .i64 a0).wf = true → (Lit.int .i64 a1).wf = true → a2.size ≤ 140737488351232 → ∃ k, laws_FnExactBracketOf.f k a0 a1 a2 = some true
end Go.Proofs.Ytaiefdhenikiiaa.PFnExactBracketOf
namespace Go.Proofs.Ytaiefdhenikiiaa.Pure
open Go.RowKit Go.Proofs.Ytaiefdhenikiiaa.Base Go.Proofs.Ytaiefdhenikiiaa.PFnExactBracketOf Go.Proofs.YtaiefdhenikiiaaW.PrintWords Go.Proofs.YtaiefdhenikiiaaW.PrintLast
set_option linter.unusedSimpArgs false
set_option linter.unusedVariables false
theorem FnExactBracketOf : laws_FnExactBracketOf.Pure := by
  intro a0 a1 a2 _ _ hu0
  by_cases hbig : (a2.size : Int) > 1048576
  · exact ⟨0, by unfold laws_FnExactBracketOf.f; rw [if_pos hbig]⟩
  have hu : a2.size ≤ 1048576 := by omega
  have hlen := brackR_len a0 a1 a2
  obtain ⟨⟨R1, R2, R, C⟩, hR⟩ : ∃ q, q = brackR a0 a1 a2 := ⟨_, rfl⟩
  rw [← hR] at hlen
  have hI : impl_BracketOf.f a0 a1 a2 = some (R1, R2, R, C) := by unfold impl_BracketOf.f; rw [if_pos hu, hR]
  have hS : spec_BracketOf.f a0 a1 a2 = some (R1, R2, R, C) := by unfold spec_BracketOf.f; rw [if_pos hu, hR]
  have eR := eqSer_id R1 R2 R hlen
  obtain ⟨R', mR, dR⟩ := marksSer_id R1 R2 R hlen
  refine Ev.rounds (r := true) ?_
  unfold laws_FnExactBracketOf.f
  simp only [if_neg hbig, hS, hI, Option.bind_some]
  refine Ev.bind eR ?_
  simp only [if_true, bne_self_eq_false]
  have j1 : Ev (fun k => laws_FnExactBracketOf.j1 k ((1 + 3 * R.length : Nat) : Int) false R1 R2 R') true := by
    refine Ev.step (f := fun k => (laws_heldSeries.f k R1 R2 R' 1).bind fun t => if t < 0 then some false else if t = ((1 + 3 * R.length : Nat) : Int) then some true else some false) (fun k => ?_) (Ev.bind dR ?_)
    · simp only [laws_FnExactBracketOf.j1, Bool.false_eq_true, if_false]
    · simp only [show ¬ ((1 + 3 * R.length : Nat) : Int) < 0 by omega, if_false, if_true]
      exact Ev.now _
  refine Ev.step (f := fun k => (laws_markSeries.f k R1 R2 R 1).bind fun b => (laws_heldSeries.f k R1 R2 b.2 1).bind fun t => if t < 0 then some false else if t = b.1 then (laws_eqSeries.f k R1 R2 R R1 R2 R).bind fun t => if t = true then laws_FnExactBracketOf.j1 k b.1 (C != C) R1 R2 b.2 else laws_FnExactBracketOf.j1 k b.1 true R1 R2 b.2 else some false) (fun k => ?_) (Ev.bind mR (Ev.bind dR ?_))
  · simp only [laws_FnExactBracketOf.j0, Bool.false_eq_true, if_false, hI, Option.bind_some]
  · simp only [show ¬ ((1 + 3 * R.length : Nat) : Int) < 0 by omega, if_false, if_true]
    refine Ev.bind eR ?_
    simp only [if_true, bne_self_eq_false]
    exact j1
end Go.Proofs.Ytaiefdhenikiiaa.Pure
