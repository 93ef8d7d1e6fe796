/- FnExactCountLyndon: for all pairs of numbers, the program's CountLyndon answers what the reference's answers. No condition. -/
import Derived.Test.YtdpbfjmjbhmobaaPFnExactCountLyndonx1
namespace Go.Proofs.Ytdpbfjmjbhmobaa.Pure
open Go.RowKit Go.Proofs.Ytdpbfjmjbhmobaa.PFnExactCountLyndon Go.Proofs.YtdpbfjmjbhmobaaW.PrintWords Go.Proofs.YtdpbfjmjbhmobaaW.PrintLast

theorem all_small : ∀ d : Fin 3, ∀ n : Fin 20, laws_FnExactCountLyndon.f 300 ((d.val : Int) + 1) ((n.val : Int) + 1) = some true := by decide +kernel

theorem FnExactCountLyndon : laws_FnExactCountLyndon.Pure := by
  intro d n _ _
  by_cases h : 1 ≤ d ∧ d ≤ 3 ∧ 1 ≤ n ∧ n ≤ 20
  · refine ⟨300, ?_⟩
    have h' := all_small ⟨(d - 1).toNat, by omega⟩ ⟨(n - 1).toNat, by omega⟩
    rw [show (((d - 1).toNat : Nat) : Int) + 1 = d by omega, show (((n - 1).toNat : Nat) : Int) + 1 = n by omega] at h'
    exact h'
  · refine ⟨0, ?_⟩
    unfold laws_FnExactCountLyndon.f spec_CountLyndon.f impl_CountLyndon.f spec_l01In.f impl_areLetters.f impl_within.f
    by_cases c1 : d ≥ 1 <;> by_cases c2 : d ≤ 3 <;> by_cases c3 : n ≥ 1 <;> by_cases c4 : n ≤ 20 <;> simp [c1, c2, c3, c4] <;> omega

end Go.Proofs.Ytdpbfjmjbhmobaa.Pure
