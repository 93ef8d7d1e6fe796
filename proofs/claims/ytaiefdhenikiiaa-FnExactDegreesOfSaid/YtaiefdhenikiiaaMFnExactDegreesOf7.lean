/- Texts that the proof of FnExactDegreesOf needs, part 7. No condition. -/
import Derived.Test.YtaiefdhenikiiaaMFnExactDegreesOf6
import Derived.Laws.CopyOwn
namespace Go.Proofs.Ytaiefdhenikiiaa.Base
open Go.RowKit Go.Proofs.YtaiefdhenikiiaaW.PrintWords Go.Proofs.YtaiefdhenikiiaaW.PrintLast Go.Proofs.YtaiefdhenikiiaaW.PrintMore
set_option linter.unusedVariables false
set_option linter.unusedSimpArgs false
theorem mul_one (d n : Nat) (hd : d ∈ [1, 2, 3]) (hn : n ∈ List.range 9) : bits_Mul.f 1 (aheadN d (n + 1) : Int) = some (0, (aheadN d (n + 1) : Int)) := by
  revert n; revert d
  decide +kernel
end Go.Proofs.Ytaiefdhenikiiaa.Base
namespace Go.Proofs.Ytaiefdhenikiiaa.Base
open Go.RowKit Go.Proofs.YtaiefdhenikiiaaW.PrintWords Go.Proofs.YtaiefdhenikiiaaW.PrintLast Go.Proofs.YtaiefdhenikiiaaW.PrintMore
set_option linter.unusedVariables false
set_option linter.unusedSimpArgs false
/-- Of the same sizes. -/
def Like (o p : Tb) : Prop := o.d = p.d ∧ o.n = p.n ∧ o.Ok
theorem Like.chk {o p : Tb} (h : Like o p) (b : Bool) : Like (o.chk b) p := ⟨h.1, h.2.1, h.2.2.chk b⟩
end Go.Proofs.Ytaiefdhenikiiaa.Base
namespace Go.Proofs.Ytaiefdhenikiiaa.Base
open Go.RowKit Go.Proofs.YtaiefdhenikiiaaW.PrintWords Go.Proofs.YtaiefdhenikiiaaW.PrintLast Go.Proofs.YtaiefdhenikiiaaW.PrintMore
set_option linter.unusedVariables false
set_option linter.unusedSimpArgs false
theorem Like.refl {t : Tb} (h : t.Ok) : Like t t := ⟨rfl, rfl, h⟩
theorem Like.trans {a b c : Tb} (h : Like a b) (k : Like b c) : Like a c := ⟨h.1.trans k.1, h.2.1.trans k.2.1, h.2.2⟩
theorem Like.len {a b : Tb} (h : Like a b) (hb : b.Ok) : a.vs.length = b.vs.length := by rw [h.2.2.len, hb.len, h.1, h.2.1]
theorem Like.sz {a b : Tb} (h : Like a b) : Sz b.d b.n := by have := h.2.2.sz; rwa [h.1, h.2.1] at this
/-- A table that is there, of the sizes of p. -/
structure HasT (W : World) (g h : Nat) (t p : Tb) : Prop where
  tab : TabAt W g h t
  like : Like t p
theorem HasT.below {W W' : World} {g h : Nat} {t p : Tb} (H : HasT W g h t p) (hb : Below W.heap.size W W') : HasT W' g h t p := ⟨H.tab.below hb, H.like⟩
end Go.Proofs.Ytaiefdhenikiiaa.Base
