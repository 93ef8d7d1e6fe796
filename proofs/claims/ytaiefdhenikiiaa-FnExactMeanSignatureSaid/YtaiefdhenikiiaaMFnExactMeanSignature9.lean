/- Texts that the proof of FnExactMeanSignature needs, part 9. No condition. -/
import Derived.Test.YtaiefdhenikiiaaMFnExactMeanSignature8
import Derived.ChangeArms
import Derived.Deep.Slices
import Derived.Lib.SmallJoins
import Derived.SizedLaws
import Derived.WideShapes
namespace Go.Proofs.YtaiefdhenikiiaaO
open Go.ChangeShapes Go.WideShapes Go.RowKit Go.Proofs.YtaiefdhenikiiaaW.PrintWords
set_option linter.unusedVariables false
/-- Whatever reads at type t is a value of the kind d that is ok. -/
def Opens (P:Program) (t:TypeId) {α:Type} (d:Kd α) (ok:α→Prop):Prop :=
  P.cellsOf t=d.sz∧∀ (H:Type) (enc:TypeId × Value→H) (w:World) (fuel:Nat) (cs:List Value) (x:DataW H × List MemPlace),DataW.trod enc P w 0 (fun _=>true) true fuel t cs=some x→∃ a,d.K w a cs∧ok a
section
variable {P:Program} {t e:TypeId} {α β:Type}
theorem opens_int {k:IntKind} (ht:P.underlying t=some (.int k)) (hc:P.cellsOf t=1):Opens P t (Kd.int k) (fun a=>(Lit.int k a).wf=true):=by
  refine ⟨hc,fun H enc w fuel cs x h=>?_⟩
  obtain ⟨n,rfl,_,hw⟩:=DataW.trod_int ht h
  exact ⟨n,rfl,hw⟩
theorem cells_get {w:World} {a:Addr} {n:Nat} {cs:List Value} (h:w.cells? 0 a n=some cs):cs.length=n∧∀ i u,cs[i]?=some u→w.cell? (a.add i)=some u:=by
  unfold World.cells? at h
  rw [if_pos (Nat.zero_le _)] at h
  have hl:=mapM_some_length h
  rw [List.length_range] at hl
  refine ⟨hl,fun i u hu=>?_⟩
  have hi:i < n:=by rw [← hl];exact (List.getElem?_eq_some_iff.1 hu).1
  have:=mapM_some_get h i i (by simp [hi])
  rw [this];exact hu
theorem opens_slice {d:Kd α} {ok:α→Prop} (ht:P.underlying t=some (.slice e)) (hc:P.cellsOf t=1) (ho:Opens P e d ok):Opens P t (Kd.slice e d) (fun l=>l.length≤9223372036854775807∧∀ a ∈ l,ok a):=by
  obtain ⟨hz,ho⟩:=ho
  refine ⟨hc,fun H enc w fuel cs x h=>?_⟩
  rcases Go.Deep.open_slice ht h with ⟨rfl,_⟩|⟨a,len,cap,m,n,D,Pl,rfl,_,hl,hm,hmm,_,hx⟩
  · exact ⟨[],⟨none,0,rfl,Nat.le_refl _,rfl,by simp,fun h=>absurd h (by simp)⟩,by simp,by simp⟩
  · simp only [if_true] at hmm
    subst hmm
    have hm':m≤9223372036854775807:=by simpa [maxLen] using hm
    have key:∀ q,q≤len→∃ l:List α,l.length=q∧(∀ p ∈ l,ok p)∧∀ j p,l[j]?=some p→∃ c,c.length=d.sz∧d.K w p c∧∀ i u,c[i]?=some u→w.cell? (a.add (j * d.sz+i))=some u:=by
      intro q
      induction q with
      | zero=>exact fun _=>⟨[],rfl,by simp,fun j p hp=>by simp at hp⟩
      | succ q ih =>
        intro hq
        obtain ⟨l,h1,h2,h3⟩:=ih (by omega)
        obtain ⟨cs',hcs,htr⟩:=hx q (by omega)
        obtain ⟨p,hK,hok⟩:=ho H enc w _ _ _ htr
        rw [hz] at hcs
        obtain ⟨hlen,hget⟩:=cells_get hcs
        refine ⟨l ++ [p],by simp [h1],?_,fun j p' hp'=>?_⟩
        · intro p' hp'
          rcases List.mem_append.1 hp' with hp'|hp'
          · exact h2 _ hp'
          · rw [List.mem_singleton.1 hp'];exact hok
        · by_cases hj:j < l.length
          · rw [List.getElem?_append_left hj] at hp'
            exact h3 j p' hp'
          · rw [List.getElem?_append_right (by omega)] at hp'
            have hj':j=q:=by
              have:=(List.getElem?_eq_some_iff.1 hp').1
              simp at this;omega
            subst hj'
            rw [h1,Nat.sub_self] at hp'
            obtain rfl:p=p':=by simpa using hp'
            exact ⟨cs',hlen,hK,fun i u hu=>by rw [← Go.Deep.add_add];exact hget i u hu⟩
    obtain ⟨l,h1,h2,h3⟩:=key len (Nat.le_refl _)
    subst h1
    exact ⟨l,⟨some a,m,rfl,hl,rfl,by omega,fun _=>⟨a,rfl,h3⟩⟩,by omega,h2⟩
end
end Go.Proofs.YtaiefdhenikiiaaO
