/- Texts that the proof of FnExactDynkinMap needs, part 9. No condition. -/
import Derived.Test.YtaiefdhenikiiaaMFnExactDynkinMap8
import Derived.ChangeArms
import Derived.Deep.Slices
import Derived.Lib.SmallJoins
import Derived.SizedLaws
import Derived.WideShapes
namespace Go.Proofs.YtaiefdhenikiiaaO
open Go.ChangeShapes Go.WideShapes Go.RowKit Go.Proofs.YtaiefdhenikiiaaW.PrintWords
set_option linter.unusedVariables false
/-- Whatever reads at type t is a value of the kind d that is ok. -/
def Opens (P:Program) (t:TypeId) {α:Type} (d:Kd α) (ok:α→Prop):Prop :=
  P.cellsOf t=d.sz∧∀ (H:Type) (enc:TypeId × Value→H) (w:World) (fuel:Nat) (cs:List Value) (x:DataW H × List MemPlace),DataW.trod enc P w 0 (fun _=>true) true fuel t cs=some x→∃ a,d.K w a cs∧ok a
section
variable {P:Program} {t e:TypeId} {α β:Type}
theorem opens_int {k:IntKind} (ht:P.underlying t=some (.int k)) (hc:P.cellsOf t=1):Opens P t (Kd.int k) (fun a=>(Lit.int k a).wf=true):=by
  refine ⟨hc,fun H enc w fuel cs x h=>?_⟩
  obtain ⟨n,rfl,_,hw⟩:=DataW.trod_int ht h
  exact ⟨n,rfl,hw⟩
theorem opens_string (ht:P.underlying t=some .string) (hc:P.cellsOf t=1):Opens P t Kd.string (fun a=>a.size≤9223372036854775807):=by
  refine ⟨hc,fun H enc w fuel cs x h=>?_⟩
  obtain ⟨s,rfl,_,hs⟩:=DataW.trod_string ht h
  exact ⟨s,rfl,by simpa [maxLen] using hs⟩
theorem cells_get {w:World} {a:Addr} {n:Nat} {cs:List Value} (h:w.cells? 0 a n=some cs):cs.length=n∧∀ i u,cs[i]?=some u→w.cell? (a.add i)=some u:=by
  unfold World.cells? at h
  rw [if_pos (Nat.zero_le _)] at h
  have hl:=mapM_some_length h
  rw [List.length_range] at hl
  refine ⟨hl,fun i u hu=>?_⟩
  have hi:i < n:=by rw [← hl];exact (List.getElem?_eq_some_iff.1 hu).1
  have:=mapM_some_get h i i (by simp [hi])
  rw [this];exact hu
theorem opens_slice {d:Kd α} {ok:α→Prop} (ht:P.underlying t=some (.slice e)) (hc:P.cellsOf t=1) (ho:Opens P e d ok):Opens P t (Kd.slice e d) (fun l=>l.length≤9223372036854775807∧∀ a ∈ l,ok a):=by
  obtain ⟨hz,ho⟩:=ho
  refine ⟨hc,fun H enc w fuel cs x h=>?_⟩
  rcases Go.Deep.open_slice ht h with ⟨rfl,_⟩|⟨a,len,cap,m,n,D,Pl,rfl,_,hl,hm,hmm,_,hx⟩
  · exact ⟨[],⟨none,0,rfl,Nat.le_refl _,rfl,by simp,fun h=>absurd h (by simp)⟩,by simp,by simp⟩
  · simp only [if_true] at hmm
    subst hmm
    have hm':m≤9223372036854775807:=by simpa [maxLen] using hm
    have key:∀ q,q≤len→∃ l:List α,l.length=q∧(∀ p ∈ l,ok p)∧∀ j p,l[j]?=some p→∃ c,c.length=d.sz∧d.K w p c∧∀ i u,c[i]?=some u→w.cell? (a.add (j * d.sz+i))=some u:=by
      intro q
      induction q with
      | zero=>exact fun _=>⟨[],rfl,by simp,fun j p hp=>by simp at hp⟩
      | succ q ih =>
        intro hq
        obtain ⟨l,h1,h2,h3⟩:=ih (by omega)
        obtain ⟨cs',hcs,htr⟩:=hx q (by omega)
        obtain ⟨p,hK,hok⟩:=ho H enc w _ _ _ htr
        rw [hz] at hcs
        obtain ⟨hlen,hget⟩:=cells_get hcs
        refine ⟨l ++ [p],by simp [h1],?_,fun j p' hp'=>?_⟩
        · intro p' hp'
          rcases List.mem_append.1 hp' with hp'|hp'
          · exact h2 _ hp'
          · rw [List.mem_singleton.1 hp'];exact hok
        · by_cases hj:j < l.length
          · rw [List.getElem?_append_left hj] at hp'
            exact h3 j p' hp'
          · rw [List.getElem?_append_right (by omega)] at hp'
            have hj':j=q:=by
              have:=(List.getElem?_eq_some_iff.1 hp').1
              simp at this;omega
            subst hj'
            rw [h1,Nat.sub_self] at hp'
            obtain rfl:p=p':=by simpa using hp'
            exact ⟨cs',hlen,hK,fun i u hu=>by rw [← Go.Deep.add_add];exact hget i u hu⟩
    obtain ⟨l,h1,h2,h3⟩:=key len (Nat.le_refl _)
    subst h1
    exact ⟨l,⟨some a,m,rfl,hl,rfl,by omega,fun _=>⟨a,rfl,h3⟩⟩,by omega,h2⟩
theorem opens_iso {d:Kd α} {ok:α→Prop} (f:β→α) (g:α→β) (hg:∀ a,f (g a)=a) (ho:Opens P t d ok):Opens P t (Kd.iso d f) (fun b=>ok (f b)):=by
  refine ⟨ho.1,fun H enc w fuel cs x h=>?_⟩
  obtain ⟨a,hK,hok⟩:=ho.2 H enc w fuel cs x h
  refine ⟨g a,?_,?_⟩
  · show d.K w (f (g a)) cs
    rw [hg];exact hK
  · show ok (f (g a))
    rw [hg];exact hok
theorem opens_two {d0:Kd α} {d1:Kd β} {ok0:α→Prop} {ok1:β→Prop} {f0 f1:Field} (hs:P.underlying t=some (.struct #[f0,f1])) (o0:f0.offset=0) (o1:f1.offset=d0.sz) (hc:P.cellsOf t=d0.sz+d1.sz)
    (h0:Opens P f0.type d0 ok0) (h1:Opens P f1.type d1 ok1):Opens P t (Kd.pair d0 d1) (fun x=>ok0 x.1∧ok1 x.2):=by
  refine ⟨hc,fun H enc w fuel cs x h=>?_⟩
  obtain ⟨xs,n,_,_,hl,hxl,hf⟩:=DataW.trod_struct hs h
  have hx0:=hf 0 f0 rfl
  have hx1:=hf 1 f1 rfl
  have l2:xs.length=2:=hxl
  rw [List.getElem?_eq_getElem (by omega)] at hx0 hx1
  obtain ⟨a0,k0,p0⟩:=h0.2 H enc w _ _ _ hx0
  obtain ⟨a1,k1,p1⟩:=h1.2 H enc w _ _ _ hx1
  rw [o0,h0.1,List.drop_zero] at k0
  rw [o1,h1.1] at k1
  refine ⟨(a0,a1),⟨_,_,?_,k0,k1⟩,p0,p1⟩
  rw [List.take_of_length_le (l:=cs.drop d0.sz) (by rw [List.length_drop,hl,hc];omega),List.take_append_drop]
theorem opens_three {γ:Type} {d0:Kd α} {d1:Kd β} {d2:Kd γ} {ok0:α→Prop} {ok1:β→Prop} {ok2:γ→Prop} {f0 f1 f2:Field} (hs:P.underlying t=some (.struct #[f0,f1,f2])) (o0:f0.offset=0) (o1:f1.offset=d0.sz) (o2:f2.offset=d0.sz+d1.sz) (hc:P.cellsOf t=d0.sz+(d1.sz+d2.sz))
    (h0:Opens P f0.type d0 ok0) (h1:Opens P f1.type d1 ok1) (h2:Opens P f2.type d2 ok2):Opens P t (Kd.pair d0 (Kd.pair d1 d2)) (fun x=>ok0 x.1∧ok1 x.2.1∧ok2 x.2.2):=by
  refine ⟨hc,fun H enc w fuel cs x h=>?_⟩
  obtain ⟨xs,n,_,_,hl,hxl,hf⟩:=DataW.trod_struct hs h
  have hx0:=hf 0 f0 rfl
  have hx1:=hf 1 f1 rfl
  have hx2:=hf 2 f2 rfl
  have l2:xs.length=3:=hxl
  rw [List.getElem?_eq_getElem (by omega)] at hx0 hx1 hx2
  obtain ⟨a0,k0,p0⟩:=h0.2 H enc w _ _ _ hx0
  obtain ⟨a1,k1,p1⟩:=h1.2 H enc w _ _ _ hx1
  obtain ⟨a2,k2,p2⟩:=h2.2 H enc w _ _ _ hx2
  rw [o0,h0.1,List.drop_zero] at k0
  rw [o1,h1.1] at k1
  rw [o2,h2.1] at k2
  refine ⟨(a0,a1,a2),⟨_,_,?_,k0,_,_,rfl,k1,k2⟩,p0,p1,p2⟩
  rw [List.take_of_length_le (l:=cs.drop (d0.sz+d1.sz)) (by rw [List.length_drop,hl,hc];omega),← List.drop_drop,List.take_append_drop,List.take_append_drop]
end
end Go.Proofs.YtaiefdhenikiiaaO
namespace Go.Proofs.Ytaiefdhenikiiaa.Base
open Go.RowKit Go.Proofs.YtaiefdhenikiiaaW.PrintWords Go.Proofs.YtaiefdhenikiiaaW.PrintLast Go.Proofs.YtaiefdhenikiiaaW.PrintMore
set_option linter.unusedVariables false
set_option linter.unusedSimpArgs false
theorem sin_is (x lo hi:Int):qw1_.f x lo hi=some (decide (lo≤x∧x≤hi)):=by
  unfold qw1_.f
  by_cases h:lo≤x
  · simp [h]
  · simp [h]
theorem sfrac_is (a:S77):Ev (fun k=>qv_.f k a.f0 a.f1) (decide (okF a)):=by
  by_cases h1:1≤a.f1∧a.f1≤1000000000
  · by_cases h2:-1000000000≤a.f0∧a.f0≤1000000000
    · have:=sisfrac_is a.f0 a.f1 (by omega) (by omega)
      exact this
    · unfold qv_.f
      simp only [sin_is,Option.bind_some]
      simp only [h1,h2,and_self,decide_true,decide_false,if_true,Bool.false_eq_true,if_false]
      rw [decide_eq_false (fun h:okF a=>h2 ⟨h.2.2.1,h.2.2.2.1⟩)]
      exact Ev.now _
  · unfold qv_.f
    simp only [sin_is,Option.bind_some]
    simp only [h1,decide_false,Bool.false_eq_true,if_false]
    rw [decide_eq_false (fun h:okF a=>h1 ⟨h.1,h.2.1⟩)]
    exact Ev.now _
theorem sbef_is (a b:ByteArray):qa2_.f a b=some (befW a b):=by
  unfold qa2_.f befW
  by_cases h:(a.size:Int)=(b.size:Int)
  · rw [if_pos h,if_neg (by simpa using h)]
  · rw [if_neg h,if_pos h]
theorem sword_loop (d:Nat) (hd:d≤9) (s:ByteArray) (hs:s.size≤9223372036854775806) (m:Nat):∀ i:Nat,i+m=s.size →
    Ev (fun k=>qd1_.l0 k (d:Int) s (i:Int)) ((s.data.toList.drop i).all (letB d)):=by
  have hsz:s.data.toList.length=s.size:=by rw [Array.length_toList];rfl
  induction m with
  | zero =>
    intro i hi
    refine Ev.step (f:=fun _=>some true) (fun k=>?_) ?_
    · simp only [qd1_.l0]
      rw [if_neg (by omega)]
    · rw [List.drop_eq_nil_of_le (by omega)]
      exact Ev.now _
  | succ m ih =>
    intro i hi
    have hlt:i < s.data.toList.length:=by omega
    have hls:i < s.size:=by omega
    have hb:bt s (i:Int)=((s.data.toList[i]).toNat:Int):=by
      unfold bt
      rw [dif_pos (by simpa using hls)]
      rfl
    have hr:(s.data.toList[i]).toNat < 256:=(s.data.toList[i]).toNat_lt
    obtain ⟨b,hbb⟩:∃ b,b=s.data.toList[i]:=⟨_,rfl⟩
    rw [List.drop_eq_getElem_cons hlt,List.all_cons,← hbb]
    rw [← hbb] at hb hr
    by_cases c:letB d b=true
    · refine Ev.step (fun k=>?_) (by rw [c,Bool.true_and];exact ih (i+1) (by omega))
      have c':=of_decide_eq_true c
      simp only [qd1_.l0]
      rw [if_pos (by omega),if_pos (by omega),hb,if_neg (by omega),if_neg (by omega),w64 (by omega) (by omega)]
      rfl
    · have cf:letB d b=false:=by simpa using c
      have c':=of_decide_eq_false cf
      rw [cf,Bool.false_and]
      refine Ev.step (f:=fun _=>some false) (fun k=>?_) (Ev.now _)
      simp only [qd1_.l0]
      rw [if_pos (by omega),if_pos (by omega),hb]
      by_cases c2:(b.toNat:Int) < 48
      · rw [if_pos c2]
      · rw [if_neg c2,if_pos (by omega)]
def lettersB (d:Nat) (s:ByteArray):Bool:=s.data.toList.all (letB d)
theorem sword_is (d:Nat) (hd:d≤9) (s:ByteArray) (hs:s.size≤9223372036854775806):Ev (fun k=>qd1_.f k (d:Int) s) (lettersB d s) :=
  sword_loop d hd s hs s.size 0 (by omega)
/-- Terms as_ told,behind a term. -/
def goodP (d n:Nat):Option S79→List S79→Bool
  | _,[]=>true
  | y,x :: l=>wordB d n x.f0 && (decide (okF x.f1) && ((x.f1.f0 != 0) && ((match y with|none=>true|some y=>befW y.f0 x.f0) && goodP d n (some x) l)))
theorem goodP_step (d n:Nat) (y:Option S79) (x:S79) (l:List S79):goodP d n y (x :: l)=(wordB d n x.f0 && (decide (okF x.f1) && ((x.f1.f0 != 0) && ((match y with|none=>true|some y=>befW y.f0 x.f0) && goodP d n (some x) l)))):=rfl
theorem goodP_cons (d n:Nat):∀ (l:List S79) (x:S79),goodB d n (x :: l)=(termB d n none x && goodP d n (some x) l)
  | [],x=>by simp [goodB,goodP]
  | y :: l,x=>by
    have ih:=goodP_cons d n l y
    have e:goodB d n (x :: y :: l)=(termB d n none x && (befW x.f0 y.f0 && goodB d n (y :: l))):=rfl
    rw [e,ih]
    rw [goodP_step]
    unfold termB
    simp only [Bool.and_true]
    cases wordB d n y.f0 <;> cases decide (okF y.f1) <;> cases (y.f1.f0 != 0) <;> cases befW x.f0 y.f0 <;> simp
theorem goodP_is (d n:Nat) (l:List S79):goodP d n none l=goodB d n l:=by
  cases l with
  | nil=>rfl
  | cons x l=>rw [goodP_cons,goodP_step];unfold termB;simp only [Bool.and_true,Bool.true_and];cases wordB d n x.f0 <;> cases decide (okF x.f1) <;> cases (x.f1.f0 != 0) <;> rfl
def prevT (l:List S79) (j:Nat):Option S79:=if j=0 then none else l[j - 1]?
def smallT (l:List S79):Prop:=l.length≤1048576∧∀ x ∈ l,x.f0.size≤1048576
theorem are_loop (d n:Nat) (hd:d≤9) (l:List S79) (hl:smallT l) (m:Nat):∀ j:Nat,j+m=l.length →
    Ev (fun k=>ql_.l0 k (d:Int) (n:Int) l l (l.length:Int) (j:Int)) (goodP d n (prevT l j) (l.drop j)):=by
  induction m with
  | zero =>
    intro j hj
    refine Ev.step (f:=fun _=>some true) (fun k=>?_) ?_
    · simp only [ql_.l0];rw [if_neg (by omega)]
    · rw [List.drop_eq_nil_of_le (by omega)];exact Ev.now _
  | succ m ih =>
    intro j hj
    have hjl:j < l.length:=by omega
    have hlen:=hl.1
    have ih:=ih (j+1) (by omega)
    obtain ⟨x,hx⟩:∃ x,x=l[j]:=⟨_,rfl⟩
    have hxs:x.f0.size≤1048576:=by rw [hx];exact hl.2 _ (List.getElem_mem hjl)
    have hpn:prevT l (j+1)=some x:=by unfold prevT;rw [if_neg (by omega),hx];simp [List.getElem?_eq_getElem hjl]
    rw [hpn] at ih
    rw [List.drop_eq_getElem_cons hjl,← hx]
    rw [goodP_step]
    have hw:=word_is d n hd x.f0 (by omega)
    have hf:=frac_is x.f1
    refine Ev.step (f:=fun k=>(qr1_.f k (d:Int) x.f0 (n:Int)).bind fun t=>if t=true then (qe1_.f k x.f1.f0 x.f1.f1).bind fun t=>(if t=true then (if x.f1.f0=0 then some false else (if (j:Int) > 0 then ((qr2_.f (rd_T79 l (wrap64 ((j:Int) - 1))).f0 x.f0).bind fun t=>if t ≥ 0 then some false else ql_.l0 k (d:Int) (n:Int) l l (l.length:Int) ((j+1:Nat):Int)) else ql_.l0 k (d:Int) (n:Int) l l (l.length:Int) ((j+1:Nat):Int))) else some false) else some false) (fun k=>?_) (Ev.bind hw ?_)
    · simp only [ql_.l0]
      rw [if_pos (by omega),if_pos (by omega),if_pos (by omega),rd79 l j hjl,← hx,w64 (x:=(j:Int)+1) (by omega) (by omega)]
      by_cases cj:(j:Int) > 0
      · simp only [if_pos cj,w64 (x:=(j:Int) - 1) (by omega) (by omega),if_pos (show 0≤(j:Int) - 1 by omega),if_pos (show (j:Int) - 1 < (l.length:Int) by omega)]
        rfl
      · simp only [if_neg cj]
        rfl
    · cases cw:wordB d n x.f0 with
      | false=>simp only [Bool.false_eq_true,if_false,Bool.false_and];exact Ev.now _
      | true =>
        simp only [if_true,Bool.true_and]
        refine Ev.bind hf ?_
        cases cf:decide (okF x.f1) with
        | false=>simp only [Bool.false_eq_true,if_false,Bool.false_and];exact Ev.now _
        | true =>
          simp only [if_true,Bool.true_and]
          by_cases cz:x.f1.f0=0
          · simp only [cz,if_true]
            exact Ev.now _
          · simp only [if_neg cz,show (x.f1.f0 != 0)=true from by simpa using cz,Bool.true_and]
            by_cases cj:j=0
            · subst cj
              have:prevT l 0=none:=rfl
              rw [this]
              simp only [Bool.true_and]
              simp only [show ¬ ((0:Nat):Int) > 0 by omega,if_false]
              exact ih
            · have hp:prevT l j=some (l[j - 1]'(by omega)):=by unfold prevT;rw [if_neg cj,List.getElem?_eq_getElem (by omega)]
              rw [hp]
              simp only [show ((j:Nat):Int) > 0 by omega,if_true,w64 (x:=(j:Int) - 1) (by omega) (by omega)]
              have hr:rd_T79 l ((j:Int) - 1)=l[j - 1]'(by omega):=by rw [show (j:Int) - 1=((j - 1:Nat):Int) by omega];exact rd79 l (j - 1) (by omega)
              rw [hr]
              have hys:(l[j - 1]'(by omega)).f0.size≤1048576:=hl.2 _ (List.getElem_mem _)
              have hc:=cmp_bef (l[j - 1]'(by omega)).f0 x.f0 (by omega) (by omega)
              unfold qr2_.f
              simp only [Option.bind_some]
              rw [← hc]
              by_cases cc:cmpW (l[j - 1]'(by omega)).f0 x.f0 < 0
              · rw [decide_eq_true cc,Bool.true_and]
                simp only [if_neg (show ¬ cmpW (l[j - 1]'(by omega)).f0 x.f0 ≥ 0 by omega)]
                exact ih
              · rw [decide_eq_false cc,Bool.false_and]
                simp only [if_pos (show cmpW (l[j - 1]'(by omega)).f0 x.f0 ≥ 0 by omega)]
                exact Ev.now _
theorem are_is (d n:Nat) (hd:d≤9) (l:List S79) (hl:smallT l):Ev (fun k=>ql_.f k (d:Int) (n:Int) l) (goodB d n l):=by
  have:=are_loop d n hd l hl l.length 0 (by omega)
  rw [List.drop_zero,show prevT l 0=none from rfl,goodP_is] at this
  exact this
/-- The reference's check of a series. -/
theorem sis_loop (d n:Nat) (hd:d≤9) (l:List S79) (hl:smallT l) (m:Nat):∀ j:Nat,j+m=l.length →
    Ev (fun k=>qw_.l0 k (j:Int) (d:Int) (n:Int) l) (goodP d n (prevT l j) (l.drop j)):=by
  induction m with
  | zero =>
    intro j hj
    refine Ev.step (f:=fun _=>some true) (fun k=>?_) ?_
    · simp only [qw_.l0];rw [if_neg (by omega)]
    · rw [List.drop_eq_nil_of_le (by omega)];exact Ev.now _
  | succ m ih =>
    intro j hj
    have hjl:j < l.length:=by omega
    have hlen:=hl.1
    have ih:=ih (j+1) (by omega)
    obtain ⟨x,hx⟩:∃ x,x=l[j]:=⟨_,rfl⟩
    have hxs:x.f0.size≤1048576:=by rw [hx];exact hl.2 _ (List.getElem_mem hjl)
    have hpn:prevT l (j+1)=some x:=by unfold prevT;rw [if_neg (by omega),hx];simp [List.getElem?_eq_getElem hjl]
    rw [hpn] at ih
    rw [List.drop_eq_getElem_cons hjl,← hx]
    have hw:=sword_is d hd x.f0 (by omega)
    have hf:=sfrac_is x.f1
    have hbad:Ev (fun k=>qw_.j1 k (j:Int) true (d:Int) (n:Int) l x.f0 x.f1.f0 x.f1.f1) false:=by
      refine Ev.step (f:=fun _=>some false) (fun k=>?_) (Ev.now _)
      simp only [qw_.j1,if_true]
    have hgo:Ev (fun k=>qw_.j1 k (j:Int) false (d:Int) (n:Int) l x.f0 x.f1.f0 x.f1.f1) ((match prevT l j with|none=>true|some y=>befW y.f0 x.f0) && goodP d n (some x) (l.drop (j+1))):=by
      by_cases cj:j=0
      · subst cj
        have:prevT l 0=none:=rfl
        rw [this]
        simp only [Bool.true_and]
        refine Ev.step (fun k=>?_) ih
        simp only [qw_.j1,Bool.false_eq_true,if_false]
        rw [if_neg (by omega),w64 (by omega) (by omega)];rfl
      · have hp:prevT l j=some (l[j - 1]'(by omega)):=by unfold prevT;rw [if_neg cj,List.getElem?_eq_getElem (by omega)]
        rw [hp]
        dsimp only
        have hr:rd_T79 l ((j:Int) - 1)=l[j - 1]'(by omega):=by rw [show (j:Int) - 1=((j - 1:Nat):Int) by omega];exact rd79 l (j - 1) (by omega)
        refine Ev.step (f:=fun k=>if befW (l[j - 1]'(by omega)).f0 x.f0=true then qw_.l0 k ((j+1:Nat):Int) (d:Int) (n:Int) l else some false) (fun k=>?_) ?_
        · simp only [qw_.j1,Bool.false_eq_true,if_false]
          rw [if_pos (by omega),w64 (x:=(j:Int) - 1) (by omega) (by omega),if_pos (by omega),if_pos (by omega),hr,sbef_is,w64 (x:=(j:Int)+1) (by omega) (by omega)]
          rfl
        · cases befW (l[j - 1]'(by omega)).f0 x.f0 with
          | false=>simp only [Bool.false_eq_true,if_false,Bool.false_and];exact Ev.now _
          | true=>simp only [if_true,Bool.true_and];exact ih
    rw [goodP_step]
    by_cases cs:(x.f0.size:Int) > (n:Int)
    · have:wordB d n x.f0=false:=by unfold wordB;rw [decide_eq_false (by omega),Bool.and_false]
      rw [this,Bool.false_and]
      refine Ev.step (fun k=>?_) hbad
      simp only [qw_.l0]
      rw [if_pos (by omega),if_pos (by omega),rd79 l j hjl,← hx,if_pos cs]
    · have hwb:wordB d n x.f0=lettersB d x.f0:=by unfold wordB lettersB;rw [decide_eq_true (by omega),Bool.and_true]
      rw [hwb]
      refine Ev.step (f:=fun k=>(qd1_.f k (d:Int) x.f0).bind fun t=>if t=true then (qv_.f k x.f1.f0 x.f1.f1).bind fun t=>(if t=true then qw_.j1 k (j:Int) (x.f1.f0 == 0) (d:Int) (n:Int) l x.f0 x.f1.f0 x.f1.f1 else qw_.j1 k (j:Int) true (d:Int) (n:Int) l x.f0 x.f1.f0 x.f1.f1) else qw_.j1 k (j:Int) true (d:Int) (n:Int) l x.f0 x.f1.f0 x.f1.f1) (fun k=>?_) (Ev.bind hw ?_)
      · simp only [qw_.l0]
        rw [if_pos (by omega),if_pos (by omega),rd79 l j hjl,← hx,if_neg cs]
        rfl
      · cases cw:lettersB d x.f0 with
        | false=>simp only [Bool.false_eq_true,if_false,Bool.false_and];exact hbad
        | true =>
          simp only [if_true,Bool.true_and]
          refine Ev.bind hf ?_
          cases cf:decide (okF x.f1) with
          | false=>simp only [Bool.false_eq_true,if_false,Bool.false_and];exact hbad
          | true =>
            simp only [if_true,Bool.true_and]
            by_cases cz:x.f1.f0=0
            · simp only [cz,show ((0:Int) == 0)=true from rfl,show ((0:Int) != 0)=false from rfl,Bool.false_and]
              rw [cz] at hbad;exact hbad
            · simp only [show (x.f1.f0 == 0)=false from by simpa using cz,show (x.f1.f0 != 0)=true from by simpa using cz,Bool.true_and]
              exact hgo
end Go.Proofs.Ytaiefdhenikiiaa.Base
namespace Go.Proofs.Ytaiefdhenikiiaa.Base
open Go.RowKit Go.Proofs.YtaiefdhenikiiaaW.PrintWords Go.Proofs.YtaiefdhenikiiaaW.PrintLast Go.Proofs.YtaiefdhenikiiaaW.PrintMore
set_option linter.unusedVariables false
set_option linter.unusedSimpArgs false
def lvlB (D N:Int):Bool:=decide (1≤D∧D≤3) && (decide (1≤N∧N≤5) && (decide (D < 3) || decide (N < 5)))
theorem lvl_impl (D N:Int):qa3_.f D N=some (lvlB D N):=by
  unfold qa3_.f qo2_.f lvlB
  simp only [within_is,Option.bind_some]
  by_cases h1:1≤D∧D≤3
  · by_cases h2:1≤N∧N≤5
    · by_cases h3:D < 3 <;> simp [h1,h2,h3]
    · simp [h1,h2]
  · simp [h1]
theorem lvl_sizes (D N:Int):ql2_.f D N=some (lvlB D N):=by
  unfold ql2_.f lvlB
  simp only [sin_is,Option.bind_some]
  by_cases h1:1≤D∧D≤3
  · by_cases h2:1≤N∧N≤5
    · by_cases h3:D < 3
      · simp [h1,h2,h3]
      · have e:decide (N≤4)=decide (N < 5):=decide_eq_decide.2 (by omega)
        simp [h1,h2,h3,e]
    · simp [h1,h2]
  · simp [h1]
theorem lvl_nat {D N:Int} (h:lvlB D N=true):∃ d n:Nat,D=d∧N=n∧(1≤d∧d≤3)∧1≤n∧n≤5:=by
  unfold lvlB at h
  simp only [Bool.and_eq_true,decide_eq_true_eq] at h
  obtain ⟨h1,h2,_⟩:=h
  exact ⟨D.toNat,N.toNat,by omega,by omega,⟨by omega,by omega⟩,by omega,by omega⟩
/-- Is it a series? -/
def serB (D N:Int) (l:List S79):Bool:=lvlB D N && goodB D.toNat N.toNat l
theorem ser_impl (D N:Int) (l:List S79) (hl:smallT l):Ev (fun k=>qt2_.f k D N l) (serB D N l):=by
  unfold qt2_.f
  unfold serB
  refine Ev.congr (f:=fun k=>(some (lvlB D N)).bind fun t=>if t=true then ql_.f k D N l else some false) (fun k=>?_) ?_
  · rw [lvl_impl]
    cases lvlB D N with
    | false=>simp
    | true=>cases ql_.f k D N l <;> simp
  · cases h:lvlB D N with
    | false=>simp only [Option.bind_some,Bool.false_eq_true,if_false,Bool.false_and];exact Ev.now _
    | true =>
      simp only [Option.bind_some,if_true,Bool.true_and]
      obtain ⟨d,n,rfl,rfl,hs,_⟩:=lvl_nat h
      exact are_is d n (by omega) l hl
theorem ser_spec (D N:Int) (l:List S79) (hl:smallT l):Ev (fun k=>qw_.f k D N l) (serB D N l):=by
  unfold qw_.f serB
  rw [lvl_sizes]
  cases h:lvlB D N with
  | false=>simp only [Option.bind_some,Bool.false_eq_true,if_false,Bool.false_and];exact Ev.now _
  | true =>
    simp only [Option.bind_some,if_true,Bool.true_and]
    obtain ⟨d,n,rfl,rfl,hs,_⟩:=lvl_nat h
    have:=sis_loop d n (by omega) l hl l.length 0 (by omega)
    rw [List.drop_zero,show prevT l 0=none from rfl,goodP_is] at this
    exact this
end Go.Proofs.Ytaiefdhenikiiaa.Base
