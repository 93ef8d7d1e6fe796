/- Texts that the proof of FnExactMeanSignature needs, part 11. No condition. -/
import Derived.Test.YtaiefdhenikiiaaMFnExactMeanSignature10
namespace Go.Proofs.Ytaiefdhenikiiaa.Base
open Go.RowKit Go.Proofs.YtaiefdhenikiiaaW.PrintWords Go.Proofs.YtaiefdhenikiiaaW.PrintLast Go.Proofs.YtaiefdhenikiiaaW.PrintMore
attribute [local go_sem] max2_int qq1_ max_two min_two max_three min_three max_four min_four Go.Proofs.YtaiefdhenikiiaaZ.qu_   -- for this text's walks alone
set_option linter.unusedVariables false
set_option linter.unusedSimpArgs false
theorem qj2_.keep {w W:World} {a0 a1 a2 a3 a4 a5:Addr} {v0 v1 v2 v3 v4 v5:Value} (p0:w.cell? a0=some v0) (p1:w.cell? a1=some v1) (p2:w.cell? a2=some v2) (p3:w.cell? a3=some v3) (p4:w.cell? a4=some v4) (p5:w.cell? a5=some v5) (hb:Below w.heap.size w W):W.cell? a0=some v0∧W.cell? a1=some v1∧W.cell? a2=some v2∧W.cell? a3=some v3∧W.cell? a4=some v4∧W.cell? a5=some v5:=⟨qs_ hb p0,qs_ hb p1,qs_ hb p2,qs_ hb p3,qs_ hb p4,qs_ hb p5⟩
theorem outT_sum_zero {t:Tb} {d n:Nat} (ht:Like t (zeroT d n)) (hs:Sz d n):outT (sumT (zeroT d n) t)=outT t:=by
 by_cases hb:t.bad=true
 ·rw [outT_bad hb,outT_bad (sumT_bad (Or.inr hb))]
 ·rw [sum_zero ht hs (by simpa using hb)]
def qj2_.f (a0:Int) (a1:Int) (l2:List (List Int)) (a3:Int):Option (Int × Int × (List S79) × Int):=if l2.length≤1048576∧(∀ r ∈ l2,r.length≤1048576) then some (meanR a0 a1 l2 a3) else none
set_option maxHeartbeats 16000000 in
set_option maxRecDepth 100000 in
theorem qj2_.calls (a0:Int) (a1:Int) (A2:Option Addr) (c2:Nat) (l2:List (List Int)) (a3:Int) (r1:Int) (r2:Int) (r3:List (S79)) (r4:Int) (w:World) (hr2:Kd.C (Kd.slice 2 (Kd.int .i64)) w A2 l2.length l2) (hc2:l2.length≤c2) (h:qj2_.f a0 a1 l2 a3=some (r1,r2,r3,r4)) :
  Calls Try.prog 65 #[.int .i64 a0,.int .i64 a1,.slice A2 l2.length c2,.int .i64 a3] w fun e w'=>∃ v2_:Value,e=.returned (.tuple #[.agg #[.int .i64 r1,.int .i64 r2,v2_],.int .i64 r4])∧Kd.R k79 79 w' w.heap.size (fun _=>True) v2_ r3∧Below w.heap.size w w':=by
 unfold qj2_.f at h
 split at h
 rotate_left
 ·cases h
 rename_i hsm
 replace h:=Option.some.inj h
 have hu:=Try.underlying38
 have hu3:=Try.underlying77
 obtain ⟨k,hk⟩:=(pcode_spec a0 a1 [l2] (by simp) (fun p hp=>by
  obtain rfl:p=l2:=by simpa using hp
  exact hsm)).rounds
 rw [show [l2].all (Go.Proofs.YtaiefdhenikiiaaC.isPath a0)=Go.Proofs.YtaiefdhenikiiaaC.isPath a0 l2 from by simp] at hk
 have h4:qp1_.f a3 0 8=some (decide (0≤a3∧a3≤8)):=sin_is a3 0 8
 have HR:=aK hr2
 have HC:=aK hc2
 clear hr2 hc2
 unfold meanR at h
 obtain ⟨p,hp⟩:∃ p,p=codeM a0 a1 l2 a3:=⟨_,rfl⟩
 rw [← hp] at h
 unfold codeM at hp
 obtain ⟨q,hq⟩:∃ q,q=codeP a0 a1 (Go.Proofs.YtaiefdhenikiiaaC.isPath a0 l2):=⟨_,rfl⟩
 rw [← hq] at hp hk
 by_cases c:q=0
 rotate_left
 ·rw [if_neg c] at hp
  rw [hp,if_neg c] at h
  simp only [Prod.mk.injEq] at h
  obtain ⟨rfl,rfl,rfl,rfl⟩:=h
  have HK:=aK hk
  have e1:(q == 0)=false:=by simpa using c
  clear hk h4 hsm hq hp
  go_enter Try.func65,Try.ntmps65
  go_wp2_with (go_at_call 101;(refine (qr1_.calls k _ _ _ _ [l2] _ _ (lit1 (Kd.qw1_ HR.out (qb_ (Below.refl _ _) _)) HC.out (by simp)) (by simp) HK.out).mono ?_);rintro e w1 ⟨rfl,hd⟩;have HB1:=aK (show Below w.heap.size w w1 from qe_ (qb_ (qb_ (Below.refl _ _) _) _) hd.below);have S:SrAt w1 w.heap.size 0 0 (.slice none 0 0):=ql_ (old_at (new_at rfl)) hd.below;have s0:w1.cell? ⟨w.heap.size,0,none⟩=some (.int .i64 0):=SrAt.c0 S;have sf0:w1.frozen? ⟨w.heap.size,0,none⟩=false:=qd_ S 0;have s1:w1.cell? ⟨w.heap.size,1,none⟩=some (.int .i64 0):=SrAt.c1 S;have sf1:w1.frozen? ⟨w.heap.size,1,none⟩=false:=qd_ S 1;have s2:w1.cell? ⟨w.heap.size,2,none⟩=some (.slice none 0 0):=SrAt.c2 S;have sf2:w1.frozen? ⟨w.heap.size,2,none⟩=false:=qd_ S 2;have HS1:=aK S;clear S hd)
  refine bodyPost_ret (results_ct rfl _ _ w.heap.size 38 _ (0,0) _ rfl (qr_ (qr_ (qr_ HS1.out 0 _) 1 _) 2 _) hu rfl (by kernel_rfl)) rfl ?_
  exact ⟨_,rfl,Kd.R_nil _ _ _ _ _,qy2_ HB1.out (Nat.le_refl _) _ _ _⟩
 ·rw [if_pos c] at hp
  rw [c] at hk
  have HK:=aK hk
  by_cases c1:l2.length=0
  ·rw [if_pos c1] at hp
   rw [hp,if_neg (by decide)] at h
   simp only [Prod.mk.injEq] at h
   obtain ⟨rfl,rfl,rfl,rfl⟩:=h
   have e1:((l2.length:Int) == 0)=true:=by rw [c1];rfl
   clear hk h4 hsm hq hp c c1
   go_enter Try.func65,Try.ntmps65
   go_wp2_with (go_at_call 101;(refine (qr1_.calls k _ _ _ _ [l2] _ _ (lit1 (Kd.qw1_ HR.out (qb_ (Below.refl _ _) _)) HC.out (by simp)) (by simp) HK.out).mono ?_);rintro e w1 ⟨rfl,hd⟩;have HB1:=aK (show Below w.heap.size w w1 from qe_ (qb_ (qb_ (Below.refl _ _) _) _) hd.below);have S:SrAt w1 w.heap.size 0 0 (.slice none 0 0):=ql_ (old_at (new_at rfl)) hd.below;have s0:w1.cell? ⟨w.heap.size,0,none⟩=some (.int .i64 0):=SrAt.c0 S;have sf0:w1.frozen? ⟨w.heap.size,0,none⟩=false:=qd_ S 0;have s1:w1.cell? ⟨w.heap.size,1,none⟩=some (.int .i64 0):=SrAt.c1 S;have sf1:w1.frozen? ⟨w.heap.size,1,none⟩=false:=qd_ S 1;have s2:w1.cell? ⟨w.heap.size,2,none⟩=some (.slice none 0 0):=SrAt.c2 S;have sf2:w1.frozen? ⟨w.heap.size,2,none⟩=false:=qd_ S 2;have HS1:=aK S;clear S hd)
   refine bodyPost_ret (results_ct rfl _ _ w.heap.size 38 _ (0,0) _ rfl (qr_ (qr_ (qr_ HS1.out 0 _) 1 _) 2 _) hu rfl (by kernel_rfl)) rfl ?_
   exact ⟨_,rfl,Kd.R_nil _ _ _ _ _,qy2_ HB1.out (Nat.le_refl _) _ _ _⟩
  ·rw [if_neg c1] at hp
   have e1:((l2.length:Int) == 0)=false:=by rw [beq_eq_false_iff_ne];omega
   by_cases cw:0≤a3∧a3≤8
   rotate_left
   ·rw [if_neg cw] at hp
    rw [decide_eq_false cw] at h4
    rw [hp,if_neg (by decide)] at h
    simp only [Prod.mk.injEq] at h
    obtain ⟨rfl,rfl,rfl,rfl⟩:=h
    have HW:=aK h4
    clear hk h4 hsm hq hp c c1 cw
    go_enter Try.func65,Try.ntmps65
    go_wp2_with (first
     | (go_at_call 101;(refine (qr1_.calls k _ _ _ _ [l2] _ _ (lit1 (Kd.qw1_ HR.out (qb_ (Below.refl _ _) _)) HC.out (by simp)) (by simp) HK.out).mono ?_);rintro e w1 ⟨rfl,hd⟩;have HB1:=aK (show Below w.heap.size w w1 from qe_ (qb_ (qb_ (Below.refl _ _) _) _) hd.below);have S:SrAt w1 w.heap.size 0 0 (.slice none 0 0):=ql_ (old_at (new_at rfl)) hd.below;have HS1:=aK S;clear S hd)
     | (go_at_call 107;(with_reducible refine (qp1_.calls _ _ _ _ _ HW.out).mono ?_);rintro e w2 ⟨rfl,hd⟩;have HB2:=aK (show Below w.heap.size w w2 from qe_ HB1.out hd.below);have S:SrAt w2 w.heap.size 0 0 (.slice none 0 0):=SrAt.below HS1.out hd.below;have s0:w2.cell? ⟨w.heap.size,0,none⟩=some (.int .i64 0):=SrAt.c0 S;have sf0:w2.frozen? ⟨w.heap.size,0,none⟩=false:=qd_ S 0;have s1:w2.cell? ⟨w.heap.size,1,none⟩=some (.int .i64 0):=SrAt.c1 S;have sf1:w2.frozen? ⟨w.heap.size,1,none⟩=false:=qd_ S 1;have s2:w2.cell? ⟨w.heap.size,2,none⟩=some (.slice none 0 0):=SrAt.c2 S;have sf2:w2.frozen? ⟨w.heap.size,2,none⟩=false:=qd_ S 2;have HS2:=aK S;clear S hd))
    refine bodyPost_ret (results_ct rfl _ _ w.heap.size 38 _ (0,0) _ rfl (qr_ (qr_ (qr_ HS2.out 0 _) 1 _) 2 _) hu rfl (by kernel_rfl)) rfl ?_
    exact ⟨_,rfl,Kd.R_nil _ _ _ _ _,qy2_ HB2.out (Nat.le_refl _) _ _ _⟩
   ·rw [if_pos cw] at hp
    rw [decide_eq_true cw] at h4
    have HW:=aK h4
    rw [if_pos hp] at h
    obtain ⟨kk,rfl⟩:∃ kk:Nat,a3=kk:=⟨a3.toNat,by omega⟩
    have hkk:kk≤8:=by omega
    obtain ⟨hb_,d,n,rfl,rfl,hs,hn⟩:=codeP_good (hq.symm.trans c)
    obtain ⟨hpl,hok⟩:=okP hb_
    rw [Int.toNat_natCast,Int.toNat_natCast,Int.toNat_natCast] at h
    have hrow:∀ r ∈ l2,r.length=d∧okRow r:=fun r hr=>⟨by have:=(hok r hr).1;omega,(hok r hr).2⟩
    have hBadA:(mnT d n l2 kk).bad=true→r1=0∧r2=0∧r3=[]∧r4=3:=fun hb2=>by
     unfold serR at h
     rw [if_pos hb2] at h
     simp only [Prod.mk.injEq] at h
     exact ⟨h.1.symm,h.2.1.symm,h.2.2.1.symm,h.2.2.2.symm⟩
    have HBadM:=aK (show (meanT d n l2).bad=true→r1=0∧r2=0∧r3=[]∧r4=3 from fun hb=>hBadA (by show ((powT (meanT d n l2) (zeroT d n) kk).bad || (meanT d n l2).bad)=true;rw [hb,Bool.or_true]))
    have HBadS:=aK (show ∀ i,(meanS d n (l2.take i)).bad=true→r1=0∧r2=0∧r3=[]∧r4=3 from fun i hb=>HBadM.out (meanT_bad (meanS_bad i hb)))
    have HOwn:=aK (show ∀ i (h:i < l2.length),(stepSigT d n l2[i]).bad=true→r1=0∧r2=0∧r3=[]∧r4=3 from fun i hi hb=>HBadM.out (meanT_bad (meanS_own hi hb)))
    have HBadP:=aK (show ∀ i,i≤kk→(powT (meanT d n l2) (zeroT d n) i).bad=true→r1=0∧r2=0∧r3=[]∧r4=3 from fun i hi hb=>hBadA (by
     have hb2:=powT_bad hb (kk - i)
     rw [show i+(kk - i)=kk by omega] at hb2
     show ((powT (meanT d n l2) (zeroT d n) kk).bad || (meanT d n l2).bad)=true
     rw [hb2,Bool.true_or]))
    have HEnd:=aK (show (meanT d n l2).bad=false→(powT (meanT d n l2) (zeroT d n) kk).bad=false→r1=(d:Int)∧r2=(n:Int)∧r3=termsT (powT (meanT d n l2) (zeroT d n) kk)∧r4=0 from fun hm hb=>by
     have hg:(mnT d n l2 kk).bad=false:=by show ((powT (meanT d n l2) (zeroT d n) kk).bad || (meanT d n l2).bad)=false;rw [hm,hb];rfl
     unfold serR at h
     rw [if_neg (by rw [hg];simp)] at h
     simp only [Prod.mk.injEq] at h
     have hl:=mnT_like hs l2 kk
     refine ⟨?_,?_,h.2.2.1.symm,h.2.2.2.symm⟩
     ·rw [← h.1,hl.1];rfl
     ·rw [← h.2.1,hl.2.1];rfl)
    have HS:=aK hs
    have HN1:=aK hn
    have HL:=aK hrow
    have HPL:=aK hpl
    have HC1:=aK c1
    have hzl:Like (zeroT d n) (zeroT d n):=⟨rfl,rfl,zeroT_ok hs⟩
    have HZZL:=aK (terms_len hzl hs)
    have HA1':=aK (show (meanS d n l2).bad=false→∀ W A1 c1 A2 c2,TmsC W A1 c1 (termsT (zeroT d n))→TmsC W A2 c2 (termsT (meanS d n l2))→Calls Try.prog 125 #[.agg #[.int .i64 (d:Int),.int .i64 (n:Int),.slice A1 (termsT (zeroT d n)).length c1],.agg #[.int .i64 (d:Int),.int .i64 (n:Int),.slice A2 (termsT (meanS d n l2)).length c2],.agg #[.int .i64 1,.int .i64 (l2.length:Int)]] W (OutR W d n (outT (meanT d n l2))) from fun hg W A1 c1 A2 c2 h1 h2=>by
     have hsl:=meanS_like hs l2
     have z1:=terms_len hzl hs
     have z2:=terms_len hsl hs
     have hpf:okF (partF l2.length):=partF_ok (by omega) hpl
     have:=addFS W d n d n h1 h2 (terms_okL hzl.2.2) (terms_okL hsl.2.2) (by omega) (partF l2.length) hpf
     rw [addS_terms (zeroT d n) (meanS d n l2) (zeroT d n) hs hzl hsl rfl hg (partF l2.length) hpf (by show (1:Int) ≠ 0;decide),outT_sum_zero (scaleT_like _ hsl) hs] at this
     exact this)
    clear h h4 hk hsm hq hp c c1 cw hb_ hok hpl hs hn hrow hBadA hzl
    have e2:((0:Int) == 0)=true:=rfl
    go_enter Try.func65,Try.ntmps65
    go_wp2_with (first
     | (go_at_call 101;(refine (qr1_.calls k _ _ _ _ [l2] _ _ (lit1 (Kd.qw1_ HR.out (qb_ (Below.refl _ _) _)) HC.out (by simp)) (by simp) HK.out).mono ?_);rintro e w1 ⟨rfl,hd⟩;have HB1:=aK (show Below w.heap.size w w1 from qe_ (qb_ (qb_ (Below.refl _ _) _) _) hd.below);have S:SrAt w1 w.heap.size 0 0 (.slice none 0 0):=ql_ (old_at (new_at rfl)) hd.below;have HS1:=aK S;clear S hd)
     | (go_at_call 107;(with_reducible refine (qp1_.calls _ _ _ _ _ HW.out).mono ?_);rintro e w2 ⟨rfl,hd⟩;have HB2:=aK (show Below w.heap.size w w2 from qe_ HB1.out hd.below);have S:SrAt w2 w.heap.size 0 0 (.slice none 0 0):=SrAt.below HS1.out hd.below;have HS2:=aK S;clear S hd)
     | (go_at_call 108;refine (emptyS _ d n (nil_tms _)).mono ?_;rintro e w3 ⟨v,rfl,hv,hb⟩;obtain ⟨A1,c1,rfl⟩:=Kd.qa2_ hv;have HB3:=aK (show Below w.heap.size w w3 from qe_ HB2.out hb);have HSR:=aK (show SrAt w3 w.heap.size 0 0 (.slice none 0 0) from SrAt.below HS2.out hb);have HV1:=aK (show TermsR w3 w.heap.size (.slice A1 ([]:List S79).length c1) [] from Kd.qi2_ hv HB2.out.size);clear hv hb))
    generalize hW:World.alloc w3 _=W1
    have HS6:=aK (show SrAt W1 w3.heap.size d n (.slice A1 (termsT (meanS d n (l2.take 0))).length c1) from by rw [← hW,List.take_zero,show meanS d n []=zeroT d n from rfl,zero_terms];exact new_at rfl)
    have HV6:=aK (show TermsR W1 w.heap.size (.slice A1 (termsT (meanS d n (l2.take 0))).length c1) (termsT (meanS d n (l2.take 0))) from by rw [← hW,List.take_zero,show meanS d n []=zeroT d n from rfl,zero_terms];exact Kd.qc1_ HV1.out _)
    have HSR1:=aK (show SrAt W1 w.heap.size 0 0 (.slice none 0 0) from by rw [← hW];exact HSR.out.alloc _)
    have HBA:=aK (show Below w.heap.size w W1 from by rw [← hW];exact qb_ HB3.out _)
    have HLO:=aK (show w.heap.size < w3.heap.size from HSR.out.lt)
    have HG0:=aK (show (meanS d n (l2.take 0)).bad=false from by rw [List.take_zero];rfl)
    obtain ⟨b6,hb6⟩:∃ b,b=w3.heap.size:=⟨_,rfl⟩
    rw [← hb6] at HS6 HLO ⊢
    clear hW HV1 HSR HB1 HB2 HB3 HS1 HS2 hb6
    go_loopg [12] l2.length (fun gg v12 wr=>∃ (i:Nat) (A6:Option Addr) (c6:Nat),i≤l2.length∧l2.length - i≤gg∧v12=.int .i64 i∧Aside0 ((meanS d n (l2.take i)).bad=false)∧Aside0 (SrAt wr b6 d n (.slice A6 (termsT (meanS d n (l2.take i))).length c6))∧Aside0 (TermsR wr w.heap.size (.slice A6 (termsT (meanS d n (l2.take i))).length c6) (termsT (meanS d n (l2.take i))))∧Aside0 (SrAt wr w.heap.size 0 0 (.slice none 0 0))∧Aside0 (Below w.heap.size w wr))
    case atStart=>exact ⟨0,A1,c1,Nat.zero_le _,by omega,rfl,HG0,HS6,HV6,HSR1,HBA⟩
    case round =>
     clear HS6 HV6 HSR1 HBA HG0
     obtain ⟨i,A6,c6,hi,hg,rfl,HG,HS6,HV6,HSR,HB⟩:=hrel
     by_cases hlt:i < l2.length
     ·have hltz:(i:Int) < (l2.length:Int):=by omega
      obtain ⟨ad,A0,c0,rfl,x0,hc0,hK⟩:=rows_at (Kd.qw1_ HR.out HB.out) i hlt
      have e1:l2.getD i []=l2[i]:=by rw [List.getD_eq_getElem?_getD,List.getElem?_eq_getElem hlt,Option.getD_some]
      obtain ⟨row,hrow⟩:∃ row,row=l2[i]:=⟨_,rfl⟩
      rw [e1,← hrow] at x0 hK hc0
      have hm:row ∈ l2:=by rw [hrow];exact List.getElem_mem hlt
      obtain ⟨hm1,hm2⟩:=HL.out row hm
      have HST:=aK (show ∀ W,Below wr.heap.size wr W→Calls Try.prog 103 #[.int .i64 (d:Int),.int .i64 (n:Int),.slice A0 row.length c0] W fun e w'=>∃ v:Value,e=.returned (.agg #[.int .i64 (d:Int),.int .i64 (n:Int),v])∧TermsR w' W.heap.size v (termsT (stepT d n row))∧Below W.heap.size W w' from fun W hW=>stepSp W d n HS.out HN1.out hm1 (Kd.qw1_ hK hW) hc0)
      have hEX:=stepExp d n HS.out HN1.out row hm2
      have HSL:=aK (terms_len (stepT_like HS.out hm2) HS.out)
      obtain ⟨T,hT⟩:∃ T,T=meanS d n (l2.take i):=⟨_,rfl⟩
      obtain ⟨U,hU⟩:∃ U,U=stepSigT d n row:=⟨_,rfl⟩
      have HN:=aK (show meanS d n (l2.take (i+1))=sumT T U from by rw [meanS_succ d n l2 hlt,← hrow,hT,hU])
      have HTL:=aK (show Like T (zeroT d n) from by rw [hT];exact meanS_like HS.out _)
      have HUL:=aK (show Like U (zeroT d n) from by rw [hU];exact stepSigT_like HS.out _)
      have HOB:=aK (show U.bad=true→r1=0∧r2=0∧r3=[]∧r4=3 from fun h=>HOwn.out i hlt (by rw [← hrow,← hU];exact h))
      rw [← hT] at HG HS6 HV6
      rw [← hU] at hEX
      obtain ⟨ls,hls⟩:∃ ls,ls=termsT (stepT d n row):=⟨_,rfl⟩
      rw [← hls] at HST hEX HSL
      clear hrow hm hm1 hm2 e1 hT hU hls hK hc0
      have y0:=HSL.out
      by_cases hub:U.bad=true
      ·obtain ⟨rfl,rfl,rfl,rfl⟩:=HOB.out hub
       rw [outT_bad hub] at hEX
       have HEX:=aK hEX
       clear hEX hub y0
       go_wp2_with (first
        | (go_at_call 103;refine (HST.out _ (Below.refl _ _)).mono ?_;rintro e w4 ⟨v,rfl,hv,hb⟩;obtain ⟨A3,c3,rfl⟩:=Kd.qa2_ hv;have HB4:=aK (show Below wr.heap.size wr w4 from hb);have HT3:=aK (TmsC.of hv (by have:=HSL.out;omega)).1;clear hv hb)
        | (go_at_call 102;refine (HEX.out _ _ _ HT3.out).mono ?_;rintro e w5 ⟨v,rfl,hv,hb⟩;obtain ⟨A4,c4,rfl⟩:=Kd.qa2_ hv;have HB5:=aK (show Below w.heap.size w w5 from qe_ (qe_ HB.out HB4.out) hb);have SR:=(HSR.out.below HB4.out).below hb;have s0:(w5.alloc (.cells #[.int .i64 0,.int .i64 0,.slice A4 0 c4] 38)).cell? ⟨w.heap.size,0,none⟩=some (.int .i64 0):=SrAt.c0 (SrAt.alloc SR _);have sf0:(w5.alloc (.cells #[.int .i64 0,.int .i64 0,.slice A4 0 c4] 38)).frozen? ⟨w.heap.size,0,none⟩=false:=qd_ (SrAt.alloc SR _) 0;have s1:(w5.alloc (.cells #[.int .i64 0,.int .i64 0,.slice A4 0 c4] 38)).cell? ⟨w.heap.size,1,none⟩=some (.int .i64 0):=SrAt.c1 (SrAt.alloc SR _);have sf1:(w5.alloc (.cells #[.int .i64 0,.int .i64 0,.slice A4 0 c4] 38)).frozen? ⟨w.heap.size,1,none⟩=false:=qd_ (SrAt.alloc SR _) 1;have s2:(w5.alloc (.cells #[.int .i64 0,.int .i64 0,.slice A4 0 c4] 38)).cell? ⟨w.heap.size,2,none⟩=some (.slice none 0 0):=SrAt.c2 (SrAt.alloc SR _);have sf2:(w5.alloc (.cells #[.int .i64 0,.int .i64 0,.slice A4 0 c4] 38)).frozen? ⟨w.heap.size,2,none⟩=false:=qd_ (SrAt.alloc SR _) 2;have HSR5:=aK SR;clear SR hv hb))
       refine bodyPost_ret (results_ct rfl _ _ w.heap.size 38 _ (0,0) _ rfl (qr_ (qr_ (qr_ (HSR5.out.alloc _) 0 _) 1 _) 2 _) hu rfl (by kernel_rfl)) rfl ?_
       exact ⟨_,rfl,Kd.R_nil _ _ _ _ _,qy2_ (qb_ HB5.out _) (Nat.le_refl _) _ _ _⟩
      ·have hug:U.bad=false:=by simpa using hub
       rw [outT_good hug] at hEX
       have HEX:=aK hEX
       have HAD:=aK (show ∀ W A1 c1 A2 c2,TmsC W A1 c1 (termsT T)→TmsC W A2 c2 (termsT U)→Calls Try.prog 125 #[.agg #[.int .i64 (d:Int),.int .i64 (n:Int),.slice A1 (termsT T).length c1],.agg #[.int .i64 (d:Int),.int .i64 (n:Int),.slice A2 (termsT U).length c2],.agg #[.int .i64 1,.int .i64 1]] W (OutR W d n (outT (sumT T U))) from fun W A1 c1 A2 c2 h1 h2=>by
        have z1:=terms_len HTL.out HS.out
        have z2:=terms_len HUL.out HS.out
        have:=addFS W d n d n h1 h2 (terms_okL HTL.out.2.2) (terms_okL HUL.out.2.2) (by omega) oneF one_okF
        rw [addS_terms T U (zeroT d n) HS.out HTL.out HUL.out HG.out hug oneF one_okF (by decide),scale_one HUL.out HS.out hug] at this
        exact this)
       have HT6:=aK (show TmsC wr A6 c6 (termsT T) from (TmsC.of HV6.out (by have:=terms_len HTL.out HS.out;omega)).1)
       have HULL:=aK (terms_len HUL.out HS.out)
       obtain ⟨X,hX⟩:∃ X,X=sumT T U:=⟨_,rfl⟩
       rw [← hX] at HN HAD
       clear hEX hub hug y0 hX
       generalize termsT T=lt at HAD HT6 HS6 HV6
       generalize termsT U=lu at HAD HEX HULL
       go_wp2_with (first
        | (go_at_call 103;refine (HST.out _ (Below.refl _ _)).mono ?_;rintro e w4 ⟨v,rfl,hv,hb⟩;obtain ⟨A3,c3,rfl⟩:=Kd.qa2_ hv;have HB4:=aK (show Below wr.heap.size wr w4 from hb);have HT3:=aK (TmsC.of hv (by have:=HSL.out;omega)).1;clear hv hb)
        | (go_at_call 102;refine (HEX.out _ _ _ HT3.out).mono ?_;rintro e w5 ⟨v,rfl,hv,hb⟩;obtain ⟨A4,c4,rfl⟩:=Kd.qa2_ hv;have HB5:=aK (show Below wr.heap.size wr w5 from qe_ HB4.out hb);have HC4:=aK (TmsC.of hv (by have:=HULL.out;omega)).1;clear hv hb))
       generalize hW4:World.alloc w5 _=W4
       have HM4:=aK (show Below wr.heap.size wr W4 from by rw [← hW4];exact qb_ HB5.out _)
       have HS64:=aK (show SrAt W4 b6 d n (.slice A6 lt.length c6) from HS6.out.below HM4.out)
       have HS13:=aK (show SrAt W4 w5.heap.size d n (.slice A4 lu.length c4) from by rw [← hW4];exact new_at rfl)
       have HSR4:=aK (show SrAt W4 w.heap.size 0 0 (.slice none 0 0) from HSR.out.below HM4.out)
       have HBW4:=aK (show Below w.heap.size w W4 from qe_ HB.out HM4.out)
       have HT64:=aK (HT6.out.below HM4.out)
       have HC44:=aK (show TmsC W4 A4 c4 lu from by rw [← hW4];exact HC4.out.below (qb_ (Below.refl _ _) _))
       obtain ⟨b13,hb13⟩:∃ b,b=w5.heap.size:=⟨_,rfl⟩
       rw [← hb13] at HS13 ⊢
       have p0:=HS64.out.c0
       have p1:=HS64.out.c1
       have p2:=HS64.out.c2
       have q0:=HS13.out.c0
       have q1:=HS13.out.c1
       have q2:=HS13.out.c2
       clear hW4 hb13 HB5 HB4 HT3 HC4 x0
       go_cut [15,16] (fun v15 v16 wx=>∃ (b9:Nat) (D N:Int) (Ax:Option Addr) (cx:Nat) (l9:List S79) (ok:Bool),v15=.pointer (some ⟨b9,0,none⟩)∧v16=.bool ok∧Aside0 (SrAt wx b9 D N (.slice Ax l9.length cx))∧Aside0 (TermsR wx w.heap.size (.slice Ax l9.length cx) l9)∧Aside0 (OutV d n (outT X) D N l9 ok)∧Aside0 (Below W4.heap.size W4 wx))
       case first =>
        go_region_held3 (fun w'=>w'.cell? ⟨b6,0,none⟩=some (.int .i64 (d:Int))∧w'.cell? ⟨b6,1,none⟩=some (.int .i64 (n:Int))∧w'.cell? ⟨b6,2,none⟩=some (.slice A6 lt.length c6)∧w'.cell? ⟨b13,0,none⟩=some (.int .i64 (d:Int))∧w'.cell? ⟨b13,1,none⟩=some (.int .i64 (n:Int))∧w'.cell? ⟨b13,2,none⟩=some (.slice A4 lu.length c4)) (exact qj2_.keep p0 p1 p2 q0 q1 q2 (by (repeat' (first|(with_reducible exact Below.refl _ _)|(with_reducible exact HB7.out)|(with_reducible exact HB6.out)|(with_reducible refine Below.setCell ?_ ?_ _)|(with_reducible refine qc_ ?_)|(with_reducible refine qa_ ?_ _)|(with_reducible refine qb_ ?_ _)|(simp;done)|(simp;omega)|(have q_:=HB7.out.size;simp;omega)|(have q_:=HB6.out.size;simp;omega))))) (first
         | (go_at_call 124;refine (oneS _ 1).mono ?_;rintro e w6 ⟨rfl,hb⟩;have HX6:=aK hb;have HB6:=aK (show Below W4.heap.size W4 w6 from qe_ (by repeat (first|(with_reducible exact Below.refl _ _)|(with_reducible refine qc_ ?_)|(with_reducible refine qa_ ?_ _)|(with_reducible refine qb_ ?_ _))) hb);(first|(refine (fun (Zu:w6.heap[W4.heap.size]?=some (.cells #[.int .i64 0,.int .i64 0,.slice none 0 0] 38 (0,0)))=>?_) (ql_ ?_ hb);rotate_left;(first|exact drew_at (new_at rfl)|exact new_at rfl);have HZu:=aK Zu;have c0Zu:=qj_ Zu 0;have c1Zu:=qj_ Zu 1;have c2Zu:=qj_ Zu 2;have f0Zu:=qd_ Zu 0;have f1Zu:=qd_ Zu 1;have f2Zu:=qd_ Zu 2;clear Zu)|skip);clear hb)
         | (go_at_call 125;refine (HAD.out _ _ _ _ _ (HT64.out.below (by repeat (first|(with_reducible exact Below.refl _ _)|(with_reducible exact HB6.out)|(with_reducible refine qc_ ?_)|(with_reducible refine qa_ ?_ _)|(with_reducible refine qb_ ?_ _)))) (HC44.out.below (by repeat (first|(with_reducible exact Below.refl _ _)|(with_reducible exact HB6.out)|(with_reducible refine qc_ ?_)|(with_reducible refine qa_ ?_ _)|(with_reducible refine qb_ ?_ _))))).mono ?_;rintro e w7 h7;obtain ⟨D9,N9,A9,c9,l9,ok9,rfl,ho9,hv9,hb⟩:=h7.val;have HB7:=aK (show Below W4.heap.size W4 w7 from qe_ (by repeat (first|(with_reducible exact Below.refl _ _)|(with_reducible exact HB6.out)|(with_reducible refine qc_ ?_)|(with_reducible refine qa_ ?_ _)|(with_reducible refine qb_ ?_ _))) hb);have HO9:=aK ho9;have HV9:=aK (show TermsR w7 w.heap.size (.slice A9 l9.length c9) l9 from Kd.qi2_ hv9 (Nat.le_trans HBW4.out.size (qk_ (show Below W4.heap.size W4 _ from (by repeat (first|(with_reducible exact Below.refl _ _)|(with_reducible exact HB6.out)|(with_reducible refine qc_ ?_)|(with_reducible refine qa_ ?_ _)|(with_reducible refine qb_ ?_ _)))))));(first|(refine (fun (Zv:w7.heap[W4.heap.size]?=some (.cells #[.int .i64 0,.int .i64 0,.slice none 0 0] 38 (0,0)))=>?_) (ql_ ?_ hb);rotate_left;(first|exact HZu.out|exact drew_at HZu.out);have HZv:=aK Zv;have c0Zv:=qj_ Zv 0;have c1Zv:=qj_ Zv 1;have c2Zv:=qj_ Zv 2;have f0Zv:=qd_ Zv 0;have f1Zv:=qd_ Zv 1;have f2Zv:=qd_ Zv 2;clear Zv)|skip);(first|(refine (fun (Zx:w7.heap[w6.heap.size]?=some (.cells #[.int .i64 0,.int .i64 0,.slice none 0 0] 38 (0,0)))=>?_) (ql_ ?_ hb);rotate_left;(first|exact drew_at (new_at rfl)|exact new_at rfl);have HZx:=aK Zx;have c0Zx:=qj_ Zx 0;have c1Zx:=qj_ Zx 1;have c2Zx:=qj_ Zx 2;have f0Zx:=qd_ Zx 0;have f1Zx:=qd_ Zx 1;have f2Zx:=qd_ Zx 2;clear Zx)|skip);clear h7 ho9 hv9 hb))
        all_goals
         go_wp2_with fail
         go_meet
         case rel =>
          refine ⟨_,D9,N9,A9,c9,l9,ok9,rfl,rfl,⟨?_⟩,⟨?_⟩,HO9,⟨?_⟩⟩
          ·(repeat' (first|((with_reducible refine SrAt.new ?_);simp;done)|(with_reducible refine SrAt.put3 ?_ _ _ _)|(with_reducible refine SrAt.alloc ?_ _)|(with_reducible refine SrAt.drew ?_)|(with_reducible exact HZv.out)|(with_reducible exact HZx.out)|((with_reducible refine new_at ?_);simp;done)|(with_reducible refine old_at ?_)|(with_reducible refine drew_at ?_)))
          ·(repeat' (first|(with_reducible exact HV9.out)|(with_reducible refine Kd.qc1_ ?_ _)|(with_reducible refine Kd.R_drew ?_)|(with_reducible refine R_box3 (cs:=?_) ?_ ?_ _ _ _)|(with_reducible exact HZv.out)|(with_reducible exact HZx.out)|fail))
          ·(repeat' (first|(with_reducible exact Below.refl _ _)|(with_reducible exact HB7.out)|(with_reducible exact HB6.out)|(with_reducible refine Below.setCell ?_ ?_ _)|(with_reducible refine qc_ ?_)|(with_reducible refine qa_ ?_ _)|(with_reducible refine qb_ ?_ _)|(simp;done)|(simp;omega)|(have q_:=HB7.out.size;simp;omega)|(have q_:=HB6.out.size;simp;omega)))
       case rest =>
        obtain ⟨b9,D9,N9,A9,c9,l9,ok9,rfl,rfl,HS9,HV9,HO9,HM9⟩:=hcut
        have HB9:=aK (qe_ HBW4.out HM9.out)
        clear p0 p1 p2 q0 q1 q2
        by_cases hsb:X.bad=true
        ·have ho:=HO9.out
         rw [outT_bad hsb] at ho
         obtain ⟨rfl,rfl,rfl,rfl⟩:=ho
         obtain ⟨rfl,rfl,rfl,rfl⟩:=HBadS.out (i+1) (by rw [HN.out];exact hsb)
         clear hsb
         have SR:=HSR4.out.below HM9.out
         have s0:wc.cell? ⟨w.heap.size,0,none⟩=some (.int .i64 0):=SrAt.c0 SR
         have sf0:wc.frozen? ⟨w.heap.size,0,none⟩=false:=qd_ SR 0
         have s1:wc.cell? ⟨w.heap.size,1,none⟩=some (.int .i64 0):=SrAt.c1 SR
         have sf1:wc.frozen? ⟨w.heap.size,1,none⟩=false:=qd_ SR 1
         have s2:wc.cell? ⟨w.heap.size,2,none⟩=some (.slice none 0 0):=SrAt.c2 SR
         have sf2:wc.frozen? ⟨w.heap.size,2,none⟩=false:=qd_ SR 2
         have HSRX:=aK SR
         clear SR
         go_wp2
         refine bodyPost_ret (results_ct rfl _ _ w.heap.size 38 _ (0,0) _ rfl (qr_ (qr_ (qr_ HSRX.out 0 _) 1 _) 2 _) hu rfl (by kernel_rfl)) rfl ?_
         exact ⟨_,rfl,Kd.R_nil _ _ _ _ _,qy2_ HB9.out (Nat.le_refl _) _ _ _⟩
        ·have hsg:X.bad=false:=by simpa using hsb
         have ho:=HO9.out
         rw [outT_good hsg] at ho
         obtain ⟨rfl,rfl,rfl,rfl⟩:=ho
         have HGN:=aK (show (meanS d n (l2.take (i+1))).bad=false from by rw [HN.out];exact hsg)
         have S6:=HS64.out.below HM9.out
         have y0:=HS9.out.c0
         have y1:=HS9.out.c1
         have y2:=HS9.out.c2
         have k0:wc.cell? ⟨b6,0,none⟩=some (.int .i64 (d:Int)):=SrAt.c0 S6
         have kf0:wc.frozen? ⟨b6,0,none⟩=false:=qd_ S6 0
         have k1:wc.cell? ⟨b6,1,none⟩=some (.int .i64 (n:Int)):=SrAt.c1 S6
         have kf1:wc.frozen? ⟨b6,1,none⟩=false:=qd_ S6 1
         have k2:wc.cell? ⟨b6,2,none⟩=some (.slice A6 lt.length c6):=SrAt.c2 S6
         have kf2:wc.frozen? ⟨b6,2,none⟩=false:=qd_ S6 2
         have HSK:=aK S6
         have HSR9:=aK (HSR4.out.below HM9.out)
         clear S6 hsb hsg
         go_wp2
         go_roundg (l2.length - (i+1))
         case measure=>omega
         case rel =>
          refine ⟨i+1,A9,c9,by omega,by omega,by have:=HPL.out;first|rfl|(rw [w64 (by omega) (by omega)];rfl),HGN,⟨?_⟩,⟨?_⟩,⟨?_⟩,⟨?_⟩⟩
          ·rw [HN.out];exact HSK.out.box3
          ·rw [HN.out];exact R_box3 HV9.out HSK.out _ _ _
          ·exact HSR9.out.far3 (by have:=HLO.out;omega) _ _ _
          ·exact qy2_ HB9.out (by have:=HLO.out;omega) _ _ _
     ·have hltz:¬ (i:Int) < (l2.length:Int):=by omega
      have hil:i=l2.length:=by omega
      rw [hil,List.take_length] at HG HS6 HV6
      rw [hil]
      clear hil
      have HA1:=aK (HA1'.out HG.out)
      have hml:=meanT_like HS.out l2
      have HT6:=aK (show TmsC wr A6 c6 (termsT (meanS d n l2)) from (TmsC.of HV6.out (by have:=terms_len (meanS_like HS.out l2) HS.out;omega)).1)
      obtain ⟨M,hM⟩:∃ M,M=meanT d n l2:=⟨_,rfl⟩
      rw [← hM] at HA1 HBadM HBadP HEnd hml
      have HML:=aK hml
      clear HA1' hM hml HBadS HOwn HG
      generalize termsT (meanS d n l2)=lt at HA1 HT6 HS6 HV6
      have p0:=HS6.out.c0
      have p1:=HS6.out.c1
      have p2:=HS6.out.c2
      go_wp2
      go_cut [17,18] (fun v17 v18 wx=>∃ (b9:Nat) (D N:Int) (Ax:Option Addr) (cx:Nat) (l9:List S79) (ok:Bool),v17=.pointer (some ⟨b9,0,none⟩)∧v18=.bool ok∧Aside0 (SrAt wx b9 D N (.slice Ax l9.length cx))∧Aside0 (TermsR wx w.heap.size (.slice Ax l9.length cx) l9)∧Aside0 (OutV d n (outT M) D N l9 ok)∧Aside0 (Below wr.heap.size wr wx))
      case first =>
       go_region_held3 (fun w'=>w'.cell? ⟨b6,0,none⟩=some (.int .i64 (d:Int))∧w'.cell? ⟨b6,1,none⟩=some (.int .i64 (n:Int))∧w'.cell? ⟨b6,2,none⟩=some (.slice A6 lt.length c6)) (exact keep3 p0 p1 p2 (by (repeat' (first|(with_reducible exact Below.refl _ _)|(with_reducible exact HB7.out)|(with_reducible exact HB6.out)|(with_reducible refine Below.setCell ?_ ?_ _)|(with_reducible refine qc_ ?_)|(with_reducible refine qa_ ?_ _)|(with_reducible refine qb_ ?_ _)|(simp;done)|(simp;omega)|(have q_:=HB7.out.size;simp;omega)|(have q_:=HB6.out.size;simp;omega))))) (first
        | (go_at_call 108;refine (emptyZ _ d n (HT6.out.below (by repeat (first|(with_reducible exact Below.refl _ _)|(with_reducible refine qc_ ?_)|(with_reducible refine qa_ ?_ _)|(with_reducible refine qb_ ?_ _))))).mono ?_;rintro e w6 ⟨A7,c7,rfl,hv,hb⟩;have HB6:=aK (show Below wr.heap.size wr w6 from qe_ (by repeat (first|(with_reducible exact Below.refl _ _)|(with_reducible refine qc_ ?_)|(with_reducible refine qa_ ?_ _)|(with_reducible refine qb_ ?_ _))) hb);have HC7:=aK (show TmsC w6 A7 c7 (termsT (zeroT d n)) from (TmsC.of hv (by have:=HZZL.out;omega)).1);(first|(refine (fun (Zu:w6.heap[wr.heap.size]?=some (.cells #[.int .i64 0,.int .i64 0,.slice none 0 0] 38 (0,0)))=>?_) (ql_ ?_ hb);rotate_left;(first|exact drew_at (new_at rfl)|exact new_at rfl);have HZu:=aK Zu;have c0Zu:=qj_ Zu 0;have c1Zu:=qj_ Zu 1;have c2Zu:=qj_ Zu 2;have f0Zu:=qd_ Zu 0;have f1Zu:=qd_ Zu 1;have f2Zu:=qd_ Zu 2;clear Zu)|skip);clear hv hb)
        | (go_at_call 125;refine (HA1.out _ _ _ _ _ (HC7.out.below (by repeat (first|(with_reducible exact Below.refl _ _)|(with_reducible refine qc_ ?_)|(with_reducible refine qa_ ?_ _)|(with_reducible refine qb_ ?_ _)))) (HT6.out.below (by repeat (first|(with_reducible exact Below.refl _ _)|(with_reducible exact HB6.out)|(with_reducible refine qc_ ?_)|(with_reducible refine qa_ ?_ _)|(with_reducible refine qb_ ?_ _))))).mono ?_;rintro e w7 h7;obtain ⟨D9,N9,A9,c9,l9,ok9,rfl,ho9,hv9,hb⟩:=h7.val;have HB7:=aK (show Below wr.heap.size wr w7 from qe_ (by repeat (first|(with_reducible exact Below.refl _ _)|(with_reducible exact HB6.out)|(with_reducible refine qc_ ?_)|(with_reducible refine qa_ ?_ _)|(with_reducible refine qb_ ?_ _))) hb);have HO9:=aK ho9;have HV9:=aK (show TermsR w7 w.heap.size (.slice A9 l9.length c9) l9 from Kd.qi2_ hv9 (Nat.le_trans HB.out.size (qk_ (show Below wr.heap.size wr _ from (by repeat (first|(with_reducible exact Below.refl _ _)|(with_reducible exact HB6.out)|(with_reducible refine qc_ ?_)|(with_reducible refine qa_ ?_ _)|(with_reducible refine qb_ ?_ _)))))));(first|(refine (fun (Zv:w7.heap[wr.heap.size]?=some (.cells #[.int .i64 0,.int .i64 0,.slice none 0 0] 38 (0,0)))=>?_) (ql_ ?_ hb);rotate_left;(first|exact HZu.out|exact drew_at HZu.out);have HZv:=aK Zv;have c0Zv:=qj_ Zv 0;have c1Zv:=qj_ Zv 1;have c2Zv:=qj_ Zv 2;have f0Zv:=qd_ Zv 0;have f1Zv:=qd_ Zv 1;have f2Zv:=qd_ Zv 2;clear Zv)|skip);(first|(refine (fun (Zx:w7.heap[w6.heap.size]?=some (.cells #[.int .i64 0,.int .i64 0,.slice none 0 0] 38 (0,0)))=>?_) (ql_ ?_ hb);rotate_left;(first|exact drew_at (new_at rfl)|exact new_at rfl);have HZx:=aK Zx;have c0Zx:=qj_ Zx 0;have c1Zx:=qj_ Zx 1;have c2Zx:=qj_ Zx 2;have f0Zx:=qd_ Zx 0;have f1Zx:=qd_ Zx 1;have f2Zx:=qd_ Zx 2;clear Zx)|skip);clear h7 ho9 hv9 hb))
       all_goals
        go_wp2_with fail
        go_meet
        case rel =>
         refine ⟨_,D9,N9,A9,c9,l9,ok9,rfl,rfl,⟨?_⟩,⟨?_⟩,HO9,⟨?_⟩⟩
         ·(repeat' (first|((with_reducible refine SrAt.new ?_);simp;done)|(with_reducible refine SrAt.put3 ?_ _ _ _)|(with_reducible refine SrAt.alloc ?_ _)|(with_reducible refine SrAt.drew ?_)|(with_reducible exact HZv.out)|(with_reducible exact HZx.out)|((with_reducible refine new_at ?_);simp;done)|(with_reducible refine old_at ?_)|(with_reducible refine drew_at ?_)))
         ·(repeat' (first|(with_reducible exact HV9.out)|(with_reducible refine Kd.qc1_ ?_ _)|(with_reducible refine Kd.R_drew ?_)|(with_reducible refine R_box3 (cs:=?_) ?_ ?_ _ _ _)|(with_reducible exact HZv.out)|(with_reducible exact HZx.out)|fail))
         ·(repeat' (first|(with_reducible exact Below.refl _ _)|(with_reducible exact HB7.out)|(with_reducible exact HB6.out)|(with_reducible refine Below.setCell ?_ ?_ _)|(with_reducible refine qc_ ?_)|(with_reducible refine qa_ ?_ _)|(with_reducible refine qb_ ?_ _)|(simp;done)|(simp;omega)|(have q_:=HB7.out.size;simp;omega)|(have q_:=HB6.out.size;simp;omega)))
      case rest =>
       obtain ⟨b17,D9,N9,A9,c9,l9,ok9,rfl,rfl,HS9,HV9,HO9,HM9⟩:=hcut
       have HB9:=aK (qe_ HB.out HM9.out)
       clear p0 p1 p2
       by_cases hmb:M.bad=true
       ·have ho:=HO9.out
        rw [outT_bad hmb] at ho
        obtain ⟨rfl,rfl,rfl,rfl⟩:=ho
        obtain ⟨rfl,rfl,rfl,rfl⟩:=HBadM.out hmb
        clear hmb
        have SR:=HSR.out.below HM9.out
        have s0:wc.cell? ⟨w.heap.size,0,none⟩=some (.int .i64 0):=SrAt.c0 SR
        have sf0:wc.frozen? ⟨w.heap.size,0,none⟩=false:=qd_ SR 0
        have s1:wc.cell? ⟨w.heap.size,1,none⟩=some (.int .i64 0):=SrAt.c1 SR
        have sf1:wc.frozen? ⟨w.heap.size,1,none⟩=false:=qd_ SR 1
        have s2:wc.cell? ⟨w.heap.size,2,none⟩=some (.slice none 0 0):=SrAt.c2 SR
        have sf2:wc.frozen? ⟨w.heap.size,2,none⟩=false:=qd_ SR 2
        have HSRX:=aK SR
        clear SR
        go_wp2
        refine bodyPost_ret (results_ct rfl _ _ w.heap.size 38 _ (0,0) _ rfl (qr_ (qr_ (qr_ HSRX.out 0 _) 1 _) 2 _) hu rfl (by kernel_rfl)) rfl ?_
        exact ⟨_,rfl,Kd.R_nil _ _ _ _ _,qy2_ HB9.out (Nat.le_refl _) _ _ _⟩
       ·have hmg:M.bad=false:=by simpa using hmb
        have ho:=HO9.out
        rw [outT_good hmg] at ho
        obtain ⟨rfl,rfl,rfl,rfl⟩:=ho
        have HE2:=aK (HEnd.out hmg)
        have HTIM:=aK (show ∀ i,(powT M (zeroT d n) i).bad=false→∀ W B c C e,TmsC W B c (termsT (powT M (zeroT d n) i))→TmsC W C e (termsT M)→Calls Try.prog 133 #[.agg #[.int .i64 (d:Int),.int .i64 (n:Int),.slice B (termsT (powT M (zeroT d n) i)).length c],.agg #[.int .i64 (d:Int),.int .i64 (n:Int),.slice C (termsT M).length e]] W (OutR W d n (outT (powT M (zeroT d n) (i+1)))) from fun i hb W B c C e h1 h2=>timesS W d n HS.out (powT_like (t:=M) (p:=zeroT d n) HS.out i) HML.out hb hmg h1 h2)
        have HPLen:=aK (show ∀ i,(termsT (powT M (zeroT d n) i)).length≤20000 from fun i=>terms_len (powT_like (t:=M) (p:=zeroT d n) HS.out i) HS.out)
        have HMLen:=aK (terms_len HML.out HS.out)
        clear hmb hmg HEnd
        generalize hlm:termsT M=lm at HS9 HV9 HTIM HMLen
        clear hlm
        obtain ⟨w2,hw2⟩:∃ x,x=wc:=⟨_,rfl⟩
        rw [← hw2] at HS9 HV9 HM9 HB9 ⊢
        clear hw2
        have HBM:=aK (show Below w.heap.size w w2 from HB9.out)
        have HC17:=aK (show TmsC w2 A9 c9 lm from (TmsC.of HV9.out (by have:=HMLen.out;omega)).1)
        have HR2:=aK (HSR.out.below HM9.out)
        have x0:=HS9.out.c0
        have x1:=HS9.out.c1
        have x2:=HS9.out.c2
        go_wp2_with (go_at_call 132;refine (unitS _ HS.out HC17.out).mono ?_;rintro e w8 ⟨A8,c8,rfl,hv,hb⟩;have HM8:=aK (show Below w2.heap.size w2 w8 from hb);have HV8:=aK (show TermsR w8 w.heap.size (.slice A8 (termsT (unitT d n)).length c8) (termsT (unitT d n)) from Kd.qi2_ hv HBM.out.size);clear hv hb)
        clear x0 x1 x2
        generalize hW8:World.alloc w8 _=W8
        have HM8':=aK (show Below w2.heap.size w2 W8 from by rw [← hW8];exact qb_ HM8.out _)
        have HS6':=aK (show SrAt W8 w8.heap.size d n (.slice A8 (termsT (powT M (zeroT d n) 0)).length c8) from by rw [← hW8];exact new_at rfl)
        have HV6':=aK (show TermsR W8 w.heap.size (.slice A8 (termsT (powT M (zeroT d n) 0)).length c8) (termsT (powT M (zeroT d n) 0)) from by rw [← hW8];exact Kd.qc1_ HV8.out _)
        have HX8:=aK (HS9.out.below HM8'.out)
        have HY8:=aK (Kd.qe2_ HV9.out HM8'.out)
        have HR8:=aK (HR2.out.below HM8'.out)
        have HB8:=aK (qe_ HBM.out HM8'.out)
        have HLX:=aK (show w.heap.size < w8.heap.size∧b17 < w8.heap.size from ⟨Nat.lt_of_lt_of_le HR2.out.lt HM8.out.size,Nat.lt_of_lt_of_le HS9.out.lt HM8.out.size⟩)
        have HGP:=aK (show (powT M (zeroT d n) 0).bad=false from rfl)
        obtain ⟨b19,hb19⟩:∃ b,b=w8.heap.size:=⟨_,rfl⟩
        rw [← hb19] at HS6' HLX ⊢
        clear hW8 hb19 HS6 HV6 HSR HB HT6 HS9 HV9 HC17 HR2 HM8 HV8 HM8' HM9 HB9
        go_loopg [3] kk (fun gg v3 wr=>∃ (i:Nat) (A6:Option Addr) (c6:Nat),i≤kk∧kk - i≤gg∧v3=.int .i64 ((kk - i:Nat):Int)∧Aside0 ((powT M (zeroT d n) i).bad=false)∧Aside0 (SrAt wr b19 d n (.slice A6 (termsT (powT M (zeroT d n) i)).length c6))∧Aside0 (TermsR wr w.heap.size (.slice A6 (termsT (powT M (zeroT d n) i)).length c6) (termsT (powT M (zeroT d n) i)))∧Aside0 (SrAt wr b17 d n (.slice A9 lm.length c9))∧Aside0 (TermsR wr w.heap.size (.slice A9 lm.length c9) lm)∧Aside0 (SrAt wr w.heap.size 0 0 (.slice none 0 0))∧Aside0 (Below w.heap.size w wr))
        case atStart=>exact ⟨0,A8,c8,Nat.zero_le _,by omega,rfl,HGP,HS6',HV6',HX8,HY8,HR8,HB8⟩
        case round =>
         clear HS6' HV6' HX8 HY8 HR8 HB8 HGP
         obtain ⟨i,A6,c6,hi,hg,rfl,HG,HS6,HV6,HX,HV17,HSR,HB⟩:=hrel
         by_cases hlt:i < kk
         ·obtain ⟨lt,hlt_⟩:∃ l,l=termsT (powT M (zeroT d n) i):=⟨_,rfl⟩
          rw [← hlt_] at HS6 HV6
          obtain ⟨m,hm⟩:∃ m:Nat,m=kk - i:=⟨_,rfl⟩
          rw [← hm]
          have hltz:(0:Int) < (m:Int):=by omega
          have HM:=aK hm
          have hC:=HTIM.out i HG.out
          rw [← hlt_] at hC
          have HT6:=aK (show TmsC wr A6 c6 lt from (TmsC.of HV6.out (by rw [hlt_];have:=HPLen.out i;omega)).1)
          have HC17:=aK (show TmsC wr A9 c9 lm from (TmsC.of HV17.out (by have:=HMLen.out;omega)).1)
          clear hlt_
          have q0:wr.cell? ⟨b19,0,none⟩=some (.int .i64 (d:Int)):=SrAt.c0 HS6.out
          have q1:wr.cell? ⟨b19,1,none⟩=some (.int .i64 (n:Int)):=SrAt.c1 HS6.out
          have q2:wr.cell? ⟨b19,2,none⟩=some (.slice A6 lt.length c6):=SrAt.c2 HS6.out
          have x0:wr.cell? ⟨b17,0,none⟩=some (.int .i64 (d:Int)):=SrAt.c0 HX.out
          have x1:wr.cell? ⟨b17,1,none⟩=some (.int .i64 (n:Int)):=SrAt.c1 HX.out
          have x2:wr.cell? ⟨b17,2,none⟩=some (.slice A9 lm.length c9):=SrAt.c2 HX.out
          by_cases hb:(powT M (zeroT d n) (i+1)).bad=true
          ·rw [outT_bad hb] at hC
           obtain ⟨rfl,rfl,rfl,rfl⟩:=HBadP.out (i+1) (by omega) hb
           have HTI:=aK hC
           clear hC hb hm
           go_wp2_with (go_at_call 133;(with_reducible refine (HTI.out _ _ _ _ _ HT6.out HC17.out).mono ?_);rintro e w7 ⟨v,rfl,hv,hb⟩;obtain ⟨A7,c7,rfl⟩:=Kd.qa2_ hv;have HB7:=aK (show Below w.heap.size w w7 from qe_ HB.out hb);have SR:=HSR.out.below hb;clear q0 q1 q2 x0 x1 x2;have s0:(w7.alloc (.cells #[.int .i64 0,.int .i64 0,.slice A7 0 c7] 38)).cell? ⟨w.heap.size,0,none⟩=some (.int .i64 0):=SrAt.c0 (SrAt.alloc SR _);have sf0:(w7.alloc (.cells #[.int .i64 0,.int .i64 0,.slice A7 0 c7] 38)).frozen? ⟨w.heap.size,0,none⟩=false:=qd_ (SrAt.alloc SR _) 0;have s1:(w7.alloc (.cells #[.int .i64 0,.int .i64 0,.slice A7 0 c7] 38)).cell? ⟨w.heap.size,1,none⟩=some (.int .i64 0):=SrAt.c1 (SrAt.alloc SR _);have sf1:(w7.alloc (.cells #[.int .i64 0,.int .i64 0,.slice A7 0 c7] 38)).frozen? ⟨w.heap.size,1,none⟩=false:=qd_ (SrAt.alloc SR _) 1;have s2:(w7.alloc (.cells #[.int .i64 0,.int .i64 0,.slice A7 0 c7] 38)).cell? ⟨w.heap.size,2,none⟩=some (.slice none 0 0):=SrAt.c2 (SrAt.alloc SR _);have sf2:(w7.alloc (.cells #[.int .i64 0,.int .i64 0,.slice A7 0 c7] 38)).frozen? ⟨w.heap.size,2,none⟩=false:=qd_ (SrAt.alloc SR _) 2;have HS7:=aK SR;clear SR hv hb)
           refine bodyPost_ret (results_ct rfl _ _ w.heap.size 38 _ (0,0) _ rfl (qr_ (qr_ (qr_ (HS7.out.alloc _) 0 _) 1 _) 2 _) hu rfl (by kernel_rfl)) rfl ?_
           exact ⟨_,rfl,Kd.R_nil _ _ _ _ _,qy2_ (qb_ HB7.out _) (Nat.le_refl _) _ _ _⟩
          ·have hg2:(powT M (zeroT d n) (i+1)).bad=false:=by simpa using hb
           rw [outT_good hg2] at hC
           have HG2:=aK hg2
           obtain ⟨lp,hlp⟩:∃ l,l=termsT (powT M (zeroT d n) (i+1)):=⟨_,rfl⟩
           rw [← hlp] at hC
           have HLP:=aK hlp
           have HTI:=aK hC
           clear hC hb hm hg2 hlp
           go_wp2_with (go_at_call 133;(with_reducible refine (HTI.out _ _ _ _ _ HT6.out HC17.out).mono ?_);rintro e w7 ⟨v,rfl,hv,hb⟩;obtain ⟨A7,c7,rfl⟩:=Kd.qa2_ hv;have HB7:=aK (show Below w.heap.size w w7 from qe_ HB.out hb);have HV7:=aK (show TermsR w7 w.heap.size (.slice A7 lp.length c7) lp from Kd.qi2_ hv HB.out.size);have HR7:=aK (HSR.out.below hb);have HX7:=aK (HX.out.below hb);have HY7:=aK (Kd.qe2_ HV17.out hb);have S6:=HS6.out.below hb;clear q0 q1 q2 x0 x1 x2;have q0:(w7.alloc (.cells #[.int .i64 (d:Int),.int .i64 (n:Int),.slice A7 lp.length c7] 38)).cell? ⟨b19,0,none⟩=some (.int .i64 (d:Int)):=SrAt.c0 (SrAt.alloc S6 _);have qf0:(w7.alloc (.cells #[.int .i64 (d:Int),.int .i64 (n:Int),.slice A7 lp.length c7] 38)).frozen? ⟨b19,0,none⟩=false:=qd_ (SrAt.alloc S6 _) 0;have q1:(w7.alloc (.cells #[.int .i64 (d:Int),.int .i64 (n:Int),.slice A7 lp.length c7] 38)).cell? ⟨b19,1,none⟩=some (.int .i64 (n:Int)):=SrAt.c1 (SrAt.alloc S6 _);have qf1:(w7.alloc (.cells #[.int .i64 (d:Int),.int .i64 (n:Int),.slice A7 lp.length c7] 38)).frozen? ⟨b19,1,none⟩=false:=qd_ (SrAt.alloc S6 _) 1;have q2:(w7.alloc (.cells #[.int .i64 (d:Int),.int .i64 (n:Int),.slice A7 lp.length c7] 38)).cell? ⟨b19,2,none⟩=some (.slice A6 lt.length c6):=SrAt.c2 (SrAt.alloc S6 _);have qf2:(w7.alloc (.cells #[.int .i64 (d:Int),.int .i64 (n:Int),.slice A7 lp.length c7] 38)).frozen? ⟨b19,2,none⟩=false:=qd_ (SrAt.alloc S6 _) 2;have HS7:=aK S6;clear S6 hv hb)
           go_roundg (kk - (i+1))
           case measure=>omega
           case rel =>
            refine ⟨i+1,A7,c7,by omega,by omega,by have:=HM.out;first|(rw [w64 (by omega) (by omega)];congr 1;omega)|(congr 1;rw [w64 (by omega) (by omega)];omega)|(congr 1;omega),HG2,⟨?_⟩,⟨?_⟩,⟨?_⟩,⟨?_⟩,⟨?_⟩,⟨?_⟩⟩
            ·rw [← HLP.out];exact (HS7.out.alloc _).box3
            ·rw [← HLP.out];exact R_box3 (Kd.qc1_ HV7.out _) (HS7.out.alloc _) _ _ _
            ·exact (HX7.out.alloc _).far3 (by have:=HLX.out;omega) _ _ _
            ·exact R_box3 (Kd.qc1_ HY7.out _) (HS7.out.alloc _) _ _ _
            ·exact (HR7.out.alloc _).far3 (by have:=HLX.out;omega) _ _ _
            ·exact qy2_ (qb_ HB7.out _) (by have:=HLX.out;omega) _ _ _
         ·have hik:i=kk:=by omega
          rw [hik] at HS6 HV6 HG
          rw [hik,Nat.sub_self]
          clear hik
          obtain ⟨rfl,rfl,rfl,rfl⟩:=HE2.out HG.out
          have q0:wr.cell? ⟨b19,0,none⟩=some (.int .i64 (d:Int)):=SrAt.c0 HS6.out
          have q1:wr.cell? ⟨b19,1,none⟩=some (.int .i64 (n:Int)):=SrAt.c1 HS6.out
          have q2:wr.cell? ⟨b19,2,none⟩=some (.slice A6 (termsT (powT M (zeroT d n) kk)).length c6):=SrAt.c2 HS6.out
          have s0:wr.cell? ⟨w.heap.size,0,none⟩=some (.int .i64 0):=SrAt.c0 HSR.out
          have sf0:wr.frozen? ⟨w.heap.size,0,none⟩=false:=qd_ HSR.out 0
          have s1:wr.cell? ⟨w.heap.size,1,none⟩=some (.int .i64 0):=SrAt.c1 HSR.out
          have sf1:wr.frozen? ⟨w.heap.size,1,none⟩=false:=qd_ HSR.out 1
          have s2:wr.cell? ⟨w.heap.size,2,none⟩=some (.slice none 0 0):=SrAt.c2 HSR.out
          have sf2:wr.frozen? ⟨w.heap.size,2,none⟩=false:=qd_ HSR.out 2
          go_wp2
          refine bodyPost_ret (results_ct rfl _ _ w.heap.size 38 _ (0,0) _ rfl (qr_ (qr_ (qr_ HSR.out 0 _) 1 _) 2 _) hu rfl (by kernel_rfl)) rfl ?_
          refine ⟨_,rfl,?_,qy2_ HB.out (Nat.le_refl _) _ _ _⟩
          exact R_box3 HV6.out HSR.out _ _ _
end Go.Proofs.Ytaiefdhenikiiaa.Base
namespace Go.Proofs.Ytaiefdhenikiiaa.Base
open Go.RowKit Go.Proofs.YtaiefdhenikiiaaW.PrintWords Go.Proofs.YtaiefdhenikiiaaW.PrintLast Go.Proofs.YtaiefdhenikiiaaW.PrintMore
attribute [local go_sem] max2_int qq1_ max_two min_two max_three min_three max_four min_four Go.Proofs.YtaiefdhenikiiaaZ.qu_   -- for this text's walks alone
set_option linter.unusedVariables false
set_option linter.unusedSimpArgs false
def qk2_.f (a0:Int) (a1:Int) (l2:List (List Int)) (a3:Int):Option (Int × Int × (List S79) × Int):=if l2.length≤1048576∧(∀ r ∈ l2,r.length≤1048576) then some (meanR a0 a1 l2 a3) else none
set_option maxHeartbeats 16000000 in
set_option maxRecDepth 100000 in
theorem qk2_.calls (a0:Int) (a1:Int) (A2:Option Addr) (c2:Nat) (l2:List (List Int)) (a3:Int) (r1:Int) (r2:Int) (r3:List (S79)) (r4:Int) (w:World) (hr2:Kd.C (Kd.slice 2 (Kd.int .i64)) w A2 l2.length l2) (hc2:l2.length≤c2) (h:qk2_.f a0 a1 l2 a3=some (r1,r2,r3,r4)) :
  Calls Try.prog 66 #[.int .i64 a0,.int .i64 a1,.slice A2 l2.length c2,.int .i64 a3] w fun e w'=>∃ v2_:Value,e=.returned (.tuple #[.agg #[.int .i64 r1,.int .i64 r2,v2_],.int .i64 r4])∧Kd.R k79 79 w' w.heap.size (fun _=>True) v2_ r3∧Below w.heap.size w w':=by
 unfold qk2_.f at h
 split at h
 rotate_left
 ·cases h
 rename_i hsm
 replace h:=Option.some.inj h
 have hu:=Try.underlying38
 have hk:=pcode_impl a0 a1 l2
 have h4:qy1_.f a3 0 8=some (decide (0≤a3∧a3≤8)):=within_is a3 0 8
 have HR:=aK hr2
 have HC:=aK hc2
 clear hr2 hc2
 unfold meanR at h
 obtain ⟨p,hp⟩:∃ p,p=codeM a0 a1 l2 a3:=⟨_,rfl⟩
 rw [← hp] at h
 unfold codeM at hp
 obtain ⟨q,hq⟩:∃ q,q=codeP a0 a1 (Go.Proofs.YtaiefdhenikiiaaC.isPath a0 l2):=⟨_,rfl⟩
 rw [← hq] at hp hk
 by_cases c:q=0
 rotate_left
 ·rw [if_neg c] at hp
  rw [hp,if_neg c] at h
  simp only [Prod.mk.injEq] at h
  obtain ⟨rfl,rfl,rfl,rfl⟩:=h
  have HK:=aK hk
  clear hk h4 hsm hq hp
  go_enter Try.func66,Try.ntmps66
  go_wp2_with (go_at_call 104;(with_reducible refine (qz2_.calls _ _ _ _ l2 _ _ (Kd.qw1_ HR.out (qb_ (Below.refl _ _) _)) HC.out HK.out).mono ?_);rintro e w1 ⟨rfl,hd⟩;have HB1:=aK (show Below w.heap.size w w1 from qe_ (qb_ (Below.refl _ _) _) hd);have S:SrAt w1 w.heap.size 0 0 (.slice none 0 0):=ql_ (new_at rfl) hd;have x0:w1.cell? ⟨w.heap.size,0,none⟩=some (.int .i64 0):=SrAt.c0 S;have xf0:w1.frozen? ⟨w.heap.size,0,none⟩=false:=qd_ S 0;have x1:w1.cell? ⟨w.heap.size,1,none⟩=some (.int .i64 0):=SrAt.c1 S;have xf1:w1.frozen? ⟨w.heap.size,1,none⟩=false:=qd_ S 1;have x2:w1.cell? ⟨w.heap.size,2,none⟩=some (.slice none 0 0):=SrAt.c2 S;have xf2:w1.frozen? ⟨w.heap.size,2,none⟩=false:=qd_ S 2;have HS1:=aK S;clear S hd)
  refine bodyPost_ret (results_ct rfl _ _ w.heap.size 38 _ (0,0) _ rfl (qr_ (qr_ (qr_ HS1.out 0 _) 1 _) 2 _) hu rfl (by kernel_rfl)) rfl ?_
  exact ⟨_,rfl,Kd.R_nil _ _ _ _ _,((HB1.out.setCell (Nat.le_refl _) _).setCell (Nat.le_refl _) _).setCell (Nat.le_refl _) _⟩
 ·rw [if_pos c] at hp
  rw [c] at hk
  have HK:=aK hk
  by_cases c1:l2.length=0
  ·rw [if_pos c1] at hp
   rw [hp,if_neg (by decide)] at h
   simp only [Prod.mk.injEq] at h
   obtain ⟨rfl,rfl,rfl,rfl⟩:=h
   have e1:((l2.length:Int) == 0)=true:=by rw [c1];rfl
   clear hk h4 hsm hq hp c c1
   go_enter Try.func66,Try.ntmps66
   go_wp2_with (go_at_call 104;(with_reducible refine (qz2_.calls _ _ _ _ l2 _ _ (Kd.qw1_ HR.out (qb_ (Below.refl _ _) _)) HC.out HK.out).mono ?_);rintro e w1 ⟨rfl,hd⟩;have HB1:=aK (show Below w.heap.size w w1 from qe_ (qb_ (Below.refl _ _) _) hd);have S:SrAt w1 w.heap.size 0 0 (.slice none 0 0):=ql_ (new_at rfl) hd;have x0:w1.cell? ⟨w.heap.size,0,none⟩=some (.int .i64 0):=SrAt.c0 S;have xf0:w1.frozen? ⟨w.heap.size,0,none⟩=false:=qd_ S 0;have x1:w1.cell? ⟨w.heap.size,1,none⟩=some (.int .i64 0):=SrAt.c1 S;have xf1:w1.frozen? ⟨w.heap.size,1,none⟩=false:=qd_ S 1;have x2:w1.cell? ⟨w.heap.size,2,none⟩=some (.slice none 0 0):=SrAt.c2 S;have xf2:w1.frozen? ⟨w.heap.size,2,none⟩=false:=qd_ S 2;have HS1:=aK S;clear S hd)
   refine bodyPost_ret (results_ct rfl _ _ w.heap.size 38 _ (0,0) _ rfl (qr_ (qr_ (qr_ HS1.out 0 _) 1 _) 2 _) hu rfl (by kernel_rfl)) rfl ?_
   exact ⟨_,rfl,Kd.R_nil _ _ _ _ _,((HB1.out.setCell (Nat.le_refl _) _).setCell (Nat.le_refl _) _).setCell (Nat.le_refl _) _⟩
  ·rw [if_neg c1] at hp
   have e1:((l2.length:Int) == 0)=false:=by rw [beq_eq_false_iff_ne];omega
   by_cases cw:0≤a3∧a3≤8
   rotate_left
   ·rw [if_neg cw] at hp
    rw [decide_eq_false cw] at h4
    rw [hp,if_neg (by decide)] at h
    simp only [Prod.mk.injEq] at h
    obtain ⟨rfl,rfl,rfl,rfl⟩:=h
    have HW:=aK h4
    clear hk h4 hsm hq hp c c1 cw
    go_enter Try.func66,Try.ntmps66
    go_wp2_with (first
     | (go_at_call 104;(with_reducible refine (qz2_.calls _ _ _ _ l2 _ _ (Kd.qw1_ HR.out (qb_ (Below.refl _ _) _)) HC.out HK.out).mono ?_);rintro e w1 ⟨rfl,hd⟩;have HB1:=aK (show Below w.heap.size w w1 from qe_ (qb_ (Below.refl _ _) _) hd);have S:SrAt w1 w.heap.size 0 0 (.slice none 0 0):=ql_ (new_at rfl) hd;have HS1:=aK S;clear S hd)
     | (go_at_call 111;(with_reducible refine (qy1_.calls _ _ _ _ _ HW.out).mono ?_);rintro e w2 ⟨rfl,hd⟩;have HB2:=aK (show Below w.heap.size w w2 from qe_ HB1.out hd.below);have S:SrAt w2 w.heap.size 0 0 (.slice none 0 0):=SrAt.below HS1.out hd.below;have x0:w2.cell? ⟨w.heap.size,0,none⟩=some (.int .i64 0):=SrAt.c0 S;have xf0:w2.frozen? ⟨w.heap.size,0,none⟩=false:=qd_ S 0;have x1:w2.cell? ⟨w.heap.size,1,none⟩=some (.int .i64 0):=SrAt.c1 S;have xf1:w2.frozen? ⟨w.heap.size,1,none⟩=false:=qd_ S 1;have x2:w2.cell? ⟨w.heap.size,2,none⟩=some (.slice none 0 0):=SrAt.c2 S;have xf2:w2.frozen? ⟨w.heap.size,2,none⟩=false:=qd_ S 2;have HS2:=aK S;clear S hd))
    refine bodyPost_ret (results_ct rfl _ _ w.heap.size 38 _ (0,0) _ rfl (qr_ (qr_ (qr_ HS2.out 0 _) 1 _) 2 _) hu rfl (by kernel_rfl)) rfl ?_
    exact ⟨_,rfl,Kd.R_nil _ _ _ _ _,((HB2.out.setCell (Nat.le_refl _) _).setCell (Nat.le_refl _) _).setCell (Nat.le_refl _) _⟩
   ·rw [if_pos cw] at hp
    rw [decide_eq_true cw] at h4
    have HW:=aK h4
    rw [if_pos hp] at h
    obtain ⟨kk,rfl⟩:∃ kk:Nat,a3=kk:=⟨a3.toNat,by omega⟩
    have hkk:kk≤8:=by omega
    obtain ⟨hb_,d,n,rfl,rfl,hs,hn⟩:=codeP_good (hq.symm.trans c)
    obtain ⟨hpl,hok⟩:=okP hb_
    rw [Int.toNat_natCast,Int.toNat_natCast,Int.toNat_natCast] at h
    have HT:=aK (told_all (mnT_like hs l2 kk) h)
    have HZ:=aK (zeroT_ok hs)
    have HSz:=aK hs
    have HN:=aK hn
    have HOK:=aK (show ∀ row ∈ l2,row.length≤d∧okRow row from fun row hr=>⟨by have:=(hok row hr).1;omega,(hok row hr).2⟩)
    have HPF:=aK (show okF (partF l2.length) from partF_ok (by omega) hpl)
    have HPL:=aK hpl
    clear h h4 hk hsm hq hp c c1 cw hb_ hok hpl hs hn
    go_enter Try.func66,Try.ntmps66
    go_wp2_with (first
     | (go_at_call 104;(with_reducible refine (qz2_.calls _ _ _ _ l2 _ _ (Kd.qw1_ HR.out (qb_ (Below.refl _ _) _)) HC.out HK.out).mono ?_);rintro e w1 ⟨rfl,hd⟩;have HB1:=aK (show Below w.heap.size w w1 from qe_ (qb_ (Below.refl _ _) _) hd);have S:SrAt w1 w.heap.size 0 0 (.slice none 0 0):=ql_ (new_at rfl) hd;have HS1:=aK S;clear S hd)
     | (go_at_call 111;(with_reducible refine (qy1_.calls _ _ _ _ _ HW.out).mono ?_);rintro e w2 ⟨rfl,hd⟩;have HB2:=aK (show Below w.heap.size w w2 from qe_ HB1.out hd.below);have S:SrAt w2 w.heap.size 0 0 (.slice none 0 0):=SrAt.below HS1.out hd.below;have HS2:=aK S;clear S hd)
     | (go_at_call 126;refine (newTableL _ d n HSz.out).mono ?_;rintro e w3 ⟨g3,k3,rfl,T,hg,hh,hb⟩;have HO3:=aK T;have HB3:=aK (show Below w.heap.size w w3 from qe_ HB2.out hb);have HS3:=aK (HS2.out.below hb);clear T hg hh hb))
    go_loopg [11,37] l2.length (fun gg v11 v37 wr=>∃ (i g k:Nat),i≤l2.length∧l2.length - i≤gg∧v11=.pointer (some ⟨g,0,none⟩)∧v37=.int .i64 i∧Aside0 (HasT wr g k (meanS d n (l2.take i)) (zeroT d n))∧Aside0 (SrAt wr w.heap.size 0 0 (.slice none 0 0))∧Aside0 (Below w.heap.size w wr))
    case atStart=>exact ⟨0,g3,k3,Nat.zero_le _,by omega,rfl,rfl,HO3,HS3,HB3⟩
    case round =>
     clear HO3 HS3 HB3 HS1 HS2 HB1 HB2
     obtain ⟨i,g,k,hi,hg,rfl,rfl,HO,HSr,HB⟩:=hrel
     by_cases hlt:i < l2.length
     ·have hltz:(i:Int) < (l2.length:Int):=by omega
      obtain ⟨ad,A0,c0,rfl,x0,hc0,hK⟩:=rows_at (Kd.qw1_ HR.out HB.out) i hlt
      have e2:l2.getD i []=l2[i]:=by rw [List.getD_eq_getElem?_getD,List.getElem?_eq_getElem hlt,Option.getD_some]
      have HSU:=aK (meanS_succ d n l2 hlt)
      obtain ⟨row,hrow⟩:∃ row,row=l2[i]:=⟨_,rfl⟩
      rw [e2,← hrow] at x0 hK hc0
      rw [← hrow] at HSU
      have HM:=aK (HOK.out row (by rw [hrow];exact List.getElem_mem hlt))
      have HKK:=aK hK
      clear hK e2 hrow hc0
      go_wp2_with (first
       | (go_at_call 105;refine (stepSignature_ _ d n A0 c0 row HKK.out HSz.out HN.out HM.out.1 HM.out.2).mono ?_;rintro e w4 ⟨g4,k4,rfl,T,hg4,hh4,hb⟩;have HT4:=aK T;have HO4:=aK (HO.out.below hb);have HS4:=aK (HSr.out.below hb);have HB4:=aK (show Below w.heap.size w w4 from qe_ HB.out hb);clear T hg4 hh4 hb)
       | (go_at_call 129;refine (sumL _ HO4.out HT4.out HZ.out).mono ?_;rintro e w5 ⟨g5,k5,rfl,T,hg5,hh5,hb⟩;have HO5:=aK T;have HS5:=aK (HS4.out.below hb);have HB5:=aK (show Below w.heap.size w w5 from qe_ HB4.out hb);clear T hg5 hh5 hb))
      go_roundg (l2.length - (i+1))
      case measure=>omega
      case rel =>
       refine ⟨i+1,g5,k5,by omega,by omega,rfl,by have:=HPL.out;first|rfl|(rw [w64 (by omega) (by omega)];rfl),⟨?_⟩,HS5,HB5⟩
       rw [HSU.out];exact HO5.out
     ·have hltz:¬ (i:Int) < (l2.length:Int):=by omega
      have hil:i=l2.length:=by omega
      rw [hil,List.take_length] at HO
      rw [hil]
      clear hil
      obtain ⟨P,hP⟩:∃ P,P=powT (meanT d n l2) (zeroT d n) kk:=⟨_,rfl⟩
      obtain ⟨M,hM⟩:∃ M,M=meanT d n l2:=⟨_,rfl⟩
      have HME:=aK (show mnT d n l2 kk={ P with bad:=P.bad || M.bad } from by rw [hP,hM];rfl)
      have HPE:=aK hP
      have HMM:=aK hM
      clear hP hM
      cases hpb:P.bad with
      | true =>
       have HX:=aK (show mnT d n l2 kk={ P with bad:=true } from by rw [HME.out,hpb];rfl)
       have HPB:=aK hpb
       clear hpb HME
       go_wp2_with (first
        | (go_at_call 130;refine (scaledL _ HO.out (partF l2.length) HPF.out).mono ?_;rintro e w6 ⟨g6,k6,rfl,T,hg6,hh6,hb⟩;have HM6:=aK (show HasT w6 g6 k6 M (zeroT d n) from by rw [HMM.out];exact T);have HS6:=aK (HSr.out.below hb);have HB6:=aK (show Below w.heap.size w w6 from qe_ HB.out hb);clear T hg6 hh6 hb)
        | (go_at_call 134;refine (power' _ HM6.out HZ.out kk (by omega)).mono ?_;rintro e w7 ⟨g7,k7,rfl,T,hg7,hh7,hb⟩;have HO7:=aK (show HasT w7 g7 k7 P (zeroT d n) from (HPE.out.trans (congrArg (fun z_=>powT z_ (zeroT d n) kk) HMM.out.symm)).symm ▸ T);have HM7:=aK (HM6.out.below hb);have HS7:=aK (HS6.out.below hb);have HB7:=aK (show Below w.heap.size w w7 from qe_ HB6.out hb);have HG7:=aK (show w.heap.size < g7 from Nat.lt_of_lt_of_le (SrAt.lt HS6.out) hg7);have fz:=qd_ HO7.out.tab.st 3;have cO:w7.cell? ⟨g7,3,none⟩=some (.bool true):=HO7.out.tab.c3.trans (congrArg (fun z_=>some (Value.bool z_)) HPB.out);clear T hg7 hh7 hb)
        | (go_at_call 96;have HTM:=HO7.out.tab.setBad true;rw [← HX.out] at HTM;refine (HT.out _ _ _ HTM).mono ?_;rintro e w8 ⟨v,rfl,hv,hb⟩;obtain ⟨A1,c1_,rfl⟩:=Kd.qa2_ hv;have HB8:=aK (show Below w.heap.size w w8 from qe_ (HB7.out.setCell (Nat.le_of_lt HG7.out) _) hb);have HV:=aK (Kd.qi2_ hv (qk_ (HB7.out.setCell (Nat.le_of_lt HG7.out) _)));have S:=(HS7.out.far (by have:=HG7.out;simp;omega) _).below hb;have x0:w8.cell? ⟨w.heap.size,0,none⟩=some (.int .i64 0):=SrAt.c0 S;have xf0:w8.frozen? ⟨w.heap.size,0,none⟩=false:=qd_ S 0;have x1:w8.cell? ⟨w.heap.size,1,none⟩=some (.int .i64 0):=SrAt.c1 S;have xf1:w8.frozen? ⟨w.heap.size,1,none⟩=false:=qd_ S 1;have x2:w8.cell? ⟨w.heap.size,2,none⟩=some (.slice none 0 0):=SrAt.c2 S;have xf2:w8.frozen? ⟨w.heap.size,2,none⟩=false:=qd_ S 2;have HS8:=aK S;clear S hv hb HTM))
       refine bodyPost_ret (results_ct rfl _ _ w.heap.size 38 _ (0,0) _ rfl (qr_ (qr_ (qr_ HS8.out 0 _) 1 _) 2 _) hu rfl (by kernel_rfl)) rfl ?_
       refine ⟨_,rfl,?_,((HB8.out.setCell (Nat.le_refl _) _).setCell (Nat.le_refl _) _).setCell (Nat.le_refl _) _⟩
       exact Kd.R_set (Kd.R_set (Kd.R_set HV.out HS8.out (by decide) 0 _) (qr_ HS8.out 0 _) (by decide) 1 _) (qr_ (qr_ HS8.out 0 _) 1 _) (by decide) 2 _
      | false =>
       cases hmb:M.bad with
       | true =>
        have HX:=aK (show mnT d n l2 kk={ P with bad:=true } from by rw [HME.out,hpb,hmb];rfl)
        have HPB:=aK hpb
        have HMB:=aK hmb
        clear hpb hmb HME
        go_wp2_with (first
         | (go_at_call 130;refine (scaledL _ HO.out (partF l2.length) HPF.out).mono ?_;rintro e w6 ⟨g6,k6,rfl,T,hg6,hh6,hb⟩;have HM6:=aK (show HasT w6 g6 k6 M (zeroT d n) from by rw [HMM.out];exact T);have HS6:=aK (HSr.out.below hb);have HB6:=aK (show Below w.heap.size w w6 from qe_ HB.out hb);clear T hg6 hh6 hb)
         | (go_at_call 134;refine (power' _ HM6.out HZ.out kk (by omega)).mono ?_;rintro e w7 ⟨g7,k7,rfl,T,hg7,hh7,hb⟩;have HO7:=aK (show HasT w7 g7 k7 P (zeroT d n) from (HPE.out.trans (congrArg (fun z_=>powT z_ (zeroT d n) kk) HMM.out.symm)).symm ▸ T);have HM7:=aK (HM6.out.below hb);have HS7:=aK (HS6.out.below hb);have HB7:=aK (show Below w.heap.size w w7 from qe_ HB6.out hb);have HG7:=aK (show w.heap.size < g7 from Nat.lt_of_lt_of_le (SrAt.lt HS6.out) hg7);have fz:=qd_ HO7.out.tab.st 3;have cO:w7.cell? ⟨g7,3,none⟩=some (.bool false):=HO7.out.tab.c3.trans (congrArg (fun z_=>some (Value.bool z_)) HPB.out);have cM:w7.cell? ⟨g6,3,none⟩=some (.bool true):=HM7.out.tab.c3.trans (congrArg (fun z_=>some (Value.bool z_)) HMB.out);clear T hg7 hh7 hb)
         | (go_at_call 96;have HTM:=HO7.out.tab.setBad true;rw [← HX.out] at HTM;refine (HT.out _ _ _ HTM).mono ?_;rintro e w8 ⟨v,rfl,hv,hb⟩;obtain ⟨A1,c1_,rfl⟩:=Kd.qa2_ hv;have HB8:=aK (show Below w.heap.size w w8 from qe_ (HB7.out.setCell (Nat.le_of_lt HG7.out) _) hb);have HV:=aK (Kd.qi2_ hv (qk_ (HB7.out.setCell (Nat.le_of_lt HG7.out) _)));have S:=(HS7.out.far (by have:=HG7.out;simp;omega) _).below hb;have x0:w8.cell? ⟨w.heap.size,0,none⟩=some (.int .i64 0):=SrAt.c0 S;have xf0:w8.frozen? ⟨w.heap.size,0,none⟩=false:=qd_ S 0;have x1:w8.cell? ⟨w.heap.size,1,none⟩=some (.int .i64 0):=SrAt.c1 S;have xf1:w8.frozen? ⟨w.heap.size,1,none⟩=false:=qd_ S 1;have x2:w8.cell? ⟨w.heap.size,2,none⟩=some (.slice none 0 0):=SrAt.c2 S;have xf2:w8.frozen? ⟨w.heap.size,2,none⟩=false:=qd_ S 2;have HS8:=aK S;clear S hv hb HTM))
        refine bodyPost_ret (results_ct rfl _ _ w.heap.size 38 _ (0,0) _ rfl (qr_ (qr_ (qr_ HS8.out 0 _) 1 _) 2 _) hu rfl (by kernel_rfl)) rfl ?_
        refine ⟨_,rfl,?_,((HB8.out.setCell (Nat.le_refl _) _).setCell (Nat.le_refl _) _).setCell (Nat.le_refl _) _⟩
        exact Kd.R_set (Kd.R_set (Kd.R_set HV.out HS8.out (by decide) 0 _) (qr_ HS8.out 0 _) (by decide) 1 _) (qr_ (qr_ HS8.out 0 _) 1 _) (by decide) 2 _
       | false =>
        have HX:=aK (show mnT d n l2 kk={ P with bad:=false } from by rw [HME.out,hpb,hmb];rfl)
        have HPB:=aK hpb
        have HMB:=aK hmb
        clear hpb hmb HME
        go_wp2_with (first
         | (go_at_call 130;refine (scaledL _ HO.out (partF l2.length) HPF.out).mono ?_;rintro e w6 ⟨g6,k6,rfl,T,hg6,hh6,hb⟩;have HM6:=aK (show HasT w6 g6 k6 M (zeroT d n) from by rw [HMM.out];exact T);have HS6:=aK (HSr.out.below hb);have HB6:=aK (show Below w.heap.size w w6 from qe_ HB.out hb);clear T hg6 hh6 hb)
         | (go_at_call 134;refine (power' _ HM6.out HZ.out kk (by omega)).mono ?_;rintro e w7 ⟨g7,k7,rfl,T,hg7,hh7,hb⟩;have HO7:=aK (show HasT w7 g7 k7 P (zeroT d n) from (HPE.out.trans (congrArg (fun z_=>powT z_ (zeroT d n) kk) HMM.out.symm)).symm ▸ T);have HM7:=aK (HM6.out.below hb);have HS7:=aK (HS6.out.below hb);have HB7:=aK (show Below w.heap.size w w7 from qe_ HB6.out hb);have HG7:=aK (show w.heap.size < g7 from Nat.lt_of_lt_of_le (SrAt.lt HS6.out) hg7);have fz:=qd_ HO7.out.tab.st 3;have cO:w7.cell? ⟨g7,3,none⟩=some (.bool false):=HO7.out.tab.c3.trans (congrArg (fun z_=>some (Value.bool z_)) HPB.out);have cM:w7.cell? ⟨g6,3,none⟩=some (.bool false):=HM7.out.tab.c3.trans (congrArg (fun z_=>some (Value.bool z_)) HMB.out);clear T hg7 hh7 hb)
         | (go_at_call 96;have HTM:=HO7.out.tab.setBad false;rw [← HX.out] at HTM;refine (HT.out _ _ _ HTM).mono ?_;rintro e w8 ⟨v,rfl,hv,hb⟩;obtain ⟨A1,c1_,rfl⟩:=Kd.qa2_ hv;have HB8:=aK (show Below w.heap.size w w8 from qe_ (HB7.out.setCell (Nat.le_of_lt HG7.out) _) hb);have HV:=aK (Kd.qi2_ hv (qk_ (HB7.out.setCell (Nat.le_of_lt HG7.out) _)));have S:=(HS7.out.far (by have:=HG7.out;simp;omega) _).below hb;have x0:w8.cell? ⟨w.heap.size,0,none⟩=some (.int .i64 0):=SrAt.c0 S;have xf0:w8.frozen? ⟨w.heap.size,0,none⟩=false:=qd_ S 0;have x1:w8.cell? ⟨w.heap.size,1,none⟩=some (.int .i64 0):=SrAt.c1 S;have xf1:w8.frozen? ⟨w.heap.size,1,none⟩=false:=qd_ S 1;have x2:w8.cell? ⟨w.heap.size,2,none⟩=some (.slice none 0 0):=SrAt.c2 S;have xf2:w8.frozen? ⟨w.heap.size,2,none⟩=false:=qd_ S 2;have HS8:=aK S;clear S hv hb HTM))
        refine bodyPost_ret (results_ct rfl _ _ w.heap.size 38 _ (0,0) _ rfl (qr_ (qr_ (qr_ HS8.out 0 _) 1 _) 2 _) hu rfl (by kernel_rfl)) rfl ?_
        refine ⟨_,rfl,?_,((HB8.out.setCell (Nat.le_refl _) _).setCell (Nat.le_refl _) _).setCell (Nat.le_refl _) _⟩
        exact Kd.R_set (Kd.R_set (Kd.R_set HV.out HS8.out (by decide) 0 _) (qr_ HS8.out 0 _) (by decide) 1 _) (qr_ (qr_ HS8.out 0 _) 1 _) (by decide) 2 _
end Go.Proofs.Ytaiefdhenikiiaa.Base
namespace Go.Proofs.Ytaiefdhenikiiaa.Base
open Go.RowKit Go.Proofs.YtaiefdhenikiiaaW.PrintWords Go.Proofs.YtaiefdhenikiiaaW.PrintLast Go.Proofs.YtaiefdhenikiiaaW.PrintMore
attribute [local go_sem] max2_int qq1_ max_two min_two max_three min_three max_four min_four Go.Proofs.YtaiefdhenikiiaaZ.qu_   -- for this text's walks alone
set_option linter.unusedVariables false
set_option linter.unusedSimpArgs false
def qu1_.f (k:Nat) (a0:Int) (a1:Int) (l2:List (List (Int))) (a3:Int):Option Bool:=(qb1_.f k l2 1048576).bind fun y1_0=>if y1_0 < 0 then some true else (qw_.f k l2).bind fun y2_0=>(qj2_.f a0 a1 y2_0 a3).bind fun p3=>(qw_.f k l2).bind fun y4_0=>(qk2_.f a0 a1 y4_0 a3).bind fun p5=>if p5.2.2.2=p3.2.2.2 then (qh2_.f k p5.1 p5.2.1 p5.2.2.1 p3.1 p3.2.1 p3.2.2.1).bind fun y6_0=>if y6_0=true then (qw_.f k l2).bind fun y7_0=>(qj1_.f k y4_0 y7_0).bind fun y8_0=>if y8_0=true then (qz_.f k y4_0 1).bind fun p9=>if 0≤p9.1 then (qh2_.f k p5.1 p5.2.1 p5.2.2.1 p3.1 p3.2.1 p3.2.2.1).bind fun y10_0=>if y10_0=true then (ql2_.f k p5.1 p5.2.1 p5.2.2.1 1).bind fun p11=>if 0≤p11.1 then (qf2_.f k p5.1 p5.2.1 p11.2 1).bind fun y12_0=>if 0≤y12_0∧y12_0=p11.1 then (qw_.f k l2).bind fun y13_0=>(qk2_.f a0 a1 y13_0 a3).bind fun p14=>if p14.2.2.2=p3.2.2.2 then (qh2_.f k p14.1 p14.2.1 p14.2.2.1 p3.1 p3.2.1 p3.2.2.1).bind fun y15_0=>if y15_0=true then (qf2_.f k p5.1 p5.2.1 p11.2 1).bind fun y16_0=>if 0≤y16_0∧y16_0=p11.1 then some true else none else none else none else none else none else none else none else none else none else none
theorem qu1_.mono:∀ a0 a1 l2 a3 k,LeO (qu1_.f k a0 a1 l2 a3) (qu1_.f (k+1) a0 a1 l2 a3):=by
 intro a0 a1 l2 a3 k
 unfold qu1_.f
 repeat' first
  | (with_reducible exact qj1_.mono _ _ _)
  | (with_reducible exact qh2_.mono _ _ _ _ _ _ _)
  | (with_reducible exact qf2_.mono _ _ _ _ _)
  | (with_reducible exact qz_.mono _ _ _)
  | (with_reducible exact ql2_.mono _ _ _ _ _)
  | (with_reducible exact qb1_.mono _ _ _)
  | (with_reducible exact qw_.mono _ _)
  | (with_reducible exact LeO.refl _)
  | (with_reducible refine LeO.ite ?_ ?_)
  | (with_reducible refine LeO.bind ?_ (fun _=>?_))
  | exact LeO.refl _
  | exact LeO.none _
set_option maxHeartbeats 16000000 in
set_option maxRecDepth 100000 in
theorem qu1_.calls (k:Nat) (a0:Int) (a1:Int) (A2:Option Addr) (c2:Nat) (l2:List (List (Int))) (a3:Int) (r:Bool) (w:World) (hr2:Kd.C (Kd.slice 2 (Kd.int .i64)) w A2 l2.length l2) (hc2:l2.length≤c2) (h:qu1_.f k a0 a1 l2 a3=some r) :
  Calls Try.prog 16 #[.int .i64 a0,.int .i64 a1,.slice A2 l2.length c2,.int .i64 a3] w fun e w'=>e=.returned (.bool r)∧Below w.heap.size w w':=by
 have hu:=Try.underlying38
 unfold qu1_.f at h
 have HR2:=aK hr2
 have HC2:=aK hc2
 clear hr2 hc2
 have B0:=aK (Below.refl w.heap.size w)
 have h0:=h
 clear h
 replace h0:=Option.bind_eq_some_iff.mp h0
 obtain ⟨y1_0,E1,h0⟩:=h0
 replace E1:=aK E1
 by_cases c1:y1_0 < 0
 ·rw [if_pos c1] at h0
  obtain rfl:=Option.some.inj h0
  clear h0
  have d1:decide (y1_0 < 0)=true:=decide_eq_true c1
  clear c1
  go_enter Try.func16,Try.ntmps16
  go_wp2_with (go_at_call 53;(with_reducible refine (qb1_.calls k A2 c2 l2 1048576 y1_0 _ (Kd.qw1_ HR2.out B0.out) HC2.out E1.out).mono ?_);rintro e w1 ⟨rfl,hd⟩;have D_:Below w.heap.size w w1:=qe_ (Below.refl _ _) (Go.Proofs.YtaiefdhenikiiaaA.below_drawn hd);have B1:=aK (qe_ B0.out D_);clear D_ hd)
  go_ret
  exact ⟨rfl,B1.out⟩
 ·rw [if_neg c1] at h0
  have d1:decide (y1_0 < 0)=false:=decide_eq_false c1
  clear c1
  replace h0:=Option.bind_eq_some_iff.mp h0
  obtain ⟨y2_0,E2,h0⟩:=h0
  replace E2:=aK E2
  replace h0:=Option.bind_eq_some_iff.mp h0
  obtain ⟨⟨y3_0_0,y3_0_1,y3_0_2,y3_1⟩,E3,h0⟩:=h0
  dsimp only at h0
  replace E3:=aK E3
  replace h0:=Option.bind_eq_some_iff.mp h0
  obtain ⟨y4_0,E4,h0⟩:=h0
  replace E4:=aK E4
  replace h0:=Option.bind_eq_some_iff.mp h0
  obtain ⟨⟨y5_0_0,y5_0_1,y5_0_2,y5_1⟩,E5,h0⟩:=h0
  dsimp only at h0
  replace E5:=aK E5
  by_cases c5:y5_1=y3_1
  rotate_left
  ·rw [if_neg c5] at h0;cases h0
  rw [if_pos c5] at h0
  have f5_0:(y5_1 != y3_1)=false:=by rw [bne_eq_false_iff_eq];exact c5
  clear c5
  replace h0:=Option.bind_eq_some_iff.mp h0
  obtain ⟨y6_0,E6,h0⟩:=h0
  replace E6:=aK E6
  by_cases c6:y6_0=true
  rotate_left
  ·rw [if_neg c6] at h0;cases h0
  rw [if_pos c6] at h0
  subst c6
  replace h0:=Option.bind_eq_some_iff.mp h0
  obtain ⟨y7_0,E7,h0⟩:=h0
  replace E7:=aK E7
  replace h0:=Option.bind_eq_some_iff.mp h0
  obtain ⟨y8_0,E8,h0⟩:=h0
  replace E8:=aK E8
  by_cases c8:y8_0=true
  rotate_left
  ·rw [if_neg c8] at h0;cases h0
  rw [if_pos c8] at h0
  subst c8
  replace h0:=Option.bind_eq_some_iff.mp h0
  obtain ⟨⟨y9_0,z9⟩,E9,h0⟩:=h0
  dsimp only at h0
  replace E9:=aK E9
  by_cases c9:0≤y9_0
  rotate_left
  ·rw [if_neg c9] at h0;cases h0
  rw [if_pos c9] at h0
  have d9:decide (y9_0 < 0)=false:=decide_eq_false (by omega)
  clear c9
  replace h0:=Option.bind_eq_some_iff.mp h0
  obtain ⟨y10_0,E10,h0⟩:=h0
  replace E10:=aK E10
  by_cases c10:y10_0=true
  rotate_left
  ·rw [if_neg c10] at h0;cases h0
  rw [if_pos c10] at h0
  subst c10
  replace h0:=Option.bind_eq_some_iff.mp h0
  obtain ⟨⟨y11_0,z11⟩,E11,h0⟩:=h0
  dsimp only at h0
  replace E11:=aK E11
  by_cases c11:0≤y11_0
  rotate_left
  ·rw [if_neg c11] at h0;cases h0
  rw [if_pos c11] at h0
  have d11:decide (y11_0 < 0)=false:=decide_eq_false (by omega)
  clear c11
  replace h0:=Option.bind_eq_some_iff.mp h0
  obtain ⟨y12_0,E12,h0⟩:=h0
  replace E12:=aK E12
  by_cases c12:0≤y12_0∧y12_0=y11_0
  rotate_left
  ·rw [if_neg c12] at h0;cases h0
  rw [if_pos c12] at h0
  have d12:decide (y12_0 < 0)=false:=decide_eq_false (by omega)
  have f12:(y12_0 != y11_0)=false:=by rw [bne_eq_false_iff_eq];exact c12.2
  clear c12
  replace h0:=Option.bind_eq_some_iff.mp h0
  obtain ⟨y13_0,E13,h0⟩:=h0
  replace E13:=aK E13
  replace h0:=Option.bind_eq_some_iff.mp h0
  obtain ⟨⟨y14_0_0,y14_0_1,y14_0_2,y14_1⟩,E14,h0⟩:=h0
  dsimp only at h0
  replace E14:=aK E14
  by_cases c14:y14_1=y3_1
  rotate_left
  ·rw [if_neg c14] at h0;cases h0
  rw [if_pos c14] at h0
  have f14_0:(y14_1 != y3_1)=false:=by rw [bne_eq_false_iff_eq];exact c14
  clear c14
  replace h0:=Option.bind_eq_some_iff.mp h0
  obtain ⟨y15_0,E15,h0⟩:=h0
  replace E15:=aK E15
  by_cases c15:y15_0=true
  rotate_left
  ·rw [if_neg c15] at h0;cases h0
  rw [if_pos c15] at h0
  subst c15
  replace h0:=Option.bind_eq_some_iff.mp h0
  obtain ⟨y16_0,E16,h0⟩:=h0
  replace E16:=aK E16
  by_cases c16:0≤y16_0∧y16_0=y11_0
  rotate_left
  ·rw [if_neg c16] at h0;cases h0
  rw [if_pos c16] at h0
  have d16:decide (y16_0 < 0)=false:=decide_eq_false (by omega)
  have f16:(y16_0 != y11_0)=false:=by rw [bne_eq_false_iff_eq];exact c16.2
  clear c16
  obtain rfl:=Option.some.inj h0
  clear h0
  go_enter Try.func16,Try.ntmps16
  go_wp2_with (go_at_call 53;(with_reducible refine (qb1_.calls k A2 c2 l2 1048576 y1_0 _ (Kd.qw1_ HR2.out B0.out) HC2.out E1.out).mono ?_);rintro e w1 ⟨rfl,hd⟩;have D_:Below w.heap.size w w1:=qe_ (Below.refl _ _) (Go.Proofs.YtaiefdhenikiiaaA.below_drawn hd);have B1:=aK (qe_ B0.out D_);clear D_ hd)
  go_wp2_with (go_at_call 55;(with_reducible refine (qw_.calls k A2 c2 l2 y2_0 _ (Kd.qw1_ HR2.out B1.out) HC2.out E2.out).mono ?_);rintro e w2 ⟨v_H2_0,rfl,ho_H2_0,hb⟩;have D_:Below w1.heap.size w1 w2:=qe_ (Below.refl _ _) hb;have B2:=aK (qe_ B1.out D_);obtain ⟨lo_H2_0,hi_H2_0,hlo_,hhi_,hx_⟩:∃ lo hi,w1.heap.size≤lo∧lo≤hi∧Go.Proofs.YtaiefdhenikiiaaA.AtS (Kd.slice 2 (Kd.int .i64)) 50 lo hi w2 v_H2_0 y2_0:=⟨_,_,by simp,by have:=hb.size;simpa using this,Go.Proofs.YtaiefdhenikiiaaA.AtS.of ho_H2_0⟩;clear ho_H2_0;obtain ⟨A_H2_0,c_H2_0,rfl,l_⟩:=hx_.form;have H2_0L:=aK l_;have H2_0:=aK hx_;clear hx_ l_ hlo_ hhi_;clear D_ hb)
  go_wp2_with (go_at_call 65;(with_reducible refine (qj2_.calls a0 a1 _ _ y2_0 a3 y3_0_0 y3_0_1 y3_0_2 y3_1 _ (Kd.qw1_ H2_0.out.C (Below.refl _ _)) H2_0L.out E3.out).mono ?_);rintro e w3 ⟨v_H3_0_2,rfl,ho_H3_0_2,hb⟩;have D_:Below w2.heap.size w2 w3:=qe_ (Below.refl _ _) hb;replace H2_0:=aK (H2_0.out.below D_);have B3:=aK (qe_ B2.out D_);obtain ⟨lo_H3_0_2,hi_H3_0_2,hlo_,hhi_,hx_⟩:∃ lo hi,w2.heap.size≤lo∧lo≤hi∧Go.Proofs.YtaiefdhenikiiaaA.AtR k79 79 lo hi w3 v_H3_0_2 y3_0_2:=⟨_,_,by simp,by have:=hb.size;simpa using this,Go.Proofs.YtaiefdhenikiiaaA.AtR.of ho_H3_0_2⟩;clear ho_H3_0_2;obtain ⟨A_H3_0_2,c_H3_0_2,rfl,l_⟩:=hx_.form;have H3_0_2L:=aK l_;have LO_H3_0_2:=aK (show w.heap.size≤lo_H3_0_2 from by have:=B2.out.size;omega);have OR_H3_0_2:=aK (show lo_H3_0_2≤hi_H3_0_2 from hhi_);have H3_0_2:=aK hx_;clear hx_ l_ hlo_ hhi_;clear D_ hb;have PS_H3_0_2:=aK (show hi_H3_0_2≤w3.heap.size from And.right H3_0_2.out))
  go_wp2_with (go_at_call 55;(with_reducible refine (qw_.calls k A2 c2 l2 y4_0 _ (Kd.qw1_ HR2.out (qb_ B3.out _)) HC2.out E4.out).mono ?_);rintro e w4 ⟨v_H4_0,rfl,ho_H4_0,hb⟩;have D_:Below w3.heap.size w3 w4:=qe_ (qb_ (Below.refl _ _) _) hb;have HS0:=aK (show SrAt w4 (w3.heap.size) (y3_0_0) (y3_0_1) (.slice A_H3_0_2 y3_0_2.length c_H3_0_2) from ql_ (new_at rfl) hb);have OB0:=aK (show True∧hi_H3_0_2≤w3.heap.size from ⟨trivial,Nat.le_trans (And.right H3_0_2.out) (by simp)⟩);replace H3_0_2:=aK (H3_0_2.out.below D_);have B4:=aK (qe_ B3.out D_);obtain ⟨lo_H4_0,hi_H4_0,hlo_,hhi_,hx_⟩:∃ lo hi,w3.heap.size+1≤lo∧lo≤hi∧Go.Proofs.YtaiefdhenikiiaaA.AtS (Kd.slice 2 (Kd.int .i64)) 50 lo hi w4 v_H4_0 y4_0:=⟨_,_,by simp,by have:=hb.size;simpa using this,Go.Proofs.YtaiefdhenikiiaaA.AtS.of ho_H4_0⟩;clear ho_H4_0;obtain ⟨A_H4_0,c_H4_0,rfl,l_⟩:=hx_.form;have H4_0L:=aK l_;have LO_H4_0:=aK (show w.heap.size≤lo_H4_0 from by have:=B3.out.size;omega);have OR_H4_0:=aK (show lo_H4_0≤hi_H4_0∧hi_H3_0_2≤lo_H4_0∧w3.heap.size < lo_H4_0 from ⟨hhi_,by have:=PS_H3_0_2.out;omega,by omega⟩);have H4_0:=aK hx_;clear hx_ l_ hlo_ hhi_;have LB0:=aK (blk_lt HS0.out);clear D_ hb;have PS_H3_0_2:=aK (show hi_H3_0_2≤w4.heap.size from And.right H3_0_2.out);have PS_H4_0:=aK (show hi_H4_0≤w4.heap.size from And.right H4_0.out))
  go_wp2_with (go_at_call 66;(with_reducible refine (qk2_.calls a0 a1 _ _ y4_0 a3 y5_0_0 y5_0_1 y5_0_2 y5_1 _ (Kd.qw1_ H4_0.out.C (Below.refl _ _)) H4_0L.out E5.out).mono ?_);rintro e w5 ⟨v_H5_0_2,rfl,ho_H5_0_2,hb⟩;have D_:Below w4.heap.size w4 w5:=qe_ (Below.refl _ _) hb;replace HS0:=aK (SrAt.below HS0.out D_);replace H3_0_2:=aK (H3_0_2.out.below D_);replace H4_0:=aK (H4_0.out.below D_);have B5:=aK (qe_ B4.out D_);obtain ⟨lo_H5_0_2,hi_H5_0_2,hlo_,hhi_,hx_⟩:∃ lo hi,w4.heap.size≤lo∧lo≤hi∧Go.Proofs.YtaiefdhenikiiaaA.AtR k79 79 lo hi w5 v_H5_0_2 y5_0_2:=⟨_,_,by simp,by have:=hb.size;simpa using this,Go.Proofs.YtaiefdhenikiiaaA.AtR.of ho_H5_0_2⟩;clear ho_H5_0_2;obtain ⟨A_H5_0_2,c_H5_0_2,rfl,l_⟩:=hx_.form;have H5_0_2L:=aK l_;have LO_H5_0_2:=aK (show w.heap.size≤lo_H5_0_2 from by have:=B4.out.size;omega);have OR_H5_0_2:=aK (show lo_H5_0_2≤hi_H5_0_2∧hi_H3_0_2≤lo_H5_0_2∧hi_H4_0≤lo_H5_0_2∧w3.heap.size < lo_H5_0_2 from ⟨hhi_,by have:=PS_H3_0_2.out;omega,by have:=PS_H4_0.out;omega,by have:=LB0.out;omega⟩);have H5_0_2:=aK hx_;clear hx_ l_ hlo_ hhi_;replace LB0:=aK (blk_lt HS0.out);clear D_ hb;have PS_H3_0_2:=aK (show hi_H3_0_2≤w5.heap.size from And.right H3_0_2.out);have PS_H4_0:=aK (show hi_H4_0≤w5.heap.size from And.right H4_0.out);have PS_H5_0_2:=aK (show hi_H5_0_2≤w5.heap.size from And.right H5_0_2.out);have z5_0_0:(w5.alloc (.cells #[.int .i64 y5_0_0,.int .i64 y5_0_1,.slice A_H5_0_2 y5_0_2.length c_H5_0_2] 38)).cell? ⟨w3.heap.size,0,none⟩=some (.int .i64 y3_0_0):=SrAt.c0 (SrAt.alloc HS0.out _);have z5_0_1:(w5.alloc (.cells #[.int .i64 y5_0_0,.int .i64 y5_0_1,.slice A_H5_0_2 y5_0_2.length c_H5_0_2] 38)).cell? ⟨w3.heap.size,1,none⟩=some (.int .i64 y3_0_1):=SrAt.c1 (SrAt.alloc HS0.out _);have z5_0_2:(w5.alloc (.cells #[.int .i64 y5_0_0,.int .i64 y5_0_1,.slice A_H5_0_2 y5_0_2.length c_H5_0_2] 38)).cell? ⟨w3.heap.size,2,none⟩=some (.slice A_H3_0_2 y3_0_2.length c_H3_0_2):=SrAt.c2 (SrAt.alloc HS0.out _))
  go_wp2_with (go_at_call 33;(with_reducible refine (qh2_.calls k y5_0_0 y5_0_1 _ _ y5_0_2 y3_0_0 y3_0_1 _ _ y3_0_2 true _ (Kd.qw1_ H5_0_2.out.C (qb_ (Below.refl _ _) _)) H5_0_2L.out (Kd.qw1_ H3_0_2.out.C (qb_ (Below.refl _ _) _)) H3_0_2L.out E6.out).mono ?_);rintro e w6 ⟨rfl,hb⟩;have D_:Below w5.heap.size w5 w6:=qe_ (qb_ (Below.refl _ _) _) hb;have HS1:=aK (show SrAt w6 (w5.heap.size) (y5_0_0) (y5_0_1) (.slice A_H5_0_2 y5_0_2.length c_H5_0_2) from ql_ (new_at rfl) hb);replace HS0:=aK (SrAt.below HS0.out D_);have OB1:=aK (show True∧hi_H3_0_2≤w5.heap.size∧hi_H4_0≤w5.heap.size∧hi_H5_0_2≤w5.heap.size from ⟨trivial,Nat.le_trans (And.right H3_0_2.out) (by simp),Nat.le_trans (And.right H4_0.out) (by simp),Nat.le_trans (And.right H5_0_2.out) (by simp)⟩);replace H3_0_2:=aK (H3_0_2.out.below D_);replace H4_0:=aK (H4_0.out.below D_);replace H5_0_2:=aK (H5_0_2.out.below D_);have B6:=aK (qe_ B5.out D_);replace LB0:=aK (blk_lt HS0.out);have LB1:=aK (blk_lt HS1.out);clear D_ hb;have PS_H3_0_2:=aK (show hi_H3_0_2≤w6.heap.size from And.right H3_0_2.out);have PS_H4_0:=aK (show hi_H4_0≤w6.heap.size from And.right H4_0.out);have PS_H5_0_2:=aK (show hi_H5_0_2≤w6.heap.size from And.right H5_0_2.out);clear z5_0_0 z5_0_1 z5_0_2)
  go_wp2_with (go_at_call 55;(with_reducible refine (qw_.calls k A2 c2 l2 y7_0 _ (Kd.qw1_ HR2.out B6.out) HC2.out E7.out).mono ?_);rintro e w7 ⟨v_H7_0,rfl,ho_H7_0,hb⟩;have D_:Below w6.heap.size w6 w7:=qe_ (Below.refl _ _) hb;replace HS0:=aK (SrAt.below HS0.out D_);replace HS1:=aK (SrAt.below HS1.out D_);replace H3_0_2:=aK (H3_0_2.out.below D_);replace H4_0:=aK (H4_0.out.below D_);replace H5_0_2:=aK (H5_0_2.out.below D_);have B7:=aK (qe_ B6.out D_);obtain ⟨lo_H7_0,hi_H7_0,hlo_,hhi_,hx_⟩:∃ lo hi,w6.heap.size≤lo∧lo≤hi∧Go.Proofs.YtaiefdhenikiiaaA.AtS (Kd.slice 2 (Kd.int .i64)) 50 lo hi w7 v_H7_0 y7_0:=⟨_,_,by simp,by have:=hb.size;simpa using this,Go.Proofs.YtaiefdhenikiiaaA.AtS.of ho_H7_0⟩;clear ho_H7_0;obtain ⟨A_H7_0,c_H7_0,rfl,l_⟩:=hx_.form;have H7_0L:=aK l_;have H7_0:=aK hx_;clear hx_ l_ hlo_ hhi_;replace LB0:=aK (blk_lt HS0.out);replace LB1:=aK (blk_lt HS1.out);clear D_ hb;have PS_H3_0_2:=aK (show hi_H3_0_2≤w7.heap.size from And.right H3_0_2.out);have PS_H4_0:=aK (show hi_H4_0≤w7.heap.size from And.right H4_0.out);have PS_H5_0_2:=aK (show hi_H5_0_2≤w7.heap.size from And.right H5_0_2.out))
  go_wp2_with (go_at_call 32;(with_reducible refine (qj1_.calls k _ _ y4_0 _ _ y7_0 true _ (Kd.qw1_ H4_0.out.C (Below.refl _ _)) H4_0L.out (Kd.qw1_ H7_0.out.C (Below.refl _ _)) H7_0L.out E8.out).mono ?_);rintro e w8 ⟨rfl,hd⟩;have D_:Below w7.heap.size w7 w8:=qe_ (Below.refl _ _) (Go.Proofs.YtaiefdhenikiiaaA.below_drawn hd);replace HS0:=aK (SrAt.below HS0.out D_);replace HS1:=aK (SrAt.below HS1.out D_);replace H3_0_2:=aK (H3_0_2.out.below D_);replace H4_0:=aK (H4_0.out.below D_);replace H5_0_2:=aK (H5_0_2.out.below D_);replace H7_0:=aK (H7_0.out.below D_);have B8:=aK (qe_ B7.out D_);replace LB0:=aK (blk_lt HS0.out);replace LB1:=aK (blk_lt HS1.out);clear D_ hd;have PS_H3_0_2:=aK (show hi_H3_0_2≤w8.heap.size from And.right H3_0_2.out);have PS_H4_0:=aK (show hi_H4_0≤w8.heap.size from And.right H4_0.out);have PS_H5_0_2:=aK (show hi_H5_0_2≤w8.heap.size from And.right H5_0_2.out))
  go_wp2_with (go_at_call 35;(with_reducible refine (qz_.calls k  (fun k_=>lo_H4_0≤k_∧k_ < hi_H4_0) _ y4_0 1 y9_0 z9 w _ B8.out (Kd.S_below (Go.Proofs.YtaiefdhenikiiaaA.AtS.mark H4_0.out LO_H4_0.out) (Below.refl _ _)) E9.out).mono ?_);rintro e w9 ⟨rfl,ho,hb,hk⟩;have B9:=aK hb;have KP:=aK (show Kept w8 w9 (fun k_=>lo_H4_0≤k_∧k_ < hi_H4_0) from Kept.then_ (Kept.of_below (Below.refl _ _) _) hk (fun _ h_=>.inl h_));have HN:=aK (Go.Proofs.YtaiefdhenikiiaaA.AtS.of ho);clear ho hb hk;replace H3_0_2:=aK (Go.Proofs.YtaiefdhenikiiaaA.AtR.kept H3_0_2.out KP.out (by have:=OR_H4_0.out;have:=OR_H3_0_2.out;omega));replace H5_0_2:=aK (Go.Proofs.YtaiefdhenikiiaaA.AtR.kept H5_0_2.out KP.out (by have:=OR_H4_0.out;have:=OR_H5_0_2.out;omega));replace HS0:=aK (show SrAt w9 (w3.heap.size) (y3_0_0) (y3_0_1) (.slice A_H3_0_2 y3_0_2.length c_H3_0_2) from (KP.out.2 _ (blk_lt HS0.out) (by have:=OR_H4_0.out;have:=OB0.out;omega)).trans HS0.out);replace HS1:=aK (show SrAt w9 (w5.heap.size) (y5_0_0) (y5_0_1) (.slice A_H5_0_2 y5_0_2.length c_H5_0_2) from (KP.out.2 _ (blk_lt HS1.out) (by have:=OR_H4_0.out;have:=OB1.out;omega)).trans HS1.out);replace H4_0:=HN;clear HN KP;obtain ⟨A_,c_,e_,l_⟩:=H4_0.out.form;injection e_ with e1_ e2_ e3_;replace H4_0L:=aK (e3_ ▸ l_);clear l_ e1_ e3_;(first|rw [e2_]|skip);replace H4_0:=aK (e2_ ▸ H4_0.out);clear e2_;replace LB0:=aK (blk_lt HS0.out);replace LB1:=aK (blk_lt HS1.out);have PS_H3_0_2:=aK (show hi_H3_0_2≤w9.heap.size from And.right H3_0_2.out);have PS_H5_0_2:=aK (show hi_H5_0_2≤w9.heap.size from And.right H5_0_2.out);have z9_0_0:w9.cell? ⟨w3.heap.size,0,none⟩=some (.int .i64 y3_0_0):=SrAt.c0 HS0.out;have z9_0_1:w9.cell? ⟨w3.heap.size,1,none⟩=some (.int .i64 y3_0_1):=SrAt.c1 HS0.out;have z9_0_2:w9.cell? ⟨w3.heap.size,2,none⟩=some (.slice A_H3_0_2 y3_0_2.length c_H3_0_2):=SrAt.c2 HS0.out;have z9_1_0:w9.cell? ⟨w5.heap.size,0,none⟩=some (.int .i64 y5_0_0):=SrAt.c0 HS1.out;have z9_1_1:w9.cell? ⟨w5.heap.size,1,none⟩=some (.int .i64 y5_0_1):=SrAt.c1 HS1.out;have z9_1_2:w9.cell? ⟨w5.heap.size,2,none⟩=some (.slice A_H5_0_2 y5_0_2.length c_H5_0_2):=SrAt.c2 HS1.out)
  go_wp2_with (go_at_call 33;(with_reducible refine (qh2_.calls k y5_0_0 y5_0_1 _ _ y5_0_2 y3_0_0 y3_0_1 _ _ y3_0_2 true _ (Kd.qw1_ H5_0_2.out.C (Below.refl _ _)) H5_0_2L.out (Kd.qw1_ H3_0_2.out.C (Below.refl _ _)) H3_0_2L.out E10.out).mono ?_);rintro e w10 ⟨rfl,hb⟩;have D_:Below w9.heap.size w9 w10:=qe_ (Below.refl _ _) hb;replace HS0:=aK (SrAt.below HS0.out D_);replace HS1:=aK (SrAt.below HS1.out D_);replace H3_0_2:=aK (H3_0_2.out.below D_);replace H5_0_2:=aK (H5_0_2.out.below D_);have B10:=aK (qe_ B9.out D_);replace LB0:=aK (blk_lt HS0.out);replace LB1:=aK (blk_lt HS1.out);clear D_ hb;have PS_H3_0_2:=aK (show hi_H3_0_2≤w10.heap.size from And.right H3_0_2.out);have PS_H5_0_2:=aK (show hi_H5_0_2≤w10.heap.size from And.right H5_0_2.out);clear z9_0_0 z9_0_1 z9_0_2 z9_1_0 z9_1_1 z9_1_2;have z10_1_0:w10.cell? ⟨w5.heap.size,0,none⟩=some (.int .i64 y5_0_0):=SrAt.c0 HS1.out;have z10_1_1:w10.cell? ⟨w5.heap.size,1,none⟩=some (.int .i64 y5_0_1):=SrAt.c1 HS1.out;have z10_1_2:w10.cell? ⟨w5.heap.size,2,none⟩=some (.slice A_H5_0_2 y5_0_2.length c_H5_0_2):=SrAt.c2 HS1.out)
  go_wp2_with (go_at_call 34;(with_reducible refine (ql2_.calls k y5_0_0 y5_0_1 (fun k_=>lo_H5_0_2≤k_∧k_ < hi_H5_0_2) _ y5_0_2 1 y11_0 z11 w _ B10.out (Kd.qe2_ (Go.Proofs.YtaiefdhenikiiaaA.AtR.mark H5_0_2.out LO_H5_0_2.out) (Below.refl _ _)) E11.out).mono ?_);rintro e w11 ⟨rfl,ho,hb,hk⟩;have B11:=aK hb;have KP:=aK (show Kept w10 w11 (fun k_=>lo_H5_0_2≤k_∧k_ < hi_H5_0_2) from Kept.then_ (Kept.of_below (Below.refl _ _) _) hk (fun _ h_=>.inl h_));have HN:=aK (Go.Proofs.YtaiefdhenikiiaaA.AtR.of ho);clear ho hb hk;replace H3_0_2:=aK (Go.Proofs.YtaiefdhenikiiaaA.AtR.kept H3_0_2.out KP.out (by have:=OR_H5_0_2.out;have:=OR_H3_0_2.out;omega));replace HS0:=aK (show SrAt w11 (w3.heap.size) (y3_0_0) (y3_0_1) (.slice A_H3_0_2 y3_0_2.length c_H3_0_2) from (KP.out.2 _ (blk_lt HS0.out) (by have:=OR_H5_0_2.out;have:=OB0.out;omega)).trans HS0.out);replace HS1:=aK (show SrAt w11 (w5.heap.size) (y5_0_0) (y5_0_1) (.slice A_H5_0_2 y5_0_2.length c_H5_0_2) from (KP.out.2 _ (blk_lt HS1.out) (by have:=OR_H5_0_2.out;have:=OB1.out;omega)).trans HS1.out);replace H5_0_2:=HN;clear HN KP;obtain ⟨A_,c_,e_,l_⟩:=H5_0_2.out.form;injection e_ with e1_ e2_ e3_;replace H5_0_2L:=aK (e3_ ▸ l_);clear l_ e1_ e3_;(first|rw [e2_]|skip);replace H5_0_2:=aK (e2_ ▸ H5_0_2.out);replace HS1:=aK (show SrAt w11 (w5.heap.size) (y5_0_0) (y5_0_1) (.slice A_H5_0_2 z11.length c_H5_0_2) from by rw [← e2_];exact HS1.out);clear e2_;replace LB0:=aK (blk_lt HS0.out);replace LB1:=aK (blk_lt HS1.out);have PS_H3_0_2:=aK (show hi_H3_0_2≤w11.heap.size from And.right H3_0_2.out);clear z10_1_0 z10_1_1 z10_1_2;have z11_1_0:w11.cell? ⟨w5.heap.size,0,none⟩=some (.int .i64 y5_0_0):=SrAt.c0 HS1.out;have z11_1_1:w11.cell? ⟨w5.heap.size,1,none⟩=some (.int .i64 y5_0_1):=SrAt.c1 HS1.out;have z11_1_2:w11.cell? ⟨w5.heap.size,2,none⟩=some (.slice A_H5_0_2 z11.length c_H5_0_2):=SrAt.c2 HS1.out)
  go_wp2_with (go_at_call 39;(with_reducible refine (qf2_.calls k y5_0_0 y5_0_1 _ _ z11 1 y12_0 _ (Kd.qw1_ H5_0_2.out.C (Below.refl _ _)) H5_0_2L.out E12.out).mono ?_);rintro e w12 ⟨rfl,hb⟩;have D_:Below w11.heap.size w11 w12:=qe_ (Below.refl _ _) hb;replace HS0:=aK (SrAt.below HS0.out D_);replace HS1:=aK (SrAt.below HS1.out D_);replace H3_0_2:=aK (H3_0_2.out.below D_);replace H5_0_2:=aK (H5_0_2.out.below D_);have B12:=aK (qe_ B11.out D_);replace LB0:=aK (blk_lt HS0.out);replace LB1:=aK (blk_lt HS1.out);clear D_ hb;have PS_H3_0_2:=aK (show hi_H3_0_2≤w12.heap.size from And.right H3_0_2.out);clear z11_1_0 z11_1_1 z11_1_2)
  go_wp2_with (go_at_call 55;(with_reducible refine (qw_.calls k A2 c2 l2 y13_0 _ (Kd.qw1_ HR2.out B12.out) HC2.out E13.out).mono ?_);rintro e w13 ⟨v_H13_0,rfl,ho_H13_0,hb⟩;have D_:Below w12.heap.size w12 w13:=qe_ (Below.refl _ _) hb;replace HS0:=aK (SrAt.below HS0.out D_);replace HS1:=aK (SrAt.below HS1.out D_);replace H3_0_2:=aK (H3_0_2.out.below D_);replace H5_0_2:=aK (H5_0_2.out.below D_);have B13:=aK (qe_ B12.out D_);obtain ⟨lo_H13_0,hi_H13_0,hlo_,hhi_,hx_⟩:∃ lo hi,w12.heap.size≤lo∧lo≤hi∧Go.Proofs.YtaiefdhenikiiaaA.AtS (Kd.slice 2 (Kd.int .i64)) 50 lo hi w13 v_H13_0 y13_0:=⟨_,_,by simp,by have:=hb.size;simpa using this,Go.Proofs.YtaiefdhenikiiaaA.AtS.of ho_H13_0⟩;clear ho_H13_0;obtain ⟨A_H13_0,c_H13_0,rfl,l_⟩:=hx_.form;have H13_0L:=aK l_;have H13_0:=aK hx_;clear hx_ l_ hlo_ hhi_;replace LB0:=aK (blk_lt HS0.out);replace LB1:=aK (blk_lt HS1.out);clear D_ hb;have PS_H3_0_2:=aK (show hi_H3_0_2≤w13.heap.size from And.right H3_0_2.out))
  go_wp2_with (go_at_call 66;(with_reducible refine (qk2_.calls a0 a1 _ _ y13_0 a3 y14_0_0 y14_0_1 y14_0_2 y14_1 _ (Kd.qw1_ H13_0.out.C (Below.refl _ _)) H13_0L.out E14.out).mono ?_);rintro e w14 ⟨v_H14_0_2,rfl,ho_H14_0_2,hb⟩;have D_:Below w13.heap.size w13 w14:=qe_ (Below.refl _ _) hb;replace HS0:=aK (SrAt.below HS0.out D_);replace HS1:=aK (SrAt.below HS1.out D_);replace H3_0_2:=aK (H3_0_2.out.below D_);replace H5_0_2:=aK (H5_0_2.out.below D_);replace H13_0:=aK (H13_0.out.below D_);have B14:=aK (qe_ B13.out D_);obtain ⟨lo_H14_0_2,hi_H14_0_2,hlo_,hhi_,hx_⟩:∃ lo hi,w13.heap.size≤lo∧lo≤hi∧Go.Proofs.YtaiefdhenikiiaaA.AtR k79 79 lo hi w14 v_H14_0_2 y14_0_2:=⟨_,_,by simp,by have:=hb.size;simpa using this,Go.Proofs.YtaiefdhenikiiaaA.AtR.of ho_H14_0_2⟩;clear ho_H14_0_2;obtain ⟨A_H14_0_2,c_H14_0_2,rfl,l_⟩:=hx_.form;have H14_0_2L:=aK l_;have H14_0_2:=aK hx_;clear hx_ l_ hlo_ hhi_;replace LB0:=aK (blk_lt HS0.out);replace LB1:=aK (blk_lt HS1.out);clear D_ hb;have PS_H3_0_2:=aK (show hi_H3_0_2≤w14.heap.size from And.right H3_0_2.out);have z14_0_0:(w14.alloc (.cells #[.int .i64 y14_0_0,.int .i64 y14_0_1,.slice A_H14_0_2 y14_0_2.length c_H14_0_2] 38)).cell? ⟨w3.heap.size,0,none⟩=some (.int .i64 y3_0_0):=SrAt.c0 (SrAt.alloc HS0.out _);have z14_0_1:(w14.alloc (.cells #[.int .i64 y14_0_0,.int .i64 y14_0_1,.slice A_H14_0_2 y14_0_2.length c_H14_0_2] 38)).cell? ⟨w3.heap.size,1,none⟩=some (.int .i64 y3_0_1):=SrAt.c1 (SrAt.alloc HS0.out _);have z14_0_2:(w14.alloc (.cells #[.int .i64 y14_0_0,.int .i64 y14_0_1,.slice A_H14_0_2 y14_0_2.length c_H14_0_2] 38)).cell? ⟨w3.heap.size,2,none⟩=some (.slice A_H3_0_2 y3_0_2.length c_H3_0_2):=SrAt.c2 (SrAt.alloc HS0.out _))
  go_wp2_with (go_at_call 33;(with_reducible refine (qh2_.calls k y14_0_0 y14_0_1 _ _ y14_0_2 y3_0_0 y3_0_1 _ _ y3_0_2 true _ (Kd.qw1_ H14_0_2.out.C (qb_ (Below.refl _ _) _)) H14_0_2L.out (Kd.qw1_ H3_0_2.out.C (qb_ (Below.refl _ _) _)) H3_0_2L.out E15.out).mono ?_);rintro e w15 ⟨rfl,hb⟩;have D_:Below w14.heap.size w14 w15:=qe_ (qb_ (Below.refl _ _) _) hb;have HS2:=aK (show SrAt w15 (w14.heap.size) (y14_0_0) (y14_0_1) (.slice A_H14_0_2 y14_0_2.length c_H14_0_2) from ql_ (new_at rfl) hb);replace HS0:=aK (SrAt.below HS0.out D_);replace HS1:=aK (SrAt.below HS1.out D_);replace H3_0_2:=aK (H3_0_2.out.below D_);replace H5_0_2:=aK (H5_0_2.out.below D_);replace H14_0_2:=aK (H14_0_2.out.below D_);have B15:=aK (qe_ B14.out D_);replace LB0:=aK (blk_lt HS0.out);replace LB1:=aK (blk_lt HS1.out);clear D_ hb;have PS_H3_0_2:=aK (show hi_H3_0_2≤w15.heap.size from And.right H3_0_2.out);clear z14_0_0 z14_0_1 z14_0_2;have z15_1_0:w15.cell? ⟨w5.heap.size,0,none⟩=some (.int .i64 y5_0_0):=SrAt.c0 HS1.out;have z15_1_1:w15.cell? ⟨w5.heap.size,1,none⟩=some (.int .i64 y5_0_1):=SrAt.c1 HS1.out;have z15_1_2:w15.cell? ⟨w5.heap.size,2,none⟩=some (.slice A_H5_0_2 z11.length c_H5_0_2):=SrAt.c2 HS1.out)
  go_wp2_with (go_at_call 39;(with_reducible refine (qf2_.calls k y5_0_0 y5_0_1 _ _ z11 1 y16_0 _ (Kd.qw1_ H5_0_2.out.C (Below.refl _ _)) H5_0_2L.out E16.out).mono ?_);rintro e w16 ⟨rfl,hb⟩;have D_:Below w15.heap.size w15 w16:=qe_ (Below.refl _ _) hb;replace HS1:=aK (SrAt.below HS1.out D_);replace H5_0_2:=aK (H5_0_2.out.below D_);have B16:=aK (qe_ B15.out D_);replace LB1:=aK (blk_lt HS1.out);clear D_ hb;clear z15_1_0 z15_1_1 z15_1_2)
  go_ret
  exact ⟨rfl,B16.out⟩
end Go.Proofs.Ytaiefdhenikiiaa.Base
namespace Go.Proofs.Ytaiefdhenikiiaa.PFnExactMeanSignature
open Go.RowKit Go.Proofs.YtaiefdhenikiiaaW.PrintWords Go.Proofs.YtaiefdhenikiiaaO Go.Proofs.Ytaiefdhenikiiaa.Base
set_option linter.unusedVariables false
def qu1_.Pure:Prop:=∀ (a0:Int) (a1:Int) (l2:List (List Int)) (a3:Int),(Lit.int .i64 a0).wf=true→(Lit.int .i64 a1).wf=true→(l2.length≤9223372036854775807∧∀ a_ ∈ l2,(a_.length≤9223372036854775807∧∀ a__ ∈ a_,(Lit.int .i64 a__).wf=true))→(Lit.int .i64 a3).wf=true→∃ k,qu1_.f k a0 a1 l2 a3=some true
end Go.Proofs.Ytaiefdhenikiiaa.PFnExactMeanSignature
namespace Go.Proofs.Ytaiefdhenikiiaa.Pure
open Go.RowKit Go.Proofs.Ytaiefdhenikiiaa.Base Go.Proofs.Ytaiefdhenikiiaa.PFnExactMeanSignature Go.Proofs.YtaiefdhenikiiaaW.PrintWords Go.Proofs.YtaiefdhenikiiaaW.PrintLast
set_option linter.unusedSimpArgs false
set_option linter.unusedVariables false
theorem FnExactMeanSignature:qu1_.Pure:=by
  intro x0 x1 l2 x3 _ _ hl2 _
  obtain ⟨hn,hr⟩:=hl2
  have hr':∀ r ∈ l2,r.length≤9223372036854775807:=fun r h=>(hr r h).1
  obtain ⟨v,hs,hc⟩:=sz_both l2 hn hr'
  unfold qu1_.f
  refine Ev.rounds (Ev.bind hs ?_)
  by_cases c:v < 0
  · simp only [c,if_true];exact Ev.now _
  · simp only [c,if_false]
    have ht:l2.length+total l2≤1048576:=by rcases hc with hc|hc;exact absurd hc c;exact hc
    have h1:l2.length≤1048576:=by omega
    have h2:∀ r ∈ l2,r.length≤1048576:=fun r h=>by have:=total_mem h;omega
    have hcp:=copy_rows l2 h1 h2
    have hsame:=same_rows l2 h1 h2
    have hmark:=markSS l2 1 (by omega) (by omega) h1
    have hlen:=meanR_len x0 x1 l2 x3
    obtain ⟨⟨R1,R2,R,C⟩,hR⟩:∃ q,q=meanR x0 x1 l2 x3:=⟨_,rfl⟩
    rw [← hR] at hlen
    have hI:qk2_.f x0 x1 l2 x3=some (R1,R2,R,C):=by unfold qk2_.f;rw [if_pos ⟨h1,h2⟩,hR]
    have hS:qj2_.f x0 x1 l2 x3=some (R1,R2,R,C):=by unfold qj2_.f;rw [if_pos ⟨h1,h2⟩,hR]
    have eR:=eqSer_id R1 R2 R hlen
    obtain ⟨R',mR,dR⟩:=marksSer_id R1 R2 R hlen
    refine Ev.bind hcp ?_
    simp only [hS,Option.bind_some]
    refine Ev.bind hcp ?_
    simp only [hI,Option.bind_some,if_true]
    refine Ev.bind eR ?_
    refine Ev.congr (fun _=>if_pos rfl) ?_
    refine Ev.bind hcp (Ev.bind hsame ?_)
    refine Ev.congr (fun _=>if_pos rfl) ?_
    refine Ev.bind hmark ?_
    dsimp only
    refine Ev.congr (fun _=>if_pos (by omega)) ?_
    refine Ev.bind eR ?_
    refine Ev.congr (fun _=>if_pos rfl) ?_
    refine Ev.bind mR ?_
    dsimp only
    refine Ev.congr (fun _=>if_pos (by omega)) ?_
    refine Ev.bind dR ?_
    refine Ev.congr (fun _=>if_pos ⟨by omega,rfl⟩) ?_
    refine Ev.bind hcp ?_
    simp only [hI,Option.bind_some,if_true]
    refine Ev.bind eR ?_
    refine Ev.congr (fun _=>if_pos rfl) ?_
    refine Ev.bind dR ?_
    refine Ev.congr (fun _=>if_pos ⟨by omega,rfl⟩) ?_
    exact Ev.now _
end Go.Proofs.Ytaiefdhenikiiaa.Pure
