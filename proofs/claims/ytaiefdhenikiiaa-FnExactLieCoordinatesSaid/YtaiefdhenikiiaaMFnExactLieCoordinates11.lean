/- Texts that the proof of FnExactLieCoordinates needs, part 11. No condition. -/
import Derived.Test.YtaiefdhenikiiaaMFnExactLieCoordinates10
namespace Go.Proofs.Ytaiefdhenikiiaa.Base
open Go.RowKit Go.Proofs.YtaiefdhenikiiaaW.PrintWords Go.Proofs.YtaiefdhenikiiaaW.PrintLast Go.Proofs.YtaiefdhenikiiaaW.PrintMore
set_option linter.unusedVariables false
set_option linter.unusedSimpArgs false
theorem TmAt.alloc {W:World} {b:Nat} {x:S79} (H:TmAt W b x) (o:Obj):TmAt (W.alloc o) b x:=old_at H
theorem TmAt.below {W W':World} {b:Nat} {x:S79} (H:TmAt W b x) (hb:Below W.heap.size W W'):TmAt W' b x:=qm_ H hb
theorem coR_box3 {W:World} {b base:Nat} {v:Value} {l:List S79} (h:TermsR W base v l) {cs:Array Value} (hz:W.heap[b]?=some (.cells cs 38 (0,0))) (x0 x1 x2:Value):TermsR (((W.setCell ⟨b,0,none⟩ x0).setCell ⟨b,1,none⟩ x1).setCell ⟨b,2,none⟩ x2) base v l :=
  Kd.R_set (Kd.R_set (Kd.R_set h hz (by decide) 0 _) (qh1_ hz 0 _) (by decide) 1 _) (qh1_ (qh1_ hz 0 _) 1 _) (by decide) 2 _
theorem coSr_box3 {W:World} {b:Nat} {D N D2 N2:Int} {v v2:Value} (hz:SrAt W b D N v):SrAt (((W.setCell ⟨b,0,none⟩ (.int .i64 D2)).setCell ⟨b,1,none⟩ (.int .i64 N2)).setCell ⟨b,2,none⟩ v2) b D2 N2 v2:=qh1_ (qh1_ (qh1_ hz 0 _) 1 _) 2 _
theorem coB_box3 {w W:World} {B b:Nat} (h:Below B w W) (hb:B≤b) (x0 x1 x2:Value):Below B w (((W.setCell ⟨b,0,none⟩ x0).setCell ⟨b,1,none⟩ x1).setCell ⟨b,2,none⟩ x2):=((h.setCell hb _).setCell hb _).setCell hb _
set_option maxHeartbeats 32000000 in
set_option maxRecDepth 100000 in
theorem coordSp (w:World) (d n:Nat) (hs:Sz d n) (hn:n≤5) {t:Tb} (ht:Like t (zeroT d n)) (hbt:t.bad=false) {A:Option Addr} {ca:Nat} (hA:TmsC w A ca (termsT t)) :
    Calls Try.prog 121 #[.agg #[.int .i64 (d:Int),.int .i64 (n:Int),.slice A (termsT t).length ca]] w fun e w'=>∃ v:Value,e=.returned (.tuple #[v,.int .i64 ((coordsOf d n t).2:Int)])∧TermsR w' w.heap.size v (coordsOf d n t).1∧Below w.heap.size w w':=by
  have hu:=Try.underlying38
  have hu2:=Try.underlying79
  have hu3:=Try.underlying77
  have HS:=Aside0.mk hs
  have HN:=Aside0.mk hn
  have HSM:=Aside0.mk (wordsD_small d n hs.d3 hs.n8)
  obtain ⟨R,hR⟩:∃ R,R=coordsOf d n t:=⟨_,rfl⟩
  have HC0:=Aside0.mk (show coLoop d n ((wordsD d n).drop 0) t []=R from by rw [hR];rfl)
  rw [← hR]
  have HL0:=Aside0.mk ht
  have HG0:=Aside0.mk hbt
  have HA:=Aside0.mk hA
  have HZ0:=Aside0.mk (show ∀ j,j < 0→t.vs.getD j zeroF=zeroF from fun j hj=>absurd hj (Nat.not_lt_zero _))
  obtain ⟨lt,hlt0⟩:∃ l,l=termsT t:=⟨_,rfl⟩
  have HTT:=Aside0.mk hlt0
  rw [← hlt0] at HA ⊢
  clear hs hn ht hbt hA hR hlt0
  go_enter Try.func121,Try.ntmps121
  go_wp2_with ((with_reducible refine qx_ (N:=11) rfl ?_);refine Kd.R_lit k79 _ 79 ?hg (N:=11) ?hd (xs:=([]:List S79)) (inner:=[]) (ok:=fun _=>True) (okp:=fun _=>True) ?hr ?hp (fun _ hk=>hk) trivial (Below.refl _ _) (Nat.le_refl _) (by simp) ?_;(case hd=>rfl);(case hg=>rfl);(case hr=>first|(go_simp;done)|(go_simp;rfl));(case hp=>exact (Reps.none _ _));intro v3 w3 ho hb hg hnew;clear hg hnew;have HX3:=Aside0.mk (show SrAt w3 w.heap.size d n (.slice A lt.length ca) from qm_ (new_at rfl) hb);have HB3:=Aside0.mk (show Below w.heap.size w w3 from qh_ (qb_ (Below.refl _ _) _) hb);have HV3:=Aside0.mk (show TermsR w3 w.heap.size v3 [] from Kd.qn2_ ho (qk_ (qb_ (Below.refl w.heap.size w) _)));clear ho hb)
  have HCA:=Aside0.mk (HA.out.below HB3.out)
  go_loopg [4] ((wordsD d n).length+1) (fun gg v4 wr=>∃ (i:Nat) (v:Value) (tc:Tb) (acc:List S79) (lt:List S79) (A6:Option Addr) (c6:Nat),i≤(wordsD d n).length∧(wordsD d n).length+1 - i≤gg∧v4=v∧Aside0 (lt=termsT tc)∧Aside0 (Like tc (zeroT d n))∧Aside0 (tc.bad=false)∧Aside0 (∀ j,j < i→tc.vs.getD j zeroF=zeroF)∧Aside0 (coLoop d n ((wordsD d n).drop i) tc acc=R)∧Aside0 (acc.length≤i)∧Aside0 (SrAt wr w.heap.size d n (.slice A6 lt.length c6))∧Aside0 (TmsC wr A6 c6 lt)∧Aside0 (TermsR wr w.heap.size v acc)∧Aside0 (Below w.heap.size w wr))
  case atStart=>exact ⟨0,_,t,[],lt,A,ca,Nat.zero_le _,by omega,rfl,HTT,HL0,HG0,HZ0,HC0,⟨Nat.le_refl _⟩,HX3,HCA,HV3,HB3⟩
  case round =>
    clear HL0 HG0 HZ0 HC0 HX3 HCA HV3 HB3 HTT HA
    obtain ⟨i,u4,tc,acc,lt,A6,c6,hi,hg,he4,HTT,HL,HG,HZ,HCL,HAL,HX,HC,HV,HB⟩:=hrel
    have he4':=he4.symm
    subst he4'
    rcases co_step HS.out HN.out HL.out hi HZ.out acc with ⟨h1,h2⟩|⟨l,rest,h1,h2,h3,h4,h5,g5,g3,g0⟩
    · have hnil:lt=[]:=HTT.out.trans h1
      have HE:=Aside0.mk (h2.symm.trans HCL.out)
      have hltz:¬ (0:Int) < (lt.length:Int):=by rw [hnil];simp
      clear h1 h2 hnil
      have z0:wr.cell? ⟨w.heap.size,0,none⟩=some (.int .i64 (d:Int)):=qg_ HX.out 0
      have z1:wr.cell? ⟨w.heap.size,1,none⟩=some (.int .i64 (n:Int)):=qg_ HX.out 1
      have z2:wr.cell? ⟨w.heap.size,2,none⟩=some (.slice A6 lt.length c6):=qg_ HX.out 2
      go_wp2
      go_returns
      rw [← HE.out]
      exact ⟨_,rfl,HV.out,HB.out⟩
    · obtain ⟨x,hx⟩:∃ x:S79,x=⟨encW l,tc.val l⟩:=⟨_,rfl⟩
      rw [← hx] at h1 g0
      have hcons:lt=x :: rest:=HTT.out.trans h1
      have hxw:x.f0=encW l:=by rw [hx]
      have hxv:x.f1=tc.val l:=by rw [hx]
      have hltz:(0:Int) < (lt.length:Int):=by rw [hcons];simp
      have hlen:0 < lt.length:=by rw [hcons];simp
      obtain ⟨ad,rfl,t0,t1,t2⟩:=at_T79 HC.out.row (0:Int) (by omega) (by omega)
      have e1:rd_T79 lt (0:Int)=x:=by rw [hcons];rfl
      have e0:ad.add ((0:Int).toNat * 3)=ad:=by cases ad;rfl
      rw [e1,e0] at t0 t1 t2
      clear e0
      by_cases cl:lynN l=true
      · have HLY:=Aside0.mk (show ∀ W,Calls Try.prog 97 #[.string x.f0] W (fun e w'=>e=.returned (.bool true)∧Below W.heap.size W w') from fun W=>by have:=lynS W (isD_100 h3 HS.out.d3) (by have:=h3.1;have:=HS.out.n8;omega);rw [cl] at this;rw [hxw];exact this)
        obtain ⟨U,hU⟩:∃ U,U=bracketT d n l:=⟨_,rfl⟩
        have hBR:∀ W A c lx,TmsC W A c lx→Calls Try.prog 98 #[.agg #[.int .i64 (d:Int),.int .i64 (n:Int),.slice A lx.length c],.string x.f0] W (OutR W d n (outT U)):=fun W A c lx H=>by
          have:=brackSp' W d n HS.out l h3 (lynN_pos cl) H
          rwa [← hxw,← hU] at this
        have hUL:Like U (zeroT d n):=by rw [hU];exact bracketT_like HS.out _
        have HLU:=Aside0.mk (terms_len hUL HS.out)
        have hLB:lessB d n tc l=sumT tc (scaleT U (negA x.f1)):=by rw [hU,hxv];rfl
        by_cases cu:U.bad=true
        · have HE:=Aside0.mk ((g3 cl (by rw [hLB];exact sumT_bad (Or.inr (scaleT_bad _ cu)))).symm.trans HCL.out)
          rw [outT_bad cu] at hBR
          have HBR:=Aside0.mk hBR
          clear hBR hx h1 h2 h3 h4 h5 g5 g3 g0 hxw hxv hcons e1 cl hUL hLB cu hU hlen
          have z0:wr.cell? ⟨w.heap.size,0,none⟩=some (.int .i64 (d:Int)):=qg_ HX.out 0
          have z1:wr.cell? ⟨w.heap.size,1,none⟩=some (.int .i64 (n:Int)):=qg_ HX.out 1
          have z2:wr.cell? ⟨w.heap.size,2,none⟩=some (.slice (some ad) lt.length c6):=qg_ HX.out 2
          go_wp2_with (first
            | (go_at_call 97;refine (HLY.out _).mono ?_;rintro e w4 ⟨rfl,hb⟩;have HM4:=Aside0.mk (show Below wr.heap.size wr w4 from qh_ (qb_ (Below.refl _ _) _) hb);have X4:TmAt w4 wr.heap.size x:=qm_ (new_at rfl) hb;have S4:=SrAt.below HX.out HM4.out;have y0:w4.cell? ⟨w.heap.size,0,none⟩=some (.int .i64 (d:Int)):=qg_ S4 0;have y1:w4.cell? ⟨w.heap.size,1,none⟩=some (.int .i64 (n:Int)):=qg_ S4 1;have y2:w4.cell? ⟨w.heap.size,2,none⟩=some (.slice (some ad) lt.length c6):=qg_ S4 2;have u0:w4.cell? ⟨wr.heap.size,0,none⟩=some (.string x.f0):=X4.c0;clear S4;clear hb;clear t0 t1 t2 z0 z1 z2;have HT4:=Aside0.mk X4;clear X4)
            | (go_at_call 98;refine (HBR.out _ _ _ _ (HC.out.below HM4.out)).mono ?_;rintro e w6 ⟨v,rfl,hv,hb⟩;obtain ⟨A7,c7,rfl⟩:=Kd.qg2_ hv;have HM6:=Aside0.mk (show Below wr.heap.size wr w6 from qh_ HM4.out hb);clear y0 y1 y2 u0;clear hv hb))
          go_returns
          rw [← HE.out]
          exact ⟨_,rfl,Kd.R_nil _ _ _ _ _,qb_ (qh_ HB.out HM6.out) _⟩
        · have hug:U.bad=false:=by simpa using cu
          rw [outT_good hug] at hBR
          have HBR:=Aside0.mk hBR
          have hok:okF (negA x.f1):=negA_ok (by rw [hxv];exact HL.out.2.2.val l)
          have hne:(negA x.f1).f0 ≠ 0:=by rw [hxv];show -(tc.val l).f0 ≠ 0;omega
          have hF:=HL.out.2.2.val l
          rw [← hxv] at hF
          obtain ⟨m,hm⟩:∃ m:Int,m=-x.f1.f0:=⟨_,rfl⟩
          have hm1:wrap64 (-x.f1.f0)=m:=by rw [hm];exact w64 (by have:=hF.2.2.1;have:=hF.2.2.2.1;omega) (by have:=hF.2.2.1;have:=hF.2.2.2.1;omega)
          have hm2:IntKind.i64.wrap (-x.f1.f0)=m:=by rw [i64_w];exact hm1
          have hAD:∀ W A1 c1 A2 c2,TmsC W A1 c1 lt→TmsC W A2 c2 (termsT U)→Calls Try.prog 125 #[.agg #[.int .i64 (d:Int),.int .i64 (n:Int),.slice A1 lt.length c1],.agg #[.int .i64 (d:Int),.int .i64 (n:Int),.slice A2 (termsT U).length c2],.agg #[.int .i64 m,.int .i64 x.f1.f1]] W (OutR W d n (outT (lessB d n tc l))):=fun W A1 c1 A2 c2 h1 h2=>by
            rw [HTT.out] at h1 ⊢
            have z1:=terms_len HL.out HS.out
            have z2:=terms_len hUL HS.out
            have:=addFS W d n d n h1 h2 (terms_okL HL.out.2.2) (terms_okL hUL.2.2) (by omega) (negA x.f1) hok
            rw [addS_terms tc U (zeroT d n) HS.out HL.out hUL HG.out hug (negA x.f1) hok hne,← hLB] at this
            rw [hm]
            exact this
          have hNL:=lessB_like HL.out l (d:=d) (n:=n)
          have g3':=g3 cl
          have g0':=g0 cl
          obtain ⟨N,hN⟩:∃ N,N=lessB d n tc l:=⟨_,rfl⟩
          rw [← hN] at hAD hNL g3' g0'
          have HNL:=Aside0.mk hNL
          have HNLen:=Aside0.mk (terms_len hNL HS.out)
          generalize hlu:termsT U=lu at HBR hAD HLU
          by_cases cn:N.bad=true
          · have HE:=Aside0.mk ((g3' cn).symm.trans HCL.out)
            rw [outT_bad cn] at hAD
            have HAD:=Aside0.mk hAD
            clear hBR hAD hx h1 h2 h3 h4 h5 g5 g3 g0 g3' g0' hxw hxv hcons e1 cl hUL hLB cu hug hU hok hne hF hm cn hN hNL hlen hlu
            have z0:wr.cell? ⟨w.heap.size,0,none⟩=some (.int .i64 (d:Int)):=qg_ HX.out 0
            have z1:wr.cell? ⟨w.heap.size,1,none⟩=some (.int .i64 (n:Int)):=qg_ HX.out 1
            have z2:wr.cell? ⟨w.heap.size,2,none⟩=some (.slice (some ad) lt.length c6):=qg_ HX.out 2
            go_wp2_with (first
              | (go_at_call 97;refine (HLY.out _).mono ?_;rintro e w4 ⟨rfl,hb⟩;have HM4:=Aside0.mk (show Below wr.heap.size wr w4 from qh_ (qb_ (Below.refl _ _) _) hb);have X4:TmAt w4 wr.heap.size x:=qm_ (new_at rfl) hb;have S4:=SrAt.below HX.out HM4.out;have y0:w4.cell? ⟨w.heap.size,0,none⟩=some (.int .i64 (d:Int)):=qg_ S4 0;have y1:w4.cell? ⟨w.heap.size,1,none⟩=some (.int .i64 (n:Int)):=qg_ S4 1;have y2:w4.cell? ⟨w.heap.size,2,none⟩=some (.slice (some ad) lt.length c6):=qg_ S4 2;have u0:w4.cell? ⟨wr.heap.size,0,none⟩=some (.string x.f0):=X4.c0;clear S4;clear hb;clear t0 t1 t2 z0 z1 z2;have HT4:=Aside0.mk X4;clear X4)
              | (go_at_call 98;refine (HBR.out _ _ _ _ (HC.out.below HM4.out)).mono ?_;rintro e w6 ⟨v,rfl,hv,hb⟩;obtain ⟨A7,c7,rfl⟩:=Kd.qg2_ hv;have HM6:=Aside0.mk (show Below wr.heap.size wr w6 from qh_ HM4.out hb);clear y0 y1 y2 u0;have HC7:=Aside0.mk (TmsC.of hv (by have:=HLU.out;omega)).1;have X6:=HT4.out.below hb;have S6:=SrAt.below HX.out HM6.out;have u0:(w6.alloc (.cells #[.int .i64 (d:Int),.int .i64 (n:Int),.slice A7 lu.length c7] 38)).cell? ⟨wr.heap.size,0,none⟩=some (.string x.f0):=TmAt.c0 (TmAt.alloc X6 _);have u1:(w6.alloc (.cells #[.int .i64 (d:Int),.int .i64 (n:Int),.slice A7 lu.length c7] 38)).cell? ⟨wr.heap.size,1,none⟩=some (.int .i64 x.f1.f0):=TmAt.c1 (TmAt.alloc X6 _);have u2:(w6.alloc (.cells #[.int .i64 (d:Int),.int .i64 (n:Int),.slice A7 lu.length c7] 38)).cell? ⟨wr.heap.size,2,none⟩=some (.int .i64 x.f1.f1):=TmAt.c2 (TmAt.alloc X6 _);have y0:((w6.alloc (.cells #[.int .i64 (d:Int),.int .i64 (n:Int),.slice A7 lu.length c7] 38)).alloc (.cells #[.int .i64 m,.int .i64 x.f1.f1] 77)).cell? ⟨w.heap.size,0,none⟩=some (.int .i64 (d:Int)):=qg_ (SrAt.alloc (SrAt.alloc S6 _) _) 0;have y1:((w6.alloc (.cells #[.int .i64 (d:Int),.int .i64 (n:Int),.slice A7 lu.length c7] 38)).alloc (.cells #[.int .i64 m,.int .i64 x.f1.f1] 77)).cell? ⟨w.heap.size,1,none⟩=some (.int .i64 (n:Int)):=qg_ (SrAt.alloc (SrAt.alloc S6 _) _) 1;have y2:((w6.alloc (.cells #[.int .i64 (d:Int),.int .i64 (n:Int),.slice A7 lu.length c7] 38)).alloc (.cells #[.int .i64 m,.int .i64 x.f1.f1] 77)).cell? ⟨w.heap.size,2,none⟩=some (.slice (some ad) lt.length c6):=qg_ (SrAt.alloc (SrAt.alloc S6 _) _) 2;have HT6:=Aside0.mk X6;have HS6:=Aside0.mk S6;clear X6 S6 hv hb)
              | (go_at_call 125;refine (HAD.out _ _ _ _ _ (HC.out.below (show Below wr.heap.size wr _ from (by repeat (first|(with_reducible exact HM6.out)|(with_reducible refine qb_ ?_ _)|((with_reducible refine Below.setCell ?_ ?_ _);rotate_left;(first|(simp;done)|(have h6_:=HM6.out.size;simp;omega))))))) (HC7.out.below (by repeat (first|(with_reducible exact Below.refl _ _)|(with_reducible refine qb_ ?_ _)|((with_reducible refine Below.setCell ?_ ?_ _);rotate_left;(first|(simp;done)|(simp;omega))))))).mono ?_;rintro e w8 ⟨v,rfl,hv,hb⟩;obtain ⟨A9,c9,rfl⟩:=Kd.qg2_ hv;have HP8:=Aside0.mk (show Below w6.heap.size w6 w8 from qh_ (by repeat (first|(with_reducible exact Below.refl _ _)|(with_reducible refine qb_ ?_ _)|((with_reducible refine Below.setCell ?_ ?_ _);rotate_left;(first|(simp;done)|(simp;omega))))) hb);have HM8:=Aside0.mk (show Below wr.heap.size wr w8 from qh_ HM6.out HP8.out);clear u0 u1 u2 y0 y1 y2;clear hv hb))
            go_returns
            rw [← HE.out]
            exact ⟨_,rfl,Kd.R_nil _ _ _ _ _,qb_ (qh_ HB.out HM8.out) _⟩
          · have hng:N.bad=false:=by simpa using cn
            obtain ⟨q1,q2⟩:=g0' hng
            have HQ1:=Aside0.mk (q1.symm.trans HCL.out)
            have HQ2:=Aside0.mk q2
            have HNG:=Aside0.mk hng
            have HK:=Aside0.mk (show i≤numN d l∧numN d l < (wordsD d n).length from ⟨h4,h5⟩)
            rw [outT_good hng] at hAD
            obtain ⟨lp,hlp⟩:∃ lp,lp=termsT N:=⟨_,rfl⟩
            rw [← hlp] at hAD HNLen
            have HLP:=Aside0.mk hlp
            have HAD:=Aside0.mk hAD
            clear hBR hAD hx h1 h2 h3 h4 h5 g5 g3 g0 g3' g0' hxw hxv hcons e1 cl hUL hLB cu hug hU hok hne hF hm cn hng hN hNL hlen hlp q1 q2 hlu
            have z0:wr.cell? ⟨w.heap.size,0,none⟩=some (.int .i64 (d:Int)):=qg_ HX.out 0
            have z1:wr.cell? ⟨w.heap.size,1,none⟩=some (.int .i64 (n:Int)):=qg_ HX.out 1
            have z2:wr.cell? ⟨w.heap.size,2,none⟩=some (.slice (some ad) lt.length c6):=qg_ HX.out 2
            go_wp2_with (first
              | (go_at_call 97;refine (HLY.out _).mono ?_;rintro e w4 ⟨rfl,hb⟩;have HM4:=Aside0.mk (show Below wr.heap.size wr w4 from qh_ (qb_ (Below.refl _ _) _) hb);have X4:TmAt w4 wr.heap.size x:=qm_ (new_at rfl) hb;have S4:=SrAt.below HX.out HM4.out;have y0:w4.cell? ⟨w.heap.size,0,none⟩=some (.int .i64 (d:Int)):=qg_ S4 0;have y1:w4.cell? ⟨w.heap.size,1,none⟩=some (.int .i64 (n:Int)):=qg_ S4 1;have y2:w4.cell? ⟨w.heap.size,2,none⟩=some (.slice (some ad) lt.length c6):=qg_ S4 2;have u0:w4.cell? ⟨wr.heap.size,0,none⟩=some (.string x.f0):=X4.c0;clear S4;clear hb;clear t0 t1 t2 z0 z1 z2;have HT4:=Aside0.mk X4;clear X4)
              | (go_at_call 98;refine (HBR.out _ _ _ _ (HC.out.below HM4.out)).mono ?_;rintro e w6 ⟨v,rfl,hv,hb⟩;obtain ⟨A7,c7,rfl⟩:=Kd.qg2_ hv;have HM6:=Aside0.mk (show Below wr.heap.size wr w6 from qh_ HM4.out hb);clear y0 y1 y2 u0;have HC7:=Aside0.mk (TmsC.of hv (by have:=HLU.out;omega)).1;have X6:=HT4.out.below hb;have S6:=SrAt.below HX.out HM6.out;have u0:(w6.alloc (.cells #[.int .i64 (d:Int),.int .i64 (n:Int),.slice A7 lu.length c7] 38)).cell? ⟨wr.heap.size,0,none⟩=some (.string x.f0):=TmAt.c0 (TmAt.alloc X6 _);have u1:(w6.alloc (.cells #[.int .i64 (d:Int),.int .i64 (n:Int),.slice A7 lu.length c7] 38)).cell? ⟨wr.heap.size,1,none⟩=some (.int .i64 x.f1.f0):=TmAt.c1 (TmAt.alloc X6 _);have u2:(w6.alloc (.cells #[.int .i64 (d:Int),.int .i64 (n:Int),.slice A7 lu.length c7] 38)).cell? ⟨wr.heap.size,2,none⟩=some (.int .i64 x.f1.f1):=TmAt.c2 (TmAt.alloc X6 _);have y0:((w6.alloc (.cells #[.int .i64 (d:Int),.int .i64 (n:Int),.slice A7 lu.length c7] 38)).alloc (.cells #[.int .i64 m,.int .i64 x.f1.f1] 77)).cell? ⟨w.heap.size,0,none⟩=some (.int .i64 (d:Int)):=qg_ (SrAt.alloc (SrAt.alloc S6 _) _) 0;have y1:((w6.alloc (.cells #[.int .i64 (d:Int),.int .i64 (n:Int),.slice A7 lu.length c7] 38)).alloc (.cells #[.int .i64 m,.int .i64 x.f1.f1] 77)).cell? ⟨w.heap.size,1,none⟩=some (.int .i64 (n:Int)):=qg_ (SrAt.alloc (SrAt.alloc S6 _) _) 1;have y2:((w6.alloc (.cells #[.int .i64 (d:Int),.int .i64 (n:Int),.slice A7 lu.length c7] 38)).alloc (.cells #[.int .i64 m,.int .i64 x.f1.f1] 77)).cell? ⟨w.heap.size,2,none⟩=some (.slice (some ad) lt.length c6):=qg_ (SrAt.alloc (SrAt.alloc S6 _) _) 2;have HT6:=Aside0.mk X6;have HS6:=Aside0.mk S6;clear X6 S6 hv hb)
              | (go_at_call 125;refine (HAD.out _ _ _ _ _ (HC.out.below (show Below wr.heap.size wr _ from (by repeat (first|(with_reducible exact HM6.out)|(with_reducible refine qb_ ?_ _)|((with_reducible refine Below.setCell ?_ ?_ _);rotate_left;(first|(simp;done)|(have h6_:=HM6.out.size;simp;omega))))))) (HC7.out.below (by repeat (first|(with_reducible exact Below.refl _ _)|(with_reducible refine qb_ ?_ _)|((with_reducible refine Below.setCell ?_ ?_ _);rotate_left;(first|(simp;done)|(simp;omega))))))).mono ?_;rintro e w8 ⟨v,rfl,hv,hb⟩;obtain ⟨A9,c9,rfl⟩:=Kd.qg2_ hv;have HP8:=Aside0.mk (show Below w6.heap.size w6 w8 from qh_ (by repeat (first|(with_reducible exact Below.refl _ _)|(with_reducible refine qb_ ?_ _)|((with_reducible refine Below.setCell ?_ ?_ _);rotate_left;(first|(simp;done)|(simp;omega))))) hb);have HM8:=Aside0.mk (show Below wr.heap.size wr w8 from qh_ HM6.out HP8.out);clear u0 u1 u2 y0 y1 y2;have HR8:=Aside0.mk (show Kd.R k79 79 w8 wr.heap.size (fun k=>True∧some k ≠ u4.ownBlock) (.slice A9 lp.length c9) lp from Kd.R_new' (Kd.qn2_ hv (Nat.le_trans HM6.out.size (qk_ (by repeat (first|(with_reducible exact Below.refl _ _)|(with_reducible refine qb_ ?_ _)|((with_reducible refine Below.setCell ?_ ?_ _);rotate_left;(first|(simp;done)|(simp;omega)))))))) (Kd.R_lt HV.out));have X8:=HT6.out.below HP8.out;have S8:=HS6.out.below HP8.out;have u0:(w8.alloc (.cells #[.int .i64 (d:Int),.int .i64 (n:Int),.slice A9 lp.length c9] 38)).cell? ⟨wr.heap.size,0,none⟩=some (.string x.f0):=TmAt.c0 (TmAt.alloc X8 _);have u1:(w8.alloc (.cells #[.int .i64 (d:Int),.int .i64 (n:Int),.slice A9 lp.length c9] 38)).cell? ⟨wr.heap.size,1,none⟩=some (.int .i64 x.f1.f0):=TmAt.c1 (TmAt.alloc X8 _);have u2:(w8.alloc (.cells #[.int .i64 (d:Int),.int .i64 (n:Int),.slice A9 lp.length c9] 38)).cell? ⟨wr.heap.size,2,none⟩=some (.int .i64 x.f1.f1):=TmAt.c2 (TmAt.alloc X8 _);have HS8:=Aside0.mk (S8.alloc (.cells #[.int .i64 (d:Int),.int .i64 (n:Int),.slice A9 lp.length c9] 38));have HO8:=Aside0.mk (show SrAt (w8.alloc (.cells #[.int .i64 (d:Int),.int .i64 (n:Int),.slice A9 lp.length c9] 38)) w8.heap.size d n (.slice A9 lp.length c9) from new_at rfl);have HQ8:=Aside0.mk (Kd.qq1_ HR8.out (.cells #[.int .i64 (d:Int),.int .i64 (n:Int),.slice A9 lp.length c9] 38));have HU8:=Aside0.mk (show TermsR (w8.alloc (.cells #[.int .i64 (d:Int),.int .i64 (n:Int),.slice A9 lp.length c9] 38)) w.heap.size u4 acc from Kd.qq1_ (Kd.qi2_ HV.out HM8.out) _);have HB8:=Aside0.mk (show Below w.heap.size w (w8.alloc (.cells #[.int .i64 (d:Int),.int .i64 (n:Int),.slice A9 lp.length c9] 38)) from qb_ (qh_ HB.out HM8.out) _);clear X8 S8 hv hb)
              | ((with_reducible refine qd2_ (b:=.append) (xs:=#[.tmp 48,.tmp 50]) rfl ?_);at_builtin;refine Kd.R_append k79 (w0:=w) w.heap.size rfl (.tmp 48) (.tmp 50) 24 79 (.agg #[(.string ⟨#[]⟩),(.int .i64 0),(.int .i64 0)]) 32 rfl Try.underlying24 info79' rfl (by decide) (by omega) u4 acc x [.string x.f0,.int .i64 x.f1.f0,.int .i64 x.f1.f1] (fun _=>True) (fun _=>False) rfl (by show Value.slice (some ⟨w8.heap.size+1,0,none⟩) 1 1=_;simp) ?aP (fun _ hk=>hk.elim) ?aF ?aO ?aB ?aS ?aL ?_;(case aP=>exact k79_mkM _ _ _ x);(case aB=>exact HB8.out);(case aF=>exact (fun _ _=>trivial));(case aO=>exact HU8.out);(case aS=>exact (qk_ HB8.out));(case aL=>have:=HAL.out;have:=HSM.out;have:=HK.out;omega);intro v1 w9 ho hb hg hat;have S9:SrAt w9 w.heap.size d n (.slice (some ad) lt.length c6):=HS8.out.grown hg (Kd.R_ne HU8.out HS8.out (by decide));have O9:SrAt w9 w8.heap.size d n (.slice A9 lp.length c9):=HO8.out.grown hg (Kd.R_ne HU8.out HO8.out (by decide));have HV9:=Aside0.mk (show TermsR w9 w.heap.size (.slice A9 lp.length c9) lp from Kd.qn2_ (Kd.R_mono (Kd.R_grown HQ8.out hg (fun k hk=>hk.2)) (fun _ _=>trivial)) HB.out.size);have HR9:=Aside0.mk ho;have HB9:=Aside0.mk hb;clear u0 u1 u2;have k0:w9.cell? ⟨w.heap.size,0,none⟩=some (.int .i64 (d:Int)):=qg_ S9 0;have kf0:w9.frozen? ⟨w.heap.size,0,none⟩=false:=qd_ S9 0;have k1:w9.cell? ⟨w.heap.size,1,none⟩=some (.int .i64 (n:Int)):=qg_ S9 1;have kf1:w9.frozen? ⟨w.heap.size,1,none⟩=false:=qd_ S9 1;have k2:w9.cell? ⟨w.heap.size,2,none⟩=some (.slice (some ad) lt.length c6):=qg_ S9 2;have kf2:w9.frozen? ⟨w.heap.size,2,none⟩=false:=qd_ S9 2;have o0:w9.cell? ⟨w8.heap.size,0,none⟩=some (.int .i64 (d:Int)):=qg_ O9 0;have o1:w9.cell? ⟨w8.heap.size,1,none⟩=some (.int .i64 (n:Int)):=qg_ O9 1;have o2:w9.cell? ⟨w8.heap.size,2,none⟩=some (.slice A9 lp.length c9):=qg_ O9 2;have HS9:=Aside0.mk S9;clear S9 O9 ho hb hg hat))
            go_roundg ((wordsD d n).length+1 - (numN d l+1))
            case measure=>have:=HK.out;omega
            case rel =>
              have hk:=HK.out
              refine ⟨numN d l+1,_,N,acc ++ [x],lp,A9,c9,by omega,by omega,rfl,HLP,HNL,HNG,HQ2,HQ1,⟨by have:=HAL.out;rw [List.length_append,List.length_singleton];omega⟩,⟨?_⟩,⟨?_⟩,⟨?_⟩,⟨?_⟩⟩
              · exact coSr_box3 HS9.out
              · exact (TmsC.of (coR_box3 HV9.out HS9.out _ _ _) (by have:=HNLen.out;omega)).1
              · exact coR_box3 HR9.out HS9.out _ _ _
              · exact coB_box3 HB9.out (Nat.le_refl _) _ _ _
      · have cf:lynN l=false:=by simpa using cl
        have HLY:=Aside0.mk (show ∀ W,Calls Try.prog 97 #[.string x.f0] W (fun e w'=>e=.returned (.bool false)∧Below W.heap.size W w') from fun W=>by have:=lynS W (isD_100 h3 HS.out.d3) (by have:=h3.1;have:=HS.out.n8;omega);rw [cf] at this;rw [hxw];exact this)
        have HE:=Aside0.mk ((g5 cf).symm.trans HCL.out)
        clear hx h1 h2 h3 h4 h5 g5 g3 g0 hxw hxv hcons e1 cl cf hlen
        have z0:wr.cell? ⟨w.heap.size,0,none⟩=some (.int .i64 (d:Int)):=qg_ HX.out 0
        have z1:wr.cell? ⟨w.heap.size,1,none⟩=some (.int .i64 (n:Int)):=qg_ HX.out 1
        have z2:wr.cell? ⟨w.heap.size,2,none⟩=some (.slice (some ad) lt.length c6):=qg_ HX.out 2
        go_wp2_with (go_at_call 97;refine (HLY.out _).mono ?_;rintro e w4 ⟨rfl,hb⟩;have HM4:=Aside0.mk (show Below wr.heap.size wr w4 from qh_ (qb_ (Below.refl _ _) _) hb);have X4:TmAt w4 wr.heap.size x:=qm_ (new_at rfl) hb;clear hb;clear t0 t1 t2 z0 z1 z2;have HT4:=Aside0.mk X4;clear X4)
        go_returns
        rw [← HE.out]
        exact ⟨_,rfl,Kd.R_nil _ _ _ _ _,qh_ HB.out HM4.out⟩
end Go.Proofs.Ytaiefdhenikiiaa.Base
namespace Go.Proofs.Ytaiefdhenikiiaa.Base
open Go.RowKit Go.Proofs.YtaiefdhenikiiaaW.PrintWords Go.Proofs.YtaiefdhenikiiaaW.PrintLast Go.Proofs.YtaiefdhenikiiaaW.PrintMore
attribute [local go_sem] max2_int qp1_ max_two min_two max_three min_three max_four min_four Go.Proofs.YtaiefdhenikiiaaZ.qu_   -- for this text's walks alone
set_option linter.unusedVariables false
set_option linter.unusedSimpArgs false
def qo2_.f (a0_0:Int) (a0_1:Int) (l0_2:List S79):Option ((List S79) × Int):=if l0_2.length≤1048576∧(∀ x ∈ l0_2,x.f0.size≤1048576) then some (lieR a0_0 a0_1 l0_2) else none
set_option maxHeartbeats 16000000 in
set_option maxRecDepth 100000 in
theorem qo2_.calls (a0_0:Int) (a0_1:Int) (A0_2:Option Addr) (c0_2:Nat) (l0_2:List (S79)) (r1:List (S79)) (r2:Int) (w:World) (hr0_2:Kd.C k79 w A0_2 l0_2.length l0_2) (hc0_2:l0_2.length≤c0_2) (h:qo2_.f a0_0 a0_1 l0_2=some (r1,r2)) :
  Calls Try.prog 59 #[.agg #[.int .i64 a0_0,.int .i64 a0_1,.slice A0_2 l0_2.length c0_2]] w fun e w'=>∃ v0_:Value,e=.returned (.tuple #[v0_,.int .i64 r2])∧Kd.R k79 79 w' w.heap.size (fun _=>True) v0_ r1∧Below w.heap.size w w':=by
 unfold qo2_.f at h
 split at h
 rotate_left
 ·cases h
 rename_i hsm
 replace h:=Option.some.inj h
 have hu:=Try.underlying38
 have HR:=aK hr0_2
 have HC:=aK hc0_2
 clear hr0_2 hc0_2
 obtain ⟨k1,h1⟩:=(ser_spec a0_0 a0_1 l0_2 hsm).rounds
 unfold lieR at h
 by_cases c:serB a0_0 a0_1 l0_2=true
 ·rw [c] at h1
  have HX:=aK h1
  rw [if_pos c] at h
  obtain ⟨d,n,rfl,rfl,hs,hn,hn5,hg⟩:=ser_nat5 c
  rw [Int.toNat_natCast,Int.toNat_natCast] at h
  obtain ⟨rfl,rfl⟩:=Prod.mk.inj h
  have hT:=good_terms hs hg
  obtain ⟨R,hR⟩:∃ R,R=coordsOf d n (openN d n l0_2):=⟨_,rfl⟩
  have HCO:=aK (show ∀ W,Below w.heap.size w W→Calls Try.prog 121 #[.agg #[.int .i64 (d:Int),.int .i64 (n:Int),.slice A0_2 l0_2.length c0_2]] W fun e w'=>∃ v:Value,e=.returned (.tuple #[v,.int .i64 (R.2:Int)])∧TermsR w' W.heap.size v R.1∧Below W.heap.size W w' from fun W hW=>by
   have:=coordSp W d n hs hn5 (open_like hs hg) (openN_good d n l0_2) (A:=A0_2) (ca:=c0_2) (by rw [hT];exact ⟨Kd.qv1_ HR.out hW,HC.out,by have:=hsm.1;omega⟩)
   rwa [hT,← hR] at this)
  rw [← hR]
  clear h h1 c hs hn hn5 hg hsm hR hT
  go_enter Try.func59,Try.ntmps59
  have x0:(w.alloc (.cells #[.int .i64 (d:Int),.int .i64 (n:Int),.slice A0_2 l0_2.length c0_2] 38)).cell? ⟨w.heap.size,0,none⟩=some (.int .i64 (d:Int)):=qg_ (new_at rfl) 0
  have x1:(w.alloc (.cells #[.int .i64 (d:Int),.int .i64 (n:Int),.slice A0_2 l0_2.length c0_2] 38)).cell? ⟨w.heap.size,1,none⟩=some (.int .i64 (n:Int)):=qg_ (new_at rfl) 1
  have x2:(w.alloc (.cells #[.int .i64 (d:Int),.int .i64 (n:Int),.slice A0_2 l0_2.length c0_2] 38)).cell? ⟨w.heap.size,2,none⟩=some (.slice A0_2 l0_2.length c0_2):=qg_ (new_at rfl) 2
  go_wp2_with (first
   | (go_at_call 82;(with_reducible refine (qw_.calls k1 _ _ _ _ _ _ _ (Kd.qv1_ HR.out (qb_ (Below.refl _ _) _)) HC.out HX.out).mono ?_);rintro e w1 ⟨rfl,hb⟩;have HB1:=aK (show Below w.heap.size w w1 from qh_ (qb_ (Below.refl _ _) _) hb);have S:=(qm_ (new_at rfl) hb:SrAt w1 w.heap.size (d:Int) (n:Int) (.slice A0_2 l0_2.length c0_2));clear x0 x1 x2;have x0:w1.cell? ⟨w.heap.size,0,none⟩=some (.int .i64 (d:Int)):=SrAt.c0 S;have x1:w1.cell? ⟨w.heap.size,1,none⟩=some (.int .i64 (n:Int)):=SrAt.c1 S;have x2:w1.cell? ⟨w.heap.size,2,none⟩=some (.slice A0_2 l0_2.length c0_2):=SrAt.c2 S;clear S;clear hb)
   | (go_at_call 121;(with_reducible refine (HCO.out _ HB1.out).mono ?_);rintro e w3 ⟨v,rfl,hv,hb⟩;have HV:=aK (Kd.qn2_ hv HB1.out.size);have HB3:=aK (show Below w.heap.size w w3 from qh_ HB1.out hb);clear x0 x1 x2 hv hb))
  go_returns
  exact ⟨_,rfl,HV.out,HB3.out⟩
 ·have cf:serB a0_0 a0_1 l0_2=false:=by simpa using c
  rw [cf] at h1
  have HX:=aK h1
  rw [if_neg c] at h
  obtain ⟨rfl,rfl⟩:=Prod.mk.inj h
  clear h h1 c cf hsm
  go_enter Try.func59,Try.ntmps59
  have x0:(w.alloc (.cells #[.int .i64 a0_0,.int .i64 a0_1,.slice A0_2 l0_2.length c0_2] 38)).cell? ⟨w.heap.size,0,none⟩=some (.int .i64 a0_0):=qg_ (new_at rfl) 0
  have x1:(w.alloc (.cells #[.int .i64 a0_0,.int .i64 a0_1,.slice A0_2 l0_2.length c0_2] 38)).cell? ⟨w.heap.size,1,none⟩=some (.int .i64 a0_1):=qg_ (new_at rfl) 1
  have x2:(w.alloc (.cells #[.int .i64 a0_0,.int .i64 a0_1,.slice A0_2 l0_2.length c0_2] 38)).cell? ⟨w.heap.size,2,none⟩=some (.slice A0_2 l0_2.length c0_2):=qg_ (new_at rfl) 2
  go_wp2_with (go_at_call 82;(with_reducible refine (qw_.calls k1 _ _ _ _ _ _ _ (Kd.qv1_ HR.out (qb_ (Below.refl _ _) _)) HC.out HX.out).mono ?_);rintro e w1 ⟨rfl,hb⟩;have HB1:=aK (show Below w.heap.size w w1 from qh_ (qb_ (Below.refl _ _) _) hb);clear hb)
  go_returns
  exact ⟨_,rfl,Kd.R_nil _ _ _ _ _,HB1.out⟩
end Go.Proofs.Ytaiefdhenikiiaa.Base
namespace Go.Proofs.Ytaiefdhenikiiaa.Base
open Go.RowKit Go.Proofs.YtaiefdhenikiiaaW.PrintWords Go.Proofs.YtaiefdhenikiiaaW.PrintLast Go.Proofs.YtaiefdhenikiiaaW.PrintMore
attribute [local go_sem] max2_int qp1_ max_two min_two max_three min_three max_four min_four Go.Proofs.YtaiefdhenikiiaaZ.qu_   -- for this text's walks alone
set_option linter.unusedVariables false
set_option linter.unusedSimpArgs false
def qe2_.f (a0_0:Int) (a0_1:Int) (l0_2:List S79):Option ((List S79) × Int):=if l0_2.length≤1048576∧(∀ x ∈ l0_2,x.f0.size≤1048576) then some (lieR a0_0 a0_1 l0_2) else none
set_option maxHeartbeats 16000000 in
set_option maxRecDepth 100000 in
theorem qe2_.calls (a0_0:Int) (a0_1:Int) (A0_2:Option Addr) (c0_2:Nat) (l0_2:List (S79)) (r1:List (S79)) (r2:Int) (w:World) (hr0_2:Kd.C k79 w A0_2 l0_2.length l0_2) (hc0_2:l0_2.length≤c0_2) (h:qe2_.f a0_0 a0_1 l0_2=some (r1,r2)) :
  Calls Try.prog 60 #[.agg #[.int .i64 a0_0,.int .i64 a0_1,.slice A0_2 l0_2.length c0_2]] w fun e w'=>∃ v0_:Value,e=.returned (.tuple #[v0_,.int .i64 r2])∧Kd.R k79 79 w' w.heap.size (fun _=>True) v0_ r1∧Below w.heap.size w w':=by
 unfold qe2_.f at h
 split at h
 rotate_left
 ·cases h
 rename_i hsm
 replace h:=Option.some.inj h
 have hu:=Try.underlying38
 have HR:=aK hr0_2
 have HC:=aK hc0_2
 clear hr0_2 hc0_2
 obtain ⟨k1,h1⟩:=(ser_impl a0_0 a0_1 l0_2 hsm).rounds
 unfold lieR at h
 by_cases c:serB a0_0 a0_1 l0_2=true
 ·rw [c] at h1
  have HX:=aK h1
  rw [if_pos c] at h
  obtain ⟨d,n,rfl,rfl,hs,hn,hn5,hg⟩:=ser_nat5 c
  rw [Int.toNat_natCast,Int.toNat_natCast] at h
  obtain ⟨rfl,rfl⟩:=Prod.mk.inj h
  have HOP:=aK (show ∀ W,Below w.heap.size w W→Calls Try.prog 112 #[.agg #[.int .i64 (d:Int),.int .i64 (n:Int),.slice A0_2 l0_2.length c0_2]] W (NewT W (openN d n l0_2) (zeroT d n)) from fun W hW=>open_ W d n A0_2 c0_2 l0_2 (Kd.qv1_ HR.out hW) HC.out hs (good_okTs (by have:=hs.d3;omega) hg).1 (by have:=hsm.1;omega))
  obtain ⟨R,hR⟩:∃ R,R=coordsOf d n (openN d n l0_2):=⟨_,rfl⟩
  have HCO:=aK (show ∀ W g k,HasT W g k (openN d n l0_2) (zeroT d n)→Calls Try.prog 122 #[.pointer (some ⟨g,0,none⟩)] W fun e w'=>∃ v:Value,e=.returned (.tuple #[v,.int .i64 (R.2:Int)])∧TermsR w' W.heap.size v R.1∧Below W.heap.size W w' from fun W g k H=>by rw [hR];exact coordinates_ W d n hs H)
  rw [← hR]
  clear h h1 c hs hn hn5 hg hsm hR
  go_enter Try.func60,Try.ntmps60
  have x0:(w.alloc (.cells #[.int .i64 (d:Int),.int .i64 (n:Int),.slice A0_2 l0_2.length c0_2] 38)).cell? ⟨w.heap.size,0,none⟩=some (.int .i64 (d:Int)):=qg_ (new_at rfl) 0
  have x1:(w.alloc (.cells #[.int .i64 (d:Int),.int .i64 (n:Int),.slice A0_2 l0_2.length c0_2] 38)).cell? ⟨w.heap.size,1,none⟩=some (.int .i64 (n:Int)):=qg_ (new_at rfl) 1
  have x2:(w.alloc (.cells #[.int .i64 (d:Int),.int .i64 (n:Int),.slice A0_2 l0_2.length c0_2] 38)).cell? ⟨w.heap.size,2,none⟩=some (.slice A0_2 l0_2.length c0_2):=qg_ (new_at rfl) 2
  go_wp2_with (first
   | (go_at_call 83;(with_reducible refine (qu2_.calls k1 _ _ _ _ _ _ _ (Kd.qv1_ HR.out (qb_ (Below.refl _ _) _)) HC.out HX.out).mono ?_);rintro e w1 ⟨rfl,hb⟩;have HB1:=aK (show Below w.heap.size w w1 from qh_ (qb_ (Below.refl _ _) _) hb);have S:=(qm_ (new_at rfl) hb:SrAt w1 w.heap.size (d:Int) (n:Int) (.slice A0_2 l0_2.length c0_2));clear x0 x1 x2;have x0:w1.cell? ⟨w.heap.size,0,none⟩=some (.int .i64 (d:Int)):=SrAt.c0 S;have x1:w1.cell? ⟨w.heap.size,1,none⟩=some (.int .i64 (n:Int)):=SrAt.c1 S;have x2:w1.cell? ⟨w.heap.size,2,none⟩=some (.slice A0_2 l0_2.length c0_2):=SrAt.c2 S;clear S;clear hb)
   | (go_at_call 112;(with_reducible refine (HOP.out _ HB1.out).mono ?_);rintro e w2 ⟨g2,k2,rfl,T,hg,hh,hb⟩;have HT:=aK T;have HB2:=aK (show Below w.heap.size w w2 from qh_ HB1.out hb);clear x0 x1 x2 T hg hh hb)
   | (go_at_call 122;(with_reducible refine (HCO.out _ _ _ HT.out).mono ?_);rintro e w3 ⟨v,rfl,hv,hb⟩;have HV:=aK (Kd.qn2_ hv HB2.out.size);have HB3:=aK (show Below w.heap.size w w3 from qh_ HB2.out hb);clear hv hb))
  go_returns
  exact ⟨_,rfl,HV.out,HB3.out⟩
 ·have cf:serB a0_0 a0_1 l0_2=false:=by simpa using c
  rw [cf] at h1
  have HX:=aK h1
  rw [if_neg c] at h
  obtain ⟨rfl,rfl⟩:=Prod.mk.inj h
  clear h h1 c cf hsm
  go_enter Try.func60,Try.ntmps60
  have x0:(w.alloc (.cells #[.int .i64 a0_0,.int .i64 a0_1,.slice A0_2 l0_2.length c0_2] 38)).cell? ⟨w.heap.size,0,none⟩=some (.int .i64 a0_0):=qg_ (new_at rfl) 0
  have x1:(w.alloc (.cells #[.int .i64 a0_0,.int .i64 a0_1,.slice A0_2 l0_2.length c0_2] 38)).cell? ⟨w.heap.size,1,none⟩=some (.int .i64 a0_1):=qg_ (new_at rfl) 1
  have x2:(w.alloc (.cells #[.int .i64 a0_0,.int .i64 a0_1,.slice A0_2 l0_2.length c0_2] 38)).cell? ⟨w.heap.size,2,none⟩=some (.slice A0_2 l0_2.length c0_2):=qg_ (new_at rfl) 2
  go_wp2_with (go_at_call 83;(with_reducible refine (qu2_.calls k1 _ _ _ _ _ _ _ (Kd.qv1_ HR.out (qb_ (Below.refl _ _) _)) HC.out HX.out).mono ?_);rintro e w1 ⟨rfl,hb⟩;have HB1:=aK (show Below w.heap.size w w1 from qh_ (qb_ (Below.refl _ _) _) hb);clear hb)
  go_returns
  exact ⟨_,rfl,Kd.R_nil _ _ _ _ _,HB1.out⟩
end Go.Proofs.Ytaiefdhenikiiaa.Base
namespace Go.Proofs.Ytaiefdhenikiiaa.Base
open Go.RowKit Go.Proofs.YtaiefdhenikiiaaW.PrintWords Go.Proofs.YtaiefdhenikiiaaW.PrintLast Go.Proofs.YtaiefdhenikiiaaW.PrintMore
attribute [local go_sem] max2_int qp1_ max_two min_two max_three min_three max_four min_four Go.Proofs.YtaiefdhenikiiaaZ.qu_   -- for this text's walks alone
set_option linter.unusedVariables false
set_option linter.unusedSimpArgs false
theorem qj1_.keep {w W:World} {a0:Addr} {v0:Value} {a1:Addr} {v1:Value} {a2:Addr} {v2:Value} {a3:Addr} {v3:Value} {a4:Addr} {v4:Value} {a5:Addr} {v5:Value} (p0:w.cell? a0=some v0) (p1:w.cell? a1=some v1) (p2:w.cell? a2=some v2) (p3:w.cell? a3=some v3) (p4:w.cell? a4=some v4) (p5:w.cell? a5=some v5) (hb:Below w.heap.size w W):W.cell? a0=some v0∧W.cell? a1=some v1∧W.cell? a2=some v2∧W.cell? a3=some v3∧W.cell? a4=some v4∧W.cell? a5=some v5:=⟨qt_ hb p0,qt_ hb p1,qt_ hb p2,qt_ hb p3,qt_ hb p4,qt_ hb p5⟩
def qj1_.f (k:Nat) (a0_0:Int) (a0_1:Int) (l0_2:List (S75)):Option Bool:=(ql2_.f k a0_0 a0_1 l0_2 1048576).bind fun y1_0=>if y1_0 < 0 then some true else (qa2_.f k a0_0 a0_1 l0_2).bind fun p2=>(qo2_.f p2.1 p2.2.1 p2.2.2).bind fun p3=>(qa2_.f k a0_0 a0_1 l0_2).bind fun p4=>(qe2_.f p4.1 p4.2.1 p4.2.2).bind fun p5=>if p5.2=p3.2 then (qy_.f k p5.1 p3.1).bind fun y6_0=>if y6_0=true then (qa2_.f k a0_0 a0_1 l0_2).bind fun p7=>(qp2_.f k p4.1 p4.2.1 p4.2.2 p7.1 p7.2.1 p7.2.2).bind fun y8_0=>if y8_0=true then (qh2_.f k p4.1 p4.2.1 p4.2.2 1).bind fun p9=>if 0≤p9.1 then (qy_.f k p5.1 p3.1).bind fun y10_0=>if y10_0=true then (qg1_.f k p5.1 1).bind fun p11=>if 0≤p11.1 then (qq_.f k p11.2 1).bind fun y12_0=>if 0≤y12_0∧y12_0=p11.1 then (qa2_.f k a0_0 a0_1 l0_2).bind fun p13=>(qe2_.f p13.1 p13.2.1 p13.2.2).bind fun p14=>if p14.2=p3.2 then (qy_.f k p14.1 p3.1).bind fun y15_0=>if y15_0=true then (qq_.f k p11.2 1).bind fun y16_0=>if 0≤y16_0∧y16_0=p11.1 then some true else none else none else none else none else none else none else none else none else none else none
theorem qj1_.mono:∀ a0_0 a0_1 l0_2 k,LeO (qj1_.f k a0_0 a0_1 l0_2) (qj1_.f (k+1) a0_0 a0_1 l0_2):=by
 intro a0_0 a0_1 l0_2 k
 unfold qj1_.f
 repeat' first
  | (with_reducible exact qp2_.mono _ _ _ _ _ _ _)
  | (with_reducible exact qy_.mono _ _ _)
  | (with_reducible exact qq_.mono _ _ _)
  | (with_reducible exact qh2_.mono _ _ _ _ _)
  | (with_reducible exact qg1_.mono _ _ _)
  | (with_reducible exact ql2_.mono _ _ _ _ _)
  | (with_reducible exact qa2_.mono _ _ _ _)
  | (with_reducible exact LeO.refl _)
  | (with_reducible refine LeO.ite ?_ ?_)
  | (with_reducible refine LeO.bind ?_ (fun _=>?_))
  | exact LeO.refl _
  | exact LeO.none _
set_option maxHeartbeats 16000000 in
set_option maxRecDepth 100000 in
theorem qj1_.calls (k:Nat) (a0_0:Int) (a0_1:Int) (A0_2:Option Addr) (c0_2:Nat) (l0_2:List (S75)) (r:Bool) (w:World) (hr0_2:Kd.C k75 w A0_2 l0_2.length l0_2) (hc0_2:l0_2.length≤c0_2) (h:qj1_.f k a0_0 a0_1 l0_2=some r) :
  Calls Try.prog 13 #[.agg #[.int .i64 a0_0,.int .i64 a0_1,.slice A0_2 l0_2.length c0_2]] w fun e w'=>e=.returned (.bool r)∧Below w.heap.size w w':=by
 have hu:=Try.underlying38
 unfold qj1_.f at h
 have HR0_2:=aK hr0_2
 have HC0_2:=aK hc0_2
 clear hr0_2 hc0_2
 have B0:=aK (Below.refl w.heap.size w)
 have h0:=h
 clear h
 replace h0:=Option.bind_eq_some_iff.mp h0
 obtain ⟨y1_0,E1,h0⟩:=h0
 replace E1:=aK E1
 by_cases c1:y1_0 < 0
 ·rw [if_pos c1] at h0
  obtain rfl:=Option.some.inj h0
  clear h0
  have d1:decide (y1_0 < 0)=true:=decide_eq_true c1
  clear c1
  go_enter Try.func13,Try.ntmps13
  have z0_0_0:(w.alloc (.cells #[.int .i64 a0_0,.int .i64 a0_1,.slice A0_2 l0_2.length c0_2] 32)).cell? ⟨w.heap.size,0,none⟩=some (.int .i64 a0_0):=qg_ (new_at rfl) 0
  have z0_0_1:(w.alloc (.cells #[.int .i64 a0_0,.int .i64 a0_1,.slice A0_2 l0_2.length c0_2] 32)).cell? ⟨w.heap.size,1,none⟩=some (.int .i64 a0_1):=qg_ (new_at rfl) 1
  have z0_0_2:(w.alloc (.cells #[.int .i64 a0_0,.int .i64 a0_1,.slice A0_2 l0_2.length c0_2] 32)).cell? ⟨w.heap.size,2,none⟩=some (.slice A0_2 l0_2.length c0_2):=qg_ (new_at rfl) 2
  go_wp2_with (go_at_call 28;(with_reducible refine (ql2_.calls k a0_0 a0_1 A0_2 c0_2 l0_2 1048576 y1_0 _ (Kd.qv1_ HR0_2.out (qb_ B0.out _)) HC0_2.out E1.out).mono ?_);rintro e w1 ⟨rfl,hb⟩;have D_:Below w.heap.size w w1:=qh_ (qb_ (Below.refl _ _) _) hb;have HS0:=aK (show w1.heap[w.heap.size]?=some (.cells #[.int .i64 a0_0,.int .i64 a0_1,.slice A0_2 l0_2.length c0_2] 32 (0,0)) from qm_ (new_at rfl) hb);have OB0:=aK (show True from trivial);have B1:=aK (qh_ B0.out D_);have LB0:=aK (blk_lt HS0.out);clear D_ hb;clear z0_0_0 z0_0_1 z0_0_2;have z1_0_0:w1.cell? ⟨w.heap.size,0,none⟩=some (.int .i64 a0_0):=qg_ HS0.out 0;have z1_0_1:w1.cell? ⟨w.heap.size,1,none⟩=some (.int .i64 a0_1):=qg_ HS0.out 1;have z1_0_2:w1.cell? ⟨w.heap.size,2,none⟩=some (.slice A0_2 l0_2.length c0_2):=qg_ HS0.out 2)
  go_ret
  exact ⟨rfl,B1.out⟩
 ·rw [if_neg c1] at h0
  have d1:decide (y1_0 < 0)=false:=decide_eq_false c1
  clear c1
  replace h0:=Option.bind_eq_some_iff.mp h0
  obtain ⟨⟨y2_0_0,y2_0_1,y2_0_2⟩,E2,h0⟩:=h0
  dsimp only at h0
  replace E2:=aK E2
  replace h0:=Option.bind_eq_some_iff.mp h0
  obtain ⟨⟨y3_0,y3_1⟩,E3,h0⟩:=h0
  dsimp only at h0
  replace E3:=aK E3
  replace h0:=Option.bind_eq_some_iff.mp h0
  obtain ⟨⟨y4_0_0,y4_0_1,y4_0_2⟩,E4,h0⟩:=h0
  dsimp only at h0
  replace E4:=aK E4
  replace h0:=Option.bind_eq_some_iff.mp h0
  obtain ⟨⟨y5_0,y5_1⟩,E5,h0⟩:=h0
  dsimp only at h0
  replace E5:=aK E5
  by_cases c5:y5_1=y3_1
  rotate_left
  ·rw [if_neg c5] at h0;cases h0
  rw [if_pos c5] at h0
  have f5_0:(y5_1 != y3_1)=false:=by rw [bne_eq_false_iff_eq];exact c5
  clear c5
  replace h0:=Option.bind_eq_some_iff.mp h0
  obtain ⟨y6_0,E6,h0⟩:=h0
  replace E6:=aK E6
  by_cases c6:y6_0=true
  rotate_left
  ·rw [if_neg c6] at h0;cases h0
  rw [if_pos c6] at h0
  subst c6
  replace h0:=Option.bind_eq_some_iff.mp h0
  obtain ⟨⟨y7_0_0,y7_0_1,y7_0_2⟩,E7,h0⟩:=h0
  dsimp only at h0
  replace E7:=aK E7
  replace h0:=Option.bind_eq_some_iff.mp h0
  obtain ⟨y8_0,E8,h0⟩:=h0
  replace E8:=aK E8
  by_cases c8:y8_0=true
  rotate_left
  ·rw [if_neg c8] at h0;cases h0
  rw [if_pos c8] at h0
  subst c8
  replace h0:=Option.bind_eq_some_iff.mp h0
  obtain ⟨⟨y9_0,z9⟩,E9,h0⟩:=h0
  dsimp only at h0
  replace E9:=aK E9
  by_cases c9:0≤y9_0
  rotate_left
  ·rw [if_neg c9] at h0;cases h0
  rw [if_pos c9] at h0
  have d9:decide (y9_0 < 0)=false:=decide_eq_false (by omega)
  clear c9
  replace h0:=Option.bind_eq_some_iff.mp h0
  obtain ⟨y10_0,E10,h0⟩:=h0
  replace E10:=aK E10
  by_cases c10:y10_0=true
  rotate_left
  ·rw [if_neg c10] at h0;cases h0
  rw [if_pos c10] at h0
  subst c10
  replace h0:=Option.bind_eq_some_iff.mp h0
  obtain ⟨⟨y11_0,z11⟩,E11,h0⟩:=h0
  dsimp only at h0
  replace E11:=aK E11
  by_cases c11:0≤y11_0
  rotate_left
  ·rw [if_neg c11] at h0;cases h0
  rw [if_pos c11] at h0
  have d11:decide (y11_0 < 0)=false:=decide_eq_false (by omega)
  clear c11
  replace h0:=Option.bind_eq_some_iff.mp h0
  obtain ⟨y12_0,E12,h0⟩:=h0
  replace E12:=aK E12
  by_cases c12:0≤y12_0∧y12_0=y11_0
  rotate_left
  ·rw [if_neg c12] at h0;cases h0
  rw [if_pos c12] at h0
  have d12:decide (y12_0 < 0)=false:=decide_eq_false (by omega)
  have f12:(y12_0 != y11_0)=false:=by rw [bne_eq_false_iff_eq];exact c12.2
  clear c12
  replace h0:=Option.bind_eq_some_iff.mp h0
  obtain ⟨⟨y13_0_0,y13_0_1,y13_0_2⟩,E13,h0⟩:=h0
  dsimp only at h0
  replace E13:=aK E13
  replace h0:=Option.bind_eq_some_iff.mp h0
  obtain ⟨⟨y14_0,y14_1⟩,E14,h0⟩:=h0
  dsimp only at h0
  replace E14:=aK E14
  by_cases c14:y14_1=y3_1
  rotate_left
  ·rw [if_neg c14] at h0;cases h0
  rw [if_pos c14] at h0
  have f14_0:(y14_1 != y3_1)=false:=by rw [bne_eq_false_iff_eq];exact c14
  clear c14
  replace h0:=Option.bind_eq_some_iff.mp h0
  obtain ⟨y15_0,E15,h0⟩:=h0
  replace E15:=aK E15
  by_cases c15:y15_0=true
  rotate_left
  ·rw [if_neg c15] at h0;cases h0
  rw [if_pos c15] at h0
  subst c15
  replace h0:=Option.bind_eq_some_iff.mp h0
  obtain ⟨y16_0,E16,h0⟩:=h0
  replace E16:=aK E16
  by_cases c16:0≤y16_0∧y16_0=y11_0
  rotate_left
  ·rw [if_neg c16] at h0;cases h0
  rw [if_pos c16] at h0
  have d16:decide (y16_0 < 0)=false:=decide_eq_false (by omega)
  have f16:(y16_0 != y11_0)=false:=by rw [bne_eq_false_iff_eq];exact c16.2
  clear c16
  obtain rfl:=Option.some.inj h0
  clear h0
  go_enter Try.func13,Try.ntmps13
  have z0_0_0:(w.alloc (.cells #[.int .i64 a0_0,.int .i64 a0_1,.slice A0_2 l0_2.length c0_2] 32)).cell? ⟨w.heap.size,0,none⟩=some (.int .i64 a0_0):=qg_ (new_at rfl) 0
  have z0_0_1:(w.alloc (.cells #[.int .i64 a0_0,.int .i64 a0_1,.slice A0_2 l0_2.length c0_2] 32)).cell? ⟨w.heap.size,1,none⟩=some (.int .i64 a0_1):=qg_ (new_at rfl) 1
  have z0_0_2:(w.alloc (.cells #[.int .i64 a0_0,.int .i64 a0_1,.slice A0_2 l0_2.length c0_2] 32)).cell? ⟨w.heap.size,2,none⟩=some (.slice A0_2 l0_2.length c0_2):=qg_ (new_at rfl) 2
  go_wp2_with (go_at_call 28;(with_reducible refine (ql2_.calls k a0_0 a0_1 A0_2 c0_2 l0_2 1048576 y1_0 _ (Kd.qv1_ HR0_2.out (qb_ B0.out _)) HC0_2.out E1.out).mono ?_);rintro e w1 ⟨rfl,hb⟩;have D_:Below w.heap.size w w1:=qh_ (qb_ (Below.refl _ _) _) hb;have HS0:=aK (show w1.heap[w.heap.size]?=some (.cells #[.int .i64 a0_0,.int .i64 a0_1,.slice A0_2 l0_2.length c0_2] 32 (0,0)) from qm_ (new_at rfl) hb);have OB0:=aK (show True from trivial);have B1:=aK (qh_ B0.out D_);have LB0:=aK (blk_lt HS0.out);clear D_ hb;clear z0_0_0 z0_0_1 z0_0_2;have z1_0_0:w1.cell? ⟨w.heap.size,0,none⟩=some (.int .i64 a0_0):=qg_ HS0.out 0;have z1_0_1:w1.cell? ⟨w.heap.size,1,none⟩=some (.int .i64 a0_1):=qg_ HS0.out 1;have z1_0_2:w1.cell? ⟨w.heap.size,2,none⟩=some (.slice A0_2 l0_2.length c0_2):=qg_ HS0.out 2)
  go_wp2_with (go_at_call 30;(with_reducible refine (qa2_.calls k a0_0 a0_1 A0_2 c0_2 l0_2 y2_0_0 y2_0_1 y2_0_2 _ (Kd.qv1_ HR0_2.out B1.out) HC0_2.out E2.out).mono ?_);rintro e w2 ⟨v_H2_0_2,rfl,ho_H2_0_2,hb⟩;have D_:Below w1.heap.size w1 w2:=qh_ (Below.refl _ _) hb;replace HS0:=aK (qm_ HS0.out D_);have B2:=aK (qh_ B1.out D_);obtain ⟨lo_H2_0_2,hi_H2_0_2,hlo_,hhi_,hx_⟩:∃ lo hi,w1.heap.size≤lo∧lo≤hi∧Go.Proofs.YtaiefdhenikiiaaA.AtR k79 79 lo hi w2 v_H2_0_2 y2_0_2:=⟨_,_,by simp,by have:=hb.size;simpa using this,Go.Proofs.YtaiefdhenikiiaaA.AtR.of ho_H2_0_2⟩;clear ho_H2_0_2;obtain ⟨A_H2_0_2,c_H2_0_2,rfl,l_⟩:=hx_.form;have H2_0_2L:=aK l_;have H2_0_2:=aK hx_;clear hx_ l_ hlo_ hhi_;replace LB0:=aK (blk_lt HS0.out);clear D_ hb;clear z1_0_0 z1_0_1 z1_0_2)
  go_wp2_with (go_at_call 59;(with_reducible refine (qo2_.calls y2_0_0 y2_0_1 _ _ y2_0_2 y3_0 y3_1 _ (Kd.qv1_ H2_0_2.out.C (Below.refl _ _)) H2_0_2L.out E3.out).mono ?_);rintro e w3 ⟨v_H3_0,rfl,ho_H3_0,hb⟩;have D_:Below w2.heap.size w2 w3:=qh_ (Below.refl _ _) hb;replace HS0:=aK (qm_ HS0.out D_);replace H2_0_2:=aK (H2_0_2.out.below D_);have B3:=aK (qh_ B2.out D_);obtain ⟨lo_H3_0,hi_H3_0,hlo_,hhi_,hx_⟩:∃ lo hi,w2.heap.size≤lo∧lo≤hi∧Go.Proofs.YtaiefdhenikiiaaA.AtR k79 79 lo hi w3 v_H3_0 y3_0:=⟨_,_,by simp,by have:=hb.size;simpa using this,Go.Proofs.YtaiefdhenikiiaaA.AtR.of ho_H3_0⟩;clear ho_H3_0;obtain ⟨A_H3_0,c_H3_0,rfl,l_⟩:=hx_.form;have H3_0L:=aK l_;have LO_H3_0:=aK (show w.heap.size≤lo_H3_0 from by have:=B2.out.size;omega);have OR_H3_0:=aK (show lo_H3_0≤hi_H3_0∧w.heap.size < lo_H3_0 from ⟨hhi_,by have:=LB0.out;omega⟩);have H3_0:=aK hx_;clear hx_ l_ hlo_ hhi_;replace LB0:=aK (blk_lt HS0.out);clear D_ hb;have PS_H3_0:=aK (show hi_H3_0≤w3.heap.size from And.right H3_0.out);have z3_0_0:w3.cell? ⟨w.heap.size,0,none⟩=some (.int .i64 a0_0):=qg_ HS0.out 0;have z3_0_1:w3.cell? ⟨w.heap.size,1,none⟩=some (.int .i64 a0_1):=qg_ HS0.out 1;have z3_0_2:w3.cell? ⟨w.heap.size,2,none⟩=some (.slice A0_2 l0_2.length c0_2):=qg_ HS0.out 2)
  go_wp2_with (go_at_call 30;(with_reducible refine (qa2_.calls k a0_0 a0_1 A0_2 c0_2 l0_2 y4_0_0 y4_0_1 y4_0_2 _ (Kd.qv1_ HR0_2.out B3.out) HC0_2.out E4.out).mono ?_);rintro e w4 ⟨v_H4_0_2,rfl,ho_H4_0_2,hb⟩;have D_:Below w3.heap.size w3 w4:=qh_ (Below.refl _ _) hb;replace HS0:=aK (qm_ HS0.out D_);replace H3_0:=aK (H3_0.out.below D_);have B4:=aK (qh_ B3.out D_);obtain ⟨lo_H4_0_2,hi_H4_0_2,hlo_,hhi_,hx_⟩:∃ lo hi,w3.heap.size≤lo∧lo≤hi∧Go.Proofs.YtaiefdhenikiiaaA.AtR k79 79 lo hi w4 v_H4_0_2 y4_0_2:=⟨_,_,by simp,by have:=hb.size;simpa using this,Go.Proofs.YtaiefdhenikiiaaA.AtR.of ho_H4_0_2⟩;clear ho_H4_0_2;obtain ⟨A_H4_0_2,c_H4_0_2,rfl,l_⟩:=hx_.form;have H4_0_2L:=aK l_;have LO_H4_0_2:=aK (show w.heap.size≤lo_H4_0_2 from by have:=B3.out.size;omega);have OR_H4_0_2:=aK (show lo_H4_0_2≤hi_H4_0_2∧hi_H3_0≤lo_H4_0_2∧w.heap.size < lo_H4_0_2 from ⟨hhi_,by have:=PS_H3_0.out;omega,by have:=LB0.out;omega⟩);have H4_0_2:=aK hx_;clear hx_ l_ hlo_ hhi_;replace LB0:=aK (blk_lt HS0.out);clear D_ hb;have PS_H3_0:=aK (show hi_H3_0≤w4.heap.size from And.right H3_0.out);have PS_H4_0_2:=aK (show hi_H4_0_2≤w4.heap.size from And.right H4_0_2.out);clear z3_0_0 z3_0_1 z3_0_2)
  go_wp2_with (go_at_call 60;(with_reducible refine (qe2_.calls y4_0_0 y4_0_1 _ _ y4_0_2 y5_0 y5_1 _ (Kd.qv1_ H4_0_2.out.C (qb_ (Below.refl _ _) _)) H4_0_2L.out E5.out).mono ?_);rintro e w5 ⟨v_H5_0,rfl,ho_H5_0,hb⟩;have D_:Below w4.heap.size w4 w5:=qh_ (qb_ (Below.refl _ _) _) hb;have HS1:=aK (show SrAt w5 (w4.heap.size) (y4_0_0) (y4_0_1) (.slice A_H4_0_2 y4_0_2.length c_H4_0_2) from qm_ (new_at rfl) hb);replace HS0:=aK (qm_ HS0.out D_);have OB1:=aK (show True∧hi_H3_0≤w4.heap.size∧hi_H4_0_2≤w4.heap.size from ⟨trivial,Nat.le_trans (And.right H3_0.out) (by simp),Nat.le_trans (And.right H4_0_2.out) (by simp)⟩);replace H3_0:=aK (H3_0.out.below D_);replace H4_0_2:=aK (H4_0_2.out.below D_);have B5:=aK (qh_ B4.out D_);obtain ⟨lo_H5_0,hi_H5_0,hlo_,hhi_,hx_⟩:∃ lo hi,w4.heap.size+1≤lo∧lo≤hi∧Go.Proofs.YtaiefdhenikiiaaA.AtR k79 79 lo hi w5 v_H5_0 y5_0:=⟨_,_,by simp,by have:=hb.size;simpa using this,Go.Proofs.YtaiefdhenikiiaaA.AtR.of ho_H5_0⟩;clear ho_H5_0;obtain ⟨A_H5_0,c_H5_0,rfl,l_⟩:=hx_.form;have H5_0L:=aK l_;have LO_H5_0:=aK (show w.heap.size≤lo_H5_0 from by have:=B4.out.size;omega);have OR_H5_0:=aK (show lo_H5_0≤hi_H5_0∧hi_H3_0≤lo_H5_0∧hi_H4_0_2≤lo_H5_0∧w.heap.size < lo_H5_0∧w4.heap.size < lo_H5_0 from ⟨hhi_,by have:=PS_H3_0.out;omega,by have:=PS_H4_0_2.out;omega,by have:=LB0.out;omega,by omega⟩);have H5_0:=aK hx_;clear hx_ l_ hlo_ hhi_;replace LB0:=aK (blk_lt HS0.out);have LB1:=aK (blk_lt HS1.out);clear D_ hb;have PS_H3_0:=aK (show hi_H3_0≤w5.heap.size from And.right H3_0.out);have PS_H4_0_2:=aK (show hi_H4_0_2≤w5.heap.size from And.right H4_0_2.out);have PS_H5_0:=aK (show hi_H5_0≤w5.heap.size from And.right H5_0.out))
  go_wp2_with (go_at_call 25;(with_reducible refine (qy_.calls k _ _ y5_0 _ _ y3_0 true _ (Kd.qv1_ H5_0.out.C (Below.refl _ _)) H5_0L.out (Kd.qv1_ H3_0.out.C (Below.refl _ _)) H3_0L.out E6.out).mono ?_);rintro e w6 ⟨rfl,hb⟩;have D_:Below w5.heap.size w5 w6:=qh_ (Below.refl _ _) hb;replace HS0:=aK (qm_ HS0.out D_);replace HS1:=aK (SrAt.below HS1.out D_);replace H3_0:=aK (H3_0.out.below D_);replace H4_0_2:=aK (H4_0_2.out.below D_);replace H5_0:=aK (H5_0.out.below D_);have B6:=aK (qh_ B5.out D_);replace LB0:=aK (blk_lt HS0.out);replace LB1:=aK (blk_lt HS1.out);clear D_ hb;have PS_H3_0:=aK (show hi_H3_0≤w6.heap.size from And.right H3_0.out);have PS_H4_0_2:=aK (show hi_H4_0_2≤w6.heap.size from And.right H4_0_2.out);have PS_H5_0:=aK (show hi_H5_0≤w6.heap.size from And.right H5_0.out);have z6_0_0:w6.cell? ⟨w.heap.size,0,none⟩=some (.int .i64 a0_0):=qg_ HS0.out 0;have z6_0_1:w6.cell? ⟨w.heap.size,1,none⟩=some (.int .i64 a0_1):=qg_ HS0.out 1;have z6_0_2:w6.cell? ⟨w.heap.size,2,none⟩=some (.slice A0_2 l0_2.length c0_2):=qg_ HS0.out 2;have z6_1_0:w6.cell? ⟨w4.heap.size,0,none⟩=some (.int .i64 y4_0_0):=SrAt.c0 HS1.out;have z6_1_1:w6.cell? ⟨w4.heap.size,1,none⟩=some (.int .i64 y4_0_1):=SrAt.c1 HS1.out;have z6_1_2:w6.cell? ⟨w4.heap.size,2,none⟩=some (.slice A_H4_0_2 y4_0_2.length c_H4_0_2):=SrAt.c2 HS1.out)
  go_region_held3 (fun w'=>w'.cell? ⟨w.heap.size,0,none⟩=some (.int .i64 a0_0)∧w'.cell? ⟨w.heap.size,1,none⟩=some (.int .i64 a0_1)∧w'.cell? ⟨w.heap.size,2,none⟩=some (.slice A0_2 l0_2.length c0_2)∧w'.cell? ⟨w4.heap.size,0,none⟩=some (.int .i64 y4_0_0)∧w'.cell? ⟨w4.heap.size,1,none⟩=some (.int .i64 y4_0_1)∧w'.cell? ⟨w4.heap.size,2,none⟩=some (.slice A_H4_0_2 y4_0_2.length c_H4_0_2)) (exact qj1_.keep z6_0_0 z6_0_1 z6_0_2 z6_1_0 z6_1_1 z6_1_2 (by (repeat' (first|(with_reducible exact Below.refl _ _)|(with_reducible exact HK7.out)|(with_reducible exact HK8.out)|(with_reducible refine qc_ ?_)|(with_reducible refine qa_ ?_ _)|(with_reducible refine qb_ ?_ _))))) (first|(go_at_call 30;(with_reducible refine (qa2_.calls k a0_0 a0_1 A0_2 c0_2 l0_2 y7_0_0 y7_0_1 y7_0_2 _ (Kd.qv1_ HR0_2.out (by repeat (first|(with_reducible first|exact B6.out|apply qb_|apply qa_|apply qc_)|exact B6.out))) HC0_2.out E7.out).mono ?_);rintro e w7 ⟨v_H7_0_2,rfl,ho_H7_0_2,hb⟩;have D_:Below w6.heap.size w6 w7:=qh_ (by repeat (first|(with_reducible first|exact Below.refl _ _|apply qb_|apply qa_|apply qc_)|exact Below.refl _ _)) hb;replace HS0:=aK (qm_ HS0.out D_);replace HS1:=aK (SrAt.below HS1.out D_);replace H3_0:=aK (H3_0.out.below D_);replace H4_0_2:=aK (H4_0_2.out.below D_);replace H5_0:=aK (H5_0.out.below D_);have B7:=aK (qh_ B6.out D_);obtain ⟨lo_H7_0_2,hi_H7_0_2,hlo_,hhi_,hx_⟩:∃ lo hi,w6.heap.size≤lo∧lo≤hi∧Go.Proofs.YtaiefdhenikiiaaA.AtR k79 79 lo hi w7 v_H7_0_2 y7_0_2:=⟨_,_,by simp,by have:=hb.size;simpa using this,Go.Proofs.YtaiefdhenikiiaaA.AtR.of ho_H7_0_2⟩;clear ho_H7_0_2;obtain ⟨A_H7_0_2,c_H7_0_2,rfl,l_⟩:=hx_.form;have H7_0_2L:=aK l_;have H7_0_2:=aK hx_;clear hx_ l_ hlo_ hhi_;replace LB0:=aK (blk_lt HS0.out);replace LB1:=aK (blk_lt HS1.out);have HK7:=aK (show Below w6.heap.size w6 w7 from D_);clear D_ hb;have PS_H3_0:=aK (show hi_H3_0≤w7.heap.size from And.right H3_0.out);have PS_H4_0_2:=aK (show hi_H4_0_2≤w7.heap.size from And.right H4_0_2.out);have PS_H5_0:=aK (show hi_H5_0≤w7.heap.size from And.right H5_0.out))|(go_at_call 33;(with_reducible refine (qp2_.calls k y4_0_0 y4_0_1 _ _ y4_0_2 y7_0_0 y7_0_1 _ _ y7_0_2 true _ (Kd.qv1_ H4_0_2.out.C (by repeat (first|(with_reducible first|exact Below.refl _ _|apply qb_|apply qa_|apply qc_)|exact Below.refl _ _))) H4_0_2L.out (Kd.qv1_ H7_0_2.out.C (by repeat (first|(with_reducible first|exact Below.refl _ _|apply qb_|apply qa_|apply qc_)|exact Below.refl _ _))) H7_0_2L.out E8.out).mono ?_);rintro e w8 ⟨rfl,hb⟩;have D_:Below w7.heap.size w7 w8:=qh_ (by repeat (first|(with_reducible first|exact Below.refl _ _|apply qb_|apply qa_|apply qc_)|exact Below.refl _ _)) hb;replace HS0:=aK (qm_ HS0.out D_);replace HS1:=aK (SrAt.below HS1.out D_);replace H3_0:=aK (H3_0.out.below D_);replace H4_0_2:=aK (H4_0_2.out.below D_);replace H5_0:=aK (H5_0.out.below D_);replace H7_0_2:=aK (H7_0_2.out.below D_);have B8:=aK (qh_ B7.out D_);replace LB0:=aK (blk_lt HS0.out);replace LB1:=aK (blk_lt HS1.out);have HK8:=aK (show Below w6.heap.size w6 w8 from qh_ HK7.out D_);clear D_ hb;have PS_H3_0:=aK (show hi_H3_0≤w8.heap.size from And.right H3_0.out);have PS_H4_0_2:=aK (show hi_H4_0_2≤w8.heap.size from And.right H4_0_2.out);have PS_H5_0:=aK (show hi_H5_0≤w8.heap.size from And.right H5_0.out);have z8_1_0:w8.cell? ⟨w4.heap.size,0,none⟩=some (.int .i64 y4_0_0):=SrAt.c0 HS1.out;have z8_1_1:w8.cell? ⟨w4.heap.size,1,none⟩=some (.int .i64 y4_0_1):=SrAt.c1 HS1.out;have z8_1_2:w8.cell? ⟨w4.heap.size,2,none⟩=some (.slice A_H4_0_2 y4_0_2.length c_H4_0_2):=SrAt.c2 HS1.out))
  clear z6_0_0 z6_0_1 z6_0_2 z6_1_0 z6_1_1 z6_1_2 HK7 HK8
  go_wp2_with (go_at_call 34;(with_reducible refine (qh2_.calls k y4_0_0 y4_0_1 (fun k_=>lo_H4_0_2≤k_∧k_ < hi_H4_0_2) _ y4_0_2 1 y9_0 z9 w _ B8.out (Kd.qi2_ (Go.Proofs.YtaiefdhenikiiaaA.AtR.mark H4_0_2.out LO_H4_0_2.out) (Below.refl _ _)) E9.out).mono ?_);rintro e w9 ⟨rfl,ho,hb,hk⟩;have B9:=aK hb;have KP:=aK (show Kept w8 w9 (fun k_=>lo_H4_0_2≤k_∧k_ < hi_H4_0_2) from Kept.then_ (Kept.of_below (Below.refl _ _) _) hk (fun _ h_=>.inl h_));have HN:=aK (Go.Proofs.YtaiefdhenikiiaaA.AtR.of ho);clear ho hb hk;replace H3_0:=aK (Go.Proofs.YtaiefdhenikiiaaA.AtR.kept H3_0.out KP.out (by have:=OR_H4_0_2.out;have:=OR_H3_0.out;omega));replace H5_0:=aK (Go.Proofs.YtaiefdhenikiiaaA.AtR.kept H5_0.out KP.out (by have:=OR_H4_0_2.out;have:=OR_H5_0.out;omega));replace HS0:=aK (show w9.heap[w.heap.size]?=some (.cells #[.int .i64 a0_0,.int .i64 a0_1,.slice A0_2 l0_2.length c0_2] 32 (0,0)) from (KP.out.2 _ (blk_lt HS0.out) (by have:=OR_H4_0_2.out;have:=OB0.out;omega)).trans HS0.out);replace H4_0_2:=HN;clear HN KP;obtain ⟨A_,c_,e_,l_⟩:=H4_0_2.out.form;injection e_ with e1_ e2_ e3_;replace H4_0_2L:=aK (e3_ ▸ l_);clear l_ e1_ e3_;(first|rw [e2_]|skip);replace H4_0_2:=aK (e2_ ▸ H4_0_2.out);clear e2_;replace LB0:=aK (blk_lt HS0.out);replace LB1:=aK (blk_lt HS1.out);have PS_H3_0:=aK (show hi_H3_0≤w9.heap.size from And.right H3_0.out);have PS_H5_0:=aK (show hi_H5_0≤w9.heap.size from And.right H5_0.out);clear z8_1_0 z8_1_1 z8_1_2)
  go_wp2_with (go_at_call 25;(with_reducible refine (qy_.calls k _ _ y5_0 _ _ y3_0 true _ (Kd.qv1_ H5_0.out.C (Below.refl _ _)) H5_0L.out (Kd.qv1_ H3_0.out.C (Below.refl _ _)) H3_0L.out E10.out).mono ?_);rintro e w10 ⟨rfl,hb⟩;have D_:Below w9.heap.size w9 w10:=qh_ (Below.refl _ _) hb;replace HS0:=aK (qm_ HS0.out D_);replace H3_0:=aK (H3_0.out.below D_);replace H5_0:=aK (H5_0.out.below D_);have B10:=aK (qh_ B9.out D_);replace LB0:=aK (blk_lt HS0.out);clear D_ hb;have PS_H3_0:=aK (show hi_H3_0≤w10.heap.size from And.right H3_0.out);have PS_H5_0:=aK (show hi_H5_0≤w10.heap.size from And.right H5_0.out))
  go_wp2_with (go_at_call 26;(with_reducible refine (qg1_.calls k  (fun k_=>lo_H5_0≤k_∧k_ < hi_H5_0) _ y5_0 1 y11_0 z11 w _ B10.out (Kd.qi2_ (Go.Proofs.YtaiefdhenikiiaaA.AtR.mark H5_0.out LO_H5_0.out) (Below.refl _ _)) E11.out).mono ?_);rintro e w11 ⟨rfl,ho,hb,hk⟩;have B11:=aK hb;have KP:=aK (show Kept w10 w11 (fun k_=>lo_H5_0≤k_∧k_ < hi_H5_0) from Kept.then_ (Kept.of_below (Below.refl _ _) _) hk (fun _ h_=>.inl h_));have HN:=aK (Go.Proofs.YtaiefdhenikiiaaA.AtR.of ho);clear ho hb hk;replace H3_0:=aK (Go.Proofs.YtaiefdhenikiiaaA.AtR.kept H3_0.out KP.out (by have:=OR_H5_0.out;have:=OR_H3_0.out;omega));replace HS0:=aK (show w11.heap[w.heap.size]?=some (.cells #[.int .i64 a0_0,.int .i64 a0_1,.slice A0_2 l0_2.length c0_2] 32 (0,0)) from (KP.out.2 _ (blk_lt HS0.out) (by have:=OR_H5_0.out;have:=OB0.out;omega)).trans HS0.out);replace H5_0:=HN;clear HN KP;obtain ⟨A_,c_,e_,l_⟩:=H5_0.out.form;injection e_ with e1_ e2_ e3_;replace H5_0L:=aK (e3_ ▸ l_);clear l_ e1_ e3_;(first|rw [e2_]|skip);replace H5_0:=aK (e2_ ▸ H5_0.out);clear e2_;replace LB0:=aK (blk_lt HS0.out);have PS_H3_0:=aK (show hi_H3_0≤w11.heap.size from And.right H3_0.out))
  go_wp2_with (go_at_call 27;(with_reducible refine (qq_.calls k _ _ z11 1 y12_0 _ (Kd.qv1_ H5_0.out.C (Below.refl _ _)) H5_0L.out E12.out).mono ?_);rintro e w12 ⟨rfl,hb⟩;have D_:Below w11.heap.size w11 w12:=qh_ (Below.refl _ _) hb;replace HS0:=aK (qm_ HS0.out D_);replace H3_0:=aK (H3_0.out.below D_);replace H5_0:=aK (H5_0.out.below D_);have B12:=aK (qh_ B11.out D_);replace LB0:=aK (blk_lt HS0.out);clear D_ hb;have PS_H3_0:=aK (show hi_H3_0≤w12.heap.size from And.right H3_0.out);have z12_0_0:w12.cell? ⟨w.heap.size,0,none⟩=some (.int .i64 a0_0):=qg_ HS0.out 0;have z12_0_1:w12.cell? ⟨w.heap.size,1,none⟩=some (.int .i64 a0_1):=qg_ HS0.out 1;have z12_0_2:w12.cell? ⟨w.heap.size,2,none⟩=some (.slice A0_2 l0_2.length c0_2):=qg_ HS0.out 2)
  go_wp2_with (go_at_call 30;(with_reducible refine (qa2_.calls k a0_0 a0_1 A0_2 c0_2 l0_2 y13_0_0 y13_0_1 y13_0_2 _ (Kd.qv1_ HR0_2.out B12.out) HC0_2.out E13.out).mono ?_);rintro e w13 ⟨v_H13_0_2,rfl,ho_H13_0_2,hb⟩;have D_:Below w12.heap.size w12 w13:=qh_ (Below.refl _ _) hb;replace HS0:=aK (qm_ HS0.out D_);replace H3_0:=aK (H3_0.out.below D_);replace H5_0:=aK (H5_0.out.below D_);have B13:=aK (qh_ B12.out D_);obtain ⟨lo_H13_0_2,hi_H13_0_2,hlo_,hhi_,hx_⟩:∃ lo hi,w12.heap.size≤lo∧lo≤hi∧Go.Proofs.YtaiefdhenikiiaaA.AtR k79 79 lo hi w13 v_H13_0_2 y13_0_2:=⟨_,_,by simp,by have:=hb.size;simpa using this,Go.Proofs.YtaiefdhenikiiaaA.AtR.of ho_H13_0_2⟩;clear ho_H13_0_2;obtain ⟨A_H13_0_2,c_H13_0_2,rfl,l_⟩:=hx_.form;have H13_0_2L:=aK l_;have H13_0_2:=aK hx_;clear hx_ l_ hlo_ hhi_;replace LB0:=aK (blk_lt HS0.out);clear D_ hb;have PS_H3_0:=aK (show hi_H3_0≤w13.heap.size from And.right H3_0.out);clear z12_0_0 z12_0_1 z12_0_2)
  go_wp2_with (go_at_call 60;(with_reducible refine (qe2_.calls y13_0_0 y13_0_1 _ _ y13_0_2 y14_0 y14_1 _ (Kd.qv1_ H13_0_2.out.C (Below.refl _ _)) H13_0_2L.out E14.out).mono ?_);rintro e w14 ⟨v_H14_0,rfl,ho_H14_0,hb⟩;have D_:Below w13.heap.size w13 w14:=qh_ (Below.refl _ _) hb;replace H3_0:=aK (H3_0.out.below D_);replace H5_0:=aK (H5_0.out.below D_);replace H13_0_2:=aK (H13_0_2.out.below D_);have B14:=aK (qh_ B13.out D_);obtain ⟨lo_H14_0,hi_H14_0,hlo_,hhi_,hx_⟩:∃ lo hi,w13.heap.size≤lo∧lo≤hi∧Go.Proofs.YtaiefdhenikiiaaA.AtR k79 79 lo hi w14 v_H14_0 y14_0:=⟨_,_,by simp,by have:=hb.size;simpa using this,Go.Proofs.YtaiefdhenikiiaaA.AtR.of ho_H14_0⟩;clear ho_H14_0;obtain ⟨A_H14_0,c_H14_0,rfl,l_⟩:=hx_.form;have H14_0L:=aK l_;have H14_0:=aK hx_;clear hx_ l_ hlo_ hhi_;clear D_ hb;have PS_H3_0:=aK (show hi_H3_0≤w14.heap.size from And.right H3_0.out))
  go_wp2_with (go_at_call 25;(with_reducible refine (qy_.calls k _ _ y14_0 _ _ y3_0 true _ (Kd.qv1_ H14_0.out.C (Below.refl _ _)) H14_0L.out (Kd.qv1_ H3_0.out.C (Below.refl _ _)) H3_0L.out E15.out).mono ?_);rintro e w15 ⟨rfl,hb⟩;have D_:Below w14.heap.size w14 w15:=qh_ (Below.refl _ _) hb;replace H3_0:=aK (H3_0.out.below D_);replace H5_0:=aK (H5_0.out.below D_);replace H14_0:=aK (H14_0.out.below D_);have B15:=aK (qh_ B14.out D_);clear D_ hb;have PS_H3_0:=aK (show hi_H3_0≤w15.heap.size from And.right H3_0.out))
  go_wp2_with (go_at_call 27;(with_reducible refine (qq_.calls k _ _ z11 1 y16_0 _ (Kd.qv1_ H5_0.out.C (Below.refl _ _)) H5_0L.out E16.out).mono ?_);rintro e w16 ⟨rfl,hb⟩;have D_:Below w15.heap.size w15 w16:=qh_ (Below.refl _ _) hb;replace H5_0:=aK (H5_0.out.below D_);have B16:=aK (qh_ B15.out D_);clear D_ hb)
  go_ret
  exact ⟨rfl,B16.out⟩
end Go.Proofs.Ytaiefdhenikiiaa.Base
namespace Go.Proofs.Ytaiefdhenikiiaa.PFnExactLieCoordinates
open Go.RowKit Go.Proofs.YtaiefdhenikiiaaW.PrintWords Go.Proofs.YtaiefdhenikiiaaO Go.Proofs.Ytaiefdhenikiiaa.Base
set_option linter.unusedVariables false
/-- What is known of such a value that came in. -/
def ok73 (x:S73):Prop:=(Lit.int .i64 x.f0).wf=true∧(Lit.int .i64 x.f1).wf=true
theorem opens73:Opens Try.prog 73 k73 ok73:=opens_iso (fun x:S73=>(x.f0,x.f1)) (fun p=>⟨p.1,p.2⟩) (fun _=>rfl) (opens_two Try.underlying73 rfl rfl (by kernel_rfl) (opens_int Try.underlying2 (by kernel_rfl)) (opens_int Try.underlying2 (by kernel_rfl)))
/-- What is known of such a value that came in. -/
def ok75 (x:S75):Prop:=x.f0.size≤9223372036854775807∧ok73 x.f1
theorem opens75:Opens Try.prog 75 k75 ok75:=opens_iso (fun x:S75=>(x.f0,x.f1)) (fun p=>⟨p.1,p.2⟩) (fun _=>rfl) (opens_two Try.underlying75 rfl rfl (by kernel_rfl) (opens_string Try.underlying9 (by kernel_rfl)) opens73)
structure S32 where
  f0:Int
  f1:Int
  f2:(List S75)
def k32:Kd S32:=Kd.iso (Kd.pair (Kd.int .i64) (Kd.pair (Kd.int .i64) (Kd.slice 75 k75))) (fun x:S32=>(x.f0,x.f1,x.f2))
/-- What is known of such a value that came in. -/
def ok32 (x:S32):Prop:=(Lit.int .i64 x.f0).wf=true∧(Lit.int .i64 x.f1).wf=true∧(x.f2.length≤9223372036854775807∧∀ a_ ∈ x.f2,ok75 a_)
theorem opens32:Opens Try.prog 32 k32 ok32:=opens_iso (fun x:S32=>(x.f0,x.f1,x.f2)) (fun p=>⟨p.1,p.2.1,p.2.2⟩) (fun _=>rfl) (opens_three Try.underlying32 rfl rfl rfl (by kernel_rfl) (opens_int Try.underlying2 (by kernel_rfl)) (opens_int Try.underlying2 (by kernel_rfl)) (opens_slice Try.underlying22 (by kernel_rfl) opens75))
def qj1_.Pure:Prop:=∀ (s0:S32),ok32 s0→∃ k,qj1_.f k s0.f0 s0.f1 s0.f2=some true
end Go.Proofs.Ytaiefdhenikiiaa.PFnExactLieCoordinates
namespace Go.Proofs.Ytaiefdhenikiiaa.Pure
open Go.RowKit Go.Proofs.Ytaiefdhenikiiaa.Base Go.Proofs.Ytaiefdhenikiiaa.PFnExactLieCoordinates Go.Proofs.YtaiefdhenikiiaaW.PrintWords Go.Proofs.YtaiefdhenikiiaaW.PrintLast
set_option linter.unusedSimpArgs false
set_option linter.unusedVariables false
theorem FnExactLieCoordinates:qj1_.Pure:=by
  intro s0 hok
  obtain ⟨D,N,l⟩:=s0
  obtain ⟨_,_,hn,hwo⟩:=hok
  simp only at hn hwo ⊢
  obtain ⟨v,hs,_,hsz⟩:=szS_is D N l hn (fun x hx=>(hwo x hx).1) 1048576 (by omega) (by omega)
  unfold qj1_.f
  refine Ev.rounds (Ev.bind hs ?_)
  by_cases c:v < 0
  · simp only [c,if_true];exact Ev.now _
  · simp only [c,if_false]
    have hsm:=hsz (by omega)
    have hcp:=toSer_is D N l (by omega)
    have hX:=arg_small l hsm
    obtain ⟨X,hXe⟩:∃ X,X=l.map toX:=⟨_,rfl⟩
    rw [← hXe] at hcp hX
    have hXl:=hX.1
    have hlen:=lieR_len D N X
    obtain ⟨⟨R,C⟩,hR⟩:∃ q,q=lieR D N X:=⟨_,rfl⟩
    rw [← hR] at hlen
    have hI:qe2_.f D N X=some (R,C):=by unfold qe2_.f;rw [if_pos (show X.length≤1048576∧∀ x ∈ X,x.f0.size≤1048576 from hX),hR]
    have hS:qo2_.f D N X=some (R,C):=by unfold qo2_.f;rw [if_pos (show X.length≤1048576∧∀ x ∈ X,x.f0.size≤1048576 from hX),hR]
    have hq:=eqSer_id D N X (by omega)
    obtain ⟨X',mX,_⟩:=marksSer_id D N X (by omega)
    have eR:=eqT_same R hlen
    obtain ⟨R',_,mR,dR⟩:=marksT R hlen
    refine Ev.bind hcp ?_
    simp only [hS,Option.bind_some]
    refine Ev.bind hcp ?_
    simp only [hI,Option.bind_some,if_true]
    refine Ev.bind eR ?_
    refine Ev.congr (fun _=>if_pos rfl) ?_
    refine Ev.bind hcp (Ev.bind hq ?_)
    refine Ev.congr (fun _=>if_pos rfl) ?_
    refine Ev.bind mX ?_
    dsimp only
    refine Ev.congr (fun _=>if_pos (by omega)) ?_
    refine Ev.bind eR ?_
    refine Ev.congr (fun _=>if_pos rfl) ?_
    refine Ev.bind mR ?_
    dsimp only
    refine Ev.congr (fun _=>if_pos (by omega)) ?_
    refine Ev.bind dR ?_
    refine Ev.congr (fun _=>if_pos ⟨by omega,rfl⟩) ?_
    refine Ev.bind hcp ?_
    simp only [hI,Option.bind_some,if_true]
    refine Ev.bind eR ?_
    refine Ev.congr (fun _=>if_pos rfl) ?_
    refine Ev.bind dR ?_
    refine Ev.congr (fun _=>if_pos ⟨by omega,rfl⟩) ?_
    exact Ev.now _
end Go.Proofs.Ytaiefdhenikiiaa.Pure
