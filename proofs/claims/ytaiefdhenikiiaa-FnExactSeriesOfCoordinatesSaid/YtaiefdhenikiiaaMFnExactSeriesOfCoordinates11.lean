/- Texts that the proof of FnExactSeriesOfCoordinates needs, part 11. No condition. -/
import Derived.Test.YtaiefdhenikiiaaMFnExactSeriesOfCoordinates10
namespace Go.Proofs.Ytaiefdhenikiiaa.Base
open Go.RowKit Go.Proofs.YtaiefdhenikiiaaW.PrintWords Go.Proofs.YtaiefdhenikiiaaW.PrintLast Go.Proofs.YtaiefdhenikiiaaW.PrintMore
set_option linter.unusedVariables false
set_option linter.unusedSimpArgs false
theorem coord_succ {d n:Nat} {l:List S79} {i:Nat} (h:i < l.length):coordT d n (l.take (i+1))=sumT (coordT d n (l.take i)) (scaleT (bracketT d n (decW l[i].f0)) l[i].f1):=by
  unfold coordT
  rw [List.take_succ_eq_append_getElem h,List.foldl_append];rfl
theorem coord_bad {d n:Nat} {l:List S79} {i:Nat} (h:(coordT d n (l.take i)).bad=true):(coordT d n l).bad=true:=by
  have key:∀ (r:List S79) (o:Tb),o.bad=true→(r.foldl (coordStep d n) o).bad=true:=by
    intro r
    induction r with
    | nil=>intro o ho;exact ho
    | cons x r ih=>intro o ho;exact ih _ (sumT_bad (Or.inl ho))
  conv=>lhs;rw [← List.take_append_drop i l]
  unfold coordT at h ⊢
  rw [List.foldl_append]
  exact key _ _ h
theorem keep4' {w W:World} {a1 a2 a3 a4:Addr} {v1 v2 v3 v4:Value} (p1:w.cell? a1=some v1) (p2:w.cell? a2=some v2) (p3:w.cell? a3=some v3) (p4:w.cell? a4=some v4) (hb:Below w.heap.size w W) :
    W.cell? a1=some v1∧W.cell? a2=some v2∧W.cell? a3=some v3∧W.cell? a4=some v4 :=
  ⟨qw_ hb p1,qw_ hb p2,qw_ hb p3,qw_ hb p4⟩
theorem keep8 {w W:World} {a1 a2 a3 a4 a5 a6 a7 a8:Addr} {v1 v2 v3 v4 v5 v6 v7 v8:Value} (p1:w.cell? a1=some v1) (p2:w.cell? a2=some v2) (p3:w.cell? a3=some v3) (p4:w.cell? a4=some v4) (p5:w.cell? a5=some v5) (p6:w.cell? a6=some v6) (p7:w.cell? a7=some v7) (p8:w.cell? a8=some v8) (hb:Below w.heap.size w W) :
    W.cell? a1=some v1∧W.cell? a2=some v2∧W.cell? a3=some v3∧W.cell? a4=some v4∧W.cell? a5=some v5∧W.cell? a6=some v6∧W.cell? a7=some v7∧W.cell? a8=some v8 :=
  ⟨qw_ hb p1,qw_ hb p2,qw_ hb p3,qw_ hb p4,qw_ hb p5,qw_ hb p6,qw_ hb p7,qw_ hb p8⟩
set_option maxHeartbeats 32000000 in
set_option maxRecDepth 100000 in
theorem seriesSp (w:World) (d n:Nat) (hs:Sz d n) {A:Option Addr} {c:Nat} {l:List S79} (hA:TmsC w A c l) (hl:okCs d n l) (hz:∀ x ∈ l,x.f1.f0 ≠ 0) :
    Calls Try.prog 119 #[.int .i64 (d:Int),.int .i64 (n:Int),.slice A l.length c] w (OutR w d n (outT (coordT d n l))):=by
  have hu2:=Try.underlying38
  have hu3:=Try.underlying79
  have hu4:=Try.underlying77
  have HA:=Aside0.mk hA
  have HS:=Aside0.mk hs
  have HL:=Aside0.mk hl
  have HZ:=Aside0.mk hz
  obtain ⟨R,hR⟩:∃ R,R=outT (coordT d n l):=⟨_,rfl⟩
  rw [← hR]
  have HBad:=Aside0.mk (show ∀ i,(coordT d n (l.take i)).bad=true→R=none from fun i h=>by rw [hR];exact outT_bad (coord_bad h))
  have HEnd:=Aside0.mk (show (coordT d n l).bad=false→R=some (termsT (coordT d n l)) from fun h=>by rw [hR];exact outT_good h)
  clear hA hs hl hz hR
  go_enter Try.func119,Try.ntmps119
  go_wp2_with (go_at_call 108;refine (emptyS _ d n (nil_tms _)).mono ?_;rintro e w1 ⟨v,rfl,hv,hb⟩;obtain ⟨A1,c1,rfl⟩:=Kd.qh2_ hv;have HB1:=Aside0.mk (show Below w.heap.size w w1 from qk_ (qb_ (Below.refl _ _) _) hb);have HSR:=Aside0.mk (show SrAt w1 w.heap.size 0 0 (.slice none 0 0) from qm_ (new_at rfl) hb);have HV1:=Aside0.mk (show TermsR w1 w.heap.size (.slice A1 ([]:List S79).length c1) [] from Kd.qm2_ hv (ql_ (qb_ (Below.refl w.heap.size w) _)));clear hv hb)
  generalize hW:World.alloc w1 _=W1
  have HS6:=Aside0.mk (show SrAt W1 w1.heap.size d n (.slice A1 (termsT (coordT d n (l.take 0))).length c1) from by rw [← hW,List.take_zero,show coordT d n []=zeroT d n from rfl,zero_terms];exact new_at rfl)
  have HV6:=Aside0.mk (show TermsR W1 w.heap.size (.slice A1 (termsT (coordT d n (l.take 0))).length c1) (termsT (coordT d n (l.take 0))) from by rw [← hW,List.take_zero,show coordT d n []=zeroT d n from rfl,zero_terms];exact Kd.qq_ HV1.out _)
  have HSR1:=Aside0.mk (show SrAt W1 w.heap.size 0 0 (.slice none 0 0) from by rw [← hW];exact HSR.out.alloc _)
  have HB2:=Aside0.mk (show Below w.heap.size w W1 from by rw [← hW];exact qb_ HB1.out _)
  have HLO:=Aside0.mk (show w.heap.size < w1.heap.size from HSR.out.lt)
  have HG0:=Aside0.mk (show (coordT d n (l.take 0)).bad=false from by rw [List.take_zero];rfl)
  obtain ⟨b6,hb6⟩:∃ b,b=w1.heap.size:=⟨_,rfl⟩
  rw [← hb6] at HS6 HLO ⊢
  clear hW HV1 HSR HB1 hb6
  go_loopg [9] l.length (fun gg v9 wr=>∃ (i:Nat) (A6:Option Addr) (c6:Nat),i≤l.length∧l.length - i≤gg∧v9=.int .i64 i∧Aside0 ((coordT d n (l.take i)).bad=false)∧Aside0 (SrAt wr b6 d n (.slice A6 (termsT (coordT d n (l.take i))).length c6))∧Aside0 (TermsR wr w.heap.size (.slice A6 (termsT (coordT d n (l.take i))).length c6) (termsT (coordT d n (l.take i))))∧Aside0 (SrAt wr w.heap.size 0 0 (.slice none 0 0))∧Aside0 (Below w.heap.size w wr))
  case atStart=>exact ⟨0,A1,c1,Nat.zero_le _,by omega,rfl,HG0,HS6,HV6,HSR1,HB2⟩
  case round =>
    clear HS6 HV6 HSR1 HB2 HG0
    obtain ⟨i,A6,c6,hi,hg,rfl,HG,HS6,HV6,HSR,HB⟩:=hrel
    have HLEN:=Aside0.mk HA.out.len
    by_cases hlt:i < l.length
    · have hltz:(i:Int) < (l.length:Int):=by omega
      obtain ⟨ad,rfl,t0,t1,t2⟩:=at_T79 (Kd.qi2_ HA.out.row HB.out) (i:Int) (by omega) (by omega)
      have e1:rd_T79 l (i:Int)=l[i]:=by simp [rd_T79,List.getD_eq_getElem?_getD,List.getElem?_eq_getElem hlt]
      obtain ⟨x,hx⟩:∃ x,x=l[i]:=⟨_,rfl⟩
      rw [e1,← hx,Int.toNat_natCast] at t0 t1 t2
      have hmem:x ∈ l:=by rw [hx];exact List.getElem_mem hlt
      have HW:=Aside0.mk (HL.out.1 x hmem).1
      have HF:=Aside0.mk (HL.out.1 x hmem).2
      have H1:=Aside0.mk (HL.out.2 x hmem)
      have HZX:=Aside0.mk (HZ.out x hmem)
      obtain ⟨T,hT⟩:∃ T,T=coordT d n (l.take i):=⟨_,rfl⟩
      obtain ⟨U,hU⟩:∃ U,U=bracketT d n (decW x.f0):=⟨_,rfl⟩
      have HN:=Aside0.mk (show coordT d n (l.take (i+1))=sumT T (scaleT U x.f1) from by rw [coord_succ hlt,← hx,hT,hU])
      have HTL:=Aside0.mk (show Like T (zeroT d n) from by rw [hT];exact coordT_like HS.out _)
      have HUL:=Aside0.mk (show Like U (zeroT d n) from by rw [hU];exact bracketT_like HS.out _)
      rw [← hT] at HG HS6 HV6
      have HBR:=Aside0.mk (show ∀ W A c lx,TmsC W A c lx→Calls Try.prog 98 #[.agg #[.int .i64 (d:Int),.int .i64 (n:Int),.slice A lx.length c],.string x.f0] W (OutR W d n (outT U)) from fun W A c lx H=>by
        have:=brackSp' W d n HS.out (decW x.f0) HW.out.2 H1.out H
        rwa [HW.out.1,← hU] at this)
      have HTC:=Aside0.mk (show TmsC wr A6 c6 (termsT T) from (TmsC.of HV6.out (by have:=terms_len HTL.out HS.out;omega)).1)
      have p0:=HS6.out.c0
      have p1:=HS6.out.c1
      have p2:=HS6.out.c2
      have HT1:=Aside0.mk t1
      have HT2:=Aside0.mk t2
      clear hx hmem e1 hT hU t1 t2
      go_wp2
      go_cut [10,11] (fun v10 v11 wx=>∃ (b7:Nat) (D N:Int) (Ax:Option Addr) (cx:Nat) (l7:List S79) (ok:Bool),v10=.pointer (some ⟨b7,0,none⟩)∧v11=.bool ok∧Aside0 (SrAt wx b7 D N (.slice Ax l7.length cx))∧Aside0 (TermsR wx w.heap.size (.slice Ax l7.length cx) l7)∧Aside0 (OutV d n (outT U) D N l7 ok)∧Aside0 (Below wr.heap.size wr wx))
      case first =>
        go_region_held3 (fun w'=>w'.cell? ⟨b6,0,none⟩=some (.int .i64 (d:Int))∧w'.cell? ⟨b6,1,none⟩=some (.int .i64 (n:Int))∧w'.cell? ⟨b6,2,none⟩=some (.slice A6 (termsT T).length c6)∧w'.cell? (ad.add (i * 3))=some (.string x.f0)) (exact keep4' p0 p1 p2 t0 (by (repeat' (first|(with_reducible exact Below.refl _ _)|(with_reducible exact HB6.out)|(with_reducible refine Below.setCell ?_ ?_ _)|(with_reducible refine qc_ ?_)|(with_reducible refine qa_ ?_ _)|(with_reducible refine qb_ ?_ _)|(simp;done)|(simp;omega)|(have h6_:=HB6.out.size;simp;omega))))) (first
          | (go_at_call 98;refine (HBR.out _ _ _ _ (HTC.out.below (by repeat (first|(with_reducible exact Below.refl _ _)|(with_reducible refine qc_ ?_)|(with_reducible refine qa_ ?_ _)|(with_reducible refine qb_ ?_ _))))).mono ?_;rintro e w6 h6;obtain ⟨D7,N7,A7,c7,l7,ok7,rfl,ho7,hv7,hb⟩:=h6.val;have HB6:=Aside0.mk (show Below wr.heap.size wr w6 from qk_ (by repeat (first|(with_reducible exact Below.refl _ _)|(with_reducible refine qc_ ?_)|(with_reducible refine qa_ ?_ _)|(with_reducible refine qb_ ?_ _))) hb);have HO7:=Aside0.mk ho7;have HV7:=Aside0.mk (show TermsR w6 w.heap.size (.slice A7 l7.length c7) l7 from Kd.qm2_ hv7 (Nat.le_trans HB.out.size (ql_ (show Below wr.heap.size wr _ from (by repeat (first|(with_reducible exact Below.refl _ _)|(with_reducible refine qc_ ?_)|(with_reducible refine qa_ ?_ _)|(with_reducible refine qb_ ?_ _)))))));first|(refine (fun (Z:w6.heap[wr.heap.size]?=some (.cells #[.int .i64 0,.int .i64 0,.slice none 0 0] 38 (0,0)))=>?_) (qm_ ?_ hb);rotate_left;(first|exact drew_at (new_at rfl)|exact new_at rfl);have HZZ:=Aside0.mk Z;have z0:=qj_ Z 0;have z1:=qj_ Z 1;have z2:=qj_ Z 2;have zf0:=qe_ Z 0;have zf1:=qe_ Z 1;have zf2:=qe_ Z 2;clear Z)|skip;clear h6 ho7 hv7 hb))
        all_goals
          go_wp2_with fail
          go_meet
          case rel =>
            refine ⟨_,D7,N7,A7,c7,l7,ok7,rfl,rfl,⟨?_⟩,⟨?_⟩,HO7,⟨?_⟩⟩
            · (repeat' (first|((with_reducible refine SrAt.new ?_);simp;done)|(with_reducible refine SrAt.put3 ?_ _ _ _)|(with_reducible exact HZZ.out)|(with_reducible refine SrAt.alloc ?_ _)|(with_reducible refine SrAt.drew ?_)|(with_reducible refine drewN_at ?_)|(with_reducible refine drew_at ?_)|((with_reducible refine new_at ?_);simp;done)|(with_reducible refine old_at ?_)))
            · (repeat' (first|(with_reducible exact HV7.out)|(with_reducible exact Kd.qq_ HV7.out _)|(with_reducible refine Kd.qq_ ?_ _)|(with_reducible refine Kd.R_drew ?_)|exact Kd.R_set (Kd.R_set (Kd.R_set HV7.out HZZ.out (by decide) 0 _) (qv_ HZZ.out 0 _) (by decide) 1 _) (qv_ (qv_ HZZ.out 0 _) 1 _) (by decide) 2 _))
            · (repeat' (first|(with_reducible exact Below.refl _ _)|(with_reducible exact HB6.out)|(with_reducible refine Below.setCell ?_ ?_ _)|(with_reducible refine qc_ ?_)|(with_reducible refine qa_ ?_ _)|(with_reducible refine qb_ ?_ _)|(simp;done)|(simp;omega)|(have h6_:=HB6.out.size;simp;omega)))
      case rest =>
        obtain ⟨b7,D7,N7,A7,c7,l7,ok7,rfl,rfl,HS7,HV7,HO7,HM7⟩:=hcut
        have HB7:=Aside0.mk (qk_ HB.out HM7.out)
        clear p0 p1 p2 t0
        by_cases hub:U.bad=true
        · have ho:=HO7.out
          rw [outT_bad hub] at ho
          obtain ⟨rfl,rfl,rfl,rfl⟩:=ho
          have HRN:=Aside0.mk (HBad.out (i+1) (by rw [HN.out];exact sumT_bad (Or.inr (scaleT_bad _ hub))))
          clear hub
          have SR:=HSR.out.below HM7.out
          have x0:wc.cell? ⟨w.heap.size,0,none⟩=some (.int .i64 0):=SR.c0
          have f0:wc.frozen? ⟨w.heap.size,0,none⟩=false:=qe_ SR 0
          have x1:wc.cell? ⟨w.heap.size,1,none⟩=some (.int .i64 0):=SR.c1
          have f1:wc.frozen? ⟨w.heap.size,1,none⟩=false:=qe_ SR 1
          have x2:wc.cell? ⟨w.heap.size,2,none⟩=some (.slice none 0 0):=SR.c2
          have f2:wc.frozen? ⟨w.heap.size,2,none⟩=false:=qe_ SR 2
          have HSRX:=Aside0.mk SR
          clear SR
          go_wp2
          refine bodyPost_ret (results_ct rfl _ _ w.heap.size 38 _ (0,0) _ rfl (qv_ (qv_ (qv_ HSRX.out 0 _) 1 _) 2 _) hu2 rfl (by kernel_rfl)) rfl ?_
          rw [HRN.out]
          exact ⟨_,rfl,Kd.R_nil _ _ _ _ _,((HB7.out.setCell (Nat.le_refl _) _).setCell (Nat.le_refl _) _).setCell (Nat.le_refl _) _⟩
        · have hug:U.bad=false:=by simpa using hub
          have ho:=HO7.out
          rw [outT_good hug] at ho
          obtain ⟨rfl,rfl,rfl,rfl⟩:=ho
          have HAD:=Aside0.mk (show ∀ W A1 c1 A2 c2,TmsC W A1 c1 (termsT T)→TmsC W A2 c2 (termsT U)→Calls Try.prog 125 #[.agg #[.int .i64 (d:Int),.int .i64 (n:Int),.slice A1 (termsT T).length c1],.agg #[.int .i64 (d:Int),.int .i64 (n:Int),.slice A2 (termsT U).length c2],.agg #[.int .i64 x.f1.f0,.int .i64 x.f1.f1]] W (OutR W d n (outT (sumT T (scaleT U x.f1)))) from fun W A1 c1 A2 c2 h1 h2=>by
            have z1:=terms_len HTL.out HS.out
            have z2:=terms_len HUL.out HS.out
            have:=addFS W d n d n h1 h2 (terms_okL HTL.out.2.2) (terms_okL HUL.out.2.2) (by omega) x.f1 HF.out
            rwa [addS_terms T U (zeroT d n) HS.out HTL.out HUL.out HG.out hug x.f1 HF.out HZX.out] at this)
          clear hub hug
          obtain ⟨w2,hw2⟩:∃ x,x=wc:=⟨_,rfl⟩
          rw [← hw2] at HS7 HV7 HM7 HB7 ⊢
          clear hw2
          have HS62:=Aside0.mk (HS6.out.below HM7.out)
          have HC1:=Aside0.mk (HTC.out.below HM7.out)
          have HC2:=Aside0.mk (show TmsC w2 A7 c7 (termsT U) from (TmsC.of HV7.out (by have:=terms_len HUL.out HS.out;omega)).1)
          have p0:=HS62.out.c0
          have p1:=HS62.out.c1
          have p2:=HS62.out.c2
          have q0:=HS7.out.c0
          have q1:=HS7.out.c1
          have q2:=HS7.out.c2
          have t1:=qw_ HM7.out HT1.out
          have t2:=qw_ HM7.out HT2.out
          go_wp2
          go_cut [12,13] (fun v12 v13 wx=>∃ (b9:Nat) (D N:Int) (Ax:Option Addr) (cx:Nat) (l9:List S79) (ok:Bool),v12=.pointer (some ⟨b9,0,none⟩)∧v13=.bool ok∧Aside0 (SrAt wx b9 D N (.slice Ax l9.length cx))∧Aside0 (TermsR wx w.heap.size (.slice Ax l9.length cx) l9)∧Aside0 (OutV d n (outT (sumT T (scaleT U x.f1))) D N l9 ok)∧Aside0 (Below w2.heap.size w2 wx))
          case first =>
            go_region_held3 (fun w'=>w'.cell? ⟨b6,0,none⟩=some (.int .i64 (d:Int))∧w'.cell? ⟨b6,1,none⟩=some (.int .i64 (n:Int))∧w'.cell? ⟨b6,2,none⟩=some (.slice A6 (termsT T).length c6)∧w'.cell? ⟨b7,0,none⟩=some (.int .i64 (d:Int))∧w'.cell? ⟨b7,1,none⟩=some (.int .i64 (n:Int))∧w'.cell? ⟨b7,2,none⟩=some (.slice A7 (termsT U).length c7)∧w'.cell? ⟨(ad.add (i * 3)).block,(ad.add (i * 3)).off+1,none⟩=some (.int .i64 x.f1.f0)∧w'.cell? ⟨(ad.add (i * 3)).block,(ad.add (i * 3)).off+2,none⟩=some (.int .i64 x.f1.f1)) (exact keep8 p0 p1 p2 q0 q1 q2 t1 t2 (by (repeat' (first|(with_reducible exact Below.refl _ _)|(with_reducible exact HB6.out)|(with_reducible refine Below.setCell ?_ ?_ _)|(with_reducible refine qc_ ?_)|(with_reducible refine qa_ ?_ _)|(with_reducible refine qb_ ?_ _)|(simp;done)|(simp;omega)|(have h6_:=HB6.out.size;simp;omega))))) (first
              | (go_at_call 125;refine (HAD.out _ _ _ _ _ (HC1.out.below (by repeat (first|(with_reducible exact Below.refl _ _)|(with_reducible refine qc_ ?_)|(with_reducible refine qa_ ?_ _)|(with_reducible refine qb_ ?_ _)))) (HC2.out.below (by repeat (first|(with_reducible exact Below.refl _ _)|(with_reducible refine qc_ ?_)|(with_reducible refine qa_ ?_ _)|(with_reducible refine qb_ ?_ _))))).mono ?_;rintro e w6 h6;obtain ⟨D9,N9,A9,c9,l9,ok9,rfl,ho9,hv9,hb⟩:=h6.val;have HB6:=Aside0.mk (show Below w2.heap.size w2 w6 from qk_ (by repeat (first|(with_reducible exact Below.refl _ _)|(with_reducible refine qc_ ?_)|(with_reducible refine qa_ ?_ _)|(with_reducible refine qb_ ?_ _))) hb);have HO9:=Aside0.mk ho9;have HV9:=Aside0.mk (show TermsR w6 w.heap.size (.slice A9 l9.length c9) l9 from Kd.qm2_ hv9 (Nat.le_trans HB7.out.size (ql_ (show Below w2.heap.size w2 _ from (by repeat (first|(with_reducible exact Below.refl _ _)|(with_reducible refine qc_ ?_)|(with_reducible refine qa_ ?_ _)|(with_reducible refine qb_ ?_ _)))))));first|(refine (fun (Z:w6.heap[w2.heap.size]?=some (.cells #[.int .i64 0,.int .i64 0,.slice none 0 0] 38 (0,0)))=>?_) (qm_ ?_ hb);rotate_left;(first|exact drew_at (new_at rfl)|exact new_at rfl);have HZZ:=Aside0.mk Z;have z0:=qj_ Z 0;have z1:=qj_ Z 1;have z2:=qj_ Z 2;have zf0:=qe_ Z 0;have zf1:=qe_ Z 1;have zf2:=qe_ Z 2;clear Z)|skip;clear h6 ho9 hv9 hb))
            all_goals
              go_wp2_with fail
              go_meet
              case rel =>
                refine ⟨_,D9,N9,A9,c9,l9,ok9,rfl,rfl,⟨?_⟩,⟨?_⟩,HO9,⟨?_⟩⟩
                · (repeat' (first|((with_reducible refine SrAt.new ?_);simp;done)|(with_reducible refine SrAt.put3 ?_ _ _ _)|(with_reducible exact HZZ.out)|(with_reducible refine SrAt.alloc ?_ _)|(with_reducible refine SrAt.drew ?_)|(with_reducible refine drewN_at ?_)|(with_reducible refine drew_at ?_)|((with_reducible refine new_at ?_);simp;done)|(with_reducible refine old_at ?_)))
                · (repeat' (first|(with_reducible exact HV9.out)|(with_reducible exact Kd.qq_ HV9.out _)|(with_reducible refine Kd.qq_ ?_ _)|(with_reducible refine Kd.R_drew ?_)|exact Kd.R_set (Kd.R_set (Kd.R_set HV9.out HZZ.out (by decide) 0 _) (qv_ HZZ.out 0 _) (by decide) 1 _) (qv_ (qv_ HZZ.out 0 _) 1 _) (by decide) 2 _))
                · (repeat' (first|(with_reducible exact Below.refl _ _)|(with_reducible exact HB6.out)|(with_reducible refine Below.setCell ?_ ?_ _)|(with_reducible refine qc_ ?_)|(with_reducible refine qa_ ?_ _)|(with_reducible refine qb_ ?_ _)|(simp;done)|(simp;omega)|(have h6_:=HB6.out.size;simp;omega)))
          case rest =>
            obtain ⟨b9,D9,N9,A9,c9,l9,ok9,rfl,rfl,HS9,HV9,HO9,HM9⟩:=hcut
            have HB9:=Aside0.mk (qk_ HB7.out HM9.out)
            clear p0 p1 p2 q0 q1 q2 t1 t2
            by_cases hsb:(sumT T (scaleT U x.f1)).bad=true
            · have ho:=HO9.out
              rw [outT_bad hsb] at ho
              obtain ⟨rfl,rfl,rfl,rfl⟩:=ho
              have HRN:=Aside0.mk (HBad.out (i+1) (by rw [HN.out];exact hsb))
              clear hsb
              have SR:=(HSR.out.below HM7.out).below HM9.out
              have x0:wc.cell? ⟨w.heap.size,0,none⟩=some (.int .i64 0):=SR.c0
              have f0:wc.frozen? ⟨w.heap.size,0,none⟩=false:=qe_ SR 0
              have x1:wc.cell? ⟨w.heap.size,1,none⟩=some (.int .i64 0):=SR.c1
              have f1:wc.frozen? ⟨w.heap.size,1,none⟩=false:=qe_ SR 1
              have x2:wc.cell? ⟨w.heap.size,2,none⟩=some (.slice none 0 0):=SR.c2
              have f2:wc.frozen? ⟨w.heap.size,2,none⟩=false:=qe_ SR 2
              have HSRX:=Aside0.mk SR
              clear SR
              go_wp2
              refine bodyPost_ret (results_ct rfl _ _ w.heap.size 38 _ (0,0) _ rfl (qv_ (qv_ (qv_ HSRX.out 0 _) 1 _) 2 _) hu2 rfl (by kernel_rfl)) rfl ?_
              rw [HRN.out]
              exact ⟨_,rfl,Kd.R_nil _ _ _ _ _,((HB9.out.setCell (Nat.le_refl _) _).setCell (Nat.le_refl _) _).setCell (Nat.le_refl _) _⟩
            · have hsg:(sumT T (scaleT U x.f1)).bad=false:=by simpa using hsb
              have ho:=HO9.out
              rw [outT_good hsg] at ho
              obtain ⟨rfl,rfl,rfl,rfl⟩:=ho
              have HGN:=Aside0.mk (show (coordT d n (l.take (i+1))).bad=false from by rw [HN.out];exact hsg)
              have y0:=HS9.out.c0
              have y1:=HS9.out.c1
              have y2:=HS9.out.c2
              have S6:=HS62.out.below HM9.out
              have k0:=S6.c0
              have k1:=S6.c1
              have k2:=S6.c2
              have kf0:=qe_ S6 0
              have kf1:=qe_ S6 1
              have kf2:=qe_ S6 2
              have HSK:=Aside0.mk S6
              have HSR9:=Aside0.mk ((HSR.out.below HM7.out).below HM9.out)
              clear S6 hsb hsg
              go_wp2
              go_roundg (l.length - (i+1))
              case measure=>omega
              case rel =>
                have hlo:=HLO.out
                refine ⟨i+1,A9,c9,by omega,by omega,by have:=HLEN.out;first|rfl|(rw [w64 (by omega) (by omega)];rfl),HGN,⟨?_⟩,⟨?_⟩,⟨?_⟩,⟨?_⟩⟩
                · rw [HN.out];exact qv_ (qv_ (qv_ HSK.out 0 _) 1 _) 2 _
                · rw [HN.out];exact Kd.R_set (Kd.R_set (Kd.R_set HV9.out HSK.out (by decide) 0 _) (qv_ HSK.out 0 _) (by decide) 1 _) (qv_ (qv_ HSK.out 0 _) 1 _) (by decide) 2 _
                · exact ((HSR9.out.far (by simp;omega) _).far (by simp;omega) _).far (by simp;omega) _
                · exact ((HB9.out.setCell (by simp;omega) _).setCell (by simp;omega) _).setCell (by simp;omega) _
    · have hltz:¬ (i:Int) < (l.length:Int):=by omega
      obtain rfl:i=l.length:=by omega
      have hg:=HG.out
      rw [List.take_length] at hg HS6 HV6
      have HRS:=Aside0.mk (HEnd.out hg)
      have y0:=HS6.out.c0
      have y1:=HS6.out.c1
      have y2:=HS6.out.c2
      clear hg
      have SR:=HSR.out
      have x0:wr.cell? ⟨w.heap.size,0,none⟩=some (.int .i64 0):=SR.c0
      have f0:wr.frozen? ⟨w.heap.size,0,none⟩=false:=qe_ SR 0
      have x1:wr.cell? ⟨w.heap.size,1,none⟩=some (.int .i64 0):=SR.c1
      have f1:wr.frozen? ⟨w.heap.size,1,none⟩=false:=qe_ SR 1
      have x2:wr.cell? ⟨w.heap.size,2,none⟩=some (.slice none 0 0):=SR.c2
      have f2:wr.frozen? ⟨w.heap.size,2,none⟩=false:=qe_ SR 2
      have HSRX:=Aside0.mk SR
      clear SR
      go_wp2
      refine bodyPost_ret (results_ct rfl _ _ w.heap.size 38 _ (0,0) _ rfl (qv_ (qv_ (qv_ HSRX.out 0 _) 1 _) 2 _) hu2 rfl (by kernel_rfl)) rfl ?_
      rw [HRS.out]
      refine ⟨_,rfl,?_,((HB.out.setCell (Nat.le_refl _) _).setCell (Nat.le_refl _) _).setCell (Nat.le_refl _) _⟩
      exact Kd.R_set (Kd.R_set (Kd.R_set HV6.out HSRX.out (by decide) 0 _) (qv_ HSRX.out 0 _) (by decide) 1 _) (qv_ (qv_ HSRX.out 0 _) 1 _) (by decide) 2 _
end Go.Proofs.Ytaiefdhenikiiaa.Base
namespace Go.Proofs.Ytaiefdhenikiiaa.Base
open Go.RowKit Go.Proofs.YtaiefdhenikiiaaW.PrintWords Go.Proofs.YtaiefdhenikiiaaW.PrintLast Go.Proofs.YtaiefdhenikiiaaW.PrintMore
attribute [local go_sem] max2_int qx1_ max_two min_two max_three min_three max_four min_four Go.Proofs.YtaiefdhenikiiaaZ.qc1_   -- for this text's walks alone
set_option linter.unusedVariables false
set_option linter.unusedSimpArgs false
def qc2_.f (a0:Int) (a1:Int) (l2:List S79):Option (Int × Int × (List S79) × Int):=if l2.length≤1048576∧(∀ x ∈ l2,x.f0.size≤1048576) then some (serCo a0 a1 l2) else none
set_option maxHeartbeats 8000000 in
set_option maxRecDepth 100000 in
theorem qc2_.calls (a0:Int) (a1:Int) (A2:Option Addr) (c2:Nat) (l2:List (S79)) (r1:Int) (r2:Int) (r3:List (S79)) (r4:Int) (w:World) (hr2:Kd.C k79 w A2 l2.length l2) (hc2:l2.length≤c2) (h:qc2_.f a0 a1 l2=some (r1,r2,r3,r4)) :
  Calls Try.prog 57 #[.int .i64 a0,.int .i64 a1,.slice A2 l2.length c2] w fun e w'=>∃ v2_:Value,e=.returned (.tuple #[.agg #[.int .i64 r1,.int .i64 r2,v2_],.int .i64 r4])∧Kd.R k79 79 w' w.heap.size (fun _=>True) v2_ r3∧Below w.heap.size w w':=by
 unfold qc2_.f at h
 split at h
 rotate_left
 ·cases h
 rename_i hsm
 have h:=Option.some.inj h
 have hu:=Try.underlying38
 obtain ⟨k,hk⟩:=(co_spec a0 a1 l2 hsm).rounds
 have HR:=aK hr2
 have HC:=aK hc2
 have HLEN:=aK hsm.1
 clear hr2 hc2
 unfold serCo at h
 by_cases c:coB a0 a1 l2=true
 ·obtain ⟨d,n,rfl,rfl,hs,hok,hnz⟩:=coB_good c
  rw [if_pos c,Int.toNat_natCast,Int.toNat_natCast] at h
  rw [c] at hk
  have HK:=aK hk
  obtain ⟨T,hT⟩:∃ T,T=coordT d n l2:=⟨_,rfl⟩
  rw [← hT] at h
  have hlk:Like T (zeroT d n):=by rw [hT];exact coordT_like hs l2
  have hI:∀ W,Below w.heap.size w W→Calls Try.prog 119 #[.int .i64 (d:Int),.int .i64 (n:Int),.slice A2 l2.length c2] W (OutR W d n (outT T)):=fun W hW=>by
   rw [hT];exact seriesSp W d n hs ⟨Kd.qi2_ HR.out hW,HC.out,HLEN.out⟩ hok hnz
  unfold serR at h
  by_cases hb:T.bad=true
  ·rw [if_pos hb] at h
   rw [outT_bad hb] at hI
   simp only [Prod.mk.injEq] at h
   obtain ⟨rfl,rfl,rfl,rfl⟩:=h
   have HI:=aK hI
   clear hk c hs hok hnz hsm hT hlk hI hb
   go_enter Try.func57,Try.ntmps57
   go_wp2_with (first
    | (go_at_call 76;refine (qp_.calls k _ _ _ _ _ _ _ (Kd.qi2_ HR.out (qb_ (Below.refl _ _) _)) HC.out HK.out).mono ?_;rintro e w1 ⟨rfl,hd⟩;have HB1:=aK (show Below w.heap.size w w1 from qk_ (qb_ (Below.refl _ _) _) hd);have HS1:=aK (show SrAt w1 w.heap.size 0 0 (.slice none 0 0) from qm_ (new_at rfl) hd);clear hd)
    | (go_at_call 119;refine (HI.out _ HB1.out).mono ?_;rintro e w2 ⟨v,rfl,hv,hb⟩;obtain ⟨A1,c1,rfl⟩:=Kd.qh2_ hv;have HB2:=aK (qk_ HB1.out hb);have S:=HS1.out.below hb;have x0:(w2.alloc (.cells #[.int .i64 0,.int .i64 0,.slice A1 0 c1] 38)).cell? ⟨w.heap.size,0,none⟩=some (.int .i64 0):=(SrAt.alloc S _).c0;have f0:(w2.alloc (.cells #[.int .i64 0,.int .i64 0,.slice A1 0 c1] 38)).frozen? ⟨w.heap.size,0,none⟩=false:=qe_ (SrAt.alloc S (.cells #[.int .i64 0,.int .i64 0,.slice A1 0 c1] 38)) 0;have x1:(w2.alloc (.cells #[.int .i64 0,.int .i64 0,.slice A1 0 c1] 38)).cell? ⟨w.heap.size,1,none⟩=some (.int .i64 0):=(SrAt.alloc S _).c1;have f1:(w2.alloc (.cells #[.int .i64 0,.int .i64 0,.slice A1 0 c1] 38)).frozen? ⟨w.heap.size,1,none⟩=false:=qe_ (SrAt.alloc S (.cells #[.int .i64 0,.int .i64 0,.slice A1 0 c1] 38)) 1;have x2:(w2.alloc (.cells #[.int .i64 0,.int .i64 0,.slice A1 0 c1] 38)).cell? ⟨w.heap.size,2,none⟩=some (.slice none 0 0):=(SrAt.alloc S _).c2;have f2:(w2.alloc (.cells #[.int .i64 0,.int .i64 0,.slice A1 0 c1] 38)).frozen? ⟨w.heap.size,2,none⟩=false:=qe_ (SrAt.alloc S (.cells #[.int .i64 0,.int .i64 0,.slice A1 0 c1] 38)) 2;have HS2:=aK S;clear S hv hb))
   refine bodyPost_ret (results_ct rfl _ _ w.heap.size 38 _ (0,0) _ rfl (qv_ (qv_ (qv_ (HS2.out.alloc _) 0 _) 1 _) 2 _) hu rfl (by kernel_rfl)) rfl ?_
   exact ⟨_,rfl,Kd.R_nil _ _ _ _ _,(((qb_ HB2.out _).setCell (Nat.le_refl _) _).setCell (Nat.le_refl _) _).setCell (Nat.le_refl _) _⟩
  ·have hg:T.bad=false:=by simpa using hb
   rw [if_neg hb] at h
   rw [outT_good hg] at hI
   simp only [Prod.mk.injEq] at h
   obtain ⟨rfl,rfl,rfl,rfl⟩:=h
   have HI:=aK hI
   have HD:=aK hlk
   clear hk c hs hok hnz hsm hT hlk hI hb hg
   go_enter Try.func57,Try.ntmps57
   go_wp2_with (first
    | (go_at_call 76;refine (qp_.calls k _ _ _ _ _ _ _ (Kd.qi2_ HR.out (qb_ (Below.refl _ _) _)) HC.out HK.out).mono ?_;rintro e w1 ⟨rfl,hd⟩;have HB1:=aK (show Below w.heap.size w w1 from qk_ (qb_ (Below.refl _ _) _) hd);have HS1:=aK (show SrAt w1 w.heap.size 0 0 (.slice none 0 0) from qm_ (new_at rfl) hd);clear hd)
    | (go_at_call 119;refine (HI.out _ HB1.out).mono ?_;rintro e w2 ⟨v,rfl,hv,hb⟩;obtain ⟨A1,c1,rfl⟩:=Kd.qh2_ hv;have HB2:=aK (qk_ HB1.out hb);have HV:=aK (Kd.qm2_ hv HB1.out.size);have S:=HS1.out.below hb;have x0:(w2.alloc (.cells #[.int .i64 (d:Int),.int .i64 (n:Int),.slice A1 (termsT T).length c1] 38)).cell? ⟨w.heap.size,0,none⟩=some (.int .i64 0):=(SrAt.alloc S _).c0;have f0:(w2.alloc (.cells #[.int .i64 (d:Int),.int .i64 (n:Int),.slice A1 (termsT T).length c1] 38)).frozen? ⟨w.heap.size,0,none⟩=false:=qe_ (SrAt.alloc S (.cells #[.int .i64 (d:Int),.int .i64 (n:Int),.slice A1 (termsT T).length c1] 38)) 0;have x1:(w2.alloc (.cells #[.int .i64 (d:Int),.int .i64 (n:Int),.slice A1 (termsT T).length c1] 38)).cell? ⟨w.heap.size,1,none⟩=some (.int .i64 0):=(SrAt.alloc S _).c1;have f1:(w2.alloc (.cells #[.int .i64 (d:Int),.int .i64 (n:Int),.slice A1 (termsT T).length c1] 38)).frozen? ⟨w.heap.size,1,none⟩=false:=qe_ (SrAt.alloc S (.cells #[.int .i64 (d:Int),.int .i64 (n:Int),.slice A1 (termsT T).length c1] 38)) 1;have x2:(w2.alloc (.cells #[.int .i64 (d:Int),.int .i64 (n:Int),.slice A1 (termsT T).length c1] 38)).cell? ⟨w.heap.size,2,none⟩=some (.slice none 0 0):=(SrAt.alloc S _).c2;have f2:(w2.alloc (.cells #[.int .i64 (d:Int),.int .i64 (n:Int),.slice A1 (termsT T).length c1] 38)).frozen? ⟨w.heap.size,2,none⟩=false:=qe_ (SrAt.alloc S (.cells #[.int .i64 (d:Int),.int .i64 (n:Int),.slice A1 (termsT T).length c1] 38)) 2;have HS2:=aK S;clear S hv hb))
   refine bodyPost_ret (results_ct rfl _ _ w.heap.size 38 _ (0,0) _ rfl (qv_ (qv_ (qv_ (HS2.out.alloc _) 0 _) 1 _) 2 _) hu rfl (by kernel_rfl)) rfl ?_
   refine ⟨.slice A1 (termsT T).length c1,by rw [HD.out.1,HD.out.2.1];rfl,?_,(((qb_ HB2.out _).setCell (Nat.le_refl _) _).setCell (Nat.le_refl _) _).setCell (Nat.le_refl _) _⟩
   exact Kd.R_set (Kd.R_set (Kd.R_set (Kd.qq_ HV.out _) (HS2.out.alloc _) (by decide) 0 _) (qv_ (HS2.out.alloc _) 0 _) (by decide) 1 _) (qv_ (qv_ (HS2.out.alloc _) 0 _) 1 _) (by decide) 2 _
 ·have cf:coB a0 a1 l2=false:=by simpa using c
  rw [if_neg c] at h
  rw [cf] at hk
  simp only [Prod.mk.injEq] at h
  obtain ⟨rfl,rfl,rfl,rfl⟩:=h
  have HK:=aK hk
  clear hk hsm c cf
  go_enter Try.func57,Try.ntmps57
  go_wp2_with (go_at_call 76;refine (qp_.calls k _ _ _ _ _ _ _ (Kd.qi2_ HR.out (qb_ (Below.refl _ _) _)) HC.out HK.out).mono ?_;rintro e w1 ⟨rfl,hd⟩;have HB1:=aK (show Below w.heap.size w w1 from qk_ (qb_ (Below.refl _ _) _) hd);have S:SrAt w1 w.heap.size 0 0 (.slice none 0 0):=qm_ (new_at rfl) hd;have x0:=S.c0;have x1:=S.c1;have x2:=S.c2;have f0:=qe_ S 0;have f1:=qe_ S 1;have f2:=qe_ S 2;have HS1:=aK S;clear S hd)
  refine bodyPost_ret (results_ct rfl _ _ w.heap.size 38 _ (0,0) _ rfl (qv_ (qv_ (qv_ HS1.out 0 _) 1 _) 2 _) hu rfl (by kernel_rfl)) rfl ?_
  exact ⟨_,rfl,Kd.R_nil _ _ _ _ _,((HB1.out.setCell (Nat.le_refl _) _).setCell (Nat.le_refl _) _).setCell (Nat.le_refl _) _⟩
end Go.Proofs.Ytaiefdhenikiiaa.Base
namespace Go.Proofs.Ytaiefdhenikiiaa.Base
open Go.RowKit Go.Proofs.YtaiefdhenikiiaaW.PrintWords Go.Proofs.YtaiefdhenikiiaaW.PrintLast Go.Proofs.YtaiefdhenikiiaaW.PrintMore
attribute [local go_sem] max2_int qx1_ max_two min_two max_three min_three max_four min_four Go.Proofs.YtaiefdhenikiiaaZ.qc1_   -- for this text's walks alone
set_option linter.unusedVariables false
set_option linter.unusedSimpArgs false
def ql1_.f (a0:Int) (a1:Int) (l2:List S79):Option (Int × Int × (List S79) × Int):=if l2.length≤1048576∧(∀ x ∈ l2,x.f0.size≤1048576) then some (serCo a0 a1 l2) else none
set_option maxHeartbeats 8000000 in
set_option maxRecDepth 100000 in
theorem ql1_.calls (a0:Int) (a1:Int) (A2:Option Addr) (c2:Nat) (l2:List (S79)) (r1:Int) (r2:Int) (r3:List (S79)) (r4:Int) (w:World) (hr2:Kd.C k79 w A2 l2.length l2) (hc2:l2.length≤c2) (h:ql1_.f a0 a1 l2=some (r1,r2,r3,r4)) :
  Calls Try.prog 58 #[.int .i64 a0,.int .i64 a1,.slice A2 l2.length c2] w fun e w'=>∃ v2_:Value,e=.returned (.tuple #[.agg #[.int .i64 r1,.int .i64 r2,v2_],.int .i64 r4])∧Kd.R k79 79 w' w.heap.size (fun _=>True) v2_ r3∧Below w.heap.size w w':=by
 unfold ql1_.f at h
 split at h
 rotate_left
 ·cases h
 rename_i hsm
 have h:=Option.some.inj h
 have hu:=Try.underlying38
 obtain ⟨k,hk⟩:=(co_impl a0 a1 l2 hsm).rounds
 have HR:=aK hr2
 have HC:=aK hc2
 have HLEN:=aK hsm.1
 clear hr2 hc2
 unfold serCo at h
 by_cases c:coB a0 a1 l2=true
 ·obtain ⟨d,n,rfl,rfl,hs,hok,hnz⟩:=coB_good c
  rw [if_pos c,Int.toNat_natCast,Int.toNat_natCast] at h
  rw [c] at hk
  have HK:=aK hk
  have HT:=aK (told_all (coordT_like hs l2) h)
  have HL:=aK (show ∀ W,Below w.heap.size w W→Calls Try.prog 120 #[.int .i64 (d:Int),.int .i64 (n:Int),.slice A2 l2.length c2] W (NewT W (coordT d n l2) (zeroT d n)) from fun W hW=>seriesOf_ W d n A2 c2 l2 (Kd.qi2_ HR.out hW) hs hok (by have:=HLEN.out;omega))
  clear h hk c hs hok hnz hsm
  go_enter Try.func58,Try.ntmps58
  go_wp2_with (first
   | (go_at_call 78;refine (qf2_.calls k _ _ _ _ _ _ _ (Kd.qi2_ HR.out (qb_ (Below.refl _ _) _)) HC.out HK.out).mono ?_;rintro e w1 ⟨rfl,hd⟩;have HB1:=aK (show Below w.heap.size w w1 from qk_ (qb_ (Below.refl _ _) _) hd);have HS1:=aK (show SrAt w1 w.heap.size 0 0 (.slice none 0 0) from qm_ (new_at rfl) hd);clear hd)
   | (go_at_call 120;refine (HL.out _ HB1.out).mono ?_;rintro e w2 ⟨g2,k2,rfl,T,hg,hh,hb⟩;have HO2:=aK T.tab;have HB2:=aK (show Below w.heap.size w w2 from qk_ HB1.out hb);have HS2:=aK (HS1.out.below hb);clear T hg hh hb)
   | (go_at_call 96;refine (HT.out _ _ _ HO2.out).mono ?_;rintro e w3 ⟨v,rfl,hv,hb⟩;obtain ⟨A1,c1,rfl⟩:=Kd.qh2_ hv;have HB3:=aK (show Below w.heap.size w w3 from qk_ HB2.out hb);have HV:=aK (Kd.qm2_ hv HB2.out.size);have S:=HS2.out.below hb;have x0:=S.c0;have x1:=S.c1;have x2:=S.c2;have f0:=qe_ S 0;have f1:=qe_ S 1;have f2:=qe_ S 2;have HS3:=aK S;clear S hv hb))
  refine bodyPost_ret (results_ct rfl _ _ w.heap.size 38 _ (0,0) _ rfl (qv_ (qv_ (qv_ HS3.out 0 _) 1 _) 2 _) hu rfl (by kernel_rfl)) rfl ?_
  refine ⟨_,rfl,?_,((HB3.out.setCell (Nat.le_refl _) _).setCell (Nat.le_refl _) _).setCell (Nat.le_refl _) _⟩
  exact Kd.R_set (Kd.R_set (Kd.R_set HV.out HS3.out (by decide) 0 _) (qv_ HS3.out 0 _) (by decide) 1 _) (qv_ (qv_ HS3.out 0 _) 1 _) (by decide) 2 _
 ·have cf:coB a0 a1 l2=false:=by simpa using c
  rw [if_neg c] at h
  rw [cf] at hk
  simp only [Prod.mk.injEq] at h
  obtain ⟨rfl,rfl,rfl,rfl⟩:=h
  have HK:=aK hk
  clear hk hsm c cf
  go_enter Try.func58,Try.ntmps58
  go_wp2_with (go_at_call 78;refine (qf2_.calls k _ _ _ _ _ _ _ (Kd.qi2_ HR.out (qb_ (Below.refl _ _) _)) HC.out HK.out).mono ?_;rintro e w1 ⟨rfl,hd⟩;have HB1:=aK (show Below w.heap.size w w1 from qk_ (qb_ (Below.refl _ _) _) hd);have S:SrAt w1 w.heap.size 0 0 (.slice none 0 0):=qm_ (new_at rfl) hd;have x0:=S.c0;have x1:=S.c1;have x2:=S.c2;have f0:=qe_ S 0;have f1:=qe_ S 1;have f2:=qe_ S 2;have HS1:=aK S;clear S hd)
  refine bodyPost_ret (results_ct rfl _ _ w.heap.size 38 _ (0,0) _ rfl (qv_ (qv_ (qv_ HS1.out 0 _) 1 _) 2 _) hu rfl (by kernel_rfl)) rfl ?_
  exact ⟨_,rfl,Kd.R_nil _ _ _ _ _,((HB1.out.setCell (Nat.le_refl _) _).setCell (Nat.le_refl _) _).setCell (Nat.le_refl _) _⟩
end Go.Proofs.Ytaiefdhenikiiaa.Base
namespace Go.Proofs.Ytaiefdhenikiiaa.Base
open Go.RowKit Go.Proofs.YtaiefdhenikiiaaW.PrintWords Go.Proofs.YtaiefdhenikiiaaW.PrintLast Go.Proofs.YtaiefdhenikiiaaW.PrintMore
attribute [local go_sem] max2_int qx1_ max_two min_two max_three min_three max_four min_four Go.Proofs.YtaiefdhenikiiaaZ.qc1_   -- for this text's walks alone
set_option linter.unusedVariables false
set_option linter.unusedSimpArgs false
mutual
def qd_.j0:Nat→Int→Int→List (S75)→Int→List (S79)→Int→Bool→Int→Int→List (S79)→Int→Int→List (S79)→Option (Bool)
 | 0,_,_,_,_,_,_,_,_,_,_,_,_,_=>none
 | k+1,x0,x1,x2,x9,x10,x12,x48,x1194000,x1194001,x1194002,x1204000,x1204001,x1204002=>if x48=true then (some false) else ((qy_.f k x2).bind fun t1205=>((qx_.f k x10 t1205).bind fun t1208=>(if t1208=true then ((qb1_.f k x10 1).bind fun bt1209=>(if bt1209.1 < 0 then (qd_.j1 k x0 x1 x2 x9 true x1194000 x1194001 x1194002 x1204000 x1204001 x1204002) else ((qj1_.f k x1204000 x1204001 x1204002 x1194000 x1194001 x1194002).bind fun t1211=>(if t1211=true then (qd_.j1 k x0 x1 x2 x9 (x12 != x9) x1194000 x1194001 x1194002 x1204000 x1204001 x1204002) else (qd_.j1 k x0 x1 x2 x9 true x1194000 x1194001 x1194002 x1204000 x1204001 x1204002))))) else (some false))))
def qd_.j1:Nat→Int→Int→List (S75)→Int→Bool→Int→Int→List (S79)→Int→Int→List (S79)→Option (Bool)
 | 0,_,_,_,_,_,_,_,_,_,_,_=>none
 | k+1,x0,x1,x2,x9,x69,x1194000,x1194001,x1194002,x1204000,x1204001,x1204002=>if x69=true then (some false) else ((qy1_.f k x1204000 x1204001 x1204002 1).bind fun bt1212=>((qp1_.f k x1204000 x1204001 bt1212.2 1).bind fun t1214=>(if t1214 < 0 then (some false) else (if t1214=bt1212.1 then ((qy_.f k x2).bind fun t1215=>((ql1_.f x0 x1 t1215).bind fun bt1218=>((qj1_.f k bt1218.1 bt1218.2.1 bt1218.2.2.1 x1194000 x1194001 x1194002).bind fun t1225=>(if t1225=true then (qd_.j2 k bt1212.1 (bt1218.2.2.2 != x9) x1204000 x1204001 bt1212.2) else (qd_.j2 k bt1212.1 true x1204000 x1204001 bt1212.2))))) else (some false)))))
def qd_.j2:Nat→Int→Bool→Int→Int→List (S79)→Option (Bool)
 | 0,_,_,_,_,_=>none
 | k+1,x14,x97,x1204000,x1204001,x1204002=>if x97=true then (some false) else ((qp1_.f k x1204000 x1204001 x1204002 1).bind fun t1226=>(if t1226 < 0 then (some false) else (if t1226=x14 then (some true) else (some false))))
end
def qd_.f (k:Nat) (a0:Int) (a1:Int) (l2:List (S75)):Option (Bool):=(qn1_.f k l2 1048576).bind fun t1183=>(if t1183 < 0 then (some true) else ((qy_.f k l2).bind fun t1184=>((qc2_.f a0 a1 t1184).bind fun bt1187=>((qy_.f k l2).bind fun t1194=>((ql1_.f a0 a1 t1194).bind fun bt1197=>((qj1_.f k bt1197.1 bt1197.2.1 bt1197.2.2.1 bt1187.1 bt1187.2.1 bt1187.2.2.1).bind fun t1204=>(if t1204=true then (qd_.j0 k a0 a1 l2 bt1187.2.2.2 t1194 bt1197.2.2.2 (bt1197.2.2.2 != bt1187.2.2.2) bt1187.1 bt1187.2.1 bt1187.2.2.1 bt1197.1 bt1197.2.1 bt1197.2.2.1) else (qd_.j0 k a0 a1 l2 bt1187.2.2.2 t1194 bt1197.2.2.2 true bt1187.1 bt1187.2.1 bt1187.2.2.1 bt1197.1 bt1197.2.1 bt1197.2.2.1))))))))
theorem qd_.mono_l:∀ k,(∀ y0 y1 y2 y3 y4 y5 y6 y7 y8 y9 y10 y11 y12,LeO (qd_.j0 k y0 y1 y2 y3 y4 y5 y6 y7 y8 y9 y10 y11 y12) (qd_.j0 (k+1) y0 y1 y2 y3 y4 y5 y6 y7 y8 y9 y10 y11 y12))∧(∀ y0 y1 y2 y3 y4 y5 y6 y7 y8 y9 y10,LeO (qd_.j1 k y0 y1 y2 y3 y4 y5 y6 y7 y8 y9 y10) (qd_.j1 (k+1) y0 y1 y2 y3 y4 y5 y6 y7 y8 y9 y10))∧(∀ y0 y1 y2 y3 y4,LeO (qd_.j2 k y0 y1 y2 y3 y4) (qd_.j2 (k+1) y0 y1 y2 y3 y4))
 | 0=>⟨fun _ _ _ _ _ _ _ _ _ _ _ _ _ r h=>by simp [qd_.j0] at h,fun _ _ _ _ _ _ _ _ _ _ _ r h=>by simp [qd_.j1] at h,fun _ _ _ _ _ r h=>by simp [qd_.j2] at h⟩
 | k+1=>by
  obtain ⟨ih0,ih1,ih2⟩:=qd_.mono_l k
  refine ⟨?_,?_,?_⟩
  ·intro y0 y1 y2 y3 y4 y5 y6 y7 y8 y9 y10 y11 y12
   unfold qd_.j0
   repeat' first
   | (with_reducible exact ih0 _ _ _ _ _ _ _ _ _ _ _ _ _)
   | (with_reducible exact ih1 _ _ _ _ _ _ _ _ _ _ _)
   | (with_reducible exact ih2 _ _ _ _ _)
   | (with_reducible exact qj1_.mono _ _ _ _ _ _ _)
   | (with_reducible exact qx_.mono _ _ _)
   | (with_reducible exact qp1_.mono _ _ _ _ _)
   | (with_reducible exact qy1_.mono _ _ _ _ _)
   | (with_reducible exact qb1_.mono _ _ _)
   | (with_reducible exact qn1_.mono _ _ _)
   | (with_reducible exact qy_.mono _ _)
   | (with_reducible exact LeO.refl _)
   | (with_reducible exact LeO.none _)
   | (with_reducible refine LeO.ite ?_ ?_)
   | (with_reducible refine LeO.bind ?_ (fun _=>?_))
   | exact ih0 _ _ _ _ _ _ _ _ _ _ _ _ _
   | exact ih1 _ _ _ _ _ _ _ _ _ _ _
   | exact ih2 _ _ _ _ _
   | exact qj1_.mono _ _ _ _ _ _ _
   | exact qx_.mono _ _ _
   | exact qp1_.mono _ _ _ _ _
   | exact qy1_.mono _ _ _ _ _
   | exact qb1_.mono _ _ _
   | exact qn1_.mono _ _ _
   | exact qy_.mono _ _
   | exact LeO.none _
   | refine LeO.ite ?_ ?_
   | refine LeO.bind ?_ (fun _=>?_)
  ·intro y0 y1 y2 y3 y4 y5 y6 y7 y8 y9 y10
   unfold qd_.j1
   repeat' first
   | (with_reducible exact ih0 _ _ _ _ _ _ _ _ _ _ _ _ _)
   | (with_reducible exact ih1 _ _ _ _ _ _ _ _ _ _ _)
   | (with_reducible exact ih2 _ _ _ _ _)
   | (with_reducible exact qj1_.mono _ _ _ _ _ _ _)
   | (with_reducible exact qx_.mono _ _ _)
   | (with_reducible exact qp1_.mono _ _ _ _ _)
   | (with_reducible exact qy1_.mono _ _ _ _ _)
   | (with_reducible exact qb1_.mono _ _ _)
   | (with_reducible exact qn1_.mono _ _ _)
   | (with_reducible exact qy_.mono _ _)
   | (with_reducible exact LeO.refl _)
   | (with_reducible exact LeO.none _)
   | (with_reducible refine LeO.ite ?_ ?_)
   | (with_reducible refine LeO.bind ?_ (fun _=>?_))
   | exact ih0 _ _ _ _ _ _ _ _ _ _ _ _ _
   | exact ih1 _ _ _ _ _ _ _ _ _ _ _
   | exact ih2 _ _ _ _ _
   | exact qj1_.mono _ _ _ _ _ _ _
   | exact qx_.mono _ _ _
   | exact qp1_.mono _ _ _ _ _
   | exact qy1_.mono _ _ _ _ _
   | exact qb1_.mono _ _ _
   | exact qn1_.mono _ _ _
   | exact qy_.mono _ _
   | exact LeO.none _
   | refine LeO.ite ?_ ?_
   | refine LeO.bind ?_ (fun _=>?_)
  ·intro y0 y1 y2 y3 y4
   unfold qd_.j2
   repeat' first
   | (with_reducible exact ih0 _ _ _ _ _ _ _ _ _ _ _ _ _)
   | (with_reducible exact ih1 _ _ _ _ _ _ _ _ _ _ _)
   | (with_reducible exact ih2 _ _ _ _ _)
   | (with_reducible exact qj1_.mono _ _ _ _ _ _ _)
   | (with_reducible exact qx_.mono _ _ _)
   | (with_reducible exact qp1_.mono _ _ _ _ _)
   | (with_reducible exact qy1_.mono _ _ _ _ _)
   | (with_reducible exact qb1_.mono _ _ _)
   | (with_reducible exact qn1_.mono _ _ _)
   | (with_reducible exact qy_.mono _ _)
   | (with_reducible exact LeO.refl _)
   | (with_reducible exact LeO.none _)
   | (with_reducible refine LeO.ite ?_ ?_)
   | (with_reducible refine LeO.bind ?_ (fun _=>?_))
   | exact ih0 _ _ _ _ _ _ _ _ _ _ _ _ _
   | exact ih1 _ _ _ _ _ _ _ _ _ _ _
   | exact ih2 _ _ _ _ _
   | exact qj1_.mono _ _ _ _ _ _ _
   | exact qx_.mono _ _ _
   | exact qp1_.mono _ _ _ _ _
   | exact qy1_.mono _ _ _ _ _
   | exact qb1_.mono _ _ _
   | exact qn1_.mono _ _ _
   | exact qy_.mono _ _
   | exact LeO.none _
   | refine LeO.ite ?_ ?_
   | refine LeO.bind ?_ (fun _=>?_)
theorem qd_.mono:∀ a0 a1 a2 k,LeO (qd_.f k a0 a1 a2) (qd_.f (k+1) a0 a1 a2):=by
 intro a0 a1 a2 k
 obtain ⟨ih0,ih1,ih2⟩:=qd_.mono_l k
 unfold qd_.f
 repeat' first
   | (with_reducible exact ih0 _ _ _ _ _ _ _ _ _ _ _ _ _)
   | (with_reducible exact ih1 _ _ _ _ _ _ _ _ _ _ _)
   | (with_reducible exact ih2 _ _ _ _ _)
   | (with_reducible exact qj1_.mono _ _ _ _ _ _ _)
   | (with_reducible exact qx_.mono _ _ _)
   | (with_reducible exact qp1_.mono _ _ _ _ _)
   | (with_reducible exact qy1_.mono _ _ _ _ _)
   | (with_reducible exact qb1_.mono _ _ _)
   | (with_reducible exact qn1_.mono _ _ _)
   | (with_reducible exact qy_.mono _ _)
   | (with_reducible exact LeO.refl _)
   | (with_reducible exact LeO.none _)
   | (with_reducible refine LeO.ite ?_ ?_)
   | (with_reducible refine LeO.bind ?_ (fun _=>?_))
   | exact ih0 _ _ _ _ _ _ _ _ _ _ _ _ _
   | exact ih1 _ _ _ _ _ _ _ _ _ _ _
   | exact ih2 _ _ _ _ _
   | exact qj1_.mono _ _ _ _ _ _ _
   | exact qx_.mono _ _ _
   | exact qp1_.mono _ _ _ _ _
   | exact qy1_.mono _ _ _ _ _
   | exact qb1_.mono _ _ _
   | exact qn1_.mono _ _ _
   | exact qy_.mono _ _
   | exact LeO.none _
   | refine LeO.ite ?_ ?_
   | refine LeO.bind ?_ (fun _=>?_)
set_option maxHeartbeats 8000000 in
set_option maxRecDepth 100000 in
theorem qd_.calls (k:Nat) (a0:Int) (a1:Int) (A2:Option Addr) (c2:Nat) (l2:List (S75)) (r:Bool) (w:World) (hr2:Kd.C k75 w A2 l2.length l2) (hc2:l2.length≤c2) (h:qd_.f k a0 a1 l2=some r) :
  Calls Try.prog 12 #[.int .i64 a0,.int .i64 a1,.slice A2 l2.length c2] w fun e w'=>e=.returned (.bool r)∧Below w.heap.size w w':=by
 have hu38:=Try.underlying38
 have HR2:=aK hr2
 have HC2:=aK hc2
 clear hr2 hc2
 have HB:=aK (Below.refl w.heap.size w)
 have H:((qn1_.f k l2 1048576).bind fun t1183=>(if t1183 < 0 then (some true) else ((qy_.f k l2).bind fun t1184=>((qc2_.f a0 a1 t1184).bind fun bt1187=>((qy_.f k l2).bind fun t1194=>((ql1_.f a0 a1 t1194).bind fun bt1197=>((qj1_.f k bt1197.1 bt1197.2.1 bt1197.2.2.1 bt1187.1 bt1187.2.1 bt1187.2.2.1).bind fun t1204=>(if t1204=true then (qd_.j0 k a0 a1 l2 bt1187.2.2.2 t1194 bt1197.2.2.2 (bt1197.2.2.2 != bt1187.2.2.2) bt1187.1 bt1187.2.1 bt1187.2.2.1 bt1197.1 bt1197.2.1 bt1197.2.2.1) else (qd_.j0 k a0 a1 l2 bt1187.2.2.2 t1194 bt1197.2.2.2 true bt1187.1 bt1187.2.1 bt1187.2.2.1 bt1197.1 bt1197.2.1 bt1197.2.2.1)))))))))=some r:=h
 clear h
 replace H:=Option.bind_eq_some_iff.mp H
 obtain ⟨t1183,A40,H⟩:=H
 replace H:(if t1183 < 0 then (some true) else ((qy_.f k l2).bind fun t1184=>((qc2_.f a0 a1 t1184).bind fun bt1187=>((qy_.f k l2).bind fun t1194=>((ql1_.f a0 a1 t1194).bind fun bt1197=>((qj1_.f k bt1197.1 bt1197.2.1 bt1197.2.2.1 bt1187.1 bt1187.2.1 bt1187.2.2.1).bind fun t1204=>(if t1204=true then (qd_.j0 k a0 a1 l2 bt1187.2.2.2 t1194 bt1197.2.2.2 (bt1197.2.2.2 != bt1187.2.2.2) bt1187.1 bt1187.2.1 bt1187.2.2.1 bt1197.1 bt1197.2.1 bt1197.2.2.1) else (qd_.j0 k a0 a1 l2 bt1187.2.2.2 t1194 bt1197.2.2.2 true bt1187.1 bt1187.2.1 bt1187.2.2.1 bt1197.1 bt1197.2.1 bt1197.2.2.1))))))))=some r:=H
 have A4:=aK A40
 clear A40
 by_cases c5:t1183 < 0
 ·rw [if_pos c5] at H
  have c5b0:decide (t1183 < 0)=true:=decide_eq_true c5
  clear c5
  obtain rfl:=Option.some.inj H
  go_enter Try.func12,Try.ntmps12
  go_wp2_with (first|((with_reducible refine qt_ (f:=21) rfl ?_);refine goesL_ (some 20) rfl rfl Try.func21 (by kernel_rfl) rfl #[.slice A2 l2.length c2,.int .i64 1048576] rfl (by (try simp only [List.map_toArray,List.map_cons,List.map_nil]);first|done|rfl|(simp only [List.length_drop,List.length_take];rfl)) ?_;(with_reducible refine (qn1_.calls k _ _ l2 1048576 t1183 _ ?side1 ?side2 A4.out).mono ?_);(case side1=>repeat (first|exact HR2.out|(with_reducible refine Kd.qt2_ ?_ _)|(with_reducible refine Kd.qs2_ ?_ _)|(with_reducible refine Kd.C_drew ?_)));(case side2=>exact HC2.out);rintro e w6 ⟨rfl,hb⟩;refine ⟨_,rfl,?_⟩;have n0_:=aK (qk_ (by repeat (first|(with_reducible first|exact HB.out|apply qb_|apply qa_|apply qc_)|exact HB.out)) hb);clear HB;have HB:=n0_;clear n0_;(try clear hb);(try clear hb2);(try clear hk);(try clear hi)))
  go_ret
  exact ⟨by first|rfl|(simp [qo_,qn_] <;> rfl)|(simp [*,qo_,qn_] <;> rfl),by repeat (first|(with_reducible first|exact HB.out|apply qb_|apply qa_|apply qc_)|exact HB.out)⟩
 ·rw [if_neg c5] at H
  have c5b0:decide (t1183 < 0)=false:=decide_eq_false c5
  clear c5
  replace H:=Option.bind_eq_some_iff.mp H
  obtain ⟨t1184,A70,H⟩:=H
  replace H:((qc2_.f a0 a1 t1184).bind fun bt1187=>((qy_.f k l2).bind fun t1194=>((ql1_.f a0 a1 t1194).bind fun bt1197=>((qj1_.f k bt1197.1 bt1197.2.1 bt1197.2.2.1 bt1187.1 bt1187.2.1 bt1187.2.2.1).bind fun t1204=>(if t1204=true then (qd_.j0 k a0 a1 l2 bt1187.2.2.2 t1194 bt1197.2.2.2 (bt1197.2.2.2 != bt1187.2.2.2) bt1187.1 bt1187.2.1 bt1187.2.2.1 bt1197.1 bt1197.2.1 bt1197.2.2.1) else (qd_.j0 k a0 a1 l2 bt1187.2.2.2 t1194 bt1197.2.2.2 true bt1187.1 bt1187.2.1 bt1187.2.2.1 bt1197.1 bt1197.2.1 bt1197.2.2.1))))))=some r:=H
  have A7:=aK A70
  clear A70
  replace H:=Option.bind_eq_some_iff.mp H
  obtain ⟨⟨t1187,t1188,t1189,t1192⟩,A80,H⟩:=H
  replace H:((qy_.f k l2).bind fun t1194=>((ql1_.f a0 a1 t1194).bind fun bt1197=>((qj1_.f k bt1197.1 bt1197.2.1 bt1197.2.2.1 t1187 t1188 t1189).bind fun t1204=>(if t1204=true then (qd_.j0 k a0 a1 l2 t1192 t1194 bt1197.2.2.2 (bt1197.2.2.2 != t1192) t1187 t1188 t1189 bt1197.1 bt1197.2.1 bt1197.2.2.1) else (qd_.j0 k a0 a1 l2 t1192 t1194 bt1197.2.2.2 true t1187 t1188 t1189 bt1197.1 bt1197.2.1 bt1197.2.2.1)))))=some r:=H
  have A8:=aK A80
  clear A80
  replace H:=Option.bind_eq_some_iff.mp H
  obtain ⟨t1194,A90,H⟩:=H
  replace H:((ql1_.f a0 a1 t1194).bind fun bt1197=>((qj1_.f k bt1197.1 bt1197.2.1 bt1197.2.2.1 t1187 t1188 t1189).bind fun t1204=>(if t1204=true then (qd_.j0 k a0 a1 l2 t1192 t1194 bt1197.2.2.2 (bt1197.2.2.2 != t1192) t1187 t1188 t1189 bt1197.1 bt1197.2.1 bt1197.2.2.1) else (qd_.j0 k a0 a1 l2 t1192 t1194 bt1197.2.2.2 true t1187 t1188 t1189 bt1197.1 bt1197.2.1 bt1197.2.2.1))))=some r:=H
  have A9:=aK A90
  clear A90
  replace H:=Option.bind_eq_some_iff.mp H
  obtain ⟨⟨t1197,t1198,t1199,t1202⟩,A100,H⟩:=H
  replace H:((qj1_.f k t1197 t1198 t1199 t1187 t1188 t1189).bind fun t1204=>(if t1204=true then (qd_.j0 k a0 a1 l2 t1192 t1194 t1202 (t1202 != t1192) t1187 t1188 t1189 t1197 t1198 t1199) else (qd_.j0 k a0 a1 l2 t1192 t1194 t1202 true t1187 t1188 t1189 t1197 t1198 t1199)))=some r:=H
  have A10:=aK A100
  clear A100
  have HC11:=aK H
  clear H
  go_enter Try.func12,Try.ntmps12
  go_upto_region 8 with (first|((with_reducible refine qt_ (f:=21) rfl ?_);refine goesL_ (some 20) rfl rfl Try.func21 (by kernel_rfl) rfl #[.slice A2 l2.length c2,.int .i64 1048576] rfl (by (try simp only [List.map_toArray,List.map_cons,List.map_nil]);first|done|rfl|(simp only [List.length_drop,List.length_take];rfl)) ?_;(with_reducible refine (qn1_.calls k _ _ l2 1048576 t1183 _ ?side1 ?side2 A4.out).mono ?_);(case side1=>repeat (first|exact HR2.out|(with_reducible refine Kd.qt2_ ?_ _)|(with_reducible refine Kd.qs2_ ?_ _)|(with_reducible refine Kd.C_drew ?_)));(case side2=>exact HC2.out);rintro e w12 ⟨rfl,hb⟩;refine ⟨_,rfl,?_⟩;have n0_:=aK (qk_ (by repeat (first|(with_reducible first|exact HB.out|apply qb_|apply qa_|apply qc_)|exact HB.out)) hb);clear HB;have HB:=n0_;clear n0_;(try clear hb);(try clear hb2);(try clear hk);(try clear hi))|((with_reducible refine qt_ (f:=23) rfl ?_);refine goesL_ (some 27) rfl rfl Try.func23 (by kernel_rfl) rfl #[.slice A2 l2.length c2] rfl (by (try simp only [List.map_toArray,List.map_cons,List.map_nil]);first|done|rfl|(simp only [List.length_drop,List.length_take];rfl)) ?_;(with_reducible refine (qy_.calls k _ _ l2 t1184 _ ?side1 ?side2 A7.out).mono ?_);(case side1=>repeat (first|exact (Kd.qi2_ HR2.out HB.out)|(with_reducible refine Kd.qt2_ ?_ _)|(with_reducible refine Kd.qs2_ ?_ _)|(with_reducible refine Kd.C_drew ?_)));(case side2=>exact HC2.out);rintro e w13 ⟨v1185,rfl,ho0,hb⟩;refine ⟨_,rfl,?_⟩;have n0_:=aK (Kd.qm2_ ho0 (ql_ (by repeat (first|(with_reducible first|exact HB.out|apply qb_|apply qa_|apply qc_)|exact HB.out))));have n1_:=aK (qk_ (by repeat (first|(with_reducible first|exact HB.out|apply qb_|apply qa_|apply qc_)|exact HB.out)) hb);clear HB;have HO1186:=n0_;have HB:=n1_;clear n0_ n1_;(try clear hb);(try clear hb2);(try clear hk);(try clear hi);(try clear ho0);obtain ⟨Ao14,co14,eo14⟩:=Kd.qh2_ HO1186.out;subst eo14)|((with_reducible refine qt_ (f:=57) rfl ?_);refine goesL_ (some 28) rfl rfl Try.func57 (by kernel_rfl) rfl #[.int .i64 a0,.int .i64 a1,.slice Ao14 t1184.length co14] rfl (by (try simp only [List.map_toArray,List.map_cons,List.map_nil]);first|done|rfl|(simp only [List.length_drop,List.length_take];rfl)) ?_;(with_reducible refine (qc2_.calls a0 a1 _ _ t1184 t1187 t1188 t1189 t1192 _ ?side1 ?side2 A8.out).mono ?_);(case side1=>repeat (first|exact (Kd.qs1_ HO1186.out).2.2|(with_reducible refine Kd.qt2_ ?_ _)|(with_reducible refine Kd.qs2_ ?_ _)|(with_reducible refine Kd.C_drew ?_)));(case side2=>exact (Kd.qs1_ HO1186.out).2.1);rintro e w15 ⟨v1190,rfl,ho0,hb⟩;refine ⟨_,rfl,?_⟩;have n0_:=aK (Kd.qy2_ (by (with_reducible repeat (first|apply Kd.qq_|apply Kd.qr_|apply Kd.R_drew));exact HO1186.out) (Kd.R_base ho0) hb);have n1_:=aK (Kd.qm2_ (Kd.R_new' ho0 (Kd.R_lt (by (with_reducible repeat (first|apply Kd.qq_|apply Kd.qr_|apply Kd.R_drew));exact HO1186.out))) (ql_ (by repeat (first|(with_reducible first|exact HB.out|apply qb_|apply qa_|apply qc_)|exact HB.out))));have n2_:=aK (qk_ (by repeat (first|(with_reducible first|exact HB.out|apply qb_|apply qa_|apply qc_)|exact HB.out)) hb);clear HO1186;clear HB;have HO1186:=n0_;have HO1191:=n1_;have HB:=n2_;clear n0_ n1_ n2_;(try clear hb);(try clear hb2);(try clear hk);(try clear hi);(try clear ho0))|((with_reducible refine qi1_ (N:=8) rfl ?_);refine qe1_ ?hg (N:=8) ?hd (cs:=#[.int .i64 0,.int .i64 0,.slice none 0 0]) (t:=38) ?hr ?_;(case hd=>rfl);(case hg=>rfl);(case hr=>first|(go_simp;done)|(go_simp;rfl));intro gb1193 hg w16 hbox hb;have n0_:=aK (Kd.qt1_ (by (with_reducible repeat (first|apply Kd.qq_|apply Kd.qr_|apply Kd.R_drew));exact HO1186.out) hb);have n1_:=aK (Kd.qt1_ (by (with_reducible repeat (first|apply Kd.qq_|apply Kd.qr_|apply Kd.R_drew));exact HO1191.out) hb);have n2_:=aK (qk_ (by repeat (first|(with_reducible first|exact HB.out|apply qb_|apply qa_|apply qc_)|exact HB.out)) hb);have n3_:=aK (hbox);have n4_:=aK ((by rw [hg];exact (ql_ (by repeat (first|(with_reducible first|exact HB.out|apply qb_|apply qa_|apply qc_)|exact HB.out))):w.heap.size≤gb1193));have n5_:=aK ((by rw [hg];exact (ql_ (by repeat (first|(with_reducible first|exact HB.out|apply qb_|apply qa_|apply qc_)|exact HB.out))):w.heap.size≤gb1193));clear HO1186;clear HO1191;clear HB;have HO1186:=n0_;have HO1191:=n1_;have HB:=n2_;have BK1193:=n3_;have GW1193:=n4_;have GE1193:=n5_;clear n0_ n1_ n2_ n3_ n4_ n5_;clear hb hbox hg;have hcz17_0:w16.cell? ⟨gb1193,0,none⟩=some (.int .i64 0):=(qj_ BK1193.out 0).trans rfl;have hcz17_1:w16.cell? ⟨gb1193,1,none⟩=some (.int .i64 0):=(qj_ BK1193.out 1).trans rfl;have hcz17_2:w16.cell? ⟨gb1193,2,none⟩=some (.slice none 0 0):=(qj_ BK1193.out 2).trans rfl;have hfz17_0:=qe_ BK1193.out 0;have hfz17_1:=qe_ BK1193.out 1;have hfz17_2:=qe_ BK1193.out 2;obtain ⟨Ao18,co18,eo18⟩:=Kd.qh2_ HO1191.out;subst eo18)|((with_reducible refine qt_ (f:=23) rfl ?_);refine goesL_ (some 32) rfl rfl Try.func23 (by kernel_rfl) rfl #[.slice A2 l2.length c2] rfl (by (try simp only [List.map_toArray,List.map_cons,List.map_nil]);first|done|rfl|(simp only [List.length_drop,List.length_take];rfl)) ?_;(with_reducible refine (qy_.calls k _ _ l2 t1194 _ ?side1 ?side2 A9.out).mono ?_);(case side1=>exact Kd.qi2_ HR2.out (by repeat (first|(with_reducible first|exact HB.out|apply qb_|apply qa_|apply qc_|refine qh_ ?_ GE1193.out)|exact HB.out)));(case side2=>exact HC2.out);rintro e w19 ⟨v1195,rfl,ho0,hb⟩;refine ⟨_,rfl,?_⟩;have n0_:=aK (Kd.qy2_ (by (with_reducible repeat (first|apply Kd.qq_|apply Kd.qr_|apply Kd.R_drew));exact (Kd.R_mono (Kd.R_far (p:=⟨gb1193,2,none⟩) (Kd.R_far (p:=⟨gb1193,1,none⟩) (Kd.R_far (p:=⟨gb1193,0,none⟩) (Kd.qr2_ HO1186.out BK1193.out (by decide)) (fun _ hk=>hk.2) (.int .i64 t1187)) (fun _ hk=>hk.2) (.int .i64 t1188)) (fun _ hk=>hk.2) (.slice Ao18 t1189.length co18)) (fun _ h_=>h_.1))) (Kd.R_base ho0) hb);have n1_:=aK (Kd.qy2_ (by (with_reducible repeat (first|apply Kd.qq_|apply Kd.qr_|apply Kd.R_drew));exact (Kd.R_mono (Kd.R_far (p:=⟨gb1193,2,none⟩) (Kd.R_far (p:=⟨gb1193,1,none⟩) (Kd.R_far (p:=⟨gb1193,0,none⟩) (Kd.qr2_ HO1191.out BK1193.out (by decide)) (fun _ hk=>hk.2) (.int .i64 t1187)) (fun _ hk=>hk.2) (.int .i64 t1188)) (fun _ hk=>hk.2) (.slice Ao18 t1189.length co18)) (fun _ h_=>h_.1))) (Kd.R_base ho0) hb);have n2_:=aK (Kd.qm2_ (Kd.R_new' (Kd.R_new' ho0 (Kd.R_lt (by (with_reducible repeat (first|apply Kd.qq_|apply Kd.qr_|apply Kd.R_drew));exact (Kd.R_mono (Kd.R_far (p:=⟨gb1193,2,none⟩) (Kd.R_far (p:=⟨gb1193,1,none⟩) (Kd.R_far (p:=⟨gb1193,0,none⟩) (Kd.qr2_ HO1186.out BK1193.out (by decide)) (fun _ hk=>hk.2) (.int .i64 t1187)) (fun _ hk=>hk.2) (.int .i64 t1188)) (fun _ hk=>hk.2) (.slice Ao18 t1189.length co18)) (fun _ h_=>h_.1))))) (Kd.R_lt (by (with_reducible repeat (first|apply Kd.qq_|apply Kd.qr_|apply Kd.R_drew));exact (Kd.R_mono (Kd.R_far (p:=⟨gb1193,2,none⟩) (Kd.R_far (p:=⟨gb1193,1,none⟩) (Kd.R_far (p:=⟨gb1193,0,none⟩) (Kd.qr2_ HO1191.out BK1193.out (by decide)) (fun _ hk=>hk.2) (.int .i64 t1187)) (fun _ hk=>hk.2) (.int .i64 t1188)) (fun _ hk=>hk.2) (.slice Ao18 t1189.length co18)) (fun _ h_=>h_.1))))) (ql_ (by repeat (first|(with_reducible first|exact HB.out|apply qb_|apply qa_|apply qc_|refine qh_ ?_ GE1193.out)|exact HB.out))));have n3_:=aK (qm_ (g:=gb1193) (o:=.cells #[.int .i64 t1187,.int .i64 t1188,.slice Ao18 t1189.length co18] 38 (0,0)) (by (with_reducible repeat (first|refine qg_ ?_ _|refine qi_ ?_|refine qf_ ?_ _));refine qq1_ (cs:=#[.int .i64 t1187,.int .i64 t1188,.slice none 0 0]) ?_ 2 _ rfl;(with_reducible repeat (first|refine qg_ ?_ _|refine qi_ ?_|refine qf_ ?_ _));refine qq1_ (cs:=#[.int .i64 t1187,.int .i64 0,.slice none 0 0]) ?_ 1 _ rfl;(with_reducible repeat (first|refine qg_ ?_ _|refine qi_ ?_|refine qf_ ?_ _));refine qq1_ (cs:=#[.int .i64 0,.int .i64 0,.slice none 0 0]) ?_ 0 _ rfl;(with_reducible repeat (first|refine qg_ ?_ _|refine qi_ ?_|refine qf_ ?_ _));exact BK1193.out) hb);have n4_:=aK (qk_ (by repeat (first|(with_reducible first|exact HB.out|apply qb_|apply qa_|apply qc_|refine qh_ ?_ GE1193.out)|exact HB.out)) hb);clear HO1186;clear HO1191;clear BK1193;clear HB;have HO1186:=n0_;have HO1191:=n1_;have HO1196:=n2_;have BK1193:=n3_;have HB:=n4_;clear n0_ n1_ n2_ n3_ n4_;(try clear hb);(try clear hb2);(try clear hk);(try clear hi);(try clear ho0);obtain ⟨Ao20,co20,eo20⟩:=Kd.qh2_ HO1196.out;subst eo20)|((with_reducible refine qt_ (f:=58) rfl ?_);refine goesL_ (some 37) rfl rfl Try.func58 (by kernel_rfl) rfl #[.int .i64 a0,.int .i64 a1,.slice Ao20 t1194.length co20] rfl (by (try simp only [List.map_toArray,List.map_cons,List.map_nil]);first|done|rfl|(simp only [List.length_drop,List.length_take];rfl)) ?_;(with_reducible refine (ql1_.calls a0 a1 _ _ t1194 t1197 t1198 t1199 t1202 _ ?side1 ?side2 A10.out).mono ?_);(case side1=>repeat (first|exact (Kd.qs1_ HO1196.out).2.2|(with_reducible refine Kd.qt2_ ?_ _)|(with_reducible refine Kd.qs2_ ?_ _)|(with_reducible refine Kd.C_drew ?_)));(case side2=>exact (Kd.qs1_ HO1196.out).2.1);rintro e w21 ⟨v1200,rfl,ho0,hb⟩;refine ⟨_,rfl,?_⟩;have n0_:=aK (Kd.qy2_ (by (with_reducible repeat (first|apply Kd.qq_|apply Kd.qr_|apply Kd.R_drew));exact HO1186.out) (Kd.R_base ho0) hb);have n1_:=aK (Kd.qy2_ (by (with_reducible repeat (first|apply Kd.qq_|apply Kd.qr_|apply Kd.R_drew));exact HO1191.out) (Kd.R_base ho0) hb);have n2_:=aK (Kd.qy2_ (by (with_reducible repeat (first|apply Kd.qq_|apply Kd.qr_|apply Kd.R_drew));exact HO1196.out) (Kd.R_base ho0) hb);have n3_:=aK (Kd.qm2_ (Kd.R_new' (Kd.R_new' (Kd.R_new' ho0 (Kd.R_lt (by (with_reducible repeat (first|apply Kd.qq_|apply Kd.qr_|apply Kd.R_drew));exact HO1186.out))) (Kd.R_lt (by (with_reducible repeat (first|apply Kd.qq_|apply Kd.qr_|apply Kd.R_drew));exact HO1191.out))) (Kd.R_lt (by (with_reducible repeat (first|apply Kd.qq_|apply Kd.qr_|apply Kd.R_drew));exact HO1196.out))) (ql_ (by repeat (first|(with_reducible first|exact HB.out|apply qb_|apply qa_|apply qc_|refine qh_ ?_ GE1193.out)|exact HB.out))));have n4_:=aK (qm_ (g:=gb1193) (o:=.cells #[.int .i64 t1187,.int .i64 t1188,.slice Ao18 t1189.length co18] 38 (0,0)) (by (with_reducible repeat (first|refine qg_ ?_ _|refine qi_ ?_|refine qf_ ?_ _));exact BK1193.out) hb);have n5_:=aK (qk_ (by repeat (first|(with_reducible first|exact HB.out|apply qb_|apply qa_|apply qc_|refine qh_ ?_ GE1193.out)|exact HB.out)) hb);clear HO1186;clear HO1191;clear HO1196;clear BK1193;clear HB;have HO1186:=n0_;have HO1191:=n1_;have HO1196:=n2_;have HO1201:=n3_;have BK1193:=n4_;have HB:=n5_;clear n0_ n1_ n2_ n3_ n4_ n5_;(try clear hb);(try clear hb2);(try clear hk);(try clear hi);(try clear ho0))|((with_reducible refine qi1_ (N:=11) rfl ?_);refine qe1_ ?hg (N:=11) ?hd (cs:=#[.int .i64 0,.int .i64 0,.slice none 0 0]) (t:=38) ?hr ?_;(case hd=>rfl);(case hg=>rfl);(case hr=>first|(go_simp;done)|(go_simp;rfl));intro gb1203 hg w22 hbox hb;have n0_:=aK (Kd.qt1_ (by (with_reducible repeat (first|apply Kd.qq_|apply Kd.qr_|apply Kd.R_drew));exact HO1186.out) hb);have n1_:=aK (Kd.qt1_ (by (with_reducible repeat (first|apply Kd.qq_|apply Kd.qr_|apply Kd.R_drew));exact HO1191.out) hb);have n2_:=aK (Kd.qt1_ (by (with_reducible repeat (first|apply Kd.qq_|apply Kd.qr_|apply Kd.R_drew));exact HO1196.out) hb);have n3_:=aK (Kd.qt1_ (by (with_reducible repeat (first|apply Kd.qq_|apply Kd.qr_|apply Kd.R_drew));exact HO1201.out) hb);have n4_:=aK (qm_ (g:=gb1193) (o:=.cells #[.int .i64 t1187,.int .i64 t1188,.slice Ao18 t1189.length co18] 38 (0,0)) (by (with_reducible repeat (first|refine qg_ ?_ _|refine qi_ ?_|refine qf_ ?_ _));exact BK1193.out) hb);have n5_:=aK (qk_ (by repeat (first|(with_reducible first|exact HB.out|apply qb_|apply qa_|apply qc_|refine qh_ ?_ GE1193.out)|exact HB.out)) hb);have n6_:=aK (hbox);have n7_:=aK ((by rw [hg];exact (ql_ (by repeat (first|(with_reducible first|exact HB.out|apply qb_|apply qa_|apply qc_|refine qh_ ?_ GE1193.out)|exact HB.out))):w.heap.size≤gb1203));have n8_:=aK ((by rw [hg];exact (ql_ (by repeat (first|(with_reducible first|exact HB.out|apply qb_|apply qa_|apply qc_|refine qh_ ?_ GE1193.out)|exact HB.out))):w.heap.size≤gb1203));have n9_:=aK ((by rw [hg];exact Nat.ne_of_lt (blk_lt (g:=gb1193) (o:=.cells #[.int .i64 t1187,.int .i64 t1188,.slice Ao18 t1189.length co18] 38 (0,0)) (by (with_reducible repeat (first|refine qg_ ?_ _|refine qi_ ?_|refine qf_ ?_ _));exact BK1193.out)):gb1193 ≠ gb1203));have n10_:=aK ((by rw [hg];exact Nat.ne_of_gt (blk_lt (g:=gb1193) (o:=.cells #[.int .i64 t1187,.int .i64 t1188,.slice Ao18 t1189.length co18] 38 (0,0)) (by (with_reducible repeat (first|refine qg_ ?_ _|refine qi_ ?_|refine qf_ ?_ _));exact BK1193.out)):gb1203 ≠ gb1193));clear HO1186;clear HO1191;clear HO1196;clear HO1201;clear BK1193;clear HB;have HO1186:=n0_;have HO1191:=n1_;have HO1196:=n2_;have HO1201:=n3_;have BK1193:=n4_;have HB:=n5_;have BK1203:=n6_;have GW1203:=n7_;have GE1203:=n8_;have NB1193_1203:=n9_;have NB1203_1193:=n10_;clear n0_ n1_ n2_ n3_ n4_ n5_ n6_ n7_ n8_ n9_ n10_;clear hb hbox hg;have hnb23:=NB1203_1193.out;have hnc23:=NB1193_1203.out;have hcz24_0:w22.cell? ⟨gb1203,0,none⟩=some (.int .i64 0):=(qj_ BK1203.out 0).trans rfl;have hcz24_1:w22.cell? ⟨gb1203,1,none⟩=some (.int .i64 0):=(qj_ BK1203.out 1).trans rfl;have hcz24_2:w22.cell? ⟨gb1203,2,none⟩=some (.slice none 0 0):=(qj_ BK1203.out 2).trans rfl;have hfz24_0:=qe_ BK1203.out 0;have hfz24_1:=qe_ BK1203.out 1;have hfz24_2:=qe_ BK1203.out 2;obtain ⟨Ao25,co25,eo25⟩:=Kd.qh2_ HO1201.out;subst eo25))
  (try simp only [Act.put,List.setIfInBounds_toArray,List.set_cons_zero,List.set_cons_succ])
  go_cut [48] (fun v48 wc=>∃ (kq:Nat) (x48_10:Bool),v48=.bool x48_10∧Aside0 (qd_.j0 kq a0 a1 l2 t1192 t1194 t1202 x48_10 t1187 t1188 t1189 t1197 t1198 t1199=some r)∧Aside0 (kq≤k)∧Aside0 (Kd.R k79 79 wc w.heap.size (fun k_=>some k_ ≠ ((.slice Ao18 t1189.length co18):Value).ownBlock∧some k_ ≠ ((.slice Ao25 t1199.length co25):Value).ownBlock) (.slice Ao20 t1194.length co20) t1194)∧Aside0 (Kd.R k79 79 wc w.heap.size (fun k_=>some k_ ≠ ((.slice Ao20 t1194.length co20):Value).ownBlock∧some k_ ≠ ((.slice Ao25 t1199.length co25):Value).ownBlock) (.slice Ao18 t1189.length co18) t1189)∧Aside0 (Kd.R k79 79 wc w.heap.size (fun k_=>some k_ ≠ ((.slice Ao20 t1194.length co20):Value).ownBlock∧some k_ ≠ ((.slice Ao18 t1189.length co18):Value).ownBlock) (.slice Ao25 t1199.length co25) t1199)∧Aside0 (wc.heap[gb1193]?=some (.cells #[.int .i64 t1187,.int .i64 t1188,(.slice Ao18 t1189.length co18)] 38 (0,0)))∧Aside0 (wc.heap[gb1203]?=some (.cells #[.int .i64 t1197,.int .i64 t1198,(.slice Ao25 t1199.length co25)] 38 (0,0)))∧Aside0 (Below w.heap.size w wc))
  case first =>
   have H:=HC11.out
   clear HC11
   replace H:=Option.bind_eq_some_iff.mp H
   obtain ⟨t1204,A260,H⟩:=H
   replace H:(if t1204=true then (qd_.j0 k a0 a1 l2 t1192 t1194 t1202 (t1202 != t1192) t1187 t1188 t1189 t1197 t1198 t1199) else (qd_.j0 k a0 a1 l2 t1192 t1194 t1202 true t1187 t1188 t1189 t1197 t1198 t1199))=some r:=H
   have A26:=aK A260
   clear A260
   by_cases c27:t1204=true
   ·subst c27
    have H1:(qd_.j0 k a0 a1 l2 t1192 t1194 t1202 (t1202 != t1192) t1187 t1188 t1189 t1197 t1198 t1199)=some r:=by rw [if_pos rfl] at H;exact H
    clear H
    have H:=H1
    clear H1
    have H':=aK H
    clear H
    have hnb28:=NB1203_1193.out
    have hnc28:=NB1193_1203.out
    have hcz29_0:w22.cell? ⟨gb1203,0,none⟩=some (.int .i64 0):=(qj_ BK1203.out 0).trans rfl
    have hcz29_1:w22.cell? ⟨gb1203,1,none⟩=some (.int .i64 0):=(qj_ BK1203.out 1).trans rfl
    have hcz29_2:w22.cell? ⟨gb1203,2,none⟩=some (.slice none 0 0):=(qj_ BK1203.out 2).trans rfl
    have hfz29_0:=qe_ BK1203.out 0
    have hfz29_1:=qe_ BK1203.out 1
    have hfz29_2:=qe_ BK1203.out 2
    have hcz30_0:w22.cell? ⟨gb1193,0,none⟩=some (.int .i64 t1187):=(qj_ BK1193.out 0).trans rfl
    have hcz30_1:w22.cell? ⟨gb1193,1,none⟩=some (.int .i64 t1188):=(qj_ BK1193.out 1).trans rfl
    have hcz30_2:w22.cell? ⟨gb1193,2,none⟩=some (.slice Ao18 t1189.length co18):=(qj_ BK1193.out 2).trans rfl
    have hfz30_0:=qe_ BK1193.out 0
    have hfz30_1:=qe_ BK1193.out 1
    have hfz30_2:=qe_ BK1193.out 2
    go_wp2_with (first|((with_reducible refine qt_ (f:=33) rfl ?_);refine goesL_ (some 42) rfl rfl Try.func33 (by kernel_rfl) rfl #[.agg #[.int .i64 t1197,.int .i64 t1198,.slice Ao25 t1199.length co25],.agg #[.int .i64 t1187,.int .i64 t1188,.slice Ao18 t1189.length co18]] rfl (by (try simp only [List.map_toArray,List.map_cons,List.map_nil]);first|done|rfl|(simp only [List.length_drop,List.length_take];rfl)) ?_;(with_reducible refine (qj1_.calls k t1197 t1198 _ _ t1199 t1187 t1188 _ _ t1189 true _ ?side1 ?side2 ?side3 ?side4 A26.out).mono ?_);(case side1=>refine (Kd.qs1_ (e:=79) (base:=w.heap.size) (ok:=fun k_=>(((True∧some k_ ≠ (.slice Ao14 t1184.length co14:Value).ownBlock)∧some k_ ≠ (.slice Ao18 t1189.length co18:Value).ownBlock)∧some k_ ≠ (.slice Ao20 t1194.length co20:Value).ownBlock)) (n:=t1199.length) (c:=co25) ?_).2.2;exact (by (with_reducible repeat (first|apply Kd.qq_|apply Kd.qr_|apply Kd.R_drew));exact (Kd.R_mono (Kd.R_far (p:=⟨gb1203,2,none⟩) (Kd.R_far (p:=⟨gb1203,1,none⟩) (Kd.R_far (p:=⟨gb1203,0,none⟩) (Kd.qr2_ HO1201.out BK1203.out (by decide)) (fun _ hk=>hk.2) (.int .i64 t1197)) (fun _ hk=>hk.2) (.int .i64 t1198)) (fun _ hk=>hk.2) (.slice Ao25 t1199.length co25)) (fun _ h_=>h_.1))));(case side2=>exact (Kd.qs1_ HO1201.out).2.1);(case side3=>refine (Kd.qs1_ (e:=79) (base:=w.heap.size) (ok:=fun k_=>(((True∧some k_ ≠ (.slice Ao14 t1184.length co14:Value).ownBlock)∧some k_ ≠ (.slice Ao20 t1194.length co20:Value).ownBlock)∧some k_ ≠ (.slice Ao25 t1199.length co25:Value).ownBlock)) (n:=t1189.length) (c:=co18) ?_).2.2;exact (by (with_reducible repeat (first|apply Kd.qq_|apply Kd.qr_|apply Kd.R_drew));exact (Kd.R_mono (Kd.R_far (p:=⟨gb1203,2,none⟩) (Kd.R_far (p:=⟨gb1203,1,none⟩) (Kd.R_far (p:=⟨gb1203,0,none⟩) (Kd.qr2_ HO1191.out BK1203.out (by decide)) (fun _ hk=>hk.2) (.int .i64 t1197)) (fun _ hk=>hk.2) (.int .i64 t1198)) (fun _ hk=>hk.2) (.slice Ao25 t1199.length co25)) (fun _ h_=>h_.1))));(case side4=>exact (Kd.qs1_ HO1191.out).2.1);rintro e w31 ⟨rfl,hb⟩;refine ⟨_,rfl,?_⟩;have n0_:=aK (Kd.qt1_ (by (with_reducible repeat (first|apply Kd.qq_|apply Kd.qr_|apply Kd.R_drew));exact (Kd.R_mono (Kd.R_far (p:=⟨gb1203,2,none⟩) (Kd.R_far (p:=⟨gb1203,1,none⟩) (Kd.R_far (p:=⟨gb1203,0,none⟩) (Kd.qr2_ HO1186.out BK1203.out (by decide)) (fun _ hk=>hk.2) (.int .i64 t1197)) (fun _ hk=>hk.2) (.int .i64 t1198)) (fun _ hk=>hk.2) (.slice Ao25 t1199.length co25)) (fun _ h_=>h_.1))) hb);have n1_:=aK (Kd.qt1_ (by (with_reducible repeat (first|apply Kd.qq_|apply Kd.qr_|apply Kd.R_drew));exact (Kd.R_mono (Kd.R_far (p:=⟨gb1203,2,none⟩) (Kd.R_far (p:=⟨gb1203,1,none⟩) (Kd.R_far (p:=⟨gb1203,0,none⟩) (Kd.qr2_ HO1191.out BK1203.out (by decide)) (fun _ hk=>hk.2) (.int .i64 t1197)) (fun _ hk=>hk.2) (.int .i64 t1198)) (fun _ hk=>hk.2) (.slice Ao25 t1199.length co25)) (fun _ h_=>h_.1))) hb);have n2_:=aK (Kd.qt1_ (by (with_reducible repeat (first|apply Kd.qq_|apply Kd.qr_|apply Kd.R_drew));exact (Kd.R_mono (Kd.R_far (p:=⟨gb1203,2,none⟩) (Kd.R_far (p:=⟨gb1203,1,none⟩) (Kd.R_far (p:=⟨gb1203,0,none⟩) (Kd.qr2_ HO1196.out BK1203.out (by decide)) (fun _ hk=>hk.2) (.int .i64 t1197)) (fun _ hk=>hk.2) (.int .i64 t1198)) (fun _ hk=>hk.2) (.slice Ao25 t1199.length co25)) (fun _ h_=>h_.1))) hb);have n3_:=aK (Kd.qt1_ (by (with_reducible repeat (first|apply Kd.qq_|apply Kd.qr_|apply Kd.R_drew));exact (Kd.R_mono (Kd.R_far (p:=⟨gb1203,2,none⟩) (Kd.R_far (p:=⟨gb1203,1,none⟩) (Kd.R_far (p:=⟨gb1203,0,none⟩) (Kd.qr2_ HO1201.out BK1203.out (by decide)) (fun _ hk=>hk.2) (.int .i64 t1197)) (fun _ hk=>hk.2) (.int .i64 t1198)) (fun _ hk=>hk.2) (.slice Ao25 t1199.length co25)) (fun _ h_=>h_.1))) hb);have n4_:=aK (qm_ (g:=gb1193) (o:=.cells #[.int .i64 t1187,.int .i64 t1188,.slice Ao18 t1189.length co18] 38 (0,0)) (by (with_reducible repeat (first|refine qg_ ?_ _|refine qi_ ?_|refine qf_ ?_ _));refine qa2_ ?_ NB1193_1203.out _;(with_reducible repeat (first|refine qg_ ?_ _|refine qi_ ?_|refine qf_ ?_ _));refine qa2_ ?_ NB1193_1203.out _;(with_reducible repeat (first|refine qg_ ?_ _|refine qi_ ?_|refine qf_ ?_ _));refine qa2_ ?_ NB1193_1203.out _;(with_reducible repeat (first|refine qg_ ?_ _|refine qi_ ?_|refine qf_ ?_ _));exact BK1193.out) hb);have n5_:=aK (qm_ (g:=gb1203) (o:=.cells #[.int .i64 t1197,.int .i64 t1198,.slice Ao25 t1199.length co25] 38 (0,0)) (by (with_reducible repeat (first|refine qg_ ?_ _|refine qi_ ?_|refine qf_ ?_ _));refine qq1_ (cs:=#[.int .i64 t1197,.int .i64 t1198,.slice none 0 0]) ?_ 2 _ rfl;(with_reducible repeat (first|refine qg_ ?_ _|refine qi_ ?_|refine qf_ ?_ _));refine qq1_ (cs:=#[.int .i64 t1197,.int .i64 0,.slice none 0 0]) ?_ 1 _ rfl;(with_reducible repeat (first|refine qg_ ?_ _|refine qi_ ?_|refine qf_ ?_ _));refine qq1_ (cs:=#[.int .i64 0,.int .i64 0,.slice none 0 0]) ?_ 0 _ rfl;(with_reducible repeat (first|refine qg_ ?_ _|refine qi_ ?_|refine qf_ ?_ _));exact BK1203.out) hb);have n6_:=aK (qk_ (by repeat (first|(with_reducible first|exact HB.out|apply qb_|apply qa_|apply qc_|refine qh_ ?_ GE1193.out|refine qh_ ?_ GE1203.out)|exact HB.out)) hb);clear HO1186;clear HO1191;clear HO1196;clear HO1201;clear BK1193;clear BK1203;clear HB;have HO1186:=n0_;have HO1191:=n1_;have HO1196:=n2_;have HO1201:=n3_;have BK1193:=n4_;have BK1203:=n5_;have HB:=n6_;clear n0_ n1_ n2_ n3_ n4_ n5_ n6_;(try clear hb);(try clear hb2);(try clear hk);(try clear hi)))
    go_meet
    case rel=>exact ⟨_,((t1202 != t1192)),(by first|rfl|(simp;done)|(simp [*];done)),H',⟨by first|omega|exact Nat.le_refl _⟩,⟨by (with_reducible repeat (first|apply Kd.qq_|apply Kd.qr_|apply Kd.R_drew));exact Kd.R_mono HO1196.out (fun _ hk=>⟨hk.1.2,hk.2⟩)⟩,⟨by (with_reducible repeat (first|apply Kd.qq_|apply Kd.qr_|apply Kd.R_drew));exact Kd.R_mono HO1191.out (fun _ hk=>⟨hk.1.2,hk.2⟩)⟩,⟨by (with_reducible repeat (first|apply Kd.qq_|apply Kd.qr_|apply Kd.R_drew));exact Kd.R_mono HO1201.out (fun _ hk=>⟨hk.2,hk.1.2⟩)⟩,⟨by (with_reducible repeat (first|refine qg_ ?_ _|refine qi_ ?_|refine qf_ ?_ _));exact BK1193.out⟩,⟨by (with_reducible repeat (first|refine qg_ ?_ _|refine qi_ ?_|refine qf_ ?_ _));exact BK1203.out⟩,⟨by repeat (first|(with_reducible first|exact HB.out|apply qb_|apply qa_|apply qc_|refine qh_ ?_ GE1193.out|refine qh_ ?_ GE1203.out)|exact HB.out)⟩⟩
   ·replace c27:=Bool.eq_false_iff.mpr c27
    subst c27
    have H1:(qd_.j0 k a0 a1 l2 t1192 t1194 t1202 true t1187 t1188 t1189 t1197 t1198 t1199)=some r:=by rw [if_neg (show ¬ (false=true) by decide)] at H;exact H
    clear H
    have H:=H1
    clear H1
    have H':=aK H
    clear H
    have hnb32:=NB1203_1193.out
    have hnc32:=NB1193_1203.out
    have hcz33_0:w22.cell? ⟨gb1203,0,none⟩=some (.int .i64 0):=(qj_ BK1203.out 0).trans rfl
    have hcz33_1:w22.cell? ⟨gb1203,1,none⟩=some (.int .i64 0):=(qj_ BK1203.out 1).trans rfl
    have hcz33_2:w22.cell? ⟨gb1203,2,none⟩=some (.slice none 0 0):=(qj_ BK1203.out 2).trans rfl
    have hfz33_0:=qe_ BK1203.out 0
    have hfz33_1:=qe_ BK1203.out 1
    have hfz33_2:=qe_ BK1203.out 2
    have hcz34_0:w22.cell? ⟨gb1193,0,none⟩=some (.int .i64 t1187):=(qj_ BK1193.out 0).trans rfl
    have hcz34_1:w22.cell? ⟨gb1193,1,none⟩=some (.int .i64 t1188):=(qj_ BK1193.out 1).trans rfl
    have hcz34_2:w22.cell? ⟨gb1193,2,none⟩=some (.slice Ao18 t1189.length co18):=(qj_ BK1193.out 2).trans rfl
    have hfz34_0:=qe_ BK1193.out 0
    have hfz34_1:=qe_ BK1193.out 1
    have hfz34_2:=qe_ BK1193.out 2
    go_wp2_with (first|((with_reducible refine qt_ (f:=33) rfl ?_);refine goesL_ (some 42) rfl rfl Try.func33 (by kernel_rfl) rfl #[.agg #[.int .i64 t1197,.int .i64 t1198,.slice Ao25 t1199.length co25],.agg #[.int .i64 t1187,.int .i64 t1188,.slice Ao18 t1189.length co18]] rfl (by (try simp only [List.map_toArray,List.map_cons,List.map_nil]);first|done|rfl|(simp only [List.length_drop,List.length_take];rfl)) ?_;(with_reducible refine (qj1_.calls k t1197 t1198 _ _ t1199 t1187 t1188 _ _ t1189 false _ ?side1 ?side2 ?side3 ?side4 A26.out).mono ?_);(case side1=>refine (Kd.qs1_ (e:=79) (base:=w.heap.size) (ok:=fun k_=>(((True∧some k_ ≠ (.slice Ao14 t1184.length co14:Value).ownBlock)∧some k_ ≠ (.slice Ao18 t1189.length co18:Value).ownBlock)∧some k_ ≠ (.slice Ao20 t1194.length co20:Value).ownBlock)) (n:=t1199.length) (c:=co25) ?_).2.2;exact (by (with_reducible repeat (first|apply Kd.qq_|apply Kd.qr_|apply Kd.R_drew));exact (Kd.R_mono (Kd.R_far (p:=⟨gb1203,2,none⟩) (Kd.R_far (p:=⟨gb1203,1,none⟩) (Kd.R_far (p:=⟨gb1203,0,none⟩) (Kd.qr2_ HO1201.out BK1203.out (by decide)) (fun _ hk=>hk.2) (.int .i64 t1197)) (fun _ hk=>hk.2) (.int .i64 t1198)) (fun _ hk=>hk.2) (.slice Ao25 t1199.length co25)) (fun _ h_=>h_.1))));(case side2=>exact (Kd.qs1_ HO1201.out).2.1);(case side3=>refine (Kd.qs1_ (e:=79) (base:=w.heap.size) (ok:=fun k_=>(((True∧some k_ ≠ (.slice Ao14 t1184.length co14:Value).ownBlock)∧some k_ ≠ (.slice Ao20 t1194.length co20:Value).ownBlock)∧some k_ ≠ (.slice Ao25 t1199.length co25:Value).ownBlock)) (n:=t1189.length) (c:=co18) ?_).2.2;exact (by (with_reducible repeat (first|apply Kd.qq_|apply Kd.qr_|apply Kd.R_drew));exact (Kd.R_mono (Kd.R_far (p:=⟨gb1203,2,none⟩) (Kd.R_far (p:=⟨gb1203,1,none⟩) (Kd.R_far (p:=⟨gb1203,0,none⟩) (Kd.qr2_ HO1191.out BK1203.out (by decide)) (fun _ hk=>hk.2) (.int .i64 t1197)) (fun _ hk=>hk.2) (.int .i64 t1198)) (fun _ hk=>hk.2) (.slice Ao25 t1199.length co25)) (fun _ h_=>h_.1))));(case side4=>exact (Kd.qs1_ HO1191.out).2.1);rintro e w35 ⟨rfl,hb⟩;refine ⟨_,rfl,?_⟩;have n0_:=aK (Kd.qt1_ (by (with_reducible repeat (first|apply Kd.qq_|apply Kd.qr_|apply Kd.R_drew));exact (Kd.R_mono (Kd.R_far (p:=⟨gb1203,2,none⟩) (Kd.R_far (p:=⟨gb1203,1,none⟩) (Kd.R_far (p:=⟨gb1203,0,none⟩) (Kd.qr2_ HO1186.out BK1203.out (by decide)) (fun _ hk=>hk.2) (.int .i64 t1197)) (fun _ hk=>hk.2) (.int .i64 t1198)) (fun _ hk=>hk.2) (.slice Ao25 t1199.length co25)) (fun _ h_=>h_.1))) hb);have n1_:=aK (Kd.qt1_ (by (with_reducible repeat (first|apply Kd.qq_|apply Kd.qr_|apply Kd.R_drew));exact (Kd.R_mono (Kd.R_far (p:=⟨gb1203,2,none⟩) (Kd.R_far (p:=⟨gb1203,1,none⟩) (Kd.R_far (p:=⟨gb1203,0,none⟩) (Kd.qr2_ HO1191.out BK1203.out (by decide)) (fun _ hk=>hk.2) (.int .i64 t1197)) (fun _ hk=>hk.2) (.int .i64 t1198)) (fun _ hk=>hk.2) (.slice Ao25 t1199.length co25)) (fun _ h_=>h_.1))) hb);have n2_:=aK (Kd.qt1_ (by (with_reducible repeat (first|apply Kd.qq_|apply Kd.qr_|apply Kd.R_drew));exact (Kd.R_mono (Kd.R_far (p:=⟨gb1203,2,none⟩) (Kd.R_far (p:=⟨gb1203,1,none⟩) (Kd.R_far (p:=⟨gb1203,0,none⟩) (Kd.qr2_ HO1196.out BK1203.out (by decide)) (fun _ hk=>hk.2) (.int .i64 t1197)) (fun _ hk=>hk.2) (.int .i64 t1198)) (fun _ hk=>hk.2) (.slice Ao25 t1199.length co25)) (fun _ h_=>h_.1))) hb);have n3_:=aK (Kd.qt1_ (by (with_reducible repeat (first|apply Kd.qq_|apply Kd.qr_|apply Kd.R_drew));exact (Kd.R_mono (Kd.R_far (p:=⟨gb1203,2,none⟩) (Kd.R_far (p:=⟨gb1203,1,none⟩) (Kd.R_far (p:=⟨gb1203,0,none⟩) (Kd.qr2_ HO1201.out BK1203.out (by decide)) (fun _ hk=>hk.2) (.int .i64 t1197)) (fun _ hk=>hk.2) (.int .i64 t1198)) (fun _ hk=>hk.2) (.slice Ao25 t1199.length co25)) (fun _ h_=>h_.1))) hb);have n4_:=aK (qm_ (g:=gb1193) (o:=.cells #[.int .i64 t1187,.int .i64 t1188,.slice Ao18 t1189.length co18] 38 (0,0)) (by (with_reducible repeat (first|refine qg_ ?_ _|refine qi_ ?_|refine qf_ ?_ _));refine qa2_ ?_ NB1193_1203.out _;(with_reducible repeat (first|refine qg_ ?_ _|refine qi_ ?_|refine qf_ ?_ _));refine qa2_ ?_ NB1193_1203.out _;(with_reducible repeat (first|refine qg_ ?_ _|refine qi_ ?_|refine qf_ ?_ _));refine qa2_ ?_ NB1193_1203.out _;(with_reducible repeat (first|refine qg_ ?_ _|refine qi_ ?_|refine qf_ ?_ _));exact BK1193.out) hb);have n5_:=aK (qm_ (g:=gb1203) (o:=.cells #[.int .i64 t1197,.int .i64 t1198,.slice Ao25 t1199.length co25] 38 (0,0)) (by (with_reducible repeat (first|refine qg_ ?_ _|refine qi_ ?_|refine qf_ ?_ _));refine qq1_ (cs:=#[.int .i64 t1197,.int .i64 t1198,.slice none 0 0]) ?_ 2 _ rfl;(with_reducible repeat (first|refine qg_ ?_ _|refine qi_ ?_|refine qf_ ?_ _));refine qq1_ (cs:=#[.int .i64 t1197,.int .i64 0,.slice none 0 0]) ?_ 1 _ rfl;(with_reducible repeat (first|refine qg_ ?_ _|refine qi_ ?_|refine qf_ ?_ _));refine qq1_ (cs:=#[.int .i64 0,.int .i64 0,.slice none 0 0]) ?_ 0 _ rfl;(with_reducible repeat (first|refine qg_ ?_ _|refine qi_ ?_|refine qf_ ?_ _));exact BK1203.out) hb);have n6_:=aK (qk_ (by repeat (first|(with_reducible first|exact HB.out|apply qb_|apply qa_|apply qc_|refine qh_ ?_ GE1193.out|refine qh_ ?_ GE1203.out)|exact HB.out)) hb);clear HO1186;clear HO1191;clear HO1196;clear HO1201;clear BK1193;clear BK1203;clear HB;have HO1186:=n0_;have HO1191:=n1_;have HO1196:=n2_;have HO1201:=n3_;have BK1193:=n4_;have BK1203:=n5_;have HB:=n6_;clear n0_ n1_ n2_ n3_ n4_ n5_ n6_;(try clear hb);(try clear hb2);(try clear hk);(try clear hi)))
    go_meet
    case rel=>exact ⟨_,(true),(by first|rfl|(simp;done)|(simp [*];done)),H',⟨by first|omega|exact Nat.le_refl _⟩,⟨by (with_reducible repeat (first|apply Kd.qq_|apply Kd.qr_|apply Kd.R_drew));exact Kd.R_mono HO1196.out (fun _ hk=>⟨hk.1.2,hk.2⟩)⟩,⟨by (with_reducible repeat (first|apply Kd.qq_|apply Kd.qr_|apply Kd.R_drew));exact Kd.R_mono HO1191.out (fun _ hk=>⟨hk.1.2,hk.2⟩)⟩,⟨by (with_reducible repeat (first|apply Kd.qq_|apply Kd.qr_|apply Kd.R_drew));exact Kd.R_mono HO1201.out (fun _ hk=>⟨hk.2,hk.1.2⟩)⟩,⟨by (with_reducible repeat (first|refine qg_ ?_ _|refine qi_ ?_|refine qf_ ?_ _));exact BK1193.out⟩,⟨by (with_reducible repeat (first|refine qg_ ?_ _|refine qi_ ?_|refine qf_ ?_ _));exact BK1203.out⟩,⟨by repeat (first|(with_reducible first|exact HB.out|apply qb_|apply qa_|apply qc_|refine qh_ ?_ GE1193.out|refine qh_ ?_ GE1203.out)|exact HB.out)⟩⟩
  case rest =>
   clear HC11
   try clear c1
   try clear c2
   try clear p2
   try clear c3
   try clear c5
   try clear c5b0
   try clear c12
   try clear c21
   try clear c23
   try clear c27
   try clear c28
   try clear c32
   try clear c33
   try clear hcz17_0
   try clear hcz17_1
   try clear hcz17_2
   try clear hcz24_0
   try clear hcz24_1
   try clear hcz24_2
   try clear hcz29_0
   try clear hcz29_1
   try clear hcz29_2
   try clear hcz30_0
   try clear hcz30_1
   try clear hcz30_2
   try clear hcz33_0
   try clear hcz33_1
   try clear hcz33_2
   try clear hcz34_0
   try clear hcz34_1
   try clear hcz34_2
   try clear hfz17_0
   try clear hfz17_1
   try clear hfz17_2
   try clear hfz24_0
   try clear hfz24_1
   try clear hfz24_2
   try clear hfz29_0
   try clear hfz29_1
   try clear hfz29_2
   try clear hfz30_0
   try clear hfz30_1
   try clear hfz30_2
   try clear hfz33_0
   try clear hfz33_1
   try clear hfz33_2
   try clear hfz34_0
   try clear hfz34_1
   try clear hfz34_2
   obtain ⟨kq,x48_10,rfl,HA,HJ10,HO_10,HO_1194002,HO_1204002,BK1193,BK1203,HB⟩:=hcut
   cases kq with
   | zero=>exact absurd HA.out (by simp [qd_.j0])
   | succ kj10 =>
    have H:=HA.out
    clear HA
    simp only [qd_.j0] at H
    by_cases c36:x48_10=true
    ·subst c36
     have H1:(some false)=some r:=by rw [if_pos rfl] at H;exact H
     clear H
     have H:=H1
     clear H1
     obtain rfl:=Option.some.inj H
     go_wp2
     go_ret
     exact ⟨by first|rfl|(simp [qo_,qn_] <;> rfl)|(simp [*,qo_,qn_] <;> rfl),by repeat (first|(with_reducible first|exact HB.out|apply qb_|apply qa_|apply qc_|refine qh_ ?_ GE1193.out|refine qh_ ?_ GE1203.out)|exact HB.out)⟩
    ·replace c36:=Bool.eq_false_iff.mpr c36
     subst c36
     have H1:((qy_.f kj10 l2).bind fun t1205=>((qx_.f kj10 t1194 t1205).bind fun t1208=>(if t1208=true then ((qb1_.f kj10 t1194 1).bind fun bt1209=>(if bt1209.1 < 0 then (qd_.j1 kj10 a0 a1 l2 t1192 true t1187 t1188 t1189 t1197 t1198 t1199) else ((qj1_.f kj10 t1197 t1198 t1199 t1187 t1188 t1189).bind fun t1211=>(if t1211=true then (qd_.j1 kj10 a0 a1 l2 t1192 (t1202 != t1192) t1187 t1188 t1189 t1197 t1198 t1199) else (qd_.j1 kj10 a0 a1 l2 t1192 true t1187 t1188 t1189 t1197 t1198 t1199))))) else (some false))))=some r:=by rw [if_neg (show ¬ (false=true) by decide)] at H;exact H
     clear H
     have H:=H1
     clear H1
     replace H:=Option.bind_eq_some_iff.mp H
     obtain ⟨t1205,A370,H⟩:=H
     replace H:((qx_.f kj10 t1194 t1205).bind fun t1208=>(if t1208=true then ((qb1_.f kj10 t1194 1).bind fun bt1209=>(if bt1209.1 < 0 then (qd_.j1 kj10 a0 a1 l2 t1192 true t1187 t1188 t1189 t1197 t1198 t1199) else ((qj1_.f kj10 t1197 t1198 t1199 t1187 t1188 t1189).bind fun t1211=>(if t1211=true then (qd_.j1 kj10 a0 a1 l2 t1192 (t1202 != t1192) t1187 t1188 t1189 t1197 t1198 t1199) else (qd_.j1 kj10 a0 a1 l2 t1192 true t1187 t1188 t1189 t1197 t1198 t1199))))) else (some false)))=some r:=H
     have A37:=aK A370
     clear A370
     replace H:=Option.bind_eq_some_iff.mp H
     obtain ⟨t1208,A380,H⟩:=H
     replace H:(if t1208=true then ((qb1_.f kj10 t1194 1).bind fun bt1209=>(if bt1209.1 < 0 then (qd_.j1 kj10 a0 a1 l2 t1192 true t1187 t1188 t1189 t1197 t1198 t1199) else ((qj1_.f kj10 t1197 t1198 t1199 t1187 t1188 t1189).bind fun t1211=>(if t1211=true then (qd_.j1 kj10 a0 a1 l2 t1192 (t1202 != t1192) t1187 t1188 t1189 t1197 t1198 t1199) else (qd_.j1 kj10 a0 a1 l2 t1192 true t1187 t1188 t1189 t1197 t1198 t1199))))) else (some false))=some r:=H
     have A38:=aK A380
     clear A380
     by_cases c39:t1208=true
     ·subst c39
      have H1:((qb1_.f kj10 t1194 1).bind fun bt1209=>(if bt1209.1 < 0 then (qd_.j1 kj10 a0 a1 l2 t1192 true t1187 t1188 t1189 t1197 t1198 t1199) else ((qj1_.f kj10 t1197 t1198 t1199 t1187 t1188 t1189).bind fun t1211=>(if t1211=true then (qd_.j1 kj10 a0 a1 l2 t1192 (t1202 != t1192) t1187 t1188 t1189 t1197 t1198 t1199) else (qd_.j1 kj10 a0 a1 l2 t1192 true t1187 t1188 t1189 t1197 t1198 t1199)))))=some r:=by rw [if_pos rfl] at H;exact H
      clear H
      have H:=H1
      clear H1
      replace H:=Option.bind_eq_some_iff.mp H
      obtain ⟨⟨t1209,t1210⟩,A400,H⟩:=H
      replace H:(if t1209 < 0 then (qd_.j1 kj10 a0 a1 l2 t1192 true t1187 t1188 t1189 t1197 t1198 t1199) else ((qj1_.f kj10 t1197 t1198 t1199 t1187 t1188 t1189).bind fun t1211=>(if t1211=true then (qd_.j1 kj10 a0 a1 l2 t1192 (t1202 != t1192) t1187 t1188 t1189 t1197 t1198 t1199) else (qd_.j1 kj10 a0 a1 l2 t1192 true t1187 t1188 t1189 t1197 t1198 t1199))))=some r:=H
      have A40:=aK A400
      clear A400
      have HC41:=aK H
      clear H
      go_upto_region 14 with (first|((with_reducible refine qt_ (f:=23) rfl ?_);refine goesL_ (some 51) rfl rfl Try.func23 (by kernel_rfl) rfl #[.slice A2 l2.length c2] rfl (by (try simp only [List.map_toArray,List.map_cons,List.map_nil]);first|done|rfl|(simp only [List.length_drop,List.length_take];rfl)) ?_;(with_reducible refine (qy_.calls kj10 _ _ l2 t1205 _ ?side1 ?side2 A37.out).mono ?_);(case side1=>repeat (first|exact (Kd.qi2_ HR2.out HB.out)|(with_reducible refine Kd.qt2_ ?_ _)|(with_reducible refine Kd.qs2_ ?_ _)|(with_reducible refine Kd.C_drew ?_)));(case side2=>exact HC2.out);rintro e w42 ⟨v1206,rfl,ho0,hb⟩;refine ⟨_,rfl,?_⟩;have n0_:=aK (Kd.qy2_ (by (with_reducible repeat (first|apply Kd.qq_|apply Kd.qr_|apply Kd.R_drew));exact HO_10.out) (Kd.R_base ho0) hb);have n1_:=aK (Kd.qy2_ (by (with_reducible repeat (first|apply Kd.qq_|apply Kd.qr_|apply Kd.R_drew));exact HO_1194002.out) (Kd.R_base ho0) hb);have n2_:=aK (Kd.qy2_ (by (with_reducible repeat (first|apply Kd.qq_|apply Kd.qr_|apply Kd.R_drew));exact HO_1204002.out) (Kd.R_base ho0) hb);have n3_:=aK (Kd.qm2_ (Kd.R_new' (Kd.R_new' (Kd.R_new' ho0 (Kd.R_lt (by (with_reducible repeat (first|apply Kd.qq_|apply Kd.qr_|apply Kd.R_drew));exact HO_10.out))) (Kd.R_lt (by (with_reducible repeat (first|apply Kd.qq_|apply Kd.qr_|apply Kd.R_drew));exact HO_1194002.out))) (Kd.R_lt (by (with_reducible repeat (first|apply Kd.qq_|apply Kd.qr_|apply Kd.R_drew));exact HO_1204002.out))) (ql_ (by repeat (first|(with_reducible first|exact HB.out|apply qb_|apply qa_|apply qc_|refine qh_ ?_ GE1193.out|refine qh_ ?_ GE1203.out)|exact HB.out))));have n4_:=aK (qm_ (g:=gb1193) (o:=.cells #[.int .i64 t1187,.int .i64 t1188,.slice Ao18 t1189.length co18] 38 (0,0)) (by (with_reducible repeat (first|refine qg_ ?_ _|refine qi_ ?_|refine qf_ ?_ _));exact BK1193.out) hb);have n5_:=aK (qm_ (g:=gb1203) (o:=.cells #[.int .i64 t1197,.int .i64 t1198,.slice Ao25 t1199.length co25] 38 (0,0)) (by (with_reducible repeat (first|refine qg_ ?_ _|refine qi_ ?_|refine qf_ ?_ _));exact BK1203.out) hb);have n6_:=aK (qk_ (by repeat (first|(with_reducible first|exact HB.out|apply qb_|apply qa_|apply qc_|refine qh_ ?_ GE1193.out|refine qh_ ?_ GE1203.out)|exact HB.out)) hb);clear HO_10;clear HO_1194002;clear HO_1204002;clear BK1193;clear BK1203;clear HB;have HO_10:=n0_;have HO_1194002:=n1_;have HO_1204002:=n2_;have HO1207:=n3_;have BK1193:=n4_;have BK1203:=n5_;have HB:=n6_;clear n0_ n1_ n2_ n3_ n4_ n5_ n6_;(try clear hb);(try clear hb2);(try clear hk);(try clear hi);(try clear ho0);obtain ⟨Ao43,co43,eo43⟩:=Kd.qh2_ HO1207.out;subst eo43)|((with_reducible refine qt_ (f:=25) rfl ?_);refine goesL_ (some 52) rfl rfl Try.func25 (by kernel_rfl) rfl #[.slice Ao20 t1194.length co20,.slice Ao43 t1205.length co43] rfl (by (try simp only [List.map_toArray,List.map_cons,List.map_nil]);first|done|rfl|(simp only [List.length_drop,List.length_take];rfl)) ?_;(with_reducible refine (qx_.calls kj10 _ _ t1194 _ _ t1205 true _ ?side1 ?side2 ?side3 ?side4 A38.out).mono ?_);(case side1=>repeat (first|exact (Kd.qs1_ HO_10.out).2.2|(with_reducible refine Kd.qt2_ ?_ _)|(with_reducible refine Kd.qs2_ ?_ _)|(with_reducible refine Kd.C_drew ?_)));(case side2=>exact (Kd.qs1_ HO_10.out).2.1);(case side3=>repeat (first|exact (Kd.qs1_ HO1207.out).2.2|(with_reducible refine Kd.qt2_ ?_ _)|(with_reducible refine Kd.qs2_ ?_ _)|(with_reducible refine Kd.C_drew ?_)));(case side4=>exact (Kd.qs1_ HO1207.out).2.1);rintro e w44 ⟨rfl,hb⟩;refine ⟨_,rfl,?_⟩;have n0_:=aK (Kd.qt1_ (by (with_reducible repeat (first|apply Kd.qq_|apply Kd.qr_|apply Kd.R_drew));exact HO_10.out) hb);have n1_:=aK (Kd.qt1_ (by (with_reducible repeat (first|apply Kd.qq_|apply Kd.qr_|apply Kd.R_drew));exact HO_1194002.out) hb);have n2_:=aK (Kd.qt1_ (by (with_reducible repeat (first|apply Kd.qq_|apply Kd.qr_|apply Kd.R_drew));exact HO_1204002.out) hb);have n3_:=aK (Kd.qt1_ (by (with_reducible repeat (first|apply Kd.qq_|apply Kd.qr_|apply Kd.R_drew));exact HO1207.out) hb);have n4_:=aK (qm_ (g:=gb1193) (o:=.cells #[.int .i64 t1187,.int .i64 t1188,.slice Ao18 t1189.length co18] 38 (0,0)) (by (with_reducible repeat (first|refine qg_ ?_ _|refine qi_ ?_|refine qf_ ?_ _));exact BK1193.out) hb);have n5_:=aK (qm_ (g:=gb1203) (o:=.cells #[.int .i64 t1197,.int .i64 t1198,.slice Ao25 t1199.length co25] 38 (0,0)) (by (with_reducible repeat (first|refine qg_ ?_ _|refine qi_ ?_|refine qf_ ?_ _));exact BK1203.out) hb);have n6_:=aK (qk_ (by repeat (first|(with_reducible first|exact HB.out|apply qb_|apply qa_|apply qc_|refine qh_ ?_ GE1193.out|refine qh_ ?_ GE1203.out)|exact HB.out)) hb);clear HO_10;clear HO_1194002;clear HO_1204002;clear HO1207;clear BK1193;clear BK1203;clear HB;have HO_10:=n0_;have HO_1194002:=n1_;have HO_1204002:=n2_;have HO1207:=n3_;have BK1193:=n4_;have BK1203:=n5_;have HB:=n6_;clear n0_ n1_ n2_ n3_ n4_ n5_ n6_;(try clear hb);(try clear hb2);(try clear hk);(try clear hi))|((with_reducible refine qt_ (f:=26) rfl ?_);refine goesL_ (some 56) rfl rfl Try.func26 (by kernel_rfl) rfl #[.slice Ao20 t1194.length co20,.int .i64 1] rfl (by (try simp only [List.map_toArray,List.map_cons,List.map_nil]);first|done|rfl|(simp only [List.length_drop,List.length_take];rfl)) ?_;(with_reducible refine (qb1_.calls kj10 (fun k_=>some k_=(.slice Ao20 t1194.length co20:Value).ownBlock) (.slice Ao20 t1194.length co20) t1194 1 t1209 t1210 w _ ?side1 ?side2 A40.out).mono ?_);(case side1=>repeat (first|(with_reducible first|exact HB.out|apply qb_|apply qa_|apply qc_|refine qh_ ?_ GE1193.out|refine qh_ ?_ GE1203.out)|exact HB.out));(case side2=>exact Kd.R_tight rfl HO_10.out);rintro e w45 ⟨rfl,hy0,hb,hkp⟩;refine ⟨_,rfl,?_⟩;have n0_:=aK (Kd.R_reok rfl hy0 (fun k_ e_=>HO_10.out.1 k_ e_));have n1_:=aK (Kd.R_mono (ok':=fun k_=>some k_ ≠ (.slice Ao20 t1194.length co20:Value).ownBlock∧some k_ ≠ (.slice Ao25 t1199.length co25:Value).ownBlock∧some k_ ≠ (.slice Ao43 t1205.length co43:Value).ownBlock) (Kd.R_keptB (HO_1194002.out) hkp (fun k_ hk_ hs_=>(hk_.1.1) hs_)) (fun k_ hk_=>⟨hk_.1.1.1,hk_.1.1.2,hk_.1.2⟩));have n2_:=aK (Kd.R_mono (ok':=fun k_=>some k_ ≠ (.slice Ao20 t1194.length co20:Value).ownBlock∧some k_ ≠ (.slice Ao18 t1189.length co18:Value).ownBlock∧some k_ ≠ (.slice Ao43 t1205.length co43:Value).ownBlock) (Kd.R_keptB (HO_1204002.out) hkp (fun k_ hk_ hs_=>(hk_.1.1) hs_)) (fun k_ hk_=>⟨hk_.1.1.1,hk_.1.1.2,hk_.1.2⟩));have n3_:=aK (blk_kept (by (with_reducible repeat (first|refine qg_ ?_ _|refine qi_ ?_|refine qf_ ?_ _));exact BK1193.out) hkp (fun hs_=>(fun e_=>(Kd.R_ne HO_10.out BK1193.out (by decide)) e_) hs_));have n4_:=aK (blk_kept (by (with_reducible repeat (first|refine qg_ ?_ _|refine qi_ ?_|refine qf_ ?_ _));exact BK1203.out) hkp (fun hs_=>(fun e_=>(Kd.R_ne HO_10.out BK1203.out (by decide)) e_) hs_));have n5_:=aK (Kd.R_mono (ok':=fun k_=>some k_ ≠ (.slice Ao20 t1194.length co20:Value).ownBlock∧some k_ ≠ (.slice Ao18 t1189.length co18:Value).ownBlock∧some k_ ≠ (.slice Ao25 t1199.length co25:Value).ownBlock) (Kd.R_keptB (HO1207.out) hkp (fun k_ hk_ hs_=>(hk_.1.1.2) hs_)) (fun k_ hk_=>⟨hk_.1.1.1.2,hk_.1.1.2,hk_.1.2⟩));have n6_:=aK (hb);clear HO_10;clear HO_1194002;clear HO_1204002;clear BK1193;clear BK1203;clear HO1207;clear HB;have HO_10:=n0_;have HO_1194002:=n1_;have HO_1204002:=n2_;have BK1193:=n3_;have BK1203:=n4_;have HO1207:=n5_;have HB:=n6_;clear n0_ n1_ n2_ n3_ n4_ n5_ n6_;(try clear hb);(try clear hkp);(try clear hy0)))
      (try simp only [Act.put,List.setIfInBounds_toArray,List.set_cons_zero,List.set_cons_succ])
      go_cut [69] (fun v69 wc=>∃ (kq:Nat) (x69_40:Bool),v69=.bool x69_40∧Aside0 (qd_.j1 kq a0 a1 l2 t1192 x69_40 t1187 t1188 t1189 t1197 t1198 t1199=some r)∧Aside0 (kq≤kj10)∧Aside0 (Kd.R k79 79 wc w.heap.size (fun k_=>some k_ ≠ ((.slice Ao25 t1199.length co25):Value).ownBlock) (.slice Ao18 t1189.length co18) t1189)∧Aside0 (Kd.R k79 79 wc w.heap.size (fun k_=>some k_ ≠ ((.slice Ao18 t1189.length co18):Value).ownBlock) (.slice Ao25 t1199.length co25) t1199)∧Aside0 (wc.heap[gb1193]?=some (.cells #[.int .i64 t1187,.int .i64 t1188,(.slice Ao18 t1189.length co18)] 38 (0,0)))∧Aside0 (wc.heap[gb1203]?=some (.cells #[.int .i64 t1197,.int .i64 t1198,(.slice Ao25 t1199.length co25)] 38 (0,0)))∧Aside0 (Below w.heap.size w wc))
      case first =>
       have H:=HC41.out
       clear HC41
       by_cases c46:t1209 < 0
       ·rw [if_pos c46] at H
        have c46b0:decide (t1209 < 0)=true:=decide_eq_true c46
        clear c46
        (first|rw [c46b0]|(simp only [i64_w,i32_w];rw [c46b0])|skip)
        have H':=aK H
        clear H
        go_wp2
        go_meet
        case rel=>exact ⟨_,(true),(by first|rfl|(simp;done)|(simp [*];done)),H',⟨by have:=HJ10.out;first|omega|exact Nat.le_refl _⟩,⟨by (with_reducible repeat (first|apply Kd.qq_|apply Kd.qr_|apply Kd.R_drew));exact Kd.R_mono HO_1194002.out (fun _ hk=>hk.2.1)⟩,⟨by (with_reducible repeat (first|apply Kd.qq_|apply Kd.qr_|apply Kd.R_drew));exact Kd.R_mono HO_1204002.out (fun _ hk=>hk.2.1)⟩,⟨by (with_reducible repeat (first|refine qg_ ?_ _|refine qi_ ?_|refine qf_ ?_ _));exact BK1193.out⟩,⟨by (with_reducible repeat (first|refine qg_ ?_ _|refine qi_ ?_|refine qf_ ?_ _));exact BK1203.out⟩,⟨by repeat (first|(with_reducible first|exact HB.out|apply qb_|apply qa_|apply qc_|refine qh_ ?_ GE1193.out|refine qh_ ?_ GE1203.out)|exact HB.out)⟩⟩
       ·rw [if_neg c46] at H
        have c46b0:decide (t1209 < 0)=false:=decide_eq_false c46
        clear c46
        (first|rw [c46b0]|(simp only [i64_w,i32_w];rw [c46b0])|skip)
        replace H:=Option.bind_eq_some_iff.mp H
        obtain ⟨t1211,A470,H⟩:=H
        replace H:(if t1211=true then (qd_.j1 kj10 a0 a1 l2 t1192 (t1202 != t1192) t1187 t1188 t1189 t1197 t1198 t1199) else (qd_.j1 kj10 a0 a1 l2 t1192 true t1187 t1188 t1189 t1197 t1198 t1199))=some r:=H
        have A47:=aK A470
        clear A470
        by_cases c48:t1211=true
        ·subst c48
         have H1:(qd_.j1 kj10 a0 a1 l2 t1192 (t1202 != t1192) t1187 t1188 t1189 t1197 t1198 t1199)=some r:=by rw [if_pos rfl] at H;exact H
         clear H
         have H:=H1
         clear H1
         have H':=aK H
         clear H
         have hnb49:=NB1203_1193.out
         have hnc49:=NB1193_1203.out
         have hcz50_0:w45.cell? ⟨gb1203,0,none⟩=some (.int .i64 t1197):=(qj_ BK1203.out 0).trans rfl
         have hcz50_1:w45.cell? ⟨gb1203,1,none⟩=some (.int .i64 t1198):=(qj_ BK1203.out 1).trans rfl
         have hcz50_2:w45.cell? ⟨gb1203,2,none⟩=some (.slice Ao25 t1199.length co25):=(qj_ BK1203.out 2).trans rfl
         have hfz50_0:=qe_ BK1203.out 0
         have hfz50_1:=qe_ BK1203.out 1
         have hfz50_2:=qe_ BK1203.out 2
         have hcz51_0:w45.cell? ⟨gb1193,0,none⟩=some (.int .i64 t1187):=(qj_ BK1193.out 0).trans rfl
         have hcz51_1:w45.cell? ⟨gb1193,1,none⟩=some (.int .i64 t1188):=(qj_ BK1193.out 1).trans rfl
         have hcz51_2:w45.cell? ⟨gb1193,2,none⟩=some (.slice Ao18 t1189.length co18):=(qj_ BK1193.out 2).trans rfl
         have hfz51_0:=qe_ BK1193.out 0
         have hfz51_1:=qe_ BK1193.out 1
         have hfz51_2:=qe_ BK1193.out 2
         go_wp2_with (first|(go_at_call 33;(with_reducible refine (qj1_.calls kj10 t1197 t1198 _ _ t1199 t1187 t1188 _ _ t1189 true _ ?side1 ?side2 ?side3 ?side4 A47.out).mono ?_);(case side1=>repeat (first|exact (Kd.qs1_ HO_1204002.out).2.2|(with_reducible refine Kd.qt2_ ?_ _)|(with_reducible refine Kd.qs2_ ?_ _)|(with_reducible refine Kd.C_drew ?_)));(case side2=>exact (Kd.qs1_ HO_1204002.out).2.1);(case side3=>repeat (first|exact (Kd.qs1_ HO_1194002.out).2.2|(with_reducible refine Kd.qt2_ ?_ _)|(with_reducible refine Kd.qs2_ ?_ _)|(with_reducible refine Kd.C_drew ?_)));(case side4=>exact (Kd.qs1_ HO_1194002.out).2.1);rintro e w52 ⟨rfl,hb⟩;have n0_:=aK (Kd.qt1_ (by (with_reducible repeat (first|apply Kd.qq_|apply Kd.qr_|apply Kd.R_drew));exact HO_10.out) hb);have n1_:=aK (Kd.qt1_ (by (with_reducible repeat (first|apply Kd.qq_|apply Kd.qr_|apply Kd.R_drew));exact HO_1194002.out) hb);have n2_:=aK (Kd.qt1_ (by (with_reducible repeat (first|apply Kd.qq_|apply Kd.qr_|apply Kd.R_drew));exact HO_1204002.out) hb);have n3_:=aK (Kd.qt1_ (by (with_reducible repeat (first|apply Kd.qq_|apply Kd.qr_|apply Kd.R_drew));exact HO1207.out) hb);have n4_:=aK (qm_ (g:=gb1193) (o:=.cells #[.int .i64 t1187,.int .i64 t1188,.slice Ao18 t1189.length co18] 38 (0,0)) (by (with_reducible repeat (first|refine qg_ ?_ _|refine qi_ ?_|refine qf_ ?_ _));exact BK1193.out) hb);have n5_:=aK (qm_ (g:=gb1203) (o:=.cells #[.int .i64 t1197,.int .i64 t1198,.slice Ao25 t1199.length co25] 38 (0,0)) (by (with_reducible repeat (first|refine qg_ ?_ _|refine qi_ ?_|refine qf_ ?_ _));exact BK1203.out) hb);have n6_:=aK (qk_ (by repeat (first|(with_reducible first|exact HB.out|apply qb_|apply qa_|apply qc_|refine qh_ ?_ GE1193.out|refine qh_ ?_ GE1203.out)|exact HB.out)) hb);clear HO_10;clear HO_1194002;clear HO_1204002;clear HO1207;clear BK1193;clear BK1203;clear HB;have HO_10:=n0_;have HO_1194002:=n1_;have HO_1204002:=n2_;have HO1207:=n3_;have BK1193:=n4_;have BK1203:=n5_;have HB:=n6_;clear n0_ n1_ n2_ n3_ n4_ n5_ n6_;(try clear hb);(try clear hb2);(try clear hk);(try clear hi)))
         go_meet
         case rel=>exact ⟨_,((t1202 != t1192)),(by first|rfl|(simp;done)|(simp [*];done)),H',⟨by have:=HJ10.out;first|omega|exact Nat.le_refl _⟩,⟨by (with_reducible repeat (first|apply Kd.qq_|apply Kd.qr_|apply Kd.R_drew));exact Kd.R_mono HO_1194002.out (fun _ hk=>hk.2.1)⟩,⟨by (with_reducible repeat (first|apply Kd.qq_|apply Kd.qr_|apply Kd.R_drew));exact Kd.R_mono HO_1204002.out (fun _ hk=>hk.2.1)⟩,⟨by (with_reducible repeat (first|refine qg_ ?_ _|refine qi_ ?_|refine qf_ ?_ _));exact BK1193.out⟩,⟨by (with_reducible repeat (first|refine qg_ ?_ _|refine qi_ ?_|refine qf_ ?_ _));exact BK1203.out⟩,⟨by repeat (first|(with_reducible first|exact HB.out|apply qb_|apply qa_|apply qc_|refine qh_ ?_ GE1193.out|refine qh_ ?_ GE1203.out)|exact HB.out)⟩⟩
        ·replace c48:=Bool.eq_false_iff.mpr c48
         subst c48
         have H1:(qd_.j1 kj10 a0 a1 l2 t1192 true t1187 t1188 t1189 t1197 t1198 t1199)=some r:=by rw [if_neg (show ¬ (false=true) by decide)] at H;exact H
         clear H
         have H:=H1
         clear H1
         have H':=aK H
         clear H
         have hnb53:=NB1203_1193.out
         have hnc53:=NB1193_1203.out
         have hcz54_0:w45.cell? ⟨gb1203,0,none⟩=some (.int .i64 t1197):=(qj_ BK1203.out 0).trans rfl
         have hcz54_1:w45.cell? ⟨gb1203,1,none⟩=some (.int .i64 t1198):=(qj_ BK1203.out 1).trans rfl
         have hcz54_2:w45.cell? ⟨gb1203,2,none⟩=some (.slice Ao25 t1199.length co25):=(qj_ BK1203.out 2).trans rfl
         have hfz54_0:=qe_ BK1203.out 0
         have hfz54_1:=qe_ BK1203.out 1
         have hfz54_2:=qe_ BK1203.out 2
         have hcz55_0:w45.cell? ⟨gb1193,0,none⟩=some (.int .i64 t1187):=(qj_ BK1193.out 0).trans rfl
         have hcz55_1:w45.cell? ⟨gb1193,1,none⟩=some (.int .i64 t1188):=(qj_ BK1193.out 1).trans rfl
         have hcz55_2:w45.cell? ⟨gb1193,2,none⟩=some (.slice Ao18 t1189.length co18):=(qj_ BK1193.out 2).trans rfl
         have hfz55_0:=qe_ BK1193.out 0
         have hfz55_1:=qe_ BK1193.out 1
         have hfz55_2:=qe_ BK1193.out 2
         go_wp2_with (first|(go_at_call 33;(with_reducible refine (qj1_.calls kj10 t1197 t1198 _ _ t1199 t1187 t1188 _ _ t1189 false _ ?side1 ?side2 ?side3 ?side4 A47.out).mono ?_);(case side1=>repeat (first|exact (Kd.qs1_ HO_1204002.out).2.2|(with_reducible refine Kd.qt2_ ?_ _)|(with_reducible refine Kd.qs2_ ?_ _)|(with_reducible refine Kd.C_drew ?_)));(case side2=>exact (Kd.qs1_ HO_1204002.out).2.1);(case side3=>repeat (first|exact (Kd.qs1_ HO_1194002.out).2.2|(with_reducible refine Kd.qt2_ ?_ _)|(with_reducible refine Kd.qs2_ ?_ _)|(with_reducible refine Kd.C_drew ?_)));(case side4=>exact (Kd.qs1_ HO_1194002.out).2.1);rintro e w56 ⟨rfl,hb⟩;have n0_:=aK (Kd.qt1_ (by (with_reducible repeat (first|apply Kd.qq_|apply Kd.qr_|apply Kd.R_drew));exact HO_10.out) hb);have n1_:=aK (Kd.qt1_ (by (with_reducible repeat (first|apply Kd.qq_|apply Kd.qr_|apply Kd.R_drew));exact HO_1194002.out) hb);have n2_:=aK (Kd.qt1_ (by (with_reducible repeat (first|apply Kd.qq_|apply Kd.qr_|apply Kd.R_drew));exact HO_1204002.out) hb);have n3_:=aK (Kd.qt1_ (by (with_reducible repeat (first|apply Kd.qq_|apply Kd.qr_|apply Kd.R_drew));exact HO1207.out) hb);have n4_:=aK (qm_ (g:=gb1193) (o:=.cells #[.int .i64 t1187,.int .i64 t1188,.slice Ao18 t1189.length co18] 38 (0,0)) (by (with_reducible repeat (first|refine qg_ ?_ _|refine qi_ ?_|refine qf_ ?_ _));exact BK1193.out) hb);have n5_:=aK (qm_ (g:=gb1203) (o:=.cells #[.int .i64 t1197,.int .i64 t1198,.slice Ao25 t1199.length co25] 38 (0,0)) (by (with_reducible repeat (first|refine qg_ ?_ _|refine qi_ ?_|refine qf_ ?_ _));exact BK1203.out) hb);have n6_:=aK (qk_ (by repeat (first|(with_reducible first|exact HB.out|apply qb_|apply qa_|apply qc_|refine qh_ ?_ GE1193.out|refine qh_ ?_ GE1203.out)|exact HB.out)) hb);clear HO_10;clear HO_1194002;clear HO_1204002;clear HO1207;clear BK1193;clear BK1203;clear HB;have HO_10:=n0_;have HO_1194002:=n1_;have HO_1204002:=n2_;have HO1207:=n3_;have BK1193:=n4_;have BK1203:=n5_;have HB:=n6_;clear n0_ n1_ n2_ n3_ n4_ n5_ n6_;(try clear hb);(try clear hb2);(try clear hk);(try clear hi)))
         go_meet
         case rel=>exact ⟨_,(true),(by first|rfl|(simp;done)|(simp [*];done)),H',⟨by have:=HJ10.out;first|omega|exact Nat.le_refl _⟩,⟨by (with_reducible repeat (first|apply Kd.qq_|apply Kd.qr_|apply Kd.R_drew));exact Kd.R_mono HO_1194002.out (fun _ hk=>hk.2.1)⟩,⟨by (with_reducible repeat (first|apply Kd.qq_|apply Kd.qr_|apply Kd.R_drew));exact Kd.R_mono HO_1204002.out (fun _ hk=>hk.2.1)⟩,⟨by (with_reducible repeat (first|refine qg_ ?_ _|refine qi_ ?_|refine qf_ ?_ _));exact BK1193.out⟩,⟨by (with_reducible repeat (first|refine qg_ ?_ _|refine qi_ ?_|refine qf_ ?_ _));exact BK1203.out⟩,⟨by repeat (first|(with_reducible first|exact HB.out|apply qb_|apply qa_|apply qc_|refine qh_ ?_ GE1193.out|refine qh_ ?_ GE1203.out)|exact HB.out)⟩⟩
      case rest =>
       clear HC41
       try clear c1
       try clear c2
       try clear p2
       try clear c3
       try clear c4
       try clear c5
       try clear c5b0
       try clear c12
       try clear c21
       try clear c23
       try clear c25
       try clear c26
       try clear c27
       try clear c28
       try clear c32
       try clear c33
       try clear c36
       try clear c39
       try clear c46
       try clear c46b0
       try clear c48
       try clear c49
       try clear c53
       try clear hcz17_0
       try clear hcz17_1
       try clear hcz17_2
       try clear hcz24_0
       try clear hcz24_1
       try clear hcz24_2
       try clear hcz29_0
       try clear hcz29_1
       try clear hcz29_2
       try clear hcz30_0
       try clear hcz30_1
       try clear hcz30_2
       try clear hcz33_0
       try clear hcz33_1
       try clear hcz33_2
       try clear hcz34_0
       try clear hcz34_1
       try clear hcz34_2
       try clear hcz50_0
       try clear hcz50_1
       try clear hcz50_2
       try clear hcz51_0
       try clear hcz51_1
       try clear hcz51_2
       try clear hcz54_0
       try clear hcz54_1
       try clear hcz54_2
       try clear hcz55_0
       try clear hcz55_1
       try clear hcz55_2
       try clear hfz17_0
       try clear hfz17_1
       try clear hfz17_2
       try clear hfz24_0
       try clear hfz24_1
       try clear hfz24_2
       try clear hfz29_0
       try clear hfz29_1
       try clear hfz29_2
       try clear hfz30_0
       try clear hfz30_1
       try clear hfz30_2
       try clear hfz33_0
       try clear hfz33_1
       try clear hfz33_2
       try clear hfz34_0
       try clear hfz34_1
       try clear hfz34_2
       try clear hfz50_0
       try clear hfz50_1
       try clear hfz50_2
       try clear hfz51_0
       try clear hfz51_1
       try clear hfz51_2
       try clear hfz54_0
       try clear hfz54_1
       try clear hfz54_2
       try clear hfz55_0
       try clear hfz55_1
       try clear hfz55_2
       try clear p2
       obtain ⟨kq,x69_40,rfl,HA,HJ40,HO_1194002,HO_1204002,BK1193,BK1203,HB⟩:=hcut
       cases kq with
       | zero=>exact absurd HA.out (by simp [qd_.j1])
       | succ kj40 =>
        have H:=HA.out
        clear HA
        simp only [qd_.j1] at H
        by_cases c57:x69_40=true
        ·subst c57
         have H1:(some false)=some r:=by rw [if_pos rfl] at H;exact H
         clear H
         have H:=H1
         clear H1
         obtain rfl:=Option.some.inj H
         go_wp2
         go_ret
         exact ⟨by first|rfl|(simp [qo_,qn_] <;> rfl)|(simp [*,qo_,qn_] <;> rfl),by repeat (first|(with_reducible first|exact HB.out|apply qb_|apply qa_|apply qc_|refine qh_ ?_ GE1193.out|refine qh_ ?_ GE1203.out)|exact HB.out)⟩
        ·replace c57:=Bool.eq_false_iff.mpr c57
         subst c57
         have H1:((qy1_.f kj40 t1197 t1198 t1199 1).bind fun bt1212=>((qp1_.f kj40 t1197 t1198 bt1212.2 1).bind fun t1214=>(if t1214 < 0 then (some false) else (if t1214=bt1212.1 then ((qy_.f kj40 l2).bind fun t1215=>((ql1_.f a0 a1 t1215).bind fun bt1218=>((qj1_.f kj40 bt1218.1 bt1218.2.1 bt1218.2.2.1 t1187 t1188 t1189).bind fun t1225=>(if t1225=true then (qd_.j2 kj40 bt1212.1 (bt1218.2.2.2 != t1192) t1197 t1198 bt1212.2) else (qd_.j2 kj40 bt1212.1 true t1197 t1198 bt1212.2))))) else (some false)))))=some r:=by rw [if_neg (show ¬ (false=true) by decide)] at H;exact H
         clear H
         have H:=H1
         clear H1
         replace H:=Option.bind_eq_some_iff.mp H
         obtain ⟨⟨t1212,t1213⟩,A580,H⟩:=H
         replace H:((qp1_.f kj40 t1197 t1198 t1213 1).bind fun t1214=>(if t1214 < 0 then (some false) else (if t1214=t1212 then ((qy_.f kj40 l2).bind fun t1215=>((ql1_.f a0 a1 t1215).bind fun bt1218=>((qj1_.f kj40 bt1218.1 bt1218.2.1 bt1218.2.2.1 t1187 t1188 t1189).bind fun t1225=>(if t1225=true then (qd_.j2 kj40 t1212 (bt1218.2.2.2 != t1192) t1197 t1198 t1213) else (qd_.j2 kj40 t1212 true t1197 t1198 t1213))))) else (some false))))=some r:=H
         have A58:=aK A580
         clear A580
         replace H:=Option.bind_eq_some_iff.mp H
         obtain ⟨t1214,A590,H⟩:=H
         replace H:(if t1214 < 0 then (some false) else (if t1214=t1212 then ((qy_.f kj40 l2).bind fun t1215=>((ql1_.f a0 a1 t1215).bind fun bt1218=>((qj1_.f kj40 bt1218.1 bt1218.2.1 bt1218.2.2.1 t1187 t1188 t1189).bind fun t1225=>(if t1225=true then (qd_.j2 kj40 t1212 (bt1218.2.2.2 != t1192) t1197 t1198 t1213) else (qd_.j2 kj40 t1212 true t1197 t1198 t1213))))) else (some false)))=some r:=H
         have A59:=aK A590
         clear A590
         by_cases c60:t1214 < 0
         ·rw [if_pos c60] at H
          have c60b0:decide (t1214 < 0)=true:=decide_eq_true c60
          clear c60
          obtain rfl:=Option.some.inj H
          have hnb61:=NB1203_1193.out
          have hnc61:=NB1193_1203.out
          have hcz62_0:wc.cell? ⟨gb1203,0,none⟩=some (.int .i64 t1197):=(qj_ BK1203.out 0).trans rfl
          have hcz62_1:wc.cell? ⟨gb1203,1,none⟩=some (.int .i64 t1198):=(qj_ BK1203.out 1).trans rfl
          have hcz62_2:wc.cell? ⟨gb1203,2,none⟩=some (.slice Ao25 t1199.length co25):=(qj_ BK1203.out 2).trans rfl
          have hfz62_0:=qe_ BK1203.out 0
          have hfz62_1:=qe_ BK1203.out 1
          have hfz62_2:=qe_ BK1203.out 2
          go_wp2_with (first|((with_reducible refine qt_ (f:=34) rfl ?_);refine goesL_ (some 72) rfl rfl Try.func34 (by kernel_rfl) rfl #[.agg #[.int .i64 t1197,.int .i64 t1198,.slice Ao25 t1199.length co25],.int .i64 1] rfl (by (try simp only [List.map_toArray,List.map_cons,List.map_nil]);first|done|rfl|(simp only [List.length_drop,List.length_take];rfl)) ?_;(with_reducible refine (qy1_.calls kj40 t1197 t1198 (fun k_=>some k_=(.slice Ao25 t1199.length co25:Value).ownBlock) (.slice Ao25 t1199.length co25) t1199 1 t1212 t1213 w _ ?side1 ?side2 A58.out).mono ?_);(case side1=>repeat (first|(with_reducible first|exact HB.out|apply qb_|apply qa_|apply qc_|refine qh_ ?_ GE1193.out|refine qh_ ?_ GE1203.out)|exact HB.out));(case side2=>exact Kd.R_tight rfl HO_1204002.out);rintro e w63 ⟨rfl,hy0,hb,hkp⟩;refine ⟨_,rfl,?_⟩;have n0_:=aK (Kd.R_mono (ok':=fun k_=>some k_ ≠ (.slice Ao25 t1199.length co25:Value).ownBlock) (Kd.R_keptB (HO_1194002.out) hkp (fun k_ hk_ hs_=>(hk_) hs_)) (fun k_ hk_=>hk_.1));have n1_:=aK (Kd.R_reok rfl hy0 (fun k_ e_=>HO_1204002.out.1 k_ e_));have n2_:=aK (blk_kept (by (with_reducible repeat (first|refine qg_ ?_ _|refine qi_ ?_|refine qf_ ?_ _));exact BK1193.out) hkp (fun hs_=>(fun e_=>(Kd.R_ne HO_1204002.out BK1193.out (by decide)) e_) hs_));have n3_:=aK (blk_kept (by (with_reducible repeat (first|refine qg_ ?_ _|refine qi_ ?_|refine qf_ ?_ _));exact BK1203.out) hkp (fun hs_=>(fun e_=>(Kd.R_ne HO_1204002.out BK1203.out (by decide)) e_) hs_));have n4_:=aK (hb);clear HO_1194002;clear HO_1204002;clear BK1193;clear BK1203;clear HB;have HO_1194002:=n0_;have HO_1204002:=n1_;have BK1193:=n2_;have BK1203:=n3_;have HB:=n4_;clear n0_ n1_ n2_ n3_ n4_;(try clear hb);(try clear hkp);(try clear hy0);have hcz64_0:w63.cell? ⟨gb1203,0,none⟩=some (.int .i64 t1197):=(qj_ BK1203.out 0).trans rfl;have hcz64_1:w63.cell? ⟨gb1203,1,none⟩=some (.int .i64 t1198):=(qj_ BK1203.out 1).trans rfl;have hcz64_2:w63.cell? ⟨gb1203,2,none⟩=some (.slice Ao25 t1199.length co25):=(qj_ BK1203.out 2).trans rfl;have hfz64_0:=qe_ BK1203.out 0;have hfz64_1:=qe_ BK1203.out 1;have hfz64_2:=qe_ BK1203.out 2)|((with_reducible refine qt_ (f:=39) rfl ?_);refine goesL_ (some 75) rfl rfl Try.func39 (by kernel_rfl) rfl #[.agg #[.int .i64 t1197,.int .i64 t1198,.slice Ao25 t1213.length co25],.int .i64 1] rfl (by (try simp only [List.map_toArray,List.map_cons,List.map_nil]);first|done|(rw [show t1213.length=t1199.length from (Kd.qs1_ HO_1204002.out).1.symm] <;> rfl)|rfl|(simp only [List.length_drop,List.length_take];rfl)) ?_;(with_reducible refine (qp1_.calls kj40 t1197 t1198 _ _ t1213 1 t1214 _ ?side1 ?side2 A59.out).mono ?_);(case side1=>repeat (first|exact (Kd.qs1_ HO_1204002.out).2.2|(with_reducible refine Kd.qt2_ ?_ _)|(with_reducible refine Kd.qs2_ ?_ _)|(with_reducible refine Kd.C_drew ?_)));(case side2=>rw [show t1213.length=t1199.length from (Kd.qs1_ HO_1204002.out).1.symm];exact (Kd.qs1_ HO_1204002.out).2.1);rintro e w65 ⟨rfl,hb⟩;refine ⟨_,rfl,?_⟩;have n0_:=aK (Kd.qt1_ (by (with_reducible repeat (first|apply Kd.qq_|apply Kd.qr_|apply Kd.R_drew));exact HO_1194002.out) hb);have n1_:=aK (Kd.qt1_ (by (with_reducible repeat (first|apply Kd.qq_|apply Kd.qr_|apply Kd.R_drew));exact HO_1204002.out) hb);have n2_:=aK (qm_ (g:=gb1193) (o:=.cells #[.int .i64 t1187,.int .i64 t1188,.slice Ao18 t1189.length co18] 38 (0,0)) (by (with_reducible repeat (first|refine qg_ ?_ _|refine qi_ ?_|refine qf_ ?_ _));exact BK1193.out) hb);have n3_:=aK (qm_ (g:=gb1203) (o:=.cells #[.int .i64 t1197,.int .i64 t1198,.slice Ao25 t1199.length co25] 38 (0,0)) (by (with_reducible repeat (first|refine qg_ ?_ _|refine qi_ ?_|refine qf_ ?_ _));exact BK1203.out) hb);have n4_:=aK (qk_ (by repeat (first|(with_reducible first|exact HB.out|apply qb_|apply qa_|apply qc_|refine qh_ ?_ GE1193.out|refine qh_ ?_ GE1203.out)|exact HB.out)) hb);clear HO_1194002;clear HO_1204002;clear BK1193;clear BK1203;clear HB;have HO_1194002:=n0_;have HO_1204002:=n1_;have BK1193:=n2_;have BK1203:=n3_;have HB:=n4_;clear n0_ n1_ n2_ n3_ n4_;(try clear hb);(try clear hb2);(try clear hk);(try clear hi)))
          go_ret
          exact ⟨by first|rfl|(simp [qo_,qn_] <;> rfl)|(simp [*,qo_,qn_] <;> rfl),by repeat (first|(with_reducible first|exact HB.out|apply qb_|apply qa_|apply qc_|refine qh_ ?_ GE1193.out|refine qh_ ?_ GE1203.out)|exact HB.out)⟩
         ·rw [if_neg c60] at H
          have c60b0:decide (t1214 < 0)=false:=decide_eq_false c60
          clear c60
          by_cases c66:t1214=t1212
          ·rw [if_pos c66] at H
           have c66b0:(t1214 == t1212)=true:=beq_iff_eq.mpr c66
           have c66b1:(t1214 != t1212)=false:=bne_eq_false_iff_eq.mpr c66
           clear c66
           replace H:=Option.bind_eq_some_iff.mp H
           obtain ⟨t1215,A670,H⟩:=H
           replace H:((ql1_.f a0 a1 t1215).bind fun bt1218=>((qj1_.f kj40 bt1218.1 bt1218.2.1 bt1218.2.2.1 t1187 t1188 t1189).bind fun t1225=>(if t1225=true then (qd_.j2 kj40 t1212 (bt1218.2.2.2 != t1192) t1197 t1198 t1213) else (qd_.j2 kj40 t1212 true t1197 t1198 t1213))))=some r:=H
           have A67:=aK A670
           clear A670
           replace H:=Option.bind_eq_some_iff.mp H
           obtain ⟨⟨t1218,t1219,t1220,t1223⟩,A680,H⟩:=H
           replace H:((qj1_.f kj40 t1218 t1219 t1220 t1187 t1188 t1189).bind fun t1225=>(if t1225=true then (qd_.j2 kj40 t1212 (t1223 != t1192) t1197 t1198 t1213) else (qd_.j2 kj40 t1212 true t1197 t1198 t1213)))=some r:=H
           have A68:=aK A680
           clear A680
           have HC69:=aK H
           clear H
           have hnb70:=NB1203_1193.out
           have hnc70:=NB1193_1203.out
           have hcz71_0:wc.cell? ⟨gb1203,0,none⟩=some (.int .i64 t1197):=(qj_ BK1203.out 0).trans rfl
           have hcz71_1:wc.cell? ⟨gb1203,1,none⟩=some (.int .i64 t1198):=(qj_ BK1203.out 1).trans rfl
           have hcz71_2:wc.cell? ⟨gb1203,2,none⟩=some (.slice Ao25 t1199.length co25):=(qj_ BK1203.out 2).trans rfl
           have hfz71_0:=qe_ BK1203.out 0
           have hfz71_1:=qe_ BK1203.out 1
           have hfz71_2:=qe_ BK1203.out 2
           go_upto_region 25 with (first|((with_reducible refine qt_ (f:=34) rfl ?_);refine goesL_ (some 72) rfl rfl Try.func34 (by kernel_rfl) rfl #[.agg #[.int .i64 t1197,.int .i64 t1198,.slice Ao25 t1199.length co25],.int .i64 1] rfl (by (try simp only [List.map_toArray,List.map_cons,List.map_nil]);first|done|rfl|(simp only [List.length_drop,List.length_take];rfl)) ?_;(with_reducible refine (qy1_.calls kj40 t1197 t1198 (fun k_=>some k_=(.slice Ao25 t1199.length co25:Value).ownBlock) (.slice Ao25 t1199.length co25) t1199 1 t1212 t1213 w _ ?side1 ?side2 A58.out).mono ?_);(case side1=>repeat (first|(with_reducible first|exact HB.out|apply qb_|apply qa_|apply qc_|refine qh_ ?_ GE1193.out|refine qh_ ?_ GE1203.out)|exact HB.out));(case side2=>exact Kd.R_tight rfl HO_1204002.out);rintro e w72 ⟨rfl,hy0,hb,hkp⟩;refine ⟨_,rfl,?_⟩;have n0_:=aK (Kd.R_mono (ok':=fun k_=>some k_ ≠ (.slice Ao25 t1199.length co25:Value).ownBlock) (Kd.R_keptB (HO_1194002.out) hkp (fun k_ hk_ hs_=>(hk_) hs_)) (fun k_ hk_=>hk_.1));have n1_:=aK (Kd.R_reok rfl hy0 (fun k_ e_=>HO_1204002.out.1 k_ e_));have n2_:=aK (blk_kept (by (with_reducible repeat (first|refine qg_ ?_ _|refine qi_ ?_|refine qf_ ?_ _));exact BK1193.out) hkp (fun hs_=>(fun e_=>(Kd.R_ne HO_1204002.out BK1193.out (by decide)) e_) hs_));have n3_:=aK (blk_kept (by (with_reducible repeat (first|refine qg_ ?_ _|refine qi_ ?_|refine qf_ ?_ _));exact BK1203.out) hkp (fun hs_=>(fun e_=>(Kd.R_ne HO_1204002.out BK1203.out (by decide)) e_) hs_));have n4_:=aK (hb);clear HO_1194002;clear HO_1204002;clear BK1193;clear BK1203;clear HB;have HO_1194002:=n0_;have HO_1204002:=n1_;have BK1193:=n2_;have BK1203:=n3_;have HB:=n4_;clear n0_ n1_ n2_ n3_ n4_;(try clear hb);(try clear hkp);(try clear hy0);have hcz73_0:w72.cell? ⟨gb1203,0,none⟩=some (.int .i64 t1197):=(qj_ BK1203.out 0).trans rfl;have hcz73_1:w72.cell? ⟨gb1203,1,none⟩=some (.int .i64 t1198):=(qj_ BK1203.out 1).trans rfl;have hcz73_2:w72.cell? ⟨gb1203,2,none⟩=some (.slice Ao25 t1199.length co25):=(qj_ BK1203.out 2).trans rfl;have hfz73_0:=qe_ BK1203.out 0;have hfz73_1:=qe_ BK1203.out 1;have hfz73_2:=qe_ BK1203.out 2)|((with_reducible refine qt_ (f:=39) rfl ?_);refine goesL_ (some 75) rfl rfl Try.func39 (by kernel_rfl) rfl #[.agg #[.int .i64 t1197,.int .i64 t1198,.slice Ao25 t1213.length co25],.int .i64 1] rfl (by (try simp only [List.map_toArray,List.map_cons,List.map_nil]);first|done|(rw [show t1213.length=t1199.length from (Kd.qs1_ HO_1204002.out).1.symm] <;> rfl)|rfl|(simp only [List.length_drop,List.length_take];rfl)) ?_;(with_reducible refine (qp1_.calls kj40 t1197 t1198 _ _ t1213 1 t1214 _ ?side1 ?side2 A59.out).mono ?_);(case side1=>repeat (first|exact (Kd.qs1_ HO_1204002.out).2.2|(with_reducible refine Kd.qt2_ ?_ _)|(with_reducible refine Kd.qs2_ ?_ _)|(with_reducible refine Kd.C_drew ?_)));(case side2=>rw [show t1213.length=t1199.length from (Kd.qs1_ HO_1204002.out).1.symm];exact (Kd.qs1_ HO_1204002.out).2.1);rintro e w74 ⟨rfl,hb⟩;refine ⟨_,rfl,?_⟩;have n0_:=aK (Kd.qt1_ (by (with_reducible repeat (first|apply Kd.qq_|apply Kd.qr_|apply Kd.R_drew));exact HO_1194002.out) hb);have n1_:=aK (Kd.qt1_ (by (with_reducible repeat (first|apply Kd.qq_|apply Kd.qr_|apply Kd.R_drew));exact HO_1204002.out) hb);have n2_:=aK (qm_ (g:=gb1193) (o:=.cells #[.int .i64 t1187,.int .i64 t1188,.slice Ao18 t1189.length co18] 38 (0,0)) (by (with_reducible repeat (first|refine qg_ ?_ _|refine qi_ ?_|refine qf_ ?_ _));exact BK1193.out) hb);have n3_:=aK (qm_ (g:=gb1203) (o:=.cells #[.int .i64 t1197,.int .i64 t1198,.slice Ao25 t1199.length co25] 38 (0,0)) (by (with_reducible repeat (first|refine qg_ ?_ _|refine qi_ ?_|refine qf_ ?_ _));exact BK1203.out) hb);have n4_:=aK (qk_ (by repeat (first|(with_reducible first|exact HB.out|apply qb_|apply qa_|apply qc_|refine qh_ ?_ GE1193.out|refine qh_ ?_ GE1203.out)|exact HB.out)) hb);clear HO_1194002;clear HO_1204002;clear BK1193;clear BK1203;clear HB;have HO_1194002:=n0_;have HO_1204002:=n1_;have BK1193:=n2_;have BK1203:=n3_;have HB:=n4_;clear n0_ n1_ n2_ n3_ n4_;(try clear hb);(try clear hb2);(try clear hk);(try clear hi))|((with_reducible refine qt_ (f:=23) rfl ?_);refine goesL_ (some 85) rfl rfl Try.func23 (by kernel_rfl) rfl #[.slice A2 l2.length c2] rfl (by (try simp only [List.map_toArray,List.map_cons,List.map_nil]);first|done|rfl|(simp only [List.length_drop,List.length_take];rfl)) ?_;(with_reducible refine (qy_.calls kj40 _ _ l2 t1215 _ ?side1 ?side2 A67.out).mono ?_);(case side1=>repeat (first|exact (Kd.qi2_ HR2.out HB.out)|(with_reducible refine Kd.qt2_ ?_ _)|(with_reducible refine Kd.qs2_ ?_ _)|(with_reducible refine Kd.C_drew ?_)));(case side2=>exact HC2.out);rintro e w75 ⟨v1216,rfl,ho0,hb⟩;refine ⟨_,rfl,?_⟩;have n0_:=aK (Kd.qy2_ (by (with_reducible repeat (first|apply Kd.qq_|apply Kd.qr_|apply Kd.R_drew));exact HO_1194002.out) (Kd.R_base ho0) hb);have n1_:=aK (Kd.qy2_ (by (with_reducible repeat (first|apply Kd.qq_|apply Kd.qr_|apply Kd.R_drew));exact HO_1204002.out) (Kd.R_base ho0) hb);have n2_:=aK (Kd.qm2_ (Kd.R_new' (Kd.R_new' ho0 (Kd.R_lt (by (with_reducible repeat (first|apply Kd.qq_|apply Kd.qr_|apply Kd.R_drew));exact HO_1194002.out))) (Kd.R_lt (by (with_reducible repeat (first|apply Kd.qq_|apply Kd.qr_|apply Kd.R_drew));exact HO_1204002.out))) (ql_ (by repeat (first|(with_reducible first|exact HB.out|apply qb_|apply qa_|apply qc_|refine qh_ ?_ GE1193.out|refine qh_ ?_ GE1203.out)|exact HB.out))));have n3_:=aK (qm_ (g:=gb1193) (o:=.cells #[.int .i64 t1187,.int .i64 t1188,.slice Ao18 t1189.length co18] 38 (0,0)) (by (with_reducible repeat (first|refine qg_ ?_ _|refine qi_ ?_|refine qf_ ?_ _));exact BK1193.out) hb);have n4_:=aK (qm_ (g:=gb1203) (o:=.cells #[.int .i64 t1197,.int .i64 t1198,.slice Ao25 t1199.length co25] 38 (0,0)) (by (with_reducible repeat (first|refine qg_ ?_ _|refine qi_ ?_|refine qf_ ?_ _));exact BK1203.out) hb);have n5_:=aK (qk_ (by repeat (first|(with_reducible first|exact HB.out|apply qb_|apply qa_|apply qc_|refine qh_ ?_ GE1193.out|refine qh_ ?_ GE1203.out)|exact HB.out)) hb);clear HO_1194002;clear HO_1204002;clear BK1193;clear BK1203;clear HB;have HO_1194002:=n0_;have HO_1204002:=n1_;have HO1217:=n2_;have BK1193:=n3_;have BK1203:=n4_;have HB:=n5_;clear n0_ n1_ n2_ n3_ n4_ n5_;(try clear hb);(try clear hb2);(try clear hk);(try clear hi);(try clear ho0);obtain ⟨Ao76,co76,eo76⟩:=Kd.qh2_ HO1217.out;subst eo76)|((with_reducible refine qt_ (f:=58) rfl ?_);refine goesL_ (some 86) rfl rfl Try.func58 (by kernel_rfl) rfl #[.int .i64 a0,.int .i64 a1,.slice Ao76 t1215.length co76] rfl (by (try simp only [List.map_toArray,List.map_cons,List.map_nil]);first|done|rfl|(simp only [List.length_drop,List.length_take];rfl)) ?_;(with_reducible refine (ql1_.calls a0 a1 _ _ t1215 t1218 t1219 t1220 t1223 _ ?side1 ?side2 A68.out).mono ?_);(case side1=>repeat (first|exact (Kd.qs1_ HO1217.out).2.2|(with_reducible refine Kd.qt2_ ?_ _)|(with_reducible refine Kd.qs2_ ?_ _)|(with_reducible refine Kd.C_drew ?_)));(case side2=>exact (Kd.qs1_ HO1217.out).2.1);rintro e w77 ⟨v1221,rfl,ho0,hb⟩;refine ⟨_,rfl,?_⟩;have n0_:=aK (Kd.qy2_ (by (with_reducible repeat (first|apply Kd.qq_|apply Kd.qr_|apply Kd.R_drew));exact HO_1194002.out) (Kd.R_base ho0) hb);have n1_:=aK (Kd.qy2_ (by (with_reducible repeat (first|apply Kd.qq_|apply Kd.qr_|apply Kd.R_drew));exact HO_1204002.out) (Kd.R_base ho0) hb);have n2_:=aK (Kd.qy2_ (by (with_reducible repeat (first|apply Kd.qq_|apply Kd.qr_|apply Kd.R_drew));exact HO1217.out) (Kd.R_base ho0) hb);have n3_:=aK (Kd.qm2_ (Kd.R_new' (Kd.R_new' (Kd.R_new' ho0 (Kd.R_lt (by (with_reducible repeat (first|apply Kd.qq_|apply Kd.qr_|apply Kd.R_drew));exact HO_1194002.out))) (Kd.R_lt (by (with_reducible repeat (first|apply Kd.qq_|apply Kd.qr_|apply Kd.R_drew));exact HO_1204002.out))) (Kd.R_lt (by (with_reducible repeat (first|apply Kd.qq_|apply Kd.qr_|apply Kd.R_drew));exact HO1217.out))) (ql_ (by repeat (first|(with_reducible first|exact HB.out|apply qb_|apply qa_|apply qc_|refine qh_ ?_ GE1193.out|refine qh_ ?_ GE1203.out)|exact HB.out))));have n4_:=aK (qm_ (g:=gb1193) (o:=.cells #[.int .i64 t1187,.int .i64 t1188,.slice Ao18 t1189.length co18] 38 (0,0)) (by (with_reducible repeat (first|refine qg_ ?_ _|refine qi_ ?_|refine qf_ ?_ _));exact BK1193.out) hb);have n5_:=aK (qm_ (g:=gb1203) (o:=.cells #[.int .i64 t1197,.int .i64 t1198,.slice Ao25 t1199.length co25] 38 (0,0)) (by (with_reducible repeat (first|refine qg_ ?_ _|refine qi_ ?_|refine qf_ ?_ _));exact BK1203.out) hb);have n6_:=aK (qk_ (by repeat (first|(with_reducible first|exact HB.out|apply qb_|apply qa_|apply qc_|refine qh_ ?_ GE1193.out|refine qh_ ?_ GE1203.out)|exact HB.out)) hb);clear HO_1194002;clear HO_1204002;clear HO1217;clear BK1193;clear BK1203;clear HB;have HO_1194002:=n0_;have HO_1204002:=n1_;have HO1217:=n2_;have HO1222:=n3_;have BK1193:=n4_;have BK1203:=n5_;have HB:=n6_;clear n0_ n1_ n2_ n3_ n4_ n5_ n6_;(try clear hb);(try clear hb2);(try clear hk);(try clear hi);(try clear ho0))|((with_reducible refine qi1_ (N:=16) rfl ?_);refine qe1_ ?hg (N:=16) ?hd (cs:=#[.int .i64 0,.int .i64 0,.slice none 0 0]) (t:=38) ?hr ?_;(case hd=>rfl);(case hg=>rfl);(case hr=>first|(go_simp;done)|(go_simp;rfl));intro gb1224 hg w78 hbox hb;have n0_:=aK (Kd.qt1_ (by (with_reducible repeat (first|apply Kd.qq_|apply Kd.qr_|apply Kd.R_drew));exact HO_1194002.out) hb);have n1_:=aK (Kd.qt1_ (by (with_reducible repeat (first|apply Kd.qq_|apply Kd.qr_|apply Kd.R_drew));exact HO_1204002.out) hb);have n2_:=aK (Kd.qt1_ (by (with_reducible repeat (first|apply Kd.qq_|apply Kd.qr_|apply Kd.R_drew));exact HO1217.out) hb);have n3_:=aK (Kd.qt1_ (by (with_reducible repeat (first|apply Kd.qq_|apply Kd.qr_|apply Kd.R_drew));exact HO1222.out) hb);have n4_:=aK (qm_ (g:=gb1193) (o:=.cells #[.int .i64 t1187,.int .i64 t1188,.slice Ao18 t1189.length co18] 38 (0,0)) (by (with_reducible repeat (first|refine qg_ ?_ _|refine qi_ ?_|refine qf_ ?_ _));exact BK1193.out) hb);have n5_:=aK (qm_ (g:=gb1203) (o:=.cells #[.int .i64 t1197,.int .i64 t1198,.slice Ao25 t1199.length co25] 38 (0,0)) (by (with_reducible repeat (first|refine qg_ ?_ _|refine qi_ ?_|refine qf_ ?_ _));exact BK1203.out) hb);have n6_:=aK (qk_ (by repeat (first|(with_reducible first|exact HB.out|apply qb_|apply qa_|apply qc_|refine qh_ ?_ GE1193.out|refine qh_ ?_ GE1203.out)|exact HB.out)) hb);have n7_:=aK (hbox);have n8_:=aK ((by rw [hg];exact (ql_ (by repeat (first|(with_reducible first|exact HB.out|apply qb_|apply qa_|apply qc_|refine qh_ ?_ GE1193.out|refine qh_ ?_ GE1203.out)|exact HB.out))):w.heap.size≤gb1224));have n9_:=aK ((by rw [hg];exact (ql_ (by repeat (first|(with_reducible first|exact HB.out|apply qb_|apply qa_|apply qc_|refine qh_ ?_ GE1193.out|refine qh_ ?_ GE1203.out)|exact HB.out))):w.heap.size≤gb1224));have n10_:=aK ((by rw [hg];exact Nat.ne_of_lt (blk_lt (g:=gb1193) (o:=.cells #[.int .i64 t1187,.int .i64 t1188,.slice Ao18 t1189.length co18] 38 (0,0)) (by (with_reducible repeat (first|refine qg_ ?_ _|refine qi_ ?_|refine qf_ ?_ _));exact BK1193.out)):gb1193 ≠ gb1224));have n11_:=aK ((by rw [hg];exact Nat.ne_of_gt (blk_lt (g:=gb1193) (o:=.cells #[.int .i64 t1187,.int .i64 t1188,.slice Ao18 t1189.length co18] 38 (0,0)) (by (with_reducible repeat (first|refine qg_ ?_ _|refine qi_ ?_|refine qf_ ?_ _));exact BK1193.out)):gb1224 ≠ gb1193));have n12_:=aK ((by rw [hg];exact Nat.ne_of_lt (blk_lt (g:=gb1203) (o:=.cells #[.int .i64 t1197,.int .i64 t1198,.slice Ao25 t1199.length co25] 38 (0,0)) (by (with_reducible repeat (first|refine qg_ ?_ _|refine qi_ ?_|refine qf_ ?_ _));exact BK1203.out)):gb1203 ≠ gb1224));have n13_:=aK ((by rw [hg];exact Nat.ne_of_gt (blk_lt (g:=gb1203) (o:=.cells #[.int .i64 t1197,.int .i64 t1198,.slice Ao25 t1199.length co25] 38 (0,0)) (by (with_reducible repeat (first|refine qg_ ?_ _|refine qi_ ?_|refine qf_ ?_ _));exact BK1203.out)):gb1224 ≠ gb1203));clear HO_1194002;clear HO_1204002;clear HO1217;clear HO1222;clear BK1193;clear BK1203;clear HB;have HO_1194002:=n0_;have HO_1204002:=n1_;have HO1217:=n2_;have HO1222:=n3_;have BK1193:=n4_;have BK1203:=n5_;have HB:=n6_;have BK1224:=n7_;have GW1224:=n8_;have GE1224:=n9_;have NB1193_1224:=n10_;have NB1224_1193:=n11_;have NB1203_1224:=n12_;have NB1224_1203:=n13_;clear n0_ n1_ n2_ n3_ n4_ n5_ n6_ n7_ n8_ n9_ n10_ n11_ n12_ n13_;clear hb hbox hg;have hnb79:=NB1224_1193.out;have hnc79:=NB1193_1224.out;have hnb80:=NB1224_1203.out;have hnc80:=NB1203_1224.out;have hcz81_0:w78.cell? ⟨gb1224,0,none⟩=some (.int .i64 0):=(qj_ BK1224.out 0).trans rfl;have hcz81_1:w78.cell? ⟨gb1224,1,none⟩=some (.int .i64 0):=(qj_ BK1224.out 1).trans rfl;have hcz81_2:w78.cell? ⟨gb1224,2,none⟩=some (.slice none 0 0):=(qj_ BK1224.out 2).trans rfl;have hfz81_0:=qe_ BK1224.out 0;have hfz81_1:=qe_ BK1224.out 1;have hfz81_2:=qe_ BK1224.out 2;obtain ⟨Ao82,co82,eo82⟩:=Kd.qh2_ HO1222.out;subst eo82))
           (try simp only [Act.put,List.setIfInBounds_toArray,List.set_cons_zero,List.set_cons_succ])
           go_cut [97] (fun v97 wc=>∃ (kq:Nat) (x97_68:Bool),v97=.bool x97_68∧Aside0 (qd_.j2 kq t1212 x97_68 t1197 t1198 t1213=some r)∧Aside0 (kq≤kj40)∧Aside0 (Kd.R k79 79 wc w.heap.size (fun k_=>some k_ ≠ ((.slice Ao25 t1199.length co25):Value).ownBlock∧some k_ ≠ ((.slice Ao82 t1220.length co82):Value).ownBlock) (.slice Ao18 t1189.length co18) t1189)∧Aside0 (Kd.R k79 79 wc w.heap.size (fun k_=>some k_ ≠ ((.slice Ao18 t1189.length co18):Value).ownBlock∧some k_ ≠ ((.slice Ao82 t1220.length co82):Value).ownBlock) (.slice Ao25 t1199.length co25) t1213)∧Aside0 (Kd.R k79 79 wc w.heap.size (fun k_=>some k_ ≠ ((.slice Ao18 t1189.length co18):Value).ownBlock∧some k_ ≠ ((.slice Ao25 t1199.length co25):Value).ownBlock) (.slice Ao82 t1220.length co82) t1220)∧Aside0 (wc.heap[gb1193]?=some (.cells #[.int .i64 t1187,.int .i64 t1188,(.slice Ao18 t1189.length co18)] 38 (0,0)))∧Aside0 (wc.heap[gb1203]?=some (.cells #[.int .i64 t1197,.int .i64 t1198,(.slice Ao25 t1199.length co25)] 38 (0,0)))∧Aside0 (wc.heap[gb1224]?=some (.cells #[.int .i64 t1218,.int .i64 t1219,(.slice Ao82 t1220.length co82)] 38 (0,0)))∧Aside0 (Below w.heap.size w wc))
           case first =>
            have H:=HC69.out
            clear HC69
            replace H:=Option.bind_eq_some_iff.mp H
            obtain ⟨t1225,A830,H⟩:=H
            replace H:(if t1225=true then (qd_.j2 kj40 t1212 (t1223 != t1192) t1197 t1198 t1213) else (qd_.j2 kj40 t1212 true t1197 t1198 t1213))=some r:=H
            have A83:=aK A830
            clear A830
            by_cases c84:t1225=true
            ·subst c84
             have H1:(qd_.j2 kj40 t1212 (t1223 != t1192) t1197 t1198 t1213)=some r:=by rw [if_pos rfl] at H;exact H
             clear H
             have H:=H1
             clear H1
             have H':=aK H
             clear H
             have hnb85:=NB1224_1193.out
             have hnc85:=NB1193_1224.out
             have hnb86:=NB1224_1203.out
             have hnc86:=NB1203_1224.out
             have hcz87_0:w78.cell? ⟨gb1224,0,none⟩=some (.int .i64 0):=(qj_ BK1224.out 0).trans rfl
             have hcz87_1:w78.cell? ⟨gb1224,1,none⟩=some (.int .i64 0):=(qj_ BK1224.out 1).trans rfl
             have hcz87_2:w78.cell? ⟨gb1224,2,none⟩=some (.slice none 0 0):=(qj_ BK1224.out 2).trans rfl
             have hfz87_0:=qe_ BK1224.out 0
             have hfz87_1:=qe_ BK1224.out 1
             have hfz87_2:=qe_ BK1224.out 2
             have hnb88:=NB1193_1203.out
             have hnc88:=NB1203_1193.out
             have hcz89_0:w78.cell? ⟨gb1193,0,none⟩=some (.int .i64 t1187):=(qj_ BK1193.out 0).trans rfl
             have hcz89_1:w78.cell? ⟨gb1193,1,none⟩=some (.int .i64 t1188):=(qj_ BK1193.out 1).trans rfl
             have hcz89_2:w78.cell? ⟨gb1193,2,none⟩=some (.slice Ao18 t1189.length co18):=(qj_ BK1193.out 2).trans rfl
             have hfz89_0:=qe_ BK1193.out 0
             have hfz89_1:=qe_ BK1193.out 1
             have hfz89_2:=qe_ BK1193.out 2
             go_wp2_with (first|((with_reducible refine qt_ (f:=33) rfl ?_);refine goesL_ (some 91) rfl rfl Try.func33 (by kernel_rfl) rfl #[.agg #[.int .i64 t1218,.int .i64 t1219,.slice Ao82 t1220.length co82],.agg #[.int .i64 t1187,.int .i64 t1188,.slice Ao18 t1189.length co18]] rfl (by (try simp only [List.map_toArray,List.map_cons,List.map_nil]);first|done|rfl|(simp only [List.length_drop,List.length_take];rfl)) ?_;(with_reducible refine (qj1_.calls kj40 t1218 t1219 _ _ t1220 t1187 t1188 _ _ t1189 true _ ?side1 ?side2 ?side3 ?side4 A83.out).mono ?_);(case side1=>refine (Kd.qs1_ (e:=79) (base:=w.heap.size) (ok:=fun k_=>(((True∧some k_ ≠ (.slice Ao18 t1189.length co18:Value).ownBlock)∧some k_ ≠ (.slice Ao25 t1199.length co25:Value).ownBlock)∧some k_ ≠ (.slice Ao76 t1215.length co76:Value).ownBlock)) (n:=t1220.length) (c:=co82) ?_).2.2;exact (by (with_reducible repeat (first|apply Kd.qq_|apply Kd.qr_|apply Kd.R_drew));exact (Kd.R_mono (Kd.R_far (p:=⟨gb1224,2,none⟩) (Kd.R_far (p:=⟨gb1224,1,none⟩) (Kd.R_far (p:=⟨gb1224,0,none⟩) (Kd.qr2_ HO1222.out BK1224.out (by decide)) (fun _ hk=>hk.2) (.int .i64 t1218)) (fun _ hk=>hk.2) (.int .i64 t1219)) (fun _ hk=>hk.2) (.slice Ao82 t1220.length co82)) (fun _ h_=>h_.1))));(case side2=>exact (Kd.qs1_ HO1222.out).2.1);(case side3=>refine (Kd.qs1_ (e:=79) (base:=w.heap.size) (ok:=fun k_=>((some k_ ≠ (.slice Ao25 t1199.length co25:Value).ownBlock∧some k_ ≠ (.slice Ao76 t1215.length co76:Value).ownBlock)∧some k_ ≠ (.slice Ao82 t1220.length co82:Value).ownBlock)) (n:=t1189.length) (c:=co18) ?_).2.2;exact (by (with_reducible repeat (first|apply Kd.qq_|apply Kd.qr_|apply Kd.R_drew));exact (Kd.R_mono (Kd.R_far (p:=⟨gb1224,2,none⟩) (Kd.R_far (p:=⟨gb1224,1,none⟩) (Kd.R_far (p:=⟨gb1224,0,none⟩) (Kd.qr2_ HO_1194002.out BK1224.out (by decide)) (fun _ hk=>hk.2) (.int .i64 t1218)) (fun _ hk=>hk.2) (.int .i64 t1219)) (fun _ hk=>hk.2) (.slice Ao82 t1220.length co82)) (fun _ h_=>h_.1))));(case side4=>exact (Kd.qs1_ HO_1194002.out).2.1);rintro e w90 ⟨rfl,hb⟩;refine ⟨_,rfl,?_⟩;have n0_:=aK (Kd.qt1_ (by (with_reducible repeat (first|apply Kd.qq_|apply Kd.qr_|apply Kd.R_drew));exact (Kd.R_mono (Kd.R_far (p:=⟨gb1224,2,none⟩) (Kd.R_far (p:=⟨gb1224,1,none⟩) (Kd.R_far (p:=⟨gb1224,0,none⟩) (Kd.qr2_ HO_1194002.out BK1224.out (by decide)) (fun _ hk=>hk.2) (.int .i64 t1218)) (fun _ hk=>hk.2) (.int .i64 t1219)) (fun _ hk=>hk.2) (.slice Ao82 t1220.length co82)) (fun _ h_=>h_.1))) hb);have n1_:=aK (Kd.qt1_ (by (with_reducible repeat (first|apply Kd.qq_|apply Kd.qr_|apply Kd.R_drew));exact (Kd.R_mono (Kd.R_far (p:=⟨gb1224,2,none⟩) (Kd.R_far (p:=⟨gb1224,1,none⟩) (Kd.R_far (p:=⟨gb1224,0,none⟩) (Kd.qr2_ HO_1204002.out BK1224.out (by decide)) (fun _ hk=>hk.2) (.int .i64 t1218)) (fun _ hk=>hk.2) (.int .i64 t1219)) (fun _ hk=>hk.2) (.slice Ao82 t1220.length co82)) (fun _ h_=>h_.1))) hb);have n2_:=aK (Kd.qt1_ (by (with_reducible repeat (first|apply Kd.qq_|apply Kd.qr_|apply Kd.R_drew));exact (Kd.R_mono (Kd.R_far (p:=⟨gb1224,2,none⟩) (Kd.R_far (p:=⟨gb1224,1,none⟩) (Kd.R_far (p:=⟨gb1224,0,none⟩) (Kd.qr2_ HO1217.out BK1224.out (by decide)) (fun _ hk=>hk.2) (.int .i64 t1218)) (fun _ hk=>hk.2) (.int .i64 t1219)) (fun _ hk=>hk.2) (.slice Ao82 t1220.length co82)) (fun _ h_=>h_.1))) hb);have n3_:=aK (Kd.qt1_ (by (with_reducible repeat (first|apply Kd.qq_|apply Kd.qr_|apply Kd.R_drew));exact (Kd.R_mono (Kd.R_far (p:=⟨gb1224,2,none⟩) (Kd.R_far (p:=⟨gb1224,1,none⟩) (Kd.R_far (p:=⟨gb1224,0,none⟩) (Kd.qr2_ HO1222.out BK1224.out (by decide)) (fun _ hk=>hk.2) (.int .i64 t1218)) (fun _ hk=>hk.2) (.int .i64 t1219)) (fun _ hk=>hk.2) (.slice Ao82 t1220.length co82)) (fun _ h_=>h_.1))) hb);have n4_:=aK (qm_ (g:=gb1193) (o:=.cells #[.int .i64 t1187,.int .i64 t1188,.slice Ao18 t1189.length co18] 38 (0,0)) (by (with_reducible repeat (first|refine qg_ ?_ _|refine qi_ ?_|refine qf_ ?_ _));refine qa2_ ?_ NB1193_1224.out _;(with_reducible repeat (first|refine qg_ ?_ _|refine qi_ ?_|refine qf_ ?_ _));refine qa2_ ?_ NB1193_1224.out _;(with_reducible repeat (first|refine qg_ ?_ _|refine qi_ ?_|refine qf_ ?_ _));refine qa2_ ?_ NB1193_1224.out _;(with_reducible repeat (first|refine qg_ ?_ _|refine qi_ ?_|refine qf_ ?_ _));exact BK1193.out) hb);have n5_:=aK (qm_ (g:=gb1203) (o:=.cells #[.int .i64 t1197,.int .i64 t1198,.slice Ao25 t1199.length co25] 38 (0,0)) (by (with_reducible repeat (first|refine qg_ ?_ _|refine qi_ ?_|refine qf_ ?_ _));refine qa2_ ?_ NB1203_1224.out _;(with_reducible repeat (first|refine qg_ ?_ _|refine qi_ ?_|refine qf_ ?_ _));refine qa2_ ?_ NB1203_1224.out _;(with_reducible repeat (first|refine qg_ ?_ _|refine qi_ ?_|refine qf_ ?_ _));refine qa2_ ?_ NB1203_1224.out _;(with_reducible repeat (first|refine qg_ ?_ _|refine qi_ ?_|refine qf_ ?_ _));exact BK1203.out) hb);have n6_:=aK (qm_ (g:=gb1224) (o:=.cells #[.int .i64 t1218,.int .i64 t1219,.slice Ao82 t1220.length co82] 38 (0,0)) (by (with_reducible repeat (first|refine qg_ ?_ _|refine qi_ ?_|refine qf_ ?_ _));refine qq1_ (cs:=#[.int .i64 t1218,.int .i64 t1219,.slice none 0 0]) ?_ 2 _ rfl;(with_reducible repeat (first|refine qg_ ?_ _|refine qi_ ?_|refine qf_ ?_ _));refine qq1_ (cs:=#[.int .i64 t1218,.int .i64 0,.slice none 0 0]) ?_ 1 _ rfl;(with_reducible repeat (first|refine qg_ ?_ _|refine qi_ ?_|refine qf_ ?_ _));refine qq1_ (cs:=#[.int .i64 0,.int .i64 0,.slice none 0 0]) ?_ 0 _ rfl;(with_reducible repeat (first|refine qg_ ?_ _|refine qi_ ?_|refine qf_ ?_ _));exact BK1224.out) hb);have n7_:=aK (qk_ (by repeat (first|(with_reducible first|exact HB.out|apply qb_|apply qa_|apply qc_|refine qh_ ?_ GE1193.out|refine qh_ ?_ GE1203.out|refine qh_ ?_ GE1224.out)|exact HB.out)) hb);clear HO_1194002;clear HO_1204002;clear HO1217;clear HO1222;clear BK1193;clear BK1203;clear BK1224;clear HB;have HO_1194002:=n0_;have HO_1204002:=n1_;have HO1217:=n2_;have HO1222:=n3_;have BK1193:=n4_;have BK1203:=n5_;have BK1224:=n6_;have HB:=n7_;clear n0_ n1_ n2_ n3_ n4_ n5_ n6_ n7_;(try clear hb);(try clear hb2);(try clear hk);(try clear hi)))
             go_meet
             case rel=>exact ⟨_,((t1223 != t1192)),(by first|rfl|(simp;done)|(simp [*];done)),H',⟨by have:=HJ10.out;have:=HJ40.out;first|omega|exact Nat.le_refl _⟩,⟨by (with_reducible repeat (first|apply Kd.qq_|apply Kd.qr_|apply Kd.R_drew));exact Kd.R_mono HO_1194002.out (fun _ hk=>⟨hk.1.1,hk.2⟩)⟩,⟨by (with_reducible repeat (first|apply Kd.qq_|apply Kd.qr_|apply Kd.R_drew));exact Kd.R_mono HO_1204002.out (fun _ hk=>⟨hk.1.1,hk.2⟩)⟩,⟨by (with_reducible repeat (first|apply Kd.qq_|apply Kd.qr_|apply Kd.R_drew));exact Kd.R_mono HO1222.out (fun _ hk=>⟨hk.1.1.2,hk.1.2⟩)⟩,⟨by (with_reducible repeat (first|refine qg_ ?_ _|refine qi_ ?_|refine qf_ ?_ _));exact BK1193.out⟩,⟨by (with_reducible repeat (first|refine qg_ ?_ _|refine qi_ ?_|refine qf_ ?_ _));exact BK1203.out⟩,⟨by (with_reducible repeat (first|refine qg_ ?_ _|refine qi_ ?_|refine qf_ ?_ _));exact BK1224.out⟩,⟨by repeat (first|(with_reducible first|exact HB.out|apply qb_|apply qa_|apply qc_|refine qh_ ?_ GE1193.out|refine qh_ ?_ GE1203.out|refine qh_ ?_ GE1224.out)|exact HB.out)⟩⟩
            ·replace c84:=Bool.eq_false_iff.mpr c84
             subst c84
             have H1:(qd_.j2 kj40 t1212 true t1197 t1198 t1213)=some r:=by rw [if_neg (show ¬ (false=true) by decide)] at H;exact H
             clear H
             have H:=H1
             clear H1
             have H':=aK H
             clear H
             have hnb91:=NB1224_1193.out
             have hnc91:=NB1193_1224.out
             have hnb92:=NB1224_1203.out
             have hnc92:=NB1203_1224.out
             have hcz93_0:w78.cell? ⟨gb1224,0,none⟩=some (.int .i64 0):=(qj_ BK1224.out 0).trans rfl
             have hcz93_1:w78.cell? ⟨gb1224,1,none⟩=some (.int .i64 0):=(qj_ BK1224.out 1).trans rfl
             have hcz93_2:w78.cell? ⟨gb1224,2,none⟩=some (.slice none 0 0):=(qj_ BK1224.out 2).trans rfl
             have hfz93_0:=qe_ BK1224.out 0
             have hfz93_1:=qe_ BK1224.out 1
             have hfz93_2:=qe_ BK1224.out 2
             have hnb94:=NB1193_1203.out
             have hnc94:=NB1203_1193.out
             have hcz95_0:w78.cell? ⟨gb1193,0,none⟩=some (.int .i64 t1187):=(qj_ BK1193.out 0).trans rfl
             have hcz95_1:w78.cell? ⟨gb1193,1,none⟩=some (.int .i64 t1188):=(qj_ BK1193.out 1).trans rfl
             have hcz95_2:w78.cell? ⟨gb1193,2,none⟩=some (.slice Ao18 t1189.length co18):=(qj_ BK1193.out 2).trans rfl
             have hfz95_0:=qe_ BK1193.out 0
             have hfz95_1:=qe_ BK1193.out 1
             have hfz95_2:=qe_ BK1193.out 2
             go_wp2_with (first|((with_reducible refine qt_ (f:=33) rfl ?_);refine goesL_ (some 91) rfl rfl Try.func33 (by kernel_rfl) rfl #[.agg #[.int .i64 t1218,.int .i64 t1219,.slice Ao82 t1220.length co82],.agg #[.int .i64 t1187,.int .i64 t1188,.slice Ao18 t1189.length co18]] rfl (by (try simp only [List.map_toArray,List.map_cons,List.map_nil]);first|done|rfl|(simp only [List.length_drop,List.length_take];rfl)) ?_;(with_reducible refine (qj1_.calls kj40 t1218 t1219 _ _ t1220 t1187 t1188 _ _ t1189 false _ ?side1 ?side2 ?side3 ?side4 A83.out).mono ?_);(case side1=>refine (Kd.qs1_ (e:=79) (base:=w.heap.size) (ok:=fun k_=>(((True∧some k_ ≠ (.slice Ao18 t1189.length co18:Value).ownBlock)∧some k_ ≠ (.slice Ao25 t1199.length co25:Value).ownBlock)∧some k_ ≠ (.slice Ao76 t1215.length co76:Value).ownBlock)) (n:=t1220.length) (c:=co82) ?_).2.2;exact (by (with_reducible repeat (first|apply Kd.qq_|apply Kd.qr_|apply Kd.R_drew));exact (Kd.R_mono (Kd.R_far (p:=⟨gb1224,2,none⟩) (Kd.R_far (p:=⟨gb1224,1,none⟩) (Kd.R_far (p:=⟨gb1224,0,none⟩) (Kd.qr2_ HO1222.out BK1224.out (by decide)) (fun _ hk=>hk.2) (.int .i64 t1218)) (fun _ hk=>hk.2) (.int .i64 t1219)) (fun _ hk=>hk.2) (.slice Ao82 t1220.length co82)) (fun _ h_=>h_.1))));(case side2=>exact (Kd.qs1_ HO1222.out).2.1);(case side3=>refine (Kd.qs1_ (e:=79) (base:=w.heap.size) (ok:=fun k_=>((some k_ ≠ (.slice Ao25 t1199.length co25:Value).ownBlock∧some k_ ≠ (.slice Ao76 t1215.length co76:Value).ownBlock)∧some k_ ≠ (.slice Ao82 t1220.length co82:Value).ownBlock)) (n:=t1189.length) (c:=co18) ?_).2.2;exact (by (with_reducible repeat (first|apply Kd.qq_|apply Kd.qr_|apply Kd.R_drew));exact (Kd.R_mono (Kd.R_far (p:=⟨gb1224,2,none⟩) (Kd.R_far (p:=⟨gb1224,1,none⟩) (Kd.R_far (p:=⟨gb1224,0,none⟩) (Kd.qr2_ HO_1194002.out BK1224.out (by decide)) (fun _ hk=>hk.2) (.int .i64 t1218)) (fun _ hk=>hk.2) (.int .i64 t1219)) (fun _ hk=>hk.2) (.slice Ao82 t1220.length co82)) (fun _ h_=>h_.1))));(case side4=>exact (Kd.qs1_ HO_1194002.out).2.1);rintro e w96 ⟨rfl,hb⟩;refine ⟨_,rfl,?_⟩;have n0_:=aK (Kd.qt1_ (by (with_reducible repeat (first|apply Kd.qq_|apply Kd.qr_|apply Kd.R_drew));exact (Kd.R_mono (Kd.R_far (p:=⟨gb1224,2,none⟩) (Kd.R_far (p:=⟨gb1224,1,none⟩) (Kd.R_far (p:=⟨gb1224,0,none⟩) (Kd.qr2_ HO_1194002.out BK1224.out (by decide)) (fun _ hk=>hk.2) (.int .i64 t1218)) (fun _ hk=>hk.2) (.int .i64 t1219)) (fun _ hk=>hk.2) (.slice Ao82 t1220.length co82)) (fun _ h_=>h_.1))) hb);have n1_:=aK (Kd.qt1_ (by (with_reducible repeat (first|apply Kd.qq_|apply Kd.qr_|apply Kd.R_drew));exact (Kd.R_mono (Kd.R_far (p:=⟨gb1224,2,none⟩) (Kd.R_far (p:=⟨gb1224,1,none⟩) (Kd.R_far (p:=⟨gb1224,0,none⟩) (Kd.qr2_ HO_1204002.out BK1224.out (by decide)) (fun _ hk=>hk.2) (.int .i64 t1218)) (fun _ hk=>hk.2) (.int .i64 t1219)) (fun _ hk=>hk.2) (.slice Ao82 t1220.length co82)) (fun _ h_=>h_.1))) hb);have n2_:=aK (Kd.qt1_ (by (with_reducible repeat (first|apply Kd.qq_|apply Kd.qr_|apply Kd.R_drew));exact (Kd.R_mono (Kd.R_far (p:=⟨gb1224,2,none⟩) (Kd.R_far (p:=⟨gb1224,1,none⟩) (Kd.R_far (p:=⟨gb1224,0,none⟩) (Kd.qr2_ HO1217.out BK1224.out (by decide)) (fun _ hk=>hk.2) (.int .i64 t1218)) (fun _ hk=>hk.2) (.int .i64 t1219)) (fun _ hk=>hk.2) (.slice Ao82 t1220.length co82)) (fun _ h_=>h_.1))) hb);have n3_:=aK (Kd.qt1_ (by (with_reducible repeat (first|apply Kd.qq_|apply Kd.qr_|apply Kd.R_drew));exact (Kd.R_mono (Kd.R_far (p:=⟨gb1224,2,none⟩) (Kd.R_far (p:=⟨gb1224,1,none⟩) (Kd.R_far (p:=⟨gb1224,0,none⟩) (Kd.qr2_ HO1222.out BK1224.out (by decide)) (fun _ hk=>hk.2) (.int .i64 t1218)) (fun _ hk=>hk.2) (.int .i64 t1219)) (fun _ hk=>hk.2) (.slice Ao82 t1220.length co82)) (fun _ h_=>h_.1))) hb);have n4_:=aK (qm_ (g:=gb1193) (o:=.cells #[.int .i64 t1187,.int .i64 t1188,.slice Ao18 t1189.length co18] 38 (0,0)) (by (with_reducible repeat (first|refine qg_ ?_ _|refine qi_ ?_|refine qf_ ?_ _));refine qa2_ ?_ NB1193_1224.out _;(with_reducible repeat (first|refine qg_ ?_ _|refine qi_ ?_|refine qf_ ?_ _));refine qa2_ ?_ NB1193_1224.out _;(with_reducible repeat (first|refine qg_ ?_ _|refine qi_ ?_|refine qf_ ?_ _));refine qa2_ ?_ NB1193_1224.out _;(with_reducible repeat (first|refine qg_ ?_ _|refine qi_ ?_|refine qf_ ?_ _));exact BK1193.out) hb);have n5_:=aK (qm_ (g:=gb1203) (o:=.cells #[.int .i64 t1197,.int .i64 t1198,.slice Ao25 t1199.length co25] 38 (0,0)) (by (with_reducible repeat (first|refine qg_ ?_ _|refine qi_ ?_|refine qf_ ?_ _));refine qa2_ ?_ NB1203_1224.out _;(with_reducible repeat (first|refine qg_ ?_ _|refine qi_ ?_|refine qf_ ?_ _));refine qa2_ ?_ NB1203_1224.out _;(with_reducible repeat (first|refine qg_ ?_ _|refine qi_ ?_|refine qf_ ?_ _));refine qa2_ ?_ NB1203_1224.out _;(with_reducible repeat (first|refine qg_ ?_ _|refine qi_ ?_|refine qf_ ?_ _));exact BK1203.out) hb);have n6_:=aK (qm_ (g:=gb1224) (o:=.cells #[.int .i64 t1218,.int .i64 t1219,.slice Ao82 t1220.length co82] 38 (0,0)) (by (with_reducible repeat (first|refine qg_ ?_ _|refine qi_ ?_|refine qf_ ?_ _));refine qq1_ (cs:=#[.int .i64 t1218,.int .i64 t1219,.slice none 0 0]) ?_ 2 _ rfl;(with_reducible repeat (first|refine qg_ ?_ _|refine qi_ ?_|refine qf_ ?_ _));refine qq1_ (cs:=#[.int .i64 t1218,.int .i64 0,.slice none 0 0]) ?_ 1 _ rfl;(with_reducible repeat (first|refine qg_ ?_ _|refine qi_ ?_|refine qf_ ?_ _));refine qq1_ (cs:=#[.int .i64 0,.int .i64 0,.slice none 0 0]) ?_ 0 _ rfl;(with_reducible repeat (first|refine qg_ ?_ _|refine qi_ ?_|refine qf_ ?_ _));exact BK1224.out) hb);have n7_:=aK (qk_ (by repeat (first|(with_reducible first|exact HB.out|apply qb_|apply qa_|apply qc_|refine qh_ ?_ GE1193.out|refine qh_ ?_ GE1203.out|refine qh_ ?_ GE1224.out)|exact HB.out)) hb);clear HO_1194002;clear HO_1204002;clear HO1217;clear HO1222;clear BK1193;clear BK1203;clear BK1224;clear HB;have HO_1194002:=n0_;have HO_1204002:=n1_;have HO1217:=n2_;have HO1222:=n3_;have BK1193:=n4_;have BK1203:=n5_;have BK1224:=n6_;have HB:=n7_;clear n0_ n1_ n2_ n3_ n4_ n5_ n6_ n7_;(try clear hb);(try clear hb2);(try clear hk);(try clear hi)))
             go_meet
             case rel=>exact ⟨_,(true),(by first|rfl|(simp;done)|(simp [*];done)),H',⟨by have:=HJ10.out;have:=HJ40.out;first|omega|exact Nat.le_refl _⟩,⟨by (with_reducible repeat (first|apply Kd.qq_|apply Kd.qr_|apply Kd.R_drew));exact Kd.R_mono HO_1194002.out (fun _ hk=>⟨hk.1.1,hk.2⟩)⟩,⟨by (with_reducible repeat (first|apply Kd.qq_|apply Kd.qr_|apply Kd.R_drew));exact Kd.R_mono HO_1204002.out (fun _ hk=>⟨hk.1.1,hk.2⟩)⟩,⟨by (with_reducible repeat (first|apply Kd.qq_|apply Kd.qr_|apply Kd.R_drew));exact Kd.R_mono HO1222.out (fun _ hk=>⟨hk.1.1.2,hk.1.2⟩)⟩,⟨by (with_reducible repeat (first|refine qg_ ?_ _|refine qi_ ?_|refine qf_ ?_ _));exact BK1193.out⟩,⟨by (with_reducible repeat (first|refine qg_ ?_ _|refine qi_ ?_|refine qf_ ?_ _));exact BK1203.out⟩,⟨by (with_reducible repeat (first|refine qg_ ?_ _|refine qi_ ?_|refine qf_ ?_ _));exact BK1224.out⟩,⟨by repeat (first|(with_reducible first|exact HB.out|apply qb_|apply qa_|apply qc_|refine qh_ ?_ GE1193.out|refine qh_ ?_ GE1203.out|refine qh_ ?_ GE1224.out)|exact HB.out)⟩⟩
           case rest =>
            clear HC69
            try clear c1
            try clear c2
            try clear p2
            try clear c3
            try clear c4
            try clear c5
            try clear c5b0
            try clear c6
            try clear c7
            try clear c8
            try clear c9
            try clear c12
            try clear c21
            try clear c23
            try clear c25
            try clear c26
            try clear c27
            try clear c28
            try clear c32
            try clear c33
            try clear c34
            try clear c36
            try clear c39
            try clear c46
            try clear c46b0
            try clear c48
            try clear c49
            try clear c53
            try clear c57
            try clear c58
            try clear c60
            try clear c60b0
            try clear c61
            try clear c66
            try clear c66b0
            try clear c66b1
            try clear c70
            try clear c79
            try clear c80
            try clear c84
            try clear c85
            try clear c86
            try clear c88
            try clear c91
            try clear c92
            try clear c94
            try clear hcz17_0
            try clear hcz17_1
            try clear hcz17_2
            try clear hcz24_0
            try clear hcz24_1
            try clear hcz24_2
            try clear hcz29_0
            try clear hcz29_1
            try clear hcz29_2
            try clear hcz30_0
            try clear hcz30_1
            try clear hcz30_2
            try clear hcz33_0
            try clear hcz33_1
            try clear hcz33_2
            try clear hcz34_0
            try clear hcz34_1
            try clear hcz34_2
            try clear hcz50_0
            try clear hcz50_1
            try clear hcz50_2
            try clear hcz51_0
            try clear hcz51_1
            try clear hcz51_2
            try clear hcz54_0
            try clear hcz54_1
            try clear hcz54_2
            try clear hcz55_0
            try clear hcz55_1
            try clear hcz55_2
            try clear hcz62_0
            try clear hcz62_1
            try clear hcz62_2
            try clear hcz64_0
            try clear hcz64_1
            try clear hcz64_2
            try clear hcz71_0
            try clear hcz71_1
            try clear hcz71_2
            try clear hcz73_0
            try clear hcz73_1
            try clear hcz73_2
            try clear hcz81_0
            try clear hcz81_1
            try clear hcz81_2
            try clear hcz87_0
            try clear hcz87_1
            try clear hcz87_2
            try clear hcz89_0
            try clear hcz89_1
            try clear hcz89_2
            try clear hcz93_0
            try clear hcz93_1
            try clear hcz93_2
            try clear hcz95_0
            try clear hcz95_1
            try clear hcz95_2
            try clear hfz17_0
            try clear hfz17_1
            try clear hfz17_2
            try clear hfz24_0
            try clear hfz24_1
            try clear hfz24_2
            try clear hfz29_0
            try clear hfz29_1
            try clear hfz29_2
            try clear hfz30_0
            try clear hfz30_1
            try clear hfz30_2
            try clear hfz33_0
            try clear hfz33_1
            try clear hfz33_2
            try clear hfz34_0
            try clear hfz34_1
            try clear hfz34_2
            try clear hfz50_0
            try clear hfz50_1
            try clear hfz50_2
            try clear hfz51_0
            try clear hfz51_1
            try clear hfz51_2
            try clear hfz54_0
            try clear hfz54_1
            try clear hfz54_2
            try clear hfz55_0
            try clear hfz55_1
            try clear hfz55_2
            try clear hfz62_0
            try clear hfz62_1
            try clear hfz62_2
            try clear hfz64_0
            try clear hfz64_1
            try clear hfz64_2
            try clear hfz71_0
            try clear hfz71_1
            try clear hfz71_2
            try clear hfz73_0
            try clear hfz73_1
            try clear hfz73_2
            try clear hfz81_0
            try clear hfz81_1
            try clear hfz81_2
            try clear hfz87_0
            try clear hfz87_1
            try clear hfz87_2
            try clear hfz89_0
            try clear hfz89_1
            try clear hfz89_2
            try clear hfz93_0
            try clear hfz93_1
            try clear hfz93_2
            try clear hfz95_0
            try clear hfz95_1
            try clear hfz95_2
            try clear p2
            obtain ⟨kq,x97_68,rfl,HA,HJ68,HO_1194002,HO_1204002,HO_1225002,BK1193,BK1203,BK1224,HB⟩:=hcut
            have hl1204002_68:=(Kd.qs1_ HO_1204002.out).1
            rw [hl1204002_68] at HO_1204002
            (try simp only [hl1204002_68])
            (try simp only [hl1204002_68] at BK1193)
            (try simp only [hl1204002_68] at BK1203)
            (try simp only [hl1204002_68] at BK1224)
            (try simp only [hl1204002_68] at HO_1194002)
            (try simp only [hl1204002_68] at HO_1225002)
            cases kq with
            | zero=>exact absurd HA.out (by simp [qd_.j2])
            | succ kj68 =>
             have H:=HA.out
             clear HA
             simp only [qd_.j2] at H
             by_cases c97:x97_68=true
             ·subst c97
              have H1:(some false)=some r:=by rw [if_pos rfl] at H;exact H
              clear H
              have H:=H1
              clear H1
              obtain rfl:=Option.some.inj H
              go_wp2
              go_ret
              exact ⟨by first|rfl|(simp [qo_,qn_] <;> rfl)|(simp [*,qo_,qn_] <;> rfl),by repeat (first|(with_reducible first|exact HB.out|apply qb_|apply qa_|apply qc_|refine qh_ ?_ GE1193.out|refine qh_ ?_ GE1203.out|refine qh_ ?_ GE1224.out)|exact HB.out)⟩
             ·replace c97:=Bool.eq_false_iff.mpr c97
              subst c97
              have H1:((qp1_.f kj68 t1197 t1198 t1213 1).bind fun t1226=>(if t1226 < 0 then (some false) else (if t1226=t1212 then (some true) else (some false))))=some r:=by rw [if_neg (show ¬ (false=true) by decide)] at H;exact H
              clear H
              have H:=H1
              clear H1
              replace H:=Option.bind_eq_some_iff.mp H
              obtain ⟨t1226,A980,H⟩:=H
              replace H:(if t1226 < 0 then (some false) else (if t1226=t1212 then (some true) else (some false)))=some r:=H
              have A98:=aK A980
              clear A980
              by_cases c99:t1226 < 0
              ·rw [if_pos c99] at H
               have c99b0:decide (t1226 < 0)=true:=decide_eq_true c99
               clear c99
               obtain rfl:=Option.some.inj H
               have hnb100:=NB1203_1193.out
               have hnc100:=NB1193_1203.out
               have hnb101:=NB1203_1224.out
               have hnc101:=NB1224_1203.out
               have hcz102_0:wc.cell? ⟨gb1203,0,none⟩=some (.int .i64 t1197):=(qj_ BK1203.out 0).trans rfl
               have hcz102_1:wc.cell? ⟨gb1203,1,none⟩=some (.int .i64 t1198):=(qj_ BK1203.out 1).trans rfl
               have hcz102_2:wc.cell? ⟨gb1203,2,none⟩=some (.slice Ao25 t1213.length co25):=(qj_ BK1203.out 2).trans rfl
               have hfz102_0:=qe_ BK1203.out 0
               have hfz102_1:=qe_ BK1203.out 1
               have hfz102_2:=qe_ BK1203.out 2
               go_wp2_with (first|((with_reducible refine qt_ (f:=39) rfl ?_);refine goesL_ (some 100) rfl rfl Try.func39 (by kernel_rfl) rfl #[.agg #[.int .i64 t1197,.int .i64 t1198,.slice Ao25 t1213.length co25],.int .i64 1] rfl (by (try simp only [List.map_toArray,List.map_cons,List.map_nil]);first|done|rfl|(simp only [List.length_drop,List.length_take];rfl)) ?_;(with_reducible refine (qp1_.calls kj68 t1197 t1198 _ _ t1213 1 t1226 _ ?side1 ?side2 A98.out).mono ?_);(case side1=>repeat (first|exact (Kd.qs1_ HO_1204002.out).2.2|(with_reducible refine Kd.qt2_ ?_ _)|(with_reducible refine Kd.qs2_ ?_ _)|(with_reducible refine Kd.C_drew ?_)));(case side2=>exact (Kd.qs1_ HO_1204002.out).2.1);rintro e w103 ⟨rfl,hb⟩;refine ⟨_,rfl,?_⟩;have n0_:=aK (Kd.qt1_ (by (with_reducible repeat (first|apply Kd.qq_|apply Kd.qr_|apply Kd.R_drew));exact HO_1194002.out) hb);have n1_:=aK (Kd.qt1_ (by (with_reducible repeat (first|apply Kd.qq_|apply Kd.qr_|apply Kd.R_drew));exact HO_1204002.out) hb);have n2_:=aK (Kd.qt1_ (by (with_reducible repeat (first|apply Kd.qq_|apply Kd.qr_|apply Kd.R_drew));exact HO_1225002.out) hb);have n3_:=aK (qm_ (g:=gb1193) (o:=.cells #[.int .i64 t1187,.int .i64 t1188,.slice Ao18 t1189.length co18] 38 (0,0)) (by (with_reducible repeat (first|refine qg_ ?_ _|refine qi_ ?_|refine qf_ ?_ _));exact BK1193.out) hb);have n4_:=aK (qm_ (g:=gb1203) (o:=.cells #[.int .i64 t1197,.int .i64 t1198,.slice Ao25 t1213.length co25] 38 (0,0)) (by (with_reducible repeat (first|refine qg_ ?_ _|refine qi_ ?_|refine qf_ ?_ _));exact BK1203.out) hb);have n5_:=aK (qm_ (g:=gb1224) (o:=.cells #[.int .i64 t1218,.int .i64 t1219,.slice Ao82 t1220.length co82] 38 (0,0)) (by (with_reducible repeat (first|refine qg_ ?_ _|refine qi_ ?_|refine qf_ ?_ _));exact BK1224.out) hb);have n6_:=aK (qk_ (by repeat (first|(with_reducible first|exact HB.out|apply qb_|apply qa_|apply qc_|refine qh_ ?_ GE1193.out|refine qh_ ?_ GE1203.out|refine qh_ ?_ GE1224.out)|exact HB.out)) hb);clear HO_1194002;clear HO_1204002;clear HO_1225002;clear BK1193;clear BK1203;clear BK1224;clear HB;have HO_1194002:=n0_;have HO_1204002:=n1_;have HO_1225002:=n2_;have BK1193:=n3_;have BK1203:=n4_;have BK1224:=n5_;have HB:=n6_;clear n0_ n1_ n2_ n3_ n4_ n5_ n6_;(try clear hb);(try clear hb2);(try clear hk);(try clear hi)))
               go_ret
               exact ⟨by first|rfl|(simp [qo_,qn_] <;> rfl)|(simp [*,qo_,qn_] <;> rfl),by repeat (first|(with_reducible first|exact HB.out|apply qb_|apply qa_|apply qc_|refine qh_ ?_ GE1193.out|refine qh_ ?_ GE1203.out|refine qh_ ?_ GE1224.out)|exact HB.out)⟩
              ·rw [if_neg c99] at H
               have c99b0:decide (t1226 < 0)=false:=decide_eq_false c99
               clear c99
               by_cases c104:t1226=t1212
               ·rw [if_pos c104] at H
                have c104b0:(t1226 == t1212)=true:=beq_iff_eq.mpr c104
                have c104b1:(t1226 != t1212)=false:=bne_eq_false_iff_eq.mpr c104
                clear c104
                obtain rfl:=Option.some.inj H
                have hnb105:=NB1203_1193.out
                have hnc105:=NB1193_1203.out
                have hnb106:=NB1203_1224.out
                have hnc106:=NB1224_1203.out
                have hcz107_0:wc.cell? ⟨gb1203,0,none⟩=some (.int .i64 t1197):=(qj_ BK1203.out 0).trans rfl
                have hcz107_1:wc.cell? ⟨gb1203,1,none⟩=some (.int .i64 t1198):=(qj_ BK1203.out 1).trans rfl
                have hcz107_2:wc.cell? ⟨gb1203,2,none⟩=some (.slice Ao25 t1213.length co25):=(qj_ BK1203.out 2).trans rfl
                have hfz107_0:=qe_ BK1203.out 0
                have hfz107_1:=qe_ BK1203.out 1
                have hfz107_2:=qe_ BK1203.out 2
                go_wp2_with (first|((with_reducible refine qt_ (f:=39) rfl ?_);refine goesL_ (some 100) rfl rfl Try.func39 (by kernel_rfl) rfl #[.agg #[.int .i64 t1197,.int .i64 t1198,.slice Ao25 t1213.length co25],.int .i64 1] rfl (by (try simp only [List.map_toArray,List.map_cons,List.map_nil]);first|done|rfl|(simp only [List.length_drop,List.length_take];rfl)) ?_;(with_reducible refine (qp1_.calls kj68 t1197 t1198 _ _ t1213 1 t1226 _ ?side1 ?side2 A98.out).mono ?_);(case side1=>repeat (first|exact (Kd.qs1_ HO_1204002.out).2.2|(with_reducible refine Kd.qt2_ ?_ _)|(with_reducible refine Kd.qs2_ ?_ _)|(with_reducible refine Kd.C_drew ?_)));(case side2=>exact (Kd.qs1_ HO_1204002.out).2.1);rintro e w108 ⟨rfl,hb⟩;refine ⟨_,rfl,?_⟩;have n0_:=aK (Kd.qt1_ (by (with_reducible repeat (first|apply Kd.qq_|apply Kd.qr_|apply Kd.R_drew));exact HO_1194002.out) hb);have n1_:=aK (Kd.qt1_ (by (with_reducible repeat (first|apply Kd.qq_|apply Kd.qr_|apply Kd.R_drew));exact HO_1204002.out) hb);have n2_:=aK (Kd.qt1_ (by (with_reducible repeat (first|apply Kd.qq_|apply Kd.qr_|apply Kd.R_drew));exact HO_1225002.out) hb);have n3_:=aK (qm_ (g:=gb1193) (o:=.cells #[.int .i64 t1187,.int .i64 t1188,.slice Ao18 t1189.length co18] 38 (0,0)) (by (with_reducible repeat (first|refine qg_ ?_ _|refine qi_ ?_|refine qf_ ?_ _));exact BK1193.out) hb);have n4_:=aK (qm_ (g:=gb1203) (o:=.cells #[.int .i64 t1197,.int .i64 t1198,.slice Ao25 t1213.length co25] 38 (0,0)) (by (with_reducible repeat (first|refine qg_ ?_ _|refine qi_ ?_|refine qf_ ?_ _));exact BK1203.out) hb);have n5_:=aK (qm_ (g:=gb1224) (o:=.cells #[.int .i64 t1218,.int .i64 t1219,.slice Ao82 t1220.length co82] 38 (0,0)) (by (with_reducible repeat (first|refine qg_ ?_ _|refine qi_ ?_|refine qf_ ?_ _));exact BK1224.out) hb);have n6_:=aK (qk_ (by repeat (first|(with_reducible first|exact HB.out|apply qb_|apply qa_|apply qc_|refine qh_ ?_ GE1193.out|refine qh_ ?_ GE1203.out|refine qh_ ?_ GE1224.out)|exact HB.out)) hb);clear HO_1194002;clear HO_1204002;clear HO_1225002;clear BK1193;clear BK1203;clear BK1224;clear HB;have HO_1194002:=n0_;have HO_1204002:=n1_;have HO_1225002:=n2_;have BK1193:=n3_;have BK1203:=n4_;have BK1224:=n5_;have HB:=n6_;clear n0_ n1_ n2_ n3_ n4_ n5_ n6_;(try clear hb);(try clear hb2);(try clear hk);(try clear hi)))
                go_ret
                exact ⟨by first|rfl|(simp [qo_,qn_] <;> rfl)|(simp [*,qo_,qn_] <;> rfl),by repeat (first|(with_reducible first|exact HB.out|apply qb_|apply qa_|apply qc_|refine qh_ ?_ GE1193.out|refine qh_ ?_ GE1203.out|refine qh_ ?_ GE1224.out)|exact HB.out)⟩
               ·rw [if_neg c104] at H
                have c104b0:(t1226 == t1212)=false:=beq_eq_false_iff_ne.mpr c104
                have c104b1:(t1226 != t1212)=true:=bne_iff_ne.mpr c104
                obtain rfl:=Option.some.inj H
                have hnb109:=NB1203_1193.out
                have hnc109:=NB1193_1203.out
                have hnb110:=NB1203_1224.out
                have hnc110:=NB1224_1203.out
                have hcz111_0:wc.cell? ⟨gb1203,0,none⟩=some (.int .i64 t1197):=(qj_ BK1203.out 0).trans rfl
                have hcz111_1:wc.cell? ⟨gb1203,1,none⟩=some (.int .i64 t1198):=(qj_ BK1203.out 1).trans rfl
                have hcz111_2:wc.cell? ⟨gb1203,2,none⟩=some (.slice Ao25 t1213.length co25):=(qj_ BK1203.out 2).trans rfl
                have hfz111_0:=qe_ BK1203.out 0
                have hfz111_1:=qe_ BK1203.out 1
                have hfz111_2:=qe_ BK1203.out 2
                go_wp2_with (first|((with_reducible refine qt_ (f:=39) rfl ?_);refine goesL_ (some 100) rfl rfl Try.func39 (by kernel_rfl) rfl #[.agg #[.int .i64 t1197,.int .i64 t1198,.slice Ao25 t1213.length co25],.int .i64 1] rfl (by (try simp only [List.map_toArray,List.map_cons,List.map_nil]);first|done|rfl|(simp only [List.length_drop,List.length_take];rfl)) ?_;(with_reducible refine (qp1_.calls kj68 t1197 t1198 _ _ t1213 1 t1226 _ ?side1 ?side2 A98.out).mono ?_);(case side1=>repeat (first|exact (Kd.qs1_ HO_1204002.out).2.2|(with_reducible refine Kd.qt2_ ?_ _)|(with_reducible refine Kd.qs2_ ?_ _)|(with_reducible refine Kd.C_drew ?_)));(case side2=>exact (Kd.qs1_ HO_1204002.out).2.1);rintro e w112 ⟨rfl,hb⟩;refine ⟨_,rfl,?_⟩;have n0_:=aK (Kd.qt1_ (by (with_reducible repeat (first|apply Kd.qq_|apply Kd.qr_|apply Kd.R_drew));exact HO_1194002.out) hb);have n1_:=aK (Kd.qt1_ (by (with_reducible repeat (first|apply Kd.qq_|apply Kd.qr_|apply Kd.R_drew));exact HO_1204002.out) hb);have n2_:=aK (Kd.qt1_ (by (with_reducible repeat (first|apply Kd.qq_|apply Kd.qr_|apply Kd.R_drew));exact HO_1225002.out) hb);have n3_:=aK (qm_ (g:=gb1193) (o:=.cells #[.int .i64 t1187,.int .i64 t1188,.slice Ao18 t1189.length co18] 38 (0,0)) (by (with_reducible repeat (first|refine qg_ ?_ _|refine qi_ ?_|refine qf_ ?_ _));exact BK1193.out) hb);have n4_:=aK (qm_ (g:=gb1203) (o:=.cells #[.int .i64 t1197,.int .i64 t1198,.slice Ao25 t1213.length co25] 38 (0,0)) (by (with_reducible repeat (first|refine qg_ ?_ _|refine qi_ ?_|refine qf_ ?_ _));exact BK1203.out) hb);have n5_:=aK (qm_ (g:=gb1224) (o:=.cells #[.int .i64 t1218,.int .i64 t1219,.slice Ao82 t1220.length co82] 38 (0,0)) (by (with_reducible repeat (first|refine qg_ ?_ _|refine qi_ ?_|refine qf_ ?_ _));exact BK1224.out) hb);have n6_:=aK (qk_ (by repeat (first|(with_reducible first|exact HB.out|apply qb_|apply qa_|apply qc_|refine qh_ ?_ GE1193.out|refine qh_ ?_ GE1203.out|refine qh_ ?_ GE1224.out)|exact HB.out)) hb);clear HO_1194002;clear HO_1204002;clear HO_1225002;clear BK1193;clear BK1203;clear BK1224;clear HB;have HO_1194002:=n0_;have HO_1204002:=n1_;have HO_1225002:=n2_;have BK1193:=n3_;have BK1203:=n4_;have BK1224:=n5_;have HB:=n6_;clear n0_ n1_ n2_ n3_ n4_ n5_ n6_;(try clear hb);(try clear hb2);(try clear hk);(try clear hi)))
                go_ret
                exact ⟨by first|rfl|(simp [qo_,qn_] <;> rfl)|(simp [*,qo_,qn_] <;> rfl),by repeat (first|(with_reducible first|exact HB.out|apply qb_|apply qa_|apply qc_|refine qh_ ?_ GE1193.out|refine qh_ ?_ GE1203.out|refine qh_ ?_ GE1224.out)|exact HB.out)⟩
          ·rw [if_neg c66] at H
           have c66b0:(t1214 == t1212)=false:=beq_eq_false_iff_ne.mpr c66
           have c66b1:(t1214 != t1212)=true:=bne_iff_ne.mpr c66
           obtain rfl:=Option.some.inj H
           have hnb113:=NB1203_1193.out
           have hnc113:=NB1193_1203.out
           have hcz114_0:wc.cell? ⟨gb1203,0,none⟩=some (.int .i64 t1197):=(qj_ BK1203.out 0).trans rfl
           have hcz114_1:wc.cell? ⟨gb1203,1,none⟩=some (.int .i64 t1198):=(qj_ BK1203.out 1).trans rfl
           have hcz114_2:wc.cell? ⟨gb1203,2,none⟩=some (.slice Ao25 t1199.length co25):=(qj_ BK1203.out 2).trans rfl
           have hfz114_0:=qe_ BK1203.out 0
           have hfz114_1:=qe_ BK1203.out 1
           have hfz114_2:=qe_ BK1203.out 2
           go_wp2_with (first|((with_reducible refine qt_ (f:=34) rfl ?_);refine goesL_ (some 72) rfl rfl Try.func34 (by kernel_rfl) rfl #[.agg #[.int .i64 t1197,.int .i64 t1198,.slice Ao25 t1199.length co25],.int .i64 1] rfl (by (try simp only [List.map_toArray,List.map_cons,List.map_nil]);first|done|rfl|(simp only [List.length_drop,List.length_take];rfl)) ?_;(with_reducible refine (qy1_.calls kj40 t1197 t1198 (fun k_=>some k_=(.slice Ao25 t1199.length co25:Value).ownBlock) (.slice Ao25 t1199.length co25) t1199 1 t1212 t1213 w _ ?side1 ?side2 A58.out).mono ?_);(case side1=>repeat (first|(with_reducible first|exact HB.out|apply qb_|apply qa_|apply qc_|refine qh_ ?_ GE1193.out|refine qh_ ?_ GE1203.out)|exact HB.out));(case side2=>exact Kd.R_tight rfl HO_1204002.out);rintro e w115 ⟨rfl,hy0,hb,hkp⟩;refine ⟨_,rfl,?_⟩;have n0_:=aK (Kd.R_mono (ok':=fun k_=>some k_ ≠ (.slice Ao25 t1199.length co25:Value).ownBlock) (Kd.R_keptB (HO_1194002.out) hkp (fun k_ hk_ hs_=>(hk_) hs_)) (fun k_ hk_=>hk_.1));have n1_:=aK (Kd.R_reok rfl hy0 (fun k_ e_=>HO_1204002.out.1 k_ e_));have n2_:=aK (blk_kept (by (with_reducible repeat (first|refine qg_ ?_ _|refine qi_ ?_|refine qf_ ?_ _));exact BK1193.out) hkp (fun hs_=>(fun e_=>(Kd.R_ne HO_1204002.out BK1193.out (by decide)) e_) hs_));have n3_:=aK (blk_kept (by (with_reducible repeat (first|refine qg_ ?_ _|refine qi_ ?_|refine qf_ ?_ _));exact BK1203.out) hkp (fun hs_=>(fun e_=>(Kd.R_ne HO_1204002.out BK1203.out (by decide)) e_) hs_));have n4_:=aK (hb);clear HO_1194002;clear HO_1204002;clear BK1193;clear BK1203;clear HB;have HO_1194002:=n0_;have HO_1204002:=n1_;have BK1193:=n2_;have BK1203:=n3_;have HB:=n4_;clear n0_ n1_ n2_ n3_ n4_;(try clear hb);(try clear hkp);(try clear hy0);have hcz116_0:w115.cell? ⟨gb1203,0,none⟩=some (.int .i64 t1197):=(qj_ BK1203.out 0).trans rfl;have hcz116_1:w115.cell? ⟨gb1203,1,none⟩=some (.int .i64 t1198):=(qj_ BK1203.out 1).trans rfl;have hcz116_2:w115.cell? ⟨gb1203,2,none⟩=some (.slice Ao25 t1199.length co25):=(qj_ BK1203.out 2).trans rfl;have hfz116_0:=qe_ BK1203.out 0;have hfz116_1:=qe_ BK1203.out 1;have hfz116_2:=qe_ BK1203.out 2)|((with_reducible refine qt_ (f:=39) rfl ?_);refine goesL_ (some 75) rfl rfl Try.func39 (by kernel_rfl) rfl #[.agg #[.int .i64 t1197,.int .i64 t1198,.slice Ao25 t1213.length co25],.int .i64 1] rfl (by (try simp only [List.map_toArray,List.map_cons,List.map_nil]);first|done|(rw [show t1213.length=t1199.length from (Kd.qs1_ HO_1204002.out).1.symm] <;> rfl)|rfl|(simp only [List.length_drop,List.length_take];rfl)) ?_;(with_reducible refine (qp1_.calls kj40 t1197 t1198 _ _ t1213 1 t1214 _ ?side1 ?side2 A59.out).mono ?_);(case side1=>repeat (first|exact (Kd.qs1_ HO_1204002.out).2.2|(with_reducible refine Kd.qt2_ ?_ _)|(with_reducible refine Kd.qs2_ ?_ _)|(with_reducible refine Kd.C_drew ?_)));(case side2=>rw [show t1213.length=t1199.length from (Kd.qs1_ HO_1204002.out).1.symm];exact (Kd.qs1_ HO_1204002.out).2.1);rintro e w117 ⟨rfl,hb⟩;refine ⟨_,rfl,?_⟩;have n0_:=aK (Kd.qt1_ (by (with_reducible repeat (first|apply Kd.qq_|apply Kd.qr_|apply Kd.R_drew));exact HO_1194002.out) hb);have n1_:=aK (Kd.qt1_ (by (with_reducible repeat (first|apply Kd.qq_|apply Kd.qr_|apply Kd.R_drew));exact HO_1204002.out) hb);have n2_:=aK (qm_ (g:=gb1193) (o:=.cells #[.int .i64 t1187,.int .i64 t1188,.slice Ao18 t1189.length co18] 38 (0,0)) (by (with_reducible repeat (first|refine qg_ ?_ _|refine qi_ ?_|refine qf_ ?_ _));exact BK1193.out) hb);have n3_:=aK (qm_ (g:=gb1203) (o:=.cells #[.int .i64 t1197,.int .i64 t1198,.slice Ao25 t1199.length co25] 38 (0,0)) (by (with_reducible repeat (first|refine qg_ ?_ _|refine qi_ ?_|refine qf_ ?_ _));exact BK1203.out) hb);have n4_:=aK (qk_ (by repeat (first|(with_reducible first|exact HB.out|apply qb_|apply qa_|apply qc_|refine qh_ ?_ GE1193.out|refine qh_ ?_ GE1203.out)|exact HB.out)) hb);clear HO_1194002;clear HO_1204002;clear BK1193;clear BK1203;clear HB;have HO_1194002:=n0_;have HO_1204002:=n1_;have BK1193:=n2_;have BK1203:=n3_;have HB:=n4_;clear n0_ n1_ n2_ n3_ n4_;(try clear hb);(try clear hb2);(try clear hk);(try clear hi)))
           go_ret
           exact ⟨by first|rfl|(simp [qo_,qn_] <;> rfl)|(simp [*,qo_,qn_] <;> rfl),by repeat (first|(with_reducible first|exact HB.out|apply qb_|apply qa_|apply qc_|refine qh_ ?_ GE1193.out|refine qh_ ?_ GE1203.out)|exact HB.out)⟩
     ·replace c39:=Bool.eq_false_iff.mpr c39
      subst c39
      have H1:(some false)=some r:=by rw [if_neg (show ¬ (false=true) by decide)] at H;exact H
      clear H
      have H:=H1
      clear H1
      obtain rfl:=Option.some.inj H
      go_wp2_with (first|((with_reducible refine qt_ (f:=23) rfl ?_);refine goesL_ (some 51) rfl rfl Try.func23 (by kernel_rfl) rfl #[.slice A2 l2.length c2] rfl (by (try simp only [List.map_toArray,List.map_cons,List.map_nil]);first|done|rfl|(simp only [List.length_drop,List.length_take];rfl)) ?_;(with_reducible refine (qy_.calls kj10 _ _ l2 t1205 _ ?side1 ?side2 A37.out).mono ?_);(case side1=>repeat (first|exact (Kd.qi2_ HR2.out HB.out)|(with_reducible refine Kd.qt2_ ?_ _)|(with_reducible refine Kd.qs2_ ?_ _)|(with_reducible refine Kd.C_drew ?_)));(case side2=>exact HC2.out);rintro e w118 ⟨v1206,rfl,ho0,hb⟩;refine ⟨_,rfl,?_⟩;have n0_:=aK (Kd.qy2_ (by (with_reducible repeat (first|apply Kd.qq_|apply Kd.qr_|apply Kd.R_drew));exact HO_10.out) (Kd.R_base ho0) hb);have n1_:=aK (Kd.qy2_ (by (with_reducible repeat (first|apply Kd.qq_|apply Kd.qr_|apply Kd.R_drew));exact HO_1194002.out) (Kd.R_base ho0) hb);have n2_:=aK (Kd.qy2_ (by (with_reducible repeat (first|apply Kd.qq_|apply Kd.qr_|apply Kd.R_drew));exact HO_1204002.out) (Kd.R_base ho0) hb);have n3_:=aK (Kd.qm2_ (Kd.R_new' (Kd.R_new' (Kd.R_new' ho0 (Kd.R_lt (by (with_reducible repeat (first|apply Kd.qq_|apply Kd.qr_|apply Kd.R_drew));exact HO_10.out))) (Kd.R_lt (by (with_reducible repeat (first|apply Kd.qq_|apply Kd.qr_|apply Kd.R_drew));exact HO_1194002.out))) (Kd.R_lt (by (with_reducible repeat (first|apply Kd.qq_|apply Kd.qr_|apply Kd.R_drew));exact HO_1204002.out))) (ql_ (by repeat (first|(with_reducible first|exact HB.out|apply qb_|apply qa_|apply qc_|refine qh_ ?_ GE1193.out|refine qh_ ?_ GE1203.out)|exact HB.out))));have n4_:=aK (qm_ (g:=gb1193) (o:=.cells #[.int .i64 t1187,.int .i64 t1188,.slice Ao18 t1189.length co18] 38 (0,0)) (by (with_reducible repeat (first|refine qg_ ?_ _|refine qi_ ?_|refine qf_ ?_ _));exact BK1193.out) hb);have n5_:=aK (qm_ (g:=gb1203) (o:=.cells #[.int .i64 t1197,.int .i64 t1198,.slice Ao25 t1199.length co25] 38 (0,0)) (by (with_reducible repeat (first|refine qg_ ?_ _|refine qi_ ?_|refine qf_ ?_ _));exact BK1203.out) hb);have n6_:=aK (qk_ (by repeat (first|(with_reducible first|exact HB.out|apply qb_|apply qa_|apply qc_|refine qh_ ?_ GE1193.out|refine qh_ ?_ GE1203.out)|exact HB.out)) hb);clear HO_10;clear HO_1194002;clear HO_1204002;clear BK1193;clear BK1203;clear HB;have HO_10:=n0_;have HO_1194002:=n1_;have HO_1204002:=n2_;have HO1207:=n3_;have BK1193:=n4_;have BK1203:=n5_;have HB:=n6_;clear n0_ n1_ n2_ n3_ n4_ n5_ n6_;(try clear hb);(try clear hb2);(try clear hk);(try clear hi);(try clear ho0);obtain ⟨Ao119,co119,eo119⟩:=Kd.qh2_ HO1207.out;subst eo119)|((with_reducible refine qt_ (f:=25) rfl ?_);refine goesL_ (some 52) rfl rfl Try.func25 (by kernel_rfl) rfl #[.slice Ao20 t1194.length co20,.slice Ao119 t1205.length co119] rfl (by (try simp only [List.map_toArray,List.map_cons,List.map_nil]);first|done|rfl|(simp only [List.length_drop,List.length_take];rfl)) ?_;(with_reducible refine (qx_.calls kj10 _ _ t1194 _ _ t1205 false _ ?side1 ?side2 ?side3 ?side4 A38.out).mono ?_);(case side1=>repeat (first|exact (Kd.qs1_ HO_10.out).2.2|(with_reducible refine Kd.qt2_ ?_ _)|(with_reducible refine Kd.qs2_ ?_ _)|(with_reducible refine Kd.C_drew ?_)));(case side2=>exact (Kd.qs1_ HO_10.out).2.1);(case side3=>repeat (first|exact (Kd.qs1_ HO1207.out).2.2|(with_reducible refine Kd.qt2_ ?_ _)|(with_reducible refine Kd.qs2_ ?_ _)|(with_reducible refine Kd.C_drew ?_)));(case side4=>exact (Kd.qs1_ HO1207.out).2.1);rintro e w120 ⟨rfl,hb⟩;refine ⟨_,rfl,?_⟩;have n0_:=aK (Kd.qt1_ (by (with_reducible repeat (first|apply Kd.qq_|apply Kd.qr_|apply Kd.R_drew));exact HO_10.out) hb);have n1_:=aK (Kd.qt1_ (by (with_reducible repeat (first|apply Kd.qq_|apply Kd.qr_|apply Kd.R_drew));exact HO_1194002.out) hb);have n2_:=aK (Kd.qt1_ (by (with_reducible repeat (first|apply Kd.qq_|apply Kd.qr_|apply Kd.R_drew));exact HO_1204002.out) hb);have n3_:=aK (Kd.qt1_ (by (with_reducible repeat (first|apply Kd.qq_|apply Kd.qr_|apply Kd.R_drew));exact HO1207.out) hb);have n4_:=aK (qm_ (g:=gb1193) (o:=.cells #[.int .i64 t1187,.int .i64 t1188,.slice Ao18 t1189.length co18] 38 (0,0)) (by (with_reducible repeat (first|refine qg_ ?_ _|refine qi_ ?_|refine qf_ ?_ _));exact BK1193.out) hb);have n5_:=aK (qm_ (g:=gb1203) (o:=.cells #[.int .i64 t1197,.int .i64 t1198,.slice Ao25 t1199.length co25] 38 (0,0)) (by (with_reducible repeat (first|refine qg_ ?_ _|refine qi_ ?_|refine qf_ ?_ _));exact BK1203.out) hb);have n6_:=aK (qk_ (by repeat (first|(with_reducible first|exact HB.out|apply qb_|apply qa_|apply qc_|refine qh_ ?_ GE1193.out|refine qh_ ?_ GE1203.out)|exact HB.out)) hb);clear HO_10;clear HO_1194002;clear HO_1204002;clear HO1207;clear BK1193;clear BK1203;clear HB;have HO_10:=n0_;have HO_1194002:=n1_;have HO_1204002:=n2_;have HO1207:=n3_;have BK1193:=n4_;have BK1203:=n5_;have HB:=n6_;clear n0_ n1_ n2_ n3_ n4_ n5_ n6_;(try clear hb);(try clear hb2);(try clear hk);(try clear hi)))
      go_ret
      exact ⟨by first|rfl|(simp [qo_,qn_] <;> rfl)|(simp [*,qo_,qn_] <;> rfl),by repeat (first|(with_reducible first|exact HB.out|apply qb_|apply qa_|apply qc_|refine qh_ ?_ GE1193.out|refine qh_ ?_ GE1203.out)|exact HB.out)⟩
end Go.Proofs.Ytaiefdhenikiiaa.Base
namespace Go.Proofs.Ytaiefdhenikiiaa.PFnExactSeriesOfCoordinates
open Go.RowKit Go.Proofs.YtaiefdhenikiiaaW.PrintWords Go.Proofs.YtaiefdhenikiiaaO Go.Proofs.Ytaiefdhenikiiaa.Base
set_option linter.unusedVariables false
/-- What is known of such a value that came in. -/
def ok73 (x:S73):Prop:=(Lit.int .i64 x.f0).wf=true∧(Lit.int .i64 x.f1).wf=true
theorem opens73:Opens Try.prog 73 k73 ok73:=opens_iso (fun x:S73=>(x.f0,x.f1)) (fun p=>⟨p.1,p.2⟩) (fun _=>rfl) (opens_two Try.underlying73 rfl rfl (by kernel_rfl) (opens_int Try.underlying2 (by kernel_rfl)) (opens_int Try.underlying2 (by kernel_rfl)))
/-- What is known of such a value that came in. -/
def ok75 (x:S75):Prop:=x.f0.size≤9223372036854775807∧ok73 x.f1
theorem opens75:Opens Try.prog 75 k75 ok75:=opens_iso (fun x:S75=>(x.f0,x.f1)) (fun p=>⟨p.1,p.2⟩) (fun _=>rfl) (opens_two Try.underlying75 rfl rfl (by kernel_rfl) (opens_string Try.underlying9 (by kernel_rfl)) opens73)
def qd_.Pure:Prop:=∀ (a0:Int) (a1:Int) (l2:List (S75)),(Lit.int .i64 a0).wf=true→(Lit.int .i64 a1).wf=true→(l2.length≤9223372036854775807∧∀ a_ ∈ l2,ok75 a_)→∃ k,qd_.f k a0 a1 l2=some true
end Go.Proofs.Ytaiefdhenikiiaa.PFnExactSeriesOfCoordinates
namespace Go.Proofs.Ytaiefdhenikiiaa.Pure
open Go.RowKit Go.Proofs.Ytaiefdhenikiiaa.Base Go.Proofs.Ytaiefdhenikiiaa.PFnExactSeriesOfCoordinates Go.Proofs.YtaiefdhenikiiaaW.PrintWords Go.Proofs.YtaiefdhenikiiaaW.PrintLast
set_option linter.unusedSimpArgs false
set_option linter.unusedVariables false
theorem FnExactSeriesOfCoordinates:qd_.Pure:=by
  intro D N l _ _ hl
  obtain ⟨hn,hok⟩:=hl
  obtain ⟨v,hv,hsz⟩:=sz_is l hn (fun x hx=>(hok x hx).1) 1048576 (by omega) (by omega)
  by_cases c:v < 0
  · refine Ev.rounds (r:=true) ?_
    unfold qd_.f
    refine Ev.bind hv ?_
    simp only [c,if_true]
    exact Ev.now _
  · obtain ⟨h1,h2⟩:=hsz (by omega)
    have hT:=toT_is l (by omega)
    obtain ⟨X,hX⟩:∃ X,X=l.map toX:=⟨_,rfl⟩
    rw [← hX] at hT
    have hXl:X.length=l.length:=by rw [hX,List.length_map]
    have hXs:X.length≤1048576∧∀ x ∈ X,x.f0.size≤1048576:=⟨by omega,fun x hx=>by
      rw [hX] at hx
      obtain ⟨y,hy,rfl⟩:=List.mem_map.1 hx
      exact h2 y hy⟩
    have hlen:=serCo_len D N X
    obtain ⟨⟨R1,R2,R,C⟩,hR⟩:∃ q,q=serCo D N X:=⟨_,rfl⟩
    rw [← hR] at hlen
    have hI:ql1_.f D N X=some (R1,R2,R,C):=by unfold ql1_.f;rw [if_pos hXs,hR]
    have hS:qc2_.f D N X=some (R1,R2,R,C):=by unfold qc2_.f;rw [if_pos hXs,hR]
    have eR:=eqSer_id R1 R2 R hlen
    have eX:=eqT_same X (by omega)
    obtain ⟨X',hXl',mX,_⟩:=marksT X (by omega)
    obtain ⟨R',mR,dR⟩:=marksSer_id R1 R2 R hlen
    refine Ev.rounds (r:=true) ?_
    unfold qd_.f
    refine Ev.bind hv ?_
    simp only [c,if_false]
    refine Ev.bind hT ?_
    simp only [hS,Option.bind_some]
    refine Ev.bind hT ?_
    simp only [hI,Option.bind_some]
    refine Ev.bind eR ?_
    simp only [if_true,bne_self_eq_false]
    have j2:Ev (fun k=>qd_.j2 k ((1+3 * R.length:Nat):Int) false R1 R2 R') true:=by
      refine Ev.step (f:=fun k=>(qp1_.f k R1 R2 R' 1).bind fun t=>if t < 0 then some false else if t=((1+3 * R.length:Nat):Int) then some true else some false) (fun k=>?_) (Ev.bind dR ?_)
      · simp only [qd_.j2,Bool.false_eq_true,if_false]
      · simp only [show ¬ ((1+3 * R.length:Nat):Int) < 0 by omega,if_false,if_true]
        exact Ev.now _
    have j1:Ev (fun k=>qd_.j1 k D N l C false R1 R2 R R1 R2 R) true:=by
      refine Ev.step (f:=fun k=>(qy1_.f k R1 R2 R 1).bind fun b=>(qp1_.f k R1 R2 b.2 1).bind fun t=>if t < 0 then some false else if t=b.1 then (qy_.f k l).bind fun t=>(ql1_.f D N t).bind fun q=>(qj1_.f k q.1 q.2.1 q.2.2.1 R1 R2 R).bind fun t=>if t=true then qd_.j2 k b.1 (q.2.2.2 != C) R1 R2 b.2 else qd_.j2 k b.1 true R1 R2 b.2 else some false) (fun k=>?_) (Ev.bind mR (Ev.bind dR ?_))
      · simp only [qd_.j1,Bool.false_eq_true,if_false]
      · simp only [show ¬ ((1+3 * R.length:Nat):Int) < 0 by omega,if_false,if_true]
        refine Ev.bind hT ?_
        simp only [hI,Option.bind_some]
        refine Ev.bind eR ?_
        simp only [if_true,bne_self_eq_false]
        exact j2
    refine Ev.step (f:=fun k=>(qy_.f k l).bind fun t=>(qx_.f k X t).bind fun t=>if t=true then (qb1_.f k X 1).bind fun b=>(if b.1 < 0 then qd_.j1 k D N l C true R1 R2 R R1 R2 R else (qj1_.f k R1 R2 R R1 R2 R).bind fun t=>if t=true then qd_.j1 k D N l C (C != C) R1 R2 R R1 R2 R else qd_.j1 k D N l C true R1 R2 R R1 R2 R) else some false) (fun k=>?_) (Ev.bind hT (Ev.bind eX ?_))
    · simp only [qd_.j0,Bool.false_eq_true,if_false]
    · simp only [if_true]
      refine Ev.bind mX ?_
      simp only [show ¬ ((1+3 * X.length:Nat):Int) < 0 by omega,if_false]
      refine Ev.bind eR ?_
      simp only [if_true,bne_self_eq_false]
      exact j1
end Go.Proofs.Ytaiefdhenikiiaa.Pure
