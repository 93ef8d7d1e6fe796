/- Texts that the proof of FnExactJoinedSeries needs, part 11. No condition. -/
import Derived.Test.YtaiefdhenikiiaaMFnExactJoinedSeries10
namespace Go.Proofs.Ytaiefdhenikiiaa.Base
open Go.RowKit Go.Proofs.YtaiefdhenikiiaaW.PrintWords Go.Proofs.YtaiefdhenikiiaaW.PrintLast Go.Proofs.YtaiefdhenikiiaaW.PrintMore
set_option linter.unusedVariables false
set_option linter.unusedSimpArgs false
theorem logT_bad' {d n:Nat} {t:Tb} (hn:1≤n) (h:t.bad=true):(logT t (zeroT d n)).bad=true:=logT_bad hn (sumT_bad (Or.inl h))
set_option maxHeartbeats 32000000 in
set_option maxRecDepth 100000 in
theorem joinSp (w:World) (d n:Nat) (hs:Sz d n) (hn:1≤n) {a b:Tb} (ha:Like a (zeroT d n)) (hb:Like b (zeroT d n)) (hba:a.bad=false) (hbb:b.bad=false) {A B:Option Addr} {ca cb:Nat} (hA:TmsC w A ca (termsT a)) (hB:TmsC w B cb (termsT b)) :
    Calls Try.prog 143 #[.agg #[.int .i64 (d:Int),.int .i64 (n:Int),.slice A (termsT a).length ca],.agg #[.int .i64 (d:Int),.int .i64 (n:Int),.slice B (termsT b).length cb]] w (OutR w d n (outT (joinT d n a b))):=by
  have hu2:=Try.underlying38
  have HA:=Aside0.mk hA
  have HB:=Aside0.mk hB
  obtain ⟨R,hR⟩:∃ R,R=outT (joinT d n a b):=⟨_,rfl⟩
  rw [← hR]
  obtain ⟨EA,hEA⟩:∃ T,T=expT a (zeroT d n):=⟨_,rfl⟩
  obtain ⟨EB,hEB⟩:∃ T,T=expT b (zeroT d n):=⟨_,rfl⟩
  obtain ⟨P,hP⟩:∃ T,T=timesT EA EB:=⟨_,rfl⟩
  have hJ:joinT d n a b=logT P (zeroT d n):=by rw [hP,hEA,hEB];rfl
  have HRP:=Aside0.mk (show P.bad=true→R=none from fun h=>by rw [hR,hJ];exact outT_bad (logT_bad' hn h))
  have HRA:=Aside0.mk (show EA.bad=true→R=none from fun h=>HRP.out (by rw [hP];exact timesT_bad (Or.inl h)))
  have HRB:=Aside0.mk (show EB.bad=true→R=none from fun h=>HRP.out (by rw [hP];exact timesT_bad (Or.inr h)))
  have hRL:R=outT (logT P (zeroT d n)):=by rw [hR,hJ]
  have hLA:Like EA (zeroT d n):=by rw [hEA];exact expT_like hs
  have hLB:Like EB (zeroT d n):=by rw [hEB];exact expT_like hs
  have hLP:Like P (zeroT d n):=by rw [hP];exact timesT_like' hLA
  have hE1:∀ W A ca,TmsC W A ca (termsT a)→Calls Try.prog 102 #[.agg #[.int .i64 (d:Int),.int .i64 (n:Int),.slice A (termsT a).length ca]] W (OutR W d n (outT EA)):=fun W A ca h=>by rw [hEA];exact expSp W d n hs ha hba h
  have hE2:∀ W A ca,TmsC W A ca (termsT b)→Calls Try.prog 102 #[.agg #[.int .i64 (d:Int),.int .i64 (n:Int),.slice A (termsT b).length ca]] W (OutR W d n (outT EB)):=fun W A ca h=>by rw [hEB];exact expSp W d n hs hb hbb h
  have HL1:=Aside0.mk (terms_len hLA hs)
  have HL2:=Aside0.mk (terms_len hLB hs)
  have HL3:=Aside0.mk (terms_len hLP hs)
  have hTI:EA.bad=false→EB.bad=false→∀ W B1 c1 C1 e1,TmsC W B1 c1 (termsT EA)→TmsC W C1 e1 (termsT EB)→Calls Try.prog 133 #[.agg #[.int .i64 (d:Int),.int .i64 (n:Int),.slice B1 (termsT EA).length c1],.agg #[.int .i64 (d:Int),.int .i64 (n:Int),.slice C1 (termsT EB).length e1]] W (OutR W d n (outT P)):=fun g1 g2 W B1 c1 C1 e1 h1 h2=>by rw [hP];exact timesS W d n hs hLA hLB g1 g2 h1 h2
  have hLO:P.bad=false→∀ W B1 c1,TmsC W B1 c1 (termsT P)→Calls Try.prog 148 #[.agg #[.int .i64 (d:Int),.int .i64 (n:Int),.slice B1 (termsT P).length c1]] W (OutR W d n R):=fun g W B1 c1 h=>by rw [hRL];exact logSp W d n hs hn hLP g h
  clear hs hn ha hb hba hbb hA hB hR hJ hRL hLA hLB hLP hEA hEB hP
  generalize termsT a=la at HA hE1 ⊢
  generalize termsT b=lb at HB hE2 ⊢
  by_cases c1:EA.bad=true
  · rw [outT_bad c1] at hE1
    have HRN:=Aside0.mk (HRA.out c1)
    have HE1:=Aside0.mk hE1
    have HE2:=Aside0.mk hE2
    clear hE1 hE2 hTI hLO c1
    go_enter Try.func143,Try.ntmps143
    have cx0:(((w.alloc (.cells #[.int .i64 (d:Int),.int .i64 (n:Int),.slice A la.length ca] 38)).alloc (.cells #[.int .i64 (d:Int),.int .i64 (n:Int),.slice B lb.length cb] 38)).alloc (.cells #[.int .i64 0,.int .i64 0,.slice none 0 0] 38)).cell? ⟨w.heap.size,0,none⟩=some (.int .i64 (d:Int)):=qe_ (old_at (old_at (new_at rfl))) 0
    have cx1:(((w.alloc (.cells #[.int .i64 (d:Int),.int .i64 (n:Int),.slice A la.length ca] 38)).alloc (.cells #[.int .i64 (d:Int),.int .i64 (n:Int),.slice B lb.length cb] 38)).alloc (.cells #[.int .i64 0,.int .i64 0,.slice none 0 0] 38)).cell? ⟨w.heap.size,1,none⟩=some (.int .i64 (n:Int)):=qe_ (old_at (old_at (new_at rfl))) 1
    have cx2:(((w.alloc (.cells #[.int .i64 (d:Int),.int .i64 (n:Int),.slice A la.length ca] 38)).alloc (.cells #[.int .i64 (d:Int),.int .i64 (n:Int),.slice B lb.length cb] 38)).alloc (.cells #[.int .i64 0,.int .i64 0,.slice none 0 0] 38)).cell? ⟨w.heap.size,2,none⟩=some (.slice A la.length ca):=qe_ (old_at (old_at (new_at rfl))) 2
    go_wp2_with (first
      | (go_at_call 102;(with_reducible refine (HE1.out _ _ _ (HA.out.below (qb_ (qb_ (qb_ (Below.refl _ _) _) _) _))).mono ?_);rintro e w3 ⟨v,rfl,hv,hb⟩;obtain ⟨A3,c3,rfl⟩:=Kd.qd2_ hv;have Sx:SrAt w3 (w.heap.size) (d:Int) (n:Int) (.slice A la.length ca):=qk_ (old_at (old_at (new_at rfl))) hb;have Sy:SrAt w3 (w.heap.size+1) (d:Int) (n:Int) (.slice B lb.length cb):=qk_ (old_at (new_at (by simp))) hb;have Sr:SrAt w3 (w.heap.size+1+1) 0 0 (.slice none 0 0):=qk_ (new_at (by simp)) hb;clear cx0 cx1 cx2;have G8:=Aside0.mk (show Below w.heap.size w w3 from qh_ (qb_ (qb_ (qb_ (Below.refl _ _) _) _) _) hb);have cy0:(w3.alloc (.cells #[.int .i64 0,.int .i64 0,.slice A3 0 c3] 38)).cell? ⟨w.heap.size+1,0,none⟩=some (.int .i64 (d:Int)):=SrAt.c0 (SrAt.alloc Sy _);have cy1:(w3.alloc (.cells #[.int .i64 0,.int .i64 0,.slice A3 0 c3] 38)).cell? ⟨w.heap.size+1,1,none⟩=some (.int .i64 (n:Int)):=SrAt.c1 (SrAt.alloc Sy _);have cy2:(w3.alloc (.cells #[.int .i64 0,.int .i64 0,.slice A3 0 c3] 38)).cell? ⟨w.heap.size+1,2,none⟩=some (.slice B lb.length cb):=SrAt.c2 (SrAt.alloc Sy _);have HSx:=Aside0.mk Sx;have HSy:=Aside0.mk Sy;have HSr:=Aside0.mk Sr;clear Sx Sy Sr;clear hv hb)
      | (go_at_call 102;(with_reducible refine (HE2.out _ _ _ (HB.out.below (qb_ G8.out _))).mono ?_);rintro e w4 h_;obtain ⟨D4,N4,X4,c4,m4,ok4,rfl,ho,hv,hb⟩:=h_.val;have So:SrAt w4 (w3.heap.size) 0 0 (.slice A3 0 c3):=qk_ (new_at rfl) hb;have Sx:SrAt w4 (w.heap.size) (d:Int) (n:Int) (.slice A la.length ca):=SrAt.below (SrAt.alloc HSx.out _) hb;have Sy:SrAt w4 (w.heap.size+1) (d:Int) (n:Int) (.slice B lb.length cb):=SrAt.below (SrAt.alloc HSy.out _) hb;have Sr:SrAt w4 (w.heap.size+1+1) 0 0 (.slice none 0 0):=SrAt.below (SrAt.alloc HSr.out _) hb;clear cy0 cy1 cy2;have J4:=Aside0.mk (show Below w.heap.size w w4 from qh_ (qb_ G8.out _) hb);have cr0:(w4.alloc (.cells #[.int .i64 D4,.int .i64 N4,.slice X4 m4.length c4] 38)).cell? ⟨w.heap.size+1+1,0,none⟩=some (.int .i64 0):=SrAt.c0 (SrAt.alloc Sr _);have fr0:(w4.alloc (.cells #[.int .i64 D4,.int .i64 N4,.slice X4 m4.length c4] 38)).frozen? ⟨w.heap.size+1+1,0,none⟩=false:=qd_ (SrAt.alloc Sr _) 0;have cr1:(w4.alloc (.cells #[.int .i64 D4,.int .i64 N4,.slice X4 m4.length c4] 38)).cell? ⟨w.heap.size+1+1,1,none⟩=some (.int .i64 0):=SrAt.c1 (SrAt.alloc Sr _);have fr1:(w4.alloc (.cells #[.int .i64 D4,.int .i64 N4,.slice X4 m4.length c4] 38)).frozen? ⟨w.heap.size+1+1,1,none⟩=false:=qd_ (SrAt.alloc Sr _) 1;have cr2:(w4.alloc (.cells #[.int .i64 D4,.int .i64 N4,.slice X4 m4.length c4] 38)).cell? ⟨w.heap.size+1+1,2,none⟩=some (.slice none 0 0):=SrAt.c2 (SrAt.alloc Sr _);have fr2:(w4.alloc (.cells #[.int .i64 D4,.int .i64 N4,.slice X4 m4.length c4] 38)).frozen? ⟨w.heap.size+1+1,2,none⟩=false:=qd_ (SrAt.alloc Sr _) 2;replace HSx:=Aside0.mk Sx;replace HSy:=Aside0.mk Sy;replace HSr:=Aside0.mk Sr;have HSo:=Aside0.mk So;clear Sx Sy Sr So;clear h_ ho hv hb))
    refine bodyPost_ret (results_ct rfl _ _ (w.heap.size+1+1) 38 _ (0,0) _ rfl (qu_ (qu_ (qu_ (HSr.out.alloc _) 0 _) 1 _) 2 _) hu2 rfl (by kernel_rfl)) rfl ?_
    rw [HRN.out]
    exact ⟨_,rfl,Kd.R_nil _ _ _ _ _,below_box3 (qb_ J4.out _) (Nat.le_trans (Nat.le_add_right _ 1) (Nat.le_add_right _ 1)) _ _ _⟩
  · have g1:EA.bad=false:=by simpa using c1
    rw [outT_good g1] at hE1
    by_cases c2:EB.bad=true
    · rw [outT_bad c2] at hE2
      have HRN:=Aside0.mk (HRB.out c2)
      have HE1:=Aside0.mk hE1
      have HE2:=Aside0.mk hE2
      clear hE1 hE2 hTI hLO c1 c2 g1
      generalize termsT EA=l1 at HE1 HL1
      go_enter Try.func143,Try.ntmps143
      have cx0:(((w.alloc (.cells #[.int .i64 (d:Int),.int .i64 (n:Int),.slice A la.length ca] 38)).alloc (.cells #[.int .i64 (d:Int),.int .i64 (n:Int),.slice B lb.length cb] 38)).alloc (.cells #[.int .i64 0,.int .i64 0,.slice none 0 0] 38)).cell? ⟨w.heap.size,0,none⟩=some (.int .i64 (d:Int)):=qe_ (old_at (old_at (new_at rfl))) 0
      have cx1:(((w.alloc (.cells #[.int .i64 (d:Int),.int .i64 (n:Int),.slice A la.length ca] 38)).alloc (.cells #[.int .i64 (d:Int),.int .i64 (n:Int),.slice B lb.length cb] 38)).alloc (.cells #[.int .i64 0,.int .i64 0,.slice none 0 0] 38)).cell? ⟨w.heap.size,1,none⟩=some (.int .i64 (n:Int)):=qe_ (old_at (old_at (new_at rfl))) 1
      have cx2:(((w.alloc (.cells #[.int .i64 (d:Int),.int .i64 (n:Int),.slice A la.length ca] 38)).alloc (.cells #[.int .i64 (d:Int),.int .i64 (n:Int),.slice B lb.length cb] 38)).alloc (.cells #[.int .i64 0,.int .i64 0,.slice none 0 0] 38)).cell? ⟨w.heap.size,2,none⟩=some (.slice A la.length ca):=qe_ (old_at (old_at (new_at rfl))) 2
      go_wp2_with (first
        | (go_at_call 102;(with_reducible refine (HE1.out _ _ _ (HA.out.below (qb_ (qb_ (qb_ (Below.refl _ _) _) _) _))).mono ?_);rintro e w3 ⟨v,rfl,hv,hb⟩;obtain ⟨A3,c3,rfl⟩:=Kd.qd2_ hv;have HT3:=Aside0.mk (TmsC.of hv (by have:=HL1.out;omega)).1;have Sx:SrAt w3 (w.heap.size) (d:Int) (n:Int) (.slice A la.length ca):=qk_ (old_at (old_at (new_at rfl))) hb;have Sy:SrAt w3 (w.heap.size+1) (d:Int) (n:Int) (.slice B lb.length cb):=qk_ (old_at (new_at (by simp))) hb;have Sr:SrAt w3 (w.heap.size+1+1) 0 0 (.slice none 0 0):=qk_ (new_at (by simp)) hb;clear cx0 cx1 cx2;have G8:=Aside0.mk (show Below w.heap.size w w3 from qh_ (qb_ (qb_ (qb_ (Below.refl _ _) _) _) _) hb);have cy0:(w3.alloc (.cells #[.int .i64 (d:Int),.int .i64 (n:Int),.slice A3 l1.length c3] 38)).cell? ⟨w.heap.size+1,0,none⟩=some (.int .i64 (d:Int)):=SrAt.c0 (SrAt.alloc Sy _);have cy1:(w3.alloc (.cells #[.int .i64 (d:Int),.int .i64 (n:Int),.slice A3 l1.length c3] 38)).cell? ⟨w.heap.size+1,1,none⟩=some (.int .i64 (n:Int)):=SrAt.c1 (SrAt.alloc Sy _);have cy2:(w3.alloc (.cells #[.int .i64 (d:Int),.int .i64 (n:Int),.slice A3 l1.length c3] 38)).cell? ⟨w.heap.size+1,2,none⟩=some (.slice B lb.length cb):=SrAt.c2 (SrAt.alloc Sy _);have HSx:=Aside0.mk Sx;have HSy:=Aside0.mk Sy;have HSr:=Aside0.mk Sr;clear Sx Sy Sr;clear hv hb)
        | (go_at_call 102;(with_reducible refine (HE2.out _ _ _ (HB.out.below (qb_ G8.out _))).mono ?_);rintro e w4 ⟨v,rfl,hv,hb⟩;obtain ⟨A4,c4,rfl⟩:=Kd.qd2_ hv;have So:SrAt w4 (w3.heap.size) (d:Int) (n:Int) (.slice A3 l1.length c3):=qk_ (new_at rfl) hb;have Sx:SrAt w4 (w.heap.size) (d:Int) (n:Int) (.slice A la.length ca):=SrAt.below (SrAt.alloc HSx.out _) hb;have Sy:SrAt w4 (w.heap.size+1) (d:Int) (n:Int) (.slice B lb.length cb):=SrAt.below (SrAt.alloc HSy.out _) hb;have Sr:SrAt w4 (w.heap.size+1+1) 0 0 (.slice none 0 0):=SrAt.below (SrAt.alloc HSr.out _) hb;clear cy0 cy1 cy2;have J4:=Aside0.mk (show Below w.heap.size w w4 from qh_ (qb_ G8.out _) hb);have cr0:(w4.alloc (.cells #[.int .i64 0,.int .i64 0,.slice A4 0 c4] 38)).cell? ⟨w.heap.size+1+1,0,none⟩=some (.int .i64 0):=SrAt.c0 (SrAt.alloc Sr _);have fr0:(w4.alloc (.cells #[.int .i64 0,.int .i64 0,.slice A4 0 c4] 38)).frozen? ⟨w.heap.size+1+1,0,none⟩=false:=qd_ (SrAt.alloc Sr _) 0;have cr1:(w4.alloc (.cells #[.int .i64 0,.int .i64 0,.slice A4 0 c4] 38)).cell? ⟨w.heap.size+1+1,1,none⟩=some (.int .i64 0):=SrAt.c1 (SrAt.alloc Sr _);have fr1:(w4.alloc (.cells #[.int .i64 0,.int .i64 0,.slice A4 0 c4] 38)).frozen? ⟨w.heap.size+1+1,1,none⟩=false:=qd_ (SrAt.alloc Sr _) 1;have cr2:(w4.alloc (.cells #[.int .i64 0,.int .i64 0,.slice A4 0 c4] 38)).cell? ⟨w.heap.size+1+1,2,none⟩=some (.slice none 0 0):=SrAt.c2 (SrAt.alloc Sr _);have fr2:(w4.alloc (.cells #[.int .i64 0,.int .i64 0,.slice A4 0 c4] 38)).frozen? ⟨w.heap.size+1+1,2,none⟩=false:=qd_ (SrAt.alloc Sr _) 2;replace HSx:=Aside0.mk Sx;replace HSy:=Aside0.mk Sy;replace HSr:=Aside0.mk Sr;have HSo:=Aside0.mk So;clear Sx Sy Sr So;clear hv hb))
      refine bodyPost_ret (results_ct rfl _ _ (w.heap.size+1+1) 38 _ (0,0) _ rfl (qu_ (qu_ (qu_ (HSr.out.alloc _) 0 _) 1 _) 2 _) hu2 rfl (by kernel_rfl)) rfl ?_
      rw [HRN.out]
      exact ⟨_,rfl,Kd.R_nil _ _ _ _ _,below_box3 (qb_ J4.out _) (Nat.le_trans (Nat.le_add_right _ 1) (Nat.le_add_right _ 1)) _ _ _⟩
    · have g2:EB.bad=false:=by simpa using c2
      rw [outT_good g2] at hE2
      have hTI:=hTI g1 g2
      have HE1:=Aside0.mk hE1
      have HE2:=Aside0.mk hE2
      clear hE1 hE2 c1 c2 g1 g2
      generalize termsT EA=l1 at HE1 HL1 hTI
      generalize termsT EB=l2 at HE2 HL2 hTI
      by_cases c3:P.bad=true
      · rw [outT_bad c3] at hTI
        have HRN:=Aside0.mk (HRP.out c3)
        have HTI:=Aside0.mk hTI
        clear hTI hLO c3
        go_enter Try.func143,Try.ntmps143
        have cx0:(((w.alloc (.cells #[.int .i64 (d:Int),.int .i64 (n:Int),.slice A la.length ca] 38)).alloc (.cells #[.int .i64 (d:Int),.int .i64 (n:Int),.slice B lb.length cb] 38)).alloc (.cells #[.int .i64 0,.int .i64 0,.slice none 0 0] 38)).cell? ⟨w.heap.size,0,none⟩=some (.int .i64 (d:Int)):=qe_ (old_at (old_at (new_at rfl))) 0
        have cx1:(((w.alloc (.cells #[.int .i64 (d:Int),.int .i64 (n:Int),.slice A la.length ca] 38)).alloc (.cells #[.int .i64 (d:Int),.int .i64 (n:Int),.slice B lb.length cb] 38)).alloc (.cells #[.int .i64 0,.int .i64 0,.slice none 0 0] 38)).cell? ⟨w.heap.size,1,none⟩=some (.int .i64 (n:Int)):=qe_ (old_at (old_at (new_at rfl))) 1
        have cx2:(((w.alloc (.cells #[.int .i64 (d:Int),.int .i64 (n:Int),.slice A la.length ca] 38)).alloc (.cells #[.int .i64 (d:Int),.int .i64 (n:Int),.slice B lb.length cb] 38)).alloc (.cells #[.int .i64 0,.int .i64 0,.slice none 0 0] 38)).cell? ⟨w.heap.size,2,none⟩=some (.slice A la.length ca):=qe_ (old_at (old_at (new_at rfl))) 2
        go_wp2_with (first
          | (go_at_call 102;(with_reducible refine (HE1.out _ _ _ (HA.out.below (qb_ (qb_ (qb_ (Below.refl _ _) _) _) _))).mono ?_);rintro e w3 ⟨v,rfl,hv,hb⟩;obtain ⟨A3,c3,rfl⟩:=Kd.qd2_ hv;have HT3:=Aside0.mk (TmsC.of hv (by have:=HL1.out;omega)).1;have Sx:SrAt w3 (w.heap.size) (d:Int) (n:Int) (.slice A la.length ca):=qk_ (old_at (old_at (new_at rfl))) hb;have Sy:SrAt w3 (w.heap.size+1) (d:Int) (n:Int) (.slice B lb.length cb):=qk_ (old_at (new_at (by simp))) hb;have Sr:SrAt w3 (w.heap.size+1+1) 0 0 (.slice none 0 0):=qk_ (new_at (by simp)) hb;clear cx0 cx1 cx2;have G8:=Aside0.mk (show Below w.heap.size w w3 from qh_ (qb_ (qb_ (qb_ (Below.refl _ _) _) _) _) hb);have cy0:(w3.alloc (.cells #[.int .i64 (d:Int),.int .i64 (n:Int),.slice A3 l1.length c3] 38)).cell? ⟨w.heap.size+1,0,none⟩=some (.int .i64 (d:Int)):=SrAt.c0 (SrAt.alloc Sy _);have cy1:(w3.alloc (.cells #[.int .i64 (d:Int),.int .i64 (n:Int),.slice A3 l1.length c3] 38)).cell? ⟨w.heap.size+1,1,none⟩=some (.int .i64 (n:Int)):=SrAt.c1 (SrAt.alloc Sy _);have cy2:(w3.alloc (.cells #[.int .i64 (d:Int),.int .i64 (n:Int),.slice A3 l1.length c3] 38)).cell? ⟨w.heap.size+1,2,none⟩=some (.slice B lb.length cb):=SrAt.c2 (SrAt.alloc Sy _);have HSx:=Aside0.mk Sx;have HSy:=Aside0.mk Sy;have HSr:=Aside0.mk Sr;clear Sx Sy Sr;clear hv hb)
          | (go_at_call 102;(with_reducible refine (HE2.out _ _ _ (HB.out.below (qb_ G8.out _))).mono ?_);rintro e w4 ⟨v,rfl,hv,hb⟩;obtain ⟨A4,c4,rfl⟩:=Kd.qd2_ hv;have HT4:=Aside0.mk (TmsC.of hv (by have:=HL2.out;omega)).1;replace HT3:=Aside0.mk ((HT3.out.below (qb_ (Below.refl _ _) _)).below hb);have So:SrAt w4 (w3.heap.size) (d:Int) (n:Int) (.slice A3 l1.length c3):=qk_ (new_at rfl) hb;have Sx:SrAt w4 (w.heap.size) (d:Int) (n:Int) (.slice A la.length ca):=SrAt.below (SrAt.alloc HSx.out _) hb;have Sy:SrAt w4 (w.heap.size+1) (d:Int) (n:Int) (.slice B lb.length cb):=SrAt.below (SrAt.alloc HSy.out _) hb;have Sr:SrAt w4 (w.heap.size+1+1) 0 0 (.slice none 0 0):=SrAt.below (SrAt.alloc HSr.out _) hb;clear cy0 cy1 cy2;have J4:=Aside0.mk (show Below w.heap.size w w4 from qh_ (qb_ G8.out _) hb);have co0:(w4.alloc (.cells #[.int .i64 (d:Int),.int .i64 (n:Int),.slice A4 l2.length c4] 38)).cell? ⟨w3.heap.size,0,none⟩=some (.int .i64 (d:Int)):=SrAt.c0 (SrAt.alloc So _);have co1:(w4.alloc (.cells #[.int .i64 (d:Int),.int .i64 (n:Int),.slice A4 l2.length c4] 38)).cell? ⟨w3.heap.size,1,none⟩=some (.int .i64 (n:Int)):=SrAt.c1 (SrAt.alloc So _);have co2:(w4.alloc (.cells #[.int .i64 (d:Int),.int .i64 (n:Int),.slice A4 l2.length c4] 38)).cell? ⟨w3.heap.size,2,none⟩=some (.slice A3 l1.length c3):=SrAt.c2 (SrAt.alloc So _);replace HSx:=Aside0.mk Sx;replace HSy:=Aside0.mk Sy;replace HSr:=Aside0.mk Sr;have HSo:=Aside0.mk So;clear Sx Sy Sr So;clear hv hb)
          | (go_at_call 133;(with_reducible refine (HTI.out _ _ _ _ _ (HT3.out.below (qb_ (Below.refl _ _) _)) (HT4.out.below (qb_ (Below.refl _ _) _))).mono ?_);rintro e w5 ⟨v,rfl,hv,hb⟩;obtain ⟨A5,c5,rfl⟩:=Kd.qd2_ hv;have Sp:SrAt w5 (w4.heap.size) (d:Int) (n:Int) (.slice A4 l2.length c4):=qk_ (new_at rfl) hb;have Sx:SrAt w5 (w.heap.size) (d:Int) (n:Int) (.slice A la.length ca):=SrAt.below (SrAt.alloc HSx.out _) hb;have Sy:SrAt w5 (w.heap.size+1) (d:Int) (n:Int) (.slice B lb.length cb):=SrAt.below (SrAt.alloc HSy.out _) hb;have Sr:SrAt w5 (w.heap.size+1+1) 0 0 (.slice none 0 0):=SrAt.below (SrAt.alloc HSr.out _) hb;have So:SrAt w5 (w3.heap.size) (d:Int) (n:Int) (.slice A3 l1.length c3):=SrAt.below (SrAt.alloc HSo.out _) hb;clear co0 co1 co2;have J3:=Aside0.mk (show Below w.heap.size w w5 from qh_ (qb_ J4.out _) hb);have cr0:(w5.alloc (.cells #[.int .i64 0,.int .i64 0,.slice A5 0 c5] 38)).cell? ⟨w.heap.size+1+1,0,none⟩=some (.int .i64 0):=SrAt.c0 (SrAt.alloc Sr _);have fr0:(w5.alloc (.cells #[.int .i64 0,.int .i64 0,.slice A5 0 c5] 38)).frozen? ⟨w.heap.size+1+1,0,none⟩=false:=qd_ (SrAt.alloc Sr _) 0;have cr1:(w5.alloc (.cells #[.int .i64 0,.int .i64 0,.slice A5 0 c5] 38)).cell? ⟨w.heap.size+1+1,1,none⟩=some (.int .i64 0):=SrAt.c1 (SrAt.alloc Sr _);have fr1:(w5.alloc (.cells #[.int .i64 0,.int .i64 0,.slice A5 0 c5] 38)).frozen? ⟨w.heap.size+1+1,1,none⟩=false:=qd_ (SrAt.alloc Sr _) 1;have cr2:(w5.alloc (.cells #[.int .i64 0,.int .i64 0,.slice A5 0 c5] 38)).cell? ⟨w.heap.size+1+1,2,none⟩=some (.slice none 0 0):=SrAt.c2 (SrAt.alloc Sr _);have fr2:(w5.alloc (.cells #[.int .i64 0,.int .i64 0,.slice A5 0 c5] 38)).frozen? ⟨w.heap.size+1+1,2,none⟩=false:=qd_ (SrAt.alloc Sr _) 2;replace HSx:=Aside0.mk Sx;replace HSy:=Aside0.mk Sy;replace HSr:=Aside0.mk Sr;replace HSo:=Aside0.mk So;have HSp:=Aside0.mk Sp;clear Sx Sy Sr So Sp;clear hv hb))
        refine bodyPost_ret (results_ct rfl _ _ (w.heap.size+1+1) 38 _ (0,0) _ rfl (qu_ (qu_ (qu_ (HSr.out.alloc _) 0 _) 1 _) 2 _) hu2 rfl (by kernel_rfl)) rfl ?_
        rw [HRN.out]
        exact ⟨_,rfl,Kd.R_nil _ _ _ _ _,below_box3 (qb_ J3.out _) (Nat.le_trans (Nat.le_add_right _ 1) (Nat.le_add_right _ 1)) _ _ _⟩
      · have g3:P.bad=false:=by simpa using c3
        rw [outT_good g3] at hTI
        have HTI:=Aside0.mk hTI
        have HLO:=Aside0.mk (hLO g3)
        clear hTI hLO c3 g3
        generalize termsT P=l3 at HTI HLO HL3
        go_enter Try.func143,Try.ntmps143
        have cx0:(((w.alloc (.cells #[.int .i64 (d:Int),.int .i64 (n:Int),.slice A la.length ca] 38)).alloc (.cells #[.int .i64 (d:Int),.int .i64 (n:Int),.slice B lb.length cb] 38)).alloc (.cells #[.int .i64 0,.int .i64 0,.slice none 0 0] 38)).cell? ⟨w.heap.size,0,none⟩=some (.int .i64 (d:Int)):=qe_ (old_at (old_at (new_at rfl))) 0
        have cx1:(((w.alloc (.cells #[.int .i64 (d:Int),.int .i64 (n:Int),.slice A la.length ca] 38)).alloc (.cells #[.int .i64 (d:Int),.int .i64 (n:Int),.slice B lb.length cb] 38)).alloc (.cells #[.int .i64 0,.int .i64 0,.slice none 0 0] 38)).cell? ⟨w.heap.size,1,none⟩=some (.int .i64 (n:Int)):=qe_ (old_at (old_at (new_at rfl))) 1
        have cx2:(((w.alloc (.cells #[.int .i64 (d:Int),.int .i64 (n:Int),.slice A la.length ca] 38)).alloc (.cells #[.int .i64 (d:Int),.int .i64 (n:Int),.slice B lb.length cb] 38)).alloc (.cells #[.int .i64 0,.int .i64 0,.slice none 0 0] 38)).cell? ⟨w.heap.size,2,none⟩=some (.slice A la.length ca):=qe_ (old_at (old_at (new_at rfl))) 2
        go_wp2_with (first
          | (go_at_call 102;(with_reducible refine (HE1.out _ _ _ (HA.out.below (qb_ (qb_ (qb_ (Below.refl _ _) _) _) _))).mono ?_);rintro e w3 ⟨v,rfl,hv,hb⟩;obtain ⟨A3,c3,rfl⟩:=Kd.qd2_ hv;have HT3:=Aside0.mk (TmsC.of hv (by have:=HL1.out;omega)).1;have Sx:SrAt w3 (w.heap.size) (d:Int) (n:Int) (.slice A la.length ca):=qk_ (old_at (old_at (new_at rfl))) hb;have Sy:SrAt w3 (w.heap.size+1) (d:Int) (n:Int) (.slice B lb.length cb):=qk_ (old_at (new_at (by simp))) hb;have Sr:SrAt w3 (w.heap.size+1+1) 0 0 (.slice none 0 0):=qk_ (new_at (by simp)) hb;clear cx0 cx1 cx2;have G8:=Aside0.mk (show Below w.heap.size w w3 from qh_ (qb_ (qb_ (qb_ (Below.refl _ _) _) _) _) hb);have cy0:(w3.alloc (.cells #[.int .i64 (d:Int),.int .i64 (n:Int),.slice A3 l1.length c3] 38)).cell? ⟨w.heap.size+1,0,none⟩=some (.int .i64 (d:Int)):=SrAt.c0 (SrAt.alloc Sy _);have cy1:(w3.alloc (.cells #[.int .i64 (d:Int),.int .i64 (n:Int),.slice A3 l1.length c3] 38)).cell? ⟨w.heap.size+1,1,none⟩=some (.int .i64 (n:Int)):=SrAt.c1 (SrAt.alloc Sy _);have cy2:(w3.alloc (.cells #[.int .i64 (d:Int),.int .i64 (n:Int),.slice A3 l1.length c3] 38)).cell? ⟨w.heap.size+1,2,none⟩=some (.slice B lb.length cb):=SrAt.c2 (SrAt.alloc Sy _);have HSx:=Aside0.mk Sx;have HSy:=Aside0.mk Sy;have HSr:=Aside0.mk Sr;clear Sx Sy Sr;clear hv hb)
          | (go_at_call 102;(with_reducible refine (HE2.out _ _ _ (HB.out.below (qb_ G8.out _))).mono ?_);rintro e w4 ⟨v,rfl,hv,hb⟩;obtain ⟨A4,c4,rfl⟩:=Kd.qd2_ hv;have HT4:=Aside0.mk (TmsC.of hv (by have:=HL2.out;omega)).1;replace HT3:=Aside0.mk ((HT3.out.below (qb_ (Below.refl _ _) _)).below hb);have So:SrAt w4 (w3.heap.size) (d:Int) (n:Int) (.slice A3 l1.length c3):=qk_ (new_at rfl) hb;have Sx:SrAt w4 (w.heap.size) (d:Int) (n:Int) (.slice A la.length ca):=SrAt.below (SrAt.alloc HSx.out _) hb;have Sy:SrAt w4 (w.heap.size+1) (d:Int) (n:Int) (.slice B lb.length cb):=SrAt.below (SrAt.alloc HSy.out _) hb;have Sr:SrAt w4 (w.heap.size+1+1) 0 0 (.slice none 0 0):=SrAt.below (SrAt.alloc HSr.out _) hb;clear cy0 cy1 cy2;have J4:=Aside0.mk (show Below w.heap.size w w4 from qh_ (qb_ G8.out _) hb);have co0:(w4.alloc (.cells #[.int .i64 (d:Int),.int .i64 (n:Int),.slice A4 l2.length c4] 38)).cell? ⟨w3.heap.size,0,none⟩=some (.int .i64 (d:Int)):=SrAt.c0 (SrAt.alloc So _);have co1:(w4.alloc (.cells #[.int .i64 (d:Int),.int .i64 (n:Int),.slice A4 l2.length c4] 38)).cell? ⟨w3.heap.size,1,none⟩=some (.int .i64 (n:Int)):=SrAt.c1 (SrAt.alloc So _);have co2:(w4.alloc (.cells #[.int .i64 (d:Int),.int .i64 (n:Int),.slice A4 l2.length c4] 38)).cell? ⟨w3.heap.size,2,none⟩=some (.slice A3 l1.length c3):=SrAt.c2 (SrAt.alloc So _);replace HSx:=Aside0.mk Sx;replace HSy:=Aside0.mk Sy;replace HSr:=Aside0.mk Sr;have HSo:=Aside0.mk So;clear Sx Sy Sr So;clear hv hb)
          | (go_at_call 133;(with_reducible refine (HTI.out _ _ _ _ _ (HT3.out.below (qb_ (Below.refl _ _) _)) (HT4.out.below (qb_ (Below.refl _ _) _))).mono ?_);rintro e w5 ⟨v,rfl,hv,hb⟩;obtain ⟨A5,c5,rfl⟩:=Kd.qd2_ hv;have HT5:=Aside0.mk (TmsC.of hv (by have:=HL3.out;omega)).1;have Sp:SrAt w5 (w4.heap.size) (d:Int) (n:Int) (.slice A4 l2.length c4):=qk_ (new_at rfl) hb;have Sx:SrAt w5 (w.heap.size) (d:Int) (n:Int) (.slice A la.length ca):=SrAt.below (SrAt.alloc HSx.out _) hb;have Sy:SrAt w5 (w.heap.size+1) (d:Int) (n:Int) (.slice B lb.length cb):=SrAt.below (SrAt.alloc HSy.out _) hb;have Sr:SrAt w5 (w.heap.size+1+1) 0 0 (.slice none 0 0):=SrAt.below (SrAt.alloc HSr.out _) hb;have So:SrAt w5 (w3.heap.size) (d:Int) (n:Int) (.slice A3 l1.length c3):=SrAt.below (SrAt.alloc HSo.out _) hb;clear co0 co1 co2;have J3:=Aside0.mk (show Below w.heap.size w w5 from qh_ (qb_ J4.out _) hb);replace HSx:=Aside0.mk Sx;replace HSy:=Aside0.mk Sy;replace HSr:=Aside0.mk Sr;replace HSo:=Aside0.mk So;have HSp:=Aside0.mk Sp;clear Sx Sy Sr So Sp;clear hv hb)
          | (go_at_call 148;(with_reducible refine (HLO.out _ _ _ (HT5.out.below (qb_ (Below.refl _ _) _))).mono ?_);rintro e w6 h_;obtain ⟨D6,N6,X6,c6,m6,ok6,rfl,ho,hv,hb⟩:=h_.val;have HO6:=Aside0.mk ho;have HV6:=Aside0.mk (show TermsR w6 w.heap.size (.slice X6 m6.length c6) m6 from Kd.qn2_ hv (ql_ (qb_ J3.out _)));have St:SrAt w6 (w5.heap.size) (d:Int) (n:Int) (.slice A5 l3.length c5):=qk_ (new_at rfl) hb;have Sx:SrAt w6 (w.heap.size) (d:Int) (n:Int) (.slice A la.length ca):=SrAt.below (SrAt.alloc HSx.out _) hb;have Sy:SrAt w6 (w.heap.size+1) (d:Int) (n:Int) (.slice B lb.length cb):=SrAt.below (SrAt.alloc HSy.out _) hb;have Sr:SrAt w6 (w.heap.size+1+1) 0 0 (.slice none 0 0):=SrAt.below (SrAt.alloc HSr.out _) hb;have So:SrAt w6 (w3.heap.size) (d:Int) (n:Int) (.slice A3 l1.length c3):=SrAt.below (SrAt.alloc HSo.out _) hb;have Sp:SrAt w6 (w4.heap.size) (d:Int) (n:Int) (.slice A4 l2.length c4):=SrAt.below (SrAt.alloc HSp.out _) hb;have Q6:=Aside0.mk (show Below w.heap.size w w6 from qh_ (qb_ J3.out _) hb);have cr0:(w6.alloc (.cells #[.int .i64 D6,.int .i64 N6,.slice X6 m6.length c6] 38)).cell? ⟨w.heap.size+1+1,0,none⟩=some (.int .i64 0):=SrAt.c0 (SrAt.alloc Sr _);have fr0:(w6.alloc (.cells #[.int .i64 D6,.int .i64 N6,.slice X6 m6.length c6] 38)).frozen? ⟨w.heap.size+1+1,0,none⟩=false:=qd_ (SrAt.alloc Sr _) 0;have cr1:(w6.alloc (.cells #[.int .i64 D6,.int .i64 N6,.slice X6 m6.length c6] 38)).cell? ⟨w.heap.size+1+1,1,none⟩=some (.int .i64 0):=SrAt.c1 (SrAt.alloc Sr _);have fr1:(w6.alloc (.cells #[.int .i64 D6,.int .i64 N6,.slice X6 m6.length c6] 38)).frozen? ⟨w.heap.size+1+1,1,none⟩=false:=qd_ (SrAt.alloc Sr _) 1;have cr2:(w6.alloc (.cells #[.int .i64 D6,.int .i64 N6,.slice X6 m6.length c6] 38)).cell? ⟨w.heap.size+1+1,2,none⟩=some (.slice none 0 0):=SrAt.c2 (SrAt.alloc Sr _);have fr2:(w6.alloc (.cells #[.int .i64 D6,.int .i64 N6,.slice X6 m6.length c6] 38)).frozen? ⟨w.heap.size+1+1,2,none⟩=false:=qd_ (SrAt.alloc Sr _) 2;replace HSx:=Aside0.mk Sx;replace HSy:=Aside0.mk Sy;replace HSr:=Aside0.mk Sr;replace HSo:=Aside0.mk So;replace HSp:=Aside0.mk Sp;have HSt:=Aside0.mk St;clear Sx Sy Sr So Sp St;clear h_ ho hv hb))
        refine bodyPost_ret (results_ct rfl _ _ (w.heap.size+1+1) 38 _ (0,0) _ rfl (qu_ (qu_ (qu_ (HSr.out.alloc _) 0 _) 1 _) 2 _) hu2 rfl (by kernel_rfl)) rfl ?_
        refine OutR.of HO6.out ?_ (below_box3 (qb_ Q6.out _) (Nat.le_trans (Nat.le_add_right _ 1) (Nat.le_add_right _ 1)) _ _ _)
        exact R_box3 (Kd.qs1_ HV6.out _) (HSr.out.alloc _) _ _ _
end Go.Proofs.Ytaiefdhenikiiaa.Base
namespace Go.Proofs.Ytaiefdhenikiiaa.Base
open Go.RowKit Go.Proofs.YtaiefdhenikiiaaW.PrintWords Go.Proofs.YtaiefdhenikiiaaW.PrintLast Go.Proofs.YtaiefdhenikiiaaW.PrintMore
attribute [local go_sem] max2_int qp1_ max_two min_two max_three min_three max_four min_four Go.Proofs.YtaiefdhenikiiaaZ.qw_   -- for this text's walks alone
set_option linter.unusedVariables false
set_option linter.unusedSimpArgs false
def qu2_.f (a0_0:Int) (a0_1:Int) (l0_2:List S79) (a1_0:Int) (a1_1:Int) (l1_2:List S79):Option (Int × Int × (List S79) × Int):=if (l0_2.length≤1048576∧(∀ x ∈ l0_2,x.f0.size≤1048576))∧(l1_2.length≤1048576∧(∀ x ∈ l1_2,x.f0.size≤1048576)) then some (joinR a0_0 a0_1 l0_2 a1_0 a1_1 l1_2) else none
set_option maxHeartbeats 16000000 in
set_option maxRecDepth 100000 in
theorem qu2_.calls (a0_0:Int) (a0_1:Int) (A0_2:Option Addr) (c0_2:Nat) (l0_2:List (S79)) (a1_0:Int) (a1_1:Int) (A1_2:Option Addr) (c1_2:Nat) (l1_2:List (S79)) (r1:Int) (r2:Int) (r3:List (S79)) (r4:Int) (w:World) (hr0_2:Kd.C k79 w A0_2 l0_2.length l0_2) (hc0_2:l0_2.length≤c0_2) (hr1_2:Kd.C k79 w A1_2 l1_2.length l1_2) (hc1_2:l1_2.length≤c1_2) (h:qu2_.f a0_0 a0_1 l0_2 a1_0 a1_1 l1_2=some (r1,r2,r3,r4)) :
  Calls Try.prog 69 #[.agg #[.int .i64 a0_0,.int .i64 a0_1,.slice A0_2 l0_2.length c0_2],.agg #[.int .i64 a1_0,.int .i64 a1_1,.slice A1_2 l1_2.length c1_2]] w fun e w'=>∃ v2_:Value,e=.returned (.tuple #[.agg #[.int .i64 r1,.int .i64 r2,v2_],.int .i64 r4])∧Kd.R k79 79 w' w.heap.size (fun _=>True) v2_ r3∧Below w.heap.size w w':=by
 unfold qu2_.f at h
 split at h
 rotate_left
 ·cases h
 rename_i hsm
 replace h:=Option.some.inj h
 have hu:=Try.underlying38
 have hu3:=Try.underlying77
 have HR0:=aK hr0_2
 have HC0:=aK hc0_2
 have HR1:=aK hr1_2
 have HC1:=aK hc1_2
 clear hr0_2 hc0_2 hr1_2 hc1_2
 obtain ⟨k,hk⟩:=(alike_spec a0_0 a0_1 l0_2 a1_0 a1_1 l1_2 hsm.1 hsm.2).rounds
 unfold joinR at h
 obtain ⟨q,hq⟩:∃ q,q=codeA a0_0 a0_1 l0_2 a1_0 a1_1 l1_2:=⟨_,rfl⟩
 rw [← hq] at h hk
 by_cases c:q=0
 ·rw [if_pos c] at h
  obtain ⟨rfl,rfl,d,n,rfl,rfl,hs,hn,g1,g2⟩:=codeA_good (hq.symm.trans c)
  rw [Int.toNat_natCast,Int.toNat_natCast] at h
  rw [c] at hk
  have HK:=aK hk
  have HTX:=aK (show TmsC w A0_2 c0_2 l0_2 from ⟨HR0.out,HC0.out,by have:=hsm.1.1;omega⟩)
  have HTY:=aK (show TmsC w A1_2 c1_2 l1_2 from ⟨HR1.out,HC1.out,by have:=hsm.2.1;omega⟩)
  have tA:=good_terms hs g1
  have tB:=good_terms hs g2
  have LA:=open_like hs g1
  have LB:=open_like hs g2
  have hj:∀ W,Below w.heap.size w W→Calls Try.prog 143 #[.agg #[.int .i64 (d:Int),.int .i64 (n:Int),.slice A0_2 l0_2.length c0_2],.agg #[.int .i64 (d:Int),.int .i64 (n:Int),.slice A1_2 l1_2.length c1_2]] W (OutR W d n (outT (joinT d n (openN d n l0_2) (openN d n l1_2)))):=fun W hW=>by
   have:=joinSp W d n hs hn LA LB (openN_good d n l0_2) (openN_good d n l1_2) (A:=A0_2) (B:=A1_2) (ca:=c0_2) (cb:=c1_2) (by rw [tA];exact HTX.out.below hW) (by rw [tB];exact HTY.out.below hW)
   rwa [tA,tB] at this
  have hva:valL l0_2 (encW [])=(openN d n l0_2).val []:=by
   have:=valL_terms LA.2.2 (l:=[]) (isD_nil _ _)
   rwa [tA] at this
  have hvb:valL l1_2 (encW [])=(openN d n l1_2).val []:=by
   have:=valL_terms LB.2.2 (l:=[]) (isD_nil _ _)
   rwa [tB] at this
  have hJL:=joinT_like hs (openN d n l0_2) (openN d n l1_2)
  unfold constB at h
  obtain ⟨xa,hxa⟩:∃ x,x=(openN d n l0_2).val []:=⟨_,rfl⟩
  obtain ⟨xb,hxb⟩:∃ x,x=(openN d n l1_2).val []:=⟨_,rfl⟩
  rw [← hxa] at h hva
  rw [← hxb] at h hvb
  obtain ⟨J,hJ⟩:∃ T,T=joinT d n (openN d n l0_2) (openN d n l1_2):=⟨_,rfl⟩
  rw [← hJ] at h hj hJL
  have HVA:=aK hva
  have HVB:=aK hvb
  have HD:=aK hJL
  clear hk c hs hsm hn hq g1 g2 hxa hxb tA tB LA LB hva hvb hJL hJ
  by_cases ca:xa.f0=0
  ·by_cases cb:xb.f0=0
   ·rw [if_neg (by rw [ca,cb];simp)] at h
    have fa:(xa.f0==0)=true:=by rw [ca];rfl
    have fb:(xb.f0==0)=true:=by rw [cb];rfl
    unfold serR at h
    by_cases hb:J.bad=true
    ·rw [if_pos hb] at h
     rw [outT_bad hb] at hj
     simp only [Prod.mk.injEq] at h
     obtain ⟨rfl,rfl,rfl,rfl⟩:=h
     have HJ:=aK hj
     clear hj hb ca cb
     go_enter Try.func69,Try.ntmps69
     have cx0:(((w.alloc (.cells #[.int .i64 (d:Int),.int .i64 (n:Int),.slice A0_2 l0_2.length c0_2] 38)).alloc (.cells #[.int .i64 (d:Int),.int .i64 (n:Int),.slice A1_2 l1_2.length c1_2] 38)).alloc (.cells #[.int .i64 0,.int .i64 0,.slice none 0 0] 38)).cell? ⟨w.heap.size,0,none⟩=some (.int .i64 (d:Int)):=qe_ (old_at (old_at (new_at rfl))) 0
     have cx1:(((w.alloc (.cells #[.int .i64 (d:Int),.int .i64 (n:Int),.slice A0_2 l0_2.length c0_2] 38)).alloc (.cells #[.int .i64 (d:Int),.int .i64 (n:Int),.slice A1_2 l1_2.length c1_2] 38)).alloc (.cells #[.int .i64 0,.int .i64 0,.slice none 0 0] 38)).cell? ⟨w.heap.size,1,none⟩=some (.int .i64 (n:Int)):=qe_ (old_at (old_at (new_at rfl))) 1
     have cx2:(((w.alloc (.cells #[.int .i64 (d:Int),.int .i64 (n:Int),.slice A0_2 l0_2.length c0_2] 38)).alloc (.cells #[.int .i64 (d:Int),.int .i64 (n:Int),.slice A1_2 l1_2.length c1_2] 38)).alloc (.cells #[.int .i64 0,.int .i64 0,.slice none 0 0] 38)).cell? ⟨w.heap.size,2,none⟩=some (.slice A0_2 l0_2.length c0_2):=qe_ (old_at (old_at (new_at rfl))) 2
     have cy0:(((w.alloc (.cells #[.int .i64 (d:Int),.int .i64 (n:Int),.slice A0_2 l0_2.length c0_2] 38)).alloc (.cells #[.int .i64 (d:Int),.int .i64 (n:Int),.slice A1_2 l1_2.length c1_2] 38)).alloc (.cells #[.int .i64 0,.int .i64 0,.slice none 0 0] 38)).cell? ⟨w.heap.size+1,0,none⟩=some (.int .i64 (d:Int)):=qe_ (old_at (new_at (by simp))) 0
     have cy1:(((w.alloc (.cells #[.int .i64 (d:Int),.int .i64 (n:Int),.slice A0_2 l0_2.length c0_2] 38)).alloc (.cells #[.int .i64 (d:Int),.int .i64 (n:Int),.slice A1_2 l1_2.length c1_2] 38)).alloc (.cells #[.int .i64 0,.int .i64 0,.slice none 0 0] 38)).cell? ⟨w.heap.size+1,1,none⟩=some (.int .i64 (n:Int)):=qe_ (old_at (new_at (by simp))) 1
     have cy2:(((w.alloc (.cells #[.int .i64 (d:Int),.int .i64 (n:Int),.slice A0_2 l0_2.length c0_2] 38)).alloc (.cells #[.int .i64 (d:Int),.int .i64 (n:Int),.slice A1_2 l1_2.length c1_2] 38)).alloc (.cells #[.int .i64 0,.int .i64 0,.slice none 0 0] 38)).cell? ⟨w.heap.size+1,2,none⟩=some (.slice A1_2 l1_2.length c1_2):=qe_ (old_at (new_at (by simp))) 2
     go_wp2_with (first
      | (go_at_call 106;(refine (qz_.calls k _ _ _ _ _ _ _ [⟨(d:Int),(n:Int),l1_2⟩] _ _ (Kd.qd1_ HR0.out (qb_ (qb_ (qb_ (qb_ (Below.refl _ _) _) _) _) _)) HC0.out (lit38 (d:Int) (n:Int) (Kd.qd1_ HR1.out (qb_ (qb_ (qb_ (Below.refl _ _) _) _) _)) HC1.out (by simp)) (by simp) HK.out).mono ?_);rintro e w1 ⟨rfl,hb⟩;have Sx:SrAt w1 (w.heap.size) (d:Int) (n:Int) (.slice A0_2 l0_2.length c0_2):=qk_ (old_at (old_at (old_at (new_at rfl)))) hb;have Sy:SrAt w1 (w.heap.size+1) (d:Int) (n:Int) (.slice A1_2 l1_2.length c1_2):=qk_ (old_at (old_at (new_at (by simp)))) hb;have Sr:SrAt w1 (w.heap.size+1+1) 0 0 (.slice none 0 0):=qk_ (old_at (new_at (by simp))) hb;have Sb:SrAt w1 (w.heap.size+1+1+1) (d:Int) (n:Int) (.slice A1_2 l1_2.length c1_2):=qk_ (new_at (by simp)) hb;clear cx0 cx1 cx2 cy0 cy1 cy2;have I8:=aK (show Below w.heap.size w w1 from qh_ (qb_ (qb_ (qb_ (qb_ (Below.refl _ _) _) _) _) _) hb);have cx0:w1.cell? ⟨w.heap.size,0,none⟩=some (.int .i64 (d:Int)):=SrAt.c0 Sx;have cx1:w1.cell? ⟨w.heap.size,1,none⟩=some (.int .i64 (n:Int)):=SrAt.c1 Sx;have cx2:w1.cell? ⟨w.heap.size,2,none⟩=some (.slice A0_2 l0_2.length c0_2):=SrAt.c2 Sx;have HSx:=aK Sx;have HSy:=aK Sy;have HSr:=aK Sr;have HSb:=aK Sb;clear Sx Sy Sr Sb;clear hb)
      | (go_at_call 142;(with_reducible refine (constS _ d n (HTX.out.below I8.out) xa HVA.out).mono ?_);rintro e w2 ⟨rfl,hb⟩;have Sx:SrAt w2 (w.heap.size) (d:Int) (n:Int) (.slice A0_2 l0_2.length c0_2):=SrAt.below HSx.out hb;have Sy:SrAt w2 (w.heap.size+1) (d:Int) (n:Int) (.slice A1_2 l1_2.length c1_2):=SrAt.below HSy.out hb;have Sr:SrAt w2 (w.heap.size+1+1) 0 0 (.slice none 0 0):=SrAt.below HSr.out hb;clear cx0 cx1 cx2;have N7:=aK (show Below w.heap.size w w2 from qh_ I8.out hb);replace HSx:=aK Sx;replace HSy:=aK Sy;replace HSr:=aK Sr;clear Sx Sy Sr;clear hb)
      | (go_at_call 141;(with_reducible refine (zeroS _ xa).mono ?_);rintro e w3 ⟨rfl,hb⟩;have Sx:SrAt w3 (w.heap.size) (d:Int) (n:Int) (.slice A0_2 l0_2.length c0_2):=SrAt.below HSx.out hb;have Sy:SrAt w3 (w.heap.size+1) (d:Int) (n:Int) (.slice A1_2 l1_2.length c1_2):=SrAt.below HSy.out hb;have Sr:SrAt w3 (w.heap.size+1+1) 0 0 (.slice none 0 0):=SrAt.below HSr.out hb;have G8:=aK (show Below w.heap.size w w3 from qh_ N7.out hb);have cy0:w3.cell? ⟨w.heap.size+1,0,none⟩=some (.int .i64 (d:Int)):=SrAt.c0 Sy;have cy1:w3.cell? ⟨w.heap.size+1,1,none⟩=some (.int .i64 (n:Int)):=SrAt.c1 Sy;have cy2:w3.cell? ⟨w.heap.size+1,2,none⟩=some (.slice A1_2 l1_2.length c1_2):=SrAt.c2 Sy;replace HSx:=aK Sx;replace HSy:=aK Sy;replace HSr:=aK Sr;clear Sx Sy Sr;clear hb)
      | (go_at_call 142;(with_reducible refine (constS _ d n (HTY.out.below G8.out) xb HVB.out).mono ?_);rintro e w4 ⟨rfl,hb⟩;have Sx:SrAt w4 (w.heap.size) (d:Int) (n:Int) (.slice A0_2 l0_2.length c0_2):=SrAt.below HSx.out hb;have Sy:SrAt w4 (w.heap.size+1) (d:Int) (n:Int) (.slice A1_2 l1_2.length c1_2):=SrAt.below HSy.out hb;have Sr:SrAt w4 (w.heap.size+1+1) 0 0 (.slice none 0 0):=SrAt.below HSr.out hb;clear cy0 cy1 cy2;have J4:=aK (show Below w.heap.size w w4 from qh_ G8.out hb);replace HSx:=aK Sx;replace HSy:=aK Sy;replace HSr:=aK Sr;clear Sx Sy Sr;clear hb)
      | (go_at_call 141;(with_reducible refine (zeroS _ xb).mono ?_);rintro e w5 ⟨rfl,hb⟩;have Sx:SrAt w5 (w.heap.size) (d:Int) (n:Int) (.slice A0_2 l0_2.length c0_2):=SrAt.below HSx.out hb;have Sy:SrAt w5 (w.heap.size+1) (d:Int) (n:Int) (.slice A1_2 l1_2.length c1_2):=SrAt.below HSy.out hb;have Sr:SrAt w5 (w.heap.size+1+1) 0 0 (.slice none 0 0):=SrAt.below HSr.out hb;have J3:=aK (show Below w.heap.size w w5 from qh_ J4.out hb);have cx0:w5.cell? ⟨w.heap.size,0,none⟩=some (.int .i64 (d:Int)):=SrAt.c0 Sx;have cx1:w5.cell? ⟨w.heap.size,1,none⟩=some (.int .i64 (n:Int)):=SrAt.c1 Sx;have cx2:w5.cell? ⟨w.heap.size,2,none⟩=some (.slice A0_2 l0_2.length c0_2):=SrAt.c2 Sx;have cy0:w5.cell? ⟨w.heap.size+1,0,none⟩=some (.int .i64 (d:Int)):=SrAt.c0 Sy;have cy1:w5.cell? ⟨w.heap.size+1,1,none⟩=some (.int .i64 (n:Int)):=SrAt.c1 Sy;have cy2:w5.cell? ⟨w.heap.size+1,2,none⟩=some (.slice A1_2 l1_2.length c1_2):=SrAt.c2 Sy;replace HSx:=aK Sx;replace HSy:=aK Sy;replace HSr:=aK Sr;clear Sx Sy Sr;clear hb)
      | (go_at_call 143;(with_reducible refine (HJ.out _ J3.out).mono ?_);rintro e w6 ⟨v,rfl,hv,hb⟩;obtain ⟨A1,c1,rfl⟩:=Kd.qd2_ hv;have Sx:SrAt w6 (w.heap.size) (d:Int) (n:Int) (.slice A0_2 l0_2.length c0_2):=SrAt.below HSx.out hb;have Sy:SrAt w6 (w.heap.size+1) (d:Int) (n:Int) (.slice A1_2 l1_2.length c1_2):=SrAt.below HSy.out hb;have Sr:SrAt w6 (w.heap.size+1+1) 0 0 (.slice none 0 0):=SrAt.below HSr.out hb;clear cx0 cx1 cx2 cy0 cy1 cy2;have Q6:=aK (show Below w.heap.size w w6 from qh_ J3.out hb);have cr0:(w6.alloc (.cells #[.int .i64 0,.int .i64 0,.slice A1 0 c1] 38)).cell? ⟨w.heap.size+1+1,0,none⟩=some (.int .i64 0):=SrAt.c0 (SrAt.alloc Sr _);have fr0:(w6.alloc (.cells #[.int .i64 0,.int .i64 0,.slice A1 0 c1] 38)).frozen? ⟨w.heap.size+1+1,0,none⟩=false:=qd_ (SrAt.alloc Sr _) 0;have cr1:(w6.alloc (.cells #[.int .i64 0,.int .i64 0,.slice A1 0 c1] 38)).cell? ⟨w.heap.size+1+1,1,none⟩=some (.int .i64 0):=SrAt.c1 (SrAt.alloc Sr _);have fr1:(w6.alloc (.cells #[.int .i64 0,.int .i64 0,.slice A1 0 c1] 38)).frozen? ⟨w.heap.size+1+1,1,none⟩=false:=qd_ (SrAt.alloc Sr _) 1;have cr2:(w6.alloc (.cells #[.int .i64 0,.int .i64 0,.slice A1 0 c1] 38)).cell? ⟨w.heap.size+1+1,2,none⟩=some (.slice none 0 0):=SrAt.c2 (SrAt.alloc Sr _);have fr2:(w6.alloc (.cells #[.int .i64 0,.int .i64 0,.slice A1 0 c1] 38)).frozen? ⟨w.heap.size+1+1,2,none⟩=false:=qd_ (SrAt.alloc Sr _) 2;replace HSx:=aK Sx;replace HSy:=aK Sy;replace HSr:=aK Sr;clear Sx Sy Sr;clear hv hb))
     refine bodyPost_ret (results_ct rfl _ _ (w.heap.size+1+1) 38 _ (0,0) _ rfl (qu_ (qu_ (qu_ (HSr.out.alloc _) 0 _) 1 _) 2 _) hu rfl (by kernel_rfl)) rfl ?_
     exact ⟨_,rfl,Kd.R_nil _ _ _ _ _,(((qb_ Q6.out _).setCell (Nat.le_trans (Nat.le_add_right _ 1) (Nat.le_add_right _ 1)) _).setCell (Nat.le_trans (Nat.le_add_right _ 1) (Nat.le_add_right _ 1)) _).setCell (Nat.le_trans (Nat.le_add_right _ 1) (Nat.le_add_right _ 1)) _⟩
    ·have hg:J.bad=false:=by simpa using hb
     rw [if_neg hb] at h
     rw [outT_good hg] at hj
     simp only [Prod.mk.injEq] at h
     obtain ⟨rfl,rfl,rfl,rfl⟩:=h
     obtain ⟨lj,hlj⟩:∃ l,l=termsT J:=⟨_,rfl⟩
     rw [← hlj] at hj ⊢
     have HJ:=aK hj
     clear hj hb hg hlj ca cb
     go_enter Try.func69,Try.ntmps69
     have cx0:(((w.alloc (.cells #[.int .i64 (d:Int),.int .i64 (n:Int),.slice A0_2 l0_2.length c0_2] 38)).alloc (.cells #[.int .i64 (d:Int),.int .i64 (n:Int),.slice A1_2 l1_2.length c1_2] 38)).alloc (.cells #[.int .i64 0,.int .i64 0,.slice none 0 0] 38)).cell? ⟨w.heap.size,0,none⟩=some (.int .i64 (d:Int)):=qe_ (old_at (old_at (new_at rfl))) 0
     have cx1:(((w.alloc (.cells #[.int .i64 (d:Int),.int .i64 (n:Int),.slice A0_2 l0_2.length c0_2] 38)).alloc (.cells #[.int .i64 (d:Int),.int .i64 (n:Int),.slice A1_2 l1_2.length c1_2] 38)).alloc (.cells #[.int .i64 0,.int .i64 0,.slice none 0 0] 38)).cell? ⟨w.heap.size,1,none⟩=some (.int .i64 (n:Int)):=qe_ (old_at (old_at (new_at rfl))) 1
     have cx2:(((w.alloc (.cells #[.int .i64 (d:Int),.int .i64 (n:Int),.slice A0_2 l0_2.length c0_2] 38)).alloc (.cells #[.int .i64 (d:Int),.int .i64 (n:Int),.slice A1_2 l1_2.length c1_2] 38)).alloc (.cells #[.int .i64 0,.int .i64 0,.slice none 0 0] 38)).cell? ⟨w.heap.size,2,none⟩=some (.slice A0_2 l0_2.length c0_2):=qe_ (old_at (old_at (new_at rfl))) 2
     have cy0:(((w.alloc (.cells #[.int .i64 (d:Int),.int .i64 (n:Int),.slice A0_2 l0_2.length c0_2] 38)).alloc (.cells #[.int .i64 (d:Int),.int .i64 (n:Int),.slice A1_2 l1_2.length c1_2] 38)).alloc (.cells #[.int .i64 0,.int .i64 0,.slice none 0 0] 38)).cell? ⟨w.heap.size+1,0,none⟩=some (.int .i64 (d:Int)):=qe_ (old_at (new_at (by simp))) 0
     have cy1:(((w.alloc (.cells #[.int .i64 (d:Int),.int .i64 (n:Int),.slice A0_2 l0_2.length c0_2] 38)).alloc (.cells #[.int .i64 (d:Int),.int .i64 (n:Int),.slice A1_2 l1_2.length c1_2] 38)).alloc (.cells #[.int .i64 0,.int .i64 0,.slice none 0 0] 38)).cell? ⟨w.heap.size+1,1,none⟩=some (.int .i64 (n:Int)):=qe_ (old_at (new_at (by simp))) 1
     have cy2:(((w.alloc (.cells #[.int .i64 (d:Int),.int .i64 (n:Int),.slice A0_2 l0_2.length c0_2] 38)).alloc (.cells #[.int .i64 (d:Int),.int .i64 (n:Int),.slice A1_2 l1_2.length c1_2] 38)).alloc (.cells #[.int .i64 0,.int .i64 0,.slice none 0 0] 38)).cell? ⟨w.heap.size+1,2,none⟩=some (.slice A1_2 l1_2.length c1_2):=qe_ (old_at (new_at (by simp))) 2
     go_wp2_with (first
      | (go_at_call 106;(refine (qz_.calls k _ _ _ _ _ _ _ [⟨(d:Int),(n:Int),l1_2⟩] _ _ (Kd.qd1_ HR0.out (qb_ (qb_ (qb_ (qb_ (Below.refl _ _) _) _) _) _)) HC0.out (lit38 (d:Int) (n:Int) (Kd.qd1_ HR1.out (qb_ (qb_ (qb_ (Below.refl _ _) _) _) _)) HC1.out (by simp)) (by simp) HK.out).mono ?_);rintro e w1 ⟨rfl,hb⟩;have Sx:SrAt w1 (w.heap.size) (d:Int) (n:Int) (.slice A0_2 l0_2.length c0_2):=qk_ (old_at (old_at (old_at (new_at rfl)))) hb;have Sy:SrAt w1 (w.heap.size+1) (d:Int) (n:Int) (.slice A1_2 l1_2.length c1_2):=qk_ (old_at (old_at (new_at (by simp)))) hb;have Sr:SrAt w1 (w.heap.size+1+1) 0 0 (.slice none 0 0):=qk_ (old_at (new_at (by simp))) hb;have Sb:SrAt w1 (w.heap.size+1+1+1) (d:Int) (n:Int) (.slice A1_2 l1_2.length c1_2):=qk_ (new_at (by simp)) hb;clear cx0 cx1 cx2 cy0 cy1 cy2;have I8:=aK (show Below w.heap.size w w1 from qh_ (qb_ (qb_ (qb_ (qb_ (Below.refl _ _) _) _) _) _) hb);have cx0:w1.cell? ⟨w.heap.size,0,none⟩=some (.int .i64 (d:Int)):=SrAt.c0 Sx;have cx1:w1.cell? ⟨w.heap.size,1,none⟩=some (.int .i64 (n:Int)):=SrAt.c1 Sx;have cx2:w1.cell? ⟨w.heap.size,2,none⟩=some (.slice A0_2 l0_2.length c0_2):=SrAt.c2 Sx;have HSx:=aK Sx;have HSy:=aK Sy;have HSr:=aK Sr;have HSb:=aK Sb;clear Sx Sy Sr Sb;clear hb)
      | (go_at_call 142;(with_reducible refine (constS _ d n (HTX.out.below I8.out) xa HVA.out).mono ?_);rintro e w2 ⟨rfl,hb⟩;have Sx:SrAt w2 (w.heap.size) (d:Int) (n:Int) (.slice A0_2 l0_2.length c0_2):=SrAt.below HSx.out hb;have Sy:SrAt w2 (w.heap.size+1) (d:Int) (n:Int) (.slice A1_2 l1_2.length c1_2):=SrAt.below HSy.out hb;have Sr:SrAt w2 (w.heap.size+1+1) 0 0 (.slice none 0 0):=SrAt.below HSr.out hb;clear cx0 cx1 cx2;have N7:=aK (show Below w.heap.size w w2 from qh_ I8.out hb);replace HSx:=aK Sx;replace HSy:=aK Sy;replace HSr:=aK Sr;clear Sx Sy Sr;clear hb)
      | (go_at_call 141;(with_reducible refine (zeroS _ xa).mono ?_);rintro e w3 ⟨rfl,hb⟩;have Sx:SrAt w3 (w.heap.size) (d:Int) (n:Int) (.slice A0_2 l0_2.length c0_2):=SrAt.below HSx.out hb;have Sy:SrAt w3 (w.heap.size+1) (d:Int) (n:Int) (.slice A1_2 l1_2.length c1_2):=SrAt.below HSy.out hb;have Sr:SrAt w3 (w.heap.size+1+1) 0 0 (.slice none 0 0):=SrAt.below HSr.out hb;have G8:=aK (show Below w.heap.size w w3 from qh_ N7.out hb);have cy0:w3.cell? ⟨w.heap.size+1,0,none⟩=some (.int .i64 (d:Int)):=SrAt.c0 Sy;have cy1:w3.cell? ⟨w.heap.size+1,1,none⟩=some (.int .i64 (n:Int)):=SrAt.c1 Sy;have cy2:w3.cell? ⟨w.heap.size+1,2,none⟩=some (.slice A1_2 l1_2.length c1_2):=SrAt.c2 Sy;replace HSx:=aK Sx;replace HSy:=aK Sy;replace HSr:=aK Sr;clear Sx Sy Sr;clear hb)
      | (go_at_call 142;(with_reducible refine (constS _ d n (HTY.out.below G8.out) xb HVB.out).mono ?_);rintro e w4 ⟨rfl,hb⟩;have Sx:SrAt w4 (w.heap.size) (d:Int) (n:Int) (.slice A0_2 l0_2.length c0_2):=SrAt.below HSx.out hb;have Sy:SrAt w4 (w.heap.size+1) (d:Int) (n:Int) (.slice A1_2 l1_2.length c1_2):=SrAt.below HSy.out hb;have Sr:SrAt w4 (w.heap.size+1+1) 0 0 (.slice none 0 0):=SrAt.below HSr.out hb;clear cy0 cy1 cy2;have J4:=aK (show Below w.heap.size w w4 from qh_ G8.out hb);replace HSx:=aK Sx;replace HSy:=aK Sy;replace HSr:=aK Sr;clear Sx Sy Sr;clear hb)
      | (go_at_call 141;(with_reducible refine (zeroS _ xb).mono ?_);rintro e w5 ⟨rfl,hb⟩;have Sx:SrAt w5 (w.heap.size) (d:Int) (n:Int) (.slice A0_2 l0_2.length c0_2):=SrAt.below HSx.out hb;have Sy:SrAt w5 (w.heap.size+1) (d:Int) (n:Int) (.slice A1_2 l1_2.length c1_2):=SrAt.below HSy.out hb;have Sr:SrAt w5 (w.heap.size+1+1) 0 0 (.slice none 0 0):=SrAt.below HSr.out hb;have J3:=aK (show Below w.heap.size w w5 from qh_ J4.out hb);have cx0:w5.cell? ⟨w.heap.size,0,none⟩=some (.int .i64 (d:Int)):=SrAt.c0 Sx;have cx1:w5.cell? ⟨w.heap.size,1,none⟩=some (.int .i64 (n:Int)):=SrAt.c1 Sx;have cx2:w5.cell? ⟨w.heap.size,2,none⟩=some (.slice A0_2 l0_2.length c0_2):=SrAt.c2 Sx;have cy0:w5.cell? ⟨w.heap.size+1,0,none⟩=some (.int .i64 (d:Int)):=SrAt.c0 Sy;have cy1:w5.cell? ⟨w.heap.size+1,1,none⟩=some (.int .i64 (n:Int)):=SrAt.c1 Sy;have cy2:w5.cell? ⟨w.heap.size+1,2,none⟩=some (.slice A1_2 l1_2.length c1_2):=SrAt.c2 Sy;replace HSx:=aK Sx;replace HSy:=aK Sy;replace HSr:=aK Sr;clear Sx Sy Sr;clear hb)
      | (go_at_call 143;(with_reducible refine (HJ.out _ J3.out).mono ?_);rintro e w6 ⟨v,rfl,hv,hb⟩;obtain ⟨A1,c1,rfl⟩:=Kd.qd2_ hv;have HV:=aK (Kd.qn2_ hv J3.out.size);have Sx:SrAt w6 (w.heap.size) (d:Int) (n:Int) (.slice A0_2 l0_2.length c0_2):=SrAt.below HSx.out hb;have Sy:SrAt w6 (w.heap.size+1) (d:Int) (n:Int) (.slice A1_2 l1_2.length c1_2):=SrAt.below HSy.out hb;have Sr:SrAt w6 (w.heap.size+1+1) 0 0 (.slice none 0 0):=SrAt.below HSr.out hb;clear cx0 cx1 cx2 cy0 cy1 cy2;have Q6:=aK (show Below w.heap.size w w6 from qh_ J3.out hb);have cr0:(w6.alloc (.cells #[.int .i64 (d:Int),.int .i64 (n:Int),.slice A1 lj.length c1] 38)).cell? ⟨w.heap.size+1+1,0,none⟩=some (.int .i64 0):=SrAt.c0 (SrAt.alloc Sr _);have fr0:(w6.alloc (.cells #[.int .i64 (d:Int),.int .i64 (n:Int),.slice A1 lj.length c1] 38)).frozen? ⟨w.heap.size+1+1,0,none⟩=false:=qd_ (SrAt.alloc Sr _) 0;have cr1:(w6.alloc (.cells #[.int .i64 (d:Int),.int .i64 (n:Int),.slice A1 lj.length c1] 38)).cell? ⟨w.heap.size+1+1,1,none⟩=some (.int .i64 0):=SrAt.c1 (SrAt.alloc Sr _);have fr1:(w6.alloc (.cells #[.int .i64 (d:Int),.int .i64 (n:Int),.slice A1 lj.length c1] 38)).frozen? ⟨w.heap.size+1+1,1,none⟩=false:=qd_ (SrAt.alloc Sr _) 1;have cr2:(w6.alloc (.cells #[.int .i64 (d:Int),.int .i64 (n:Int),.slice A1 lj.length c1] 38)).cell? ⟨w.heap.size+1+1,2,none⟩=some (.slice none 0 0):=SrAt.c2 (SrAt.alloc Sr _);have fr2:(w6.alloc (.cells #[.int .i64 (d:Int),.int .i64 (n:Int),.slice A1 lj.length c1] 38)).frozen? ⟨w.heap.size+1+1,2,none⟩=false:=qd_ (SrAt.alloc Sr _) 2;replace HSx:=aK Sx;replace HSy:=aK Sy;replace HSr:=aK Sr;clear Sx Sy Sr;clear hv hb))
     refine bodyPost_ret (results_ct rfl _ _ (w.heap.size+1+1) 38 _ (0,0) _ rfl (qu_ (qu_ (qu_ (HSr.out.alloc _) 0 _) 1 _) 2 _) hu rfl (by kernel_rfl)) rfl ?_
     refine ⟨.slice A1 lj.length c1,by rw [HD.out.1,HD.out.2.1];rfl,?_,(((qb_ Q6.out _).setCell (Nat.le_trans (Nat.le_add_right _ 1) (Nat.le_add_right _ 1)) _).setCell (Nat.le_trans (Nat.le_add_right _ 1) (Nat.le_add_right _ 1)) _).setCell (Nat.le_trans (Nat.le_add_right _ 1) (Nat.le_add_right _ 1)) _⟩
     exact R_box3 (Kd.qs1_ HV.out _) (HSr.out.alloc _) _ _ _
   ·rw [if_pos (by rw [ca];simp [cb])] at h
    simp only [Prod.mk.injEq] at h
    obtain ⟨rfl,rfl,rfl,rfl⟩:=h
    have fa:(xa.f0==0)=true:=by rw [ca];rfl
    have fb:(xb.f0==0)=false:=by simpa using cb
    clear hj ca
    go_enter Try.func69,Try.ntmps69
    have cx0:(((w.alloc (.cells #[.int .i64 (d:Int),.int .i64 (n:Int),.slice A0_2 l0_2.length c0_2] 38)).alloc (.cells #[.int .i64 (d:Int),.int .i64 (n:Int),.slice A1_2 l1_2.length c1_2] 38)).alloc (.cells #[.int .i64 0,.int .i64 0,.slice none 0 0] 38)).cell? ⟨w.heap.size,0,none⟩=some (.int .i64 (d:Int)):=qe_ (old_at (old_at (new_at rfl))) 0
    have cx1:(((w.alloc (.cells #[.int .i64 (d:Int),.int .i64 (n:Int),.slice A0_2 l0_2.length c0_2] 38)).alloc (.cells #[.int .i64 (d:Int),.int .i64 (n:Int),.slice A1_2 l1_2.length c1_2] 38)).alloc (.cells #[.int .i64 0,.int .i64 0,.slice none 0 0] 38)).cell? ⟨w.heap.size,1,none⟩=some (.int .i64 (n:Int)):=qe_ (old_at (old_at (new_at rfl))) 1
    have cx2:(((w.alloc (.cells #[.int .i64 (d:Int),.int .i64 (n:Int),.slice A0_2 l0_2.length c0_2] 38)).alloc (.cells #[.int .i64 (d:Int),.int .i64 (n:Int),.slice A1_2 l1_2.length c1_2] 38)).alloc (.cells #[.int .i64 0,.int .i64 0,.slice none 0 0] 38)).cell? ⟨w.heap.size,2,none⟩=some (.slice A0_2 l0_2.length c0_2):=qe_ (old_at (old_at (new_at rfl))) 2
    have cy0:(((w.alloc (.cells #[.int .i64 (d:Int),.int .i64 (n:Int),.slice A0_2 l0_2.length c0_2] 38)).alloc (.cells #[.int .i64 (d:Int),.int .i64 (n:Int),.slice A1_2 l1_2.length c1_2] 38)).alloc (.cells #[.int .i64 0,.int .i64 0,.slice none 0 0] 38)).cell? ⟨w.heap.size+1,0,none⟩=some (.int .i64 (d:Int)):=qe_ (old_at (new_at (by simp))) 0
    have cy1:(((w.alloc (.cells #[.int .i64 (d:Int),.int .i64 (n:Int),.slice A0_2 l0_2.length c0_2] 38)).alloc (.cells #[.int .i64 (d:Int),.int .i64 (n:Int),.slice A1_2 l1_2.length c1_2] 38)).alloc (.cells #[.int .i64 0,.int .i64 0,.slice none 0 0] 38)).cell? ⟨w.heap.size+1,1,none⟩=some (.int .i64 (n:Int)):=qe_ (old_at (new_at (by simp))) 1
    have cy2:(((w.alloc (.cells #[.int .i64 (d:Int),.int .i64 (n:Int),.slice A0_2 l0_2.length c0_2] 38)).alloc (.cells #[.int .i64 (d:Int),.int .i64 (n:Int),.slice A1_2 l1_2.length c1_2] 38)).alloc (.cells #[.int .i64 0,.int .i64 0,.slice none 0 0] 38)).cell? ⟨w.heap.size+1,2,none⟩=some (.slice A1_2 l1_2.length c1_2):=qe_ (old_at (new_at (by simp))) 2
    go_wp2_with (first
     | (go_at_call 106;(refine (qz_.calls k _ _ _ _ _ _ _ [⟨(d:Int),(n:Int),l1_2⟩] _ _ (Kd.qd1_ HR0.out (qb_ (qb_ (qb_ (qb_ (Below.refl _ _) _) _) _) _)) HC0.out (lit38 (d:Int) (n:Int) (Kd.qd1_ HR1.out (qb_ (qb_ (qb_ (Below.refl _ _) _) _) _)) HC1.out (by simp)) (by simp) HK.out).mono ?_);rintro e w1 ⟨rfl,hb⟩;have Sx:SrAt w1 (w.heap.size) (d:Int) (n:Int) (.slice A0_2 l0_2.length c0_2):=qk_ (old_at (old_at (old_at (new_at rfl)))) hb;have Sy:SrAt w1 (w.heap.size+1) (d:Int) (n:Int) (.slice A1_2 l1_2.length c1_2):=qk_ (old_at (old_at (new_at (by simp)))) hb;have Sr:SrAt w1 (w.heap.size+1+1) 0 0 (.slice none 0 0):=qk_ (old_at (new_at (by simp))) hb;have Sb:SrAt w1 (w.heap.size+1+1+1) (d:Int) (n:Int) (.slice A1_2 l1_2.length c1_2):=qk_ (new_at (by simp)) hb;clear cx0 cx1 cx2 cy0 cy1 cy2;have I8:=aK (show Below w.heap.size w w1 from qh_ (qb_ (qb_ (qb_ (qb_ (Below.refl _ _) _) _) _) _) hb);have cx0:w1.cell? ⟨w.heap.size,0,none⟩=some (.int .i64 (d:Int)):=SrAt.c0 Sx;have cx1:w1.cell? ⟨w.heap.size,1,none⟩=some (.int .i64 (n:Int)):=SrAt.c1 Sx;have cx2:w1.cell? ⟨w.heap.size,2,none⟩=some (.slice A0_2 l0_2.length c0_2):=SrAt.c2 Sx;have HSx:=aK Sx;have HSy:=aK Sy;have HSr:=aK Sr;have HSb:=aK Sb;clear Sx Sy Sr Sb;clear hb)
     | (go_at_call 142;(with_reducible refine (constS _ d n (HTX.out.below I8.out) xa HVA.out).mono ?_);rintro e w2 ⟨rfl,hb⟩;have Sx:SrAt w2 (w.heap.size) (d:Int) (n:Int) (.slice A0_2 l0_2.length c0_2):=SrAt.below HSx.out hb;have Sy:SrAt w2 (w.heap.size+1) (d:Int) (n:Int) (.slice A1_2 l1_2.length c1_2):=SrAt.below HSy.out hb;have Sr:SrAt w2 (w.heap.size+1+1) 0 0 (.slice none 0 0):=SrAt.below HSr.out hb;clear cx0 cx1 cx2;have N7:=aK (show Below w.heap.size w w2 from qh_ I8.out hb);replace HSx:=aK Sx;replace HSy:=aK Sy;replace HSr:=aK Sr;clear Sx Sy Sr;clear hb)
     | (go_at_call 141;(with_reducible refine (zeroS _ xa).mono ?_);rintro e w3 ⟨rfl,hb⟩;have Sx:SrAt w3 (w.heap.size) (d:Int) (n:Int) (.slice A0_2 l0_2.length c0_2):=SrAt.below HSx.out hb;have Sy:SrAt w3 (w.heap.size+1) (d:Int) (n:Int) (.slice A1_2 l1_2.length c1_2):=SrAt.below HSy.out hb;have Sr:SrAt w3 (w.heap.size+1+1) 0 0 (.slice none 0 0):=SrAt.below HSr.out hb;have G8:=aK (show Below w.heap.size w w3 from qh_ N7.out hb);have cy0:w3.cell? ⟨w.heap.size+1,0,none⟩=some (.int .i64 (d:Int)):=SrAt.c0 Sy;have cy1:w3.cell? ⟨w.heap.size+1,1,none⟩=some (.int .i64 (n:Int)):=SrAt.c1 Sy;have cy2:w3.cell? ⟨w.heap.size+1,2,none⟩=some (.slice A1_2 l1_2.length c1_2):=SrAt.c2 Sy;replace HSx:=aK Sx;replace HSy:=aK Sy;replace HSr:=aK Sr;clear Sx Sy Sr;clear hb)
     | (go_at_call 142;(with_reducible refine (constS _ d n (HTY.out.below G8.out) xb HVB.out).mono ?_);rintro e w4 ⟨rfl,hb⟩;have Sx:SrAt w4 (w.heap.size) (d:Int) (n:Int) (.slice A0_2 l0_2.length c0_2):=SrAt.below HSx.out hb;have Sy:SrAt w4 (w.heap.size+1) (d:Int) (n:Int) (.slice A1_2 l1_2.length c1_2):=SrAt.below HSy.out hb;have Sr:SrAt w4 (w.heap.size+1+1) 0 0 (.slice none 0 0):=SrAt.below HSr.out hb;clear cy0 cy1 cy2;have J4:=aK (show Below w.heap.size w w4 from qh_ G8.out hb);replace HSx:=aK Sx;replace HSy:=aK Sy;replace HSr:=aK Sr;clear Sx Sy Sr;clear hb)
     | (go_at_call 141;(with_reducible refine (zeroS _ xb).mono ?_);rintro e w5 ⟨rfl,hb⟩;have Sx:SrAt w5 (w.heap.size) (d:Int) (n:Int) (.slice A0_2 l0_2.length c0_2):=SrAt.below HSx.out hb;have Sy:SrAt w5 (w.heap.size+1) (d:Int) (n:Int) (.slice A1_2 l1_2.length c1_2):=SrAt.below HSy.out hb;have Sr:SrAt w5 (w.heap.size+1+1) 0 0 (.slice none 0 0):=SrAt.below HSr.out hb;have J3:=aK (show Below w.heap.size w w5 from qh_ J4.out hb);have cr0:w5.cell? ⟨w.heap.size+1+1,0,none⟩=some (.int .i64 0):=SrAt.c0 Sr;have fr0:w5.frozen? ⟨w.heap.size+1+1,0,none⟩=false:=qd_ Sr 0;have cr1:w5.cell? ⟨w.heap.size+1+1,1,none⟩=some (.int .i64 0):=SrAt.c1 Sr;have fr1:w5.frozen? ⟨w.heap.size+1+1,1,none⟩=false:=qd_ Sr 1;have cr2:w5.cell? ⟨w.heap.size+1+1,2,none⟩=some (.slice none 0 0):=SrAt.c2 Sr;have fr2:w5.frozen? ⟨w.heap.size+1+1,2,none⟩=false:=qd_ Sr 2;replace HSx:=aK Sx;replace HSy:=aK Sy;replace HSr:=aK Sr;clear Sx Sy Sr;clear hb))
    refine bodyPost_ret (results_ct rfl _ _ (w.heap.size+1+1) 38 _ (0,0) _ rfl (qu_ (qu_ (qu_ HSr.out 0 _) 1 _) 2 _) hu rfl (by kernel_rfl)) rfl ?_
    exact ⟨_,rfl,Kd.R_nil _ _ _ _ _,((J3.out.setCell (Nat.le_trans (Nat.le_add_right _ 1) (Nat.le_add_right _ 1)) _).setCell (Nat.le_trans (Nat.le_add_right _ 1) (Nat.le_add_right _ 1)) _).setCell (Nat.le_trans (Nat.le_add_right _ 1) (Nat.le_add_right _ 1)) _⟩
  ·rw [if_pos (by simp [ca])] at h
   simp only [Prod.mk.injEq] at h
   obtain ⟨rfl,rfl,rfl,rfl⟩:=h
   have fa:(xa.f0==0)=false:=by simpa using ca
   clear hj
   go_enter Try.func69,Try.ntmps69
   have cx0:(((w.alloc (.cells #[.int .i64 (d:Int),.int .i64 (n:Int),.slice A0_2 l0_2.length c0_2] 38)).alloc (.cells #[.int .i64 (d:Int),.int .i64 (n:Int),.slice A1_2 l1_2.length c1_2] 38)).alloc (.cells #[.int .i64 0,.int .i64 0,.slice none 0 0] 38)).cell? ⟨w.heap.size,0,none⟩=some (.int .i64 (d:Int)):=qe_ (old_at (old_at (new_at rfl))) 0
   have cx1:(((w.alloc (.cells #[.int .i64 (d:Int),.int .i64 (n:Int),.slice A0_2 l0_2.length c0_2] 38)).alloc (.cells #[.int .i64 (d:Int),.int .i64 (n:Int),.slice A1_2 l1_2.length c1_2] 38)).alloc (.cells #[.int .i64 0,.int .i64 0,.slice none 0 0] 38)).cell? ⟨w.heap.size,1,none⟩=some (.int .i64 (n:Int)):=qe_ (old_at (old_at (new_at rfl))) 1
   have cx2:(((w.alloc (.cells #[.int .i64 (d:Int),.int .i64 (n:Int),.slice A0_2 l0_2.length c0_2] 38)).alloc (.cells #[.int .i64 (d:Int),.int .i64 (n:Int),.slice A1_2 l1_2.length c1_2] 38)).alloc (.cells #[.int .i64 0,.int .i64 0,.slice none 0 0] 38)).cell? ⟨w.heap.size,2,none⟩=some (.slice A0_2 l0_2.length c0_2):=qe_ (old_at (old_at (new_at rfl))) 2
   have cy0:(((w.alloc (.cells #[.int .i64 (d:Int),.int .i64 (n:Int),.slice A0_2 l0_2.length c0_2] 38)).alloc (.cells #[.int .i64 (d:Int),.int .i64 (n:Int),.slice A1_2 l1_2.length c1_2] 38)).alloc (.cells #[.int .i64 0,.int .i64 0,.slice none 0 0] 38)).cell? ⟨w.heap.size+1,0,none⟩=some (.int .i64 (d:Int)):=qe_ (old_at (new_at (by simp))) 0
   have cy1:(((w.alloc (.cells #[.int .i64 (d:Int),.int .i64 (n:Int),.slice A0_2 l0_2.length c0_2] 38)).alloc (.cells #[.int .i64 (d:Int),.int .i64 (n:Int),.slice A1_2 l1_2.length c1_2] 38)).alloc (.cells #[.int .i64 0,.int .i64 0,.slice none 0 0] 38)).cell? ⟨w.heap.size+1,1,none⟩=some (.int .i64 (n:Int)):=qe_ (old_at (new_at (by simp))) 1
   have cy2:(((w.alloc (.cells #[.int .i64 (d:Int),.int .i64 (n:Int),.slice A0_2 l0_2.length c0_2] 38)).alloc (.cells #[.int .i64 (d:Int),.int .i64 (n:Int),.slice A1_2 l1_2.length c1_2] 38)).alloc (.cells #[.int .i64 0,.int .i64 0,.slice none 0 0] 38)).cell? ⟨w.heap.size+1,2,none⟩=some (.slice A1_2 l1_2.length c1_2):=qe_ (old_at (new_at (by simp))) 2
   go_wp2_with (first
    | (go_at_call 106;(refine (qz_.calls k _ _ _ _ _ _ _ [⟨(d:Int),(n:Int),l1_2⟩] _ _ (Kd.qd1_ HR0.out (qb_ (qb_ (qb_ (qb_ (Below.refl _ _) _) _) _) _)) HC0.out (lit38 (d:Int) (n:Int) (Kd.qd1_ HR1.out (qb_ (qb_ (qb_ (Below.refl _ _) _) _) _)) HC1.out (by simp)) (by simp) HK.out).mono ?_);rintro e w1 ⟨rfl,hb⟩;have Sx:SrAt w1 (w.heap.size) (d:Int) (n:Int) (.slice A0_2 l0_2.length c0_2):=qk_ (old_at (old_at (old_at (new_at rfl)))) hb;have Sy:SrAt w1 (w.heap.size+1) (d:Int) (n:Int) (.slice A1_2 l1_2.length c1_2):=qk_ (old_at (old_at (new_at (by simp)))) hb;have Sr:SrAt w1 (w.heap.size+1+1) 0 0 (.slice none 0 0):=qk_ (old_at (new_at (by simp))) hb;have Sb:SrAt w1 (w.heap.size+1+1+1) (d:Int) (n:Int) (.slice A1_2 l1_2.length c1_2):=qk_ (new_at (by simp)) hb;clear cx0 cx1 cx2 cy0 cy1 cy2;have I8:=aK (show Below w.heap.size w w1 from qh_ (qb_ (qb_ (qb_ (qb_ (Below.refl _ _) _) _) _) _) hb);have cx0:w1.cell? ⟨w.heap.size,0,none⟩=some (.int .i64 (d:Int)):=SrAt.c0 Sx;have cx1:w1.cell? ⟨w.heap.size,1,none⟩=some (.int .i64 (n:Int)):=SrAt.c1 Sx;have cx2:w1.cell? ⟨w.heap.size,2,none⟩=some (.slice A0_2 l0_2.length c0_2):=SrAt.c2 Sx;have HSx:=aK Sx;have HSy:=aK Sy;have HSr:=aK Sr;have HSb:=aK Sb;clear Sx Sy Sr Sb;clear hb)
    | (go_at_call 142;(with_reducible refine (constS _ d n (HTX.out.below I8.out) xa HVA.out).mono ?_);rintro e w2 ⟨rfl,hb⟩;have Sx:SrAt w2 (w.heap.size) (d:Int) (n:Int) (.slice A0_2 l0_2.length c0_2):=SrAt.below HSx.out hb;have Sy:SrAt w2 (w.heap.size+1) (d:Int) (n:Int) (.slice A1_2 l1_2.length c1_2):=SrAt.below HSy.out hb;have Sr:SrAt w2 (w.heap.size+1+1) 0 0 (.slice none 0 0):=SrAt.below HSr.out hb;clear cx0 cx1 cx2;have N7:=aK (show Below w.heap.size w w2 from qh_ I8.out hb);replace HSx:=aK Sx;replace HSy:=aK Sy;replace HSr:=aK Sr;clear Sx Sy Sr;clear hb)
    | (go_at_call 141;(with_reducible refine (zeroS _ xa).mono ?_);rintro e w3 ⟨rfl,hb⟩;have Sx:SrAt w3 (w.heap.size) (d:Int) (n:Int) (.slice A0_2 l0_2.length c0_2):=SrAt.below HSx.out hb;have Sy:SrAt w3 (w.heap.size+1) (d:Int) (n:Int) (.slice A1_2 l1_2.length c1_2):=SrAt.below HSy.out hb;have Sr:SrAt w3 (w.heap.size+1+1) 0 0 (.slice none 0 0):=SrAt.below HSr.out hb;have G8:=aK (show Below w.heap.size w w3 from qh_ N7.out hb);have cr0:w3.cell? ⟨w.heap.size+1+1,0,none⟩=some (.int .i64 0):=SrAt.c0 Sr;have fr0:w3.frozen? ⟨w.heap.size+1+1,0,none⟩=false:=qd_ Sr 0;have cr1:w3.cell? ⟨w.heap.size+1+1,1,none⟩=some (.int .i64 0):=SrAt.c1 Sr;have fr1:w3.frozen? ⟨w.heap.size+1+1,1,none⟩=false:=qd_ Sr 1;have cr2:w3.cell? ⟨w.heap.size+1+1,2,none⟩=some (.slice none 0 0):=SrAt.c2 Sr;have fr2:w3.frozen? ⟨w.heap.size+1+1,2,none⟩=false:=qd_ Sr 2;replace HSx:=aK Sx;replace HSy:=aK Sy;replace HSr:=aK Sr;clear Sx Sy Sr;clear hb))
   refine bodyPost_ret (results_ct rfl _ _ (w.heap.size+1+1) 38 _ (0,0) _ rfl (qu_ (qu_ (qu_ HSr.out 0 _) 1 _) 2 _) hu rfl (by kernel_rfl)) rfl ?_
   exact ⟨_,rfl,Kd.R_nil _ _ _ _ _,((G8.out.setCell (Nat.le_trans (Nat.le_add_right _ 1) (Nat.le_add_right _ 1)) _).setCell (Nat.le_trans (Nat.le_add_right _ 1) (Nat.le_add_right _ 1)) _).setCell (Nat.le_trans (Nat.le_add_right _ 1) (Nat.le_add_right _ 1)) _⟩
 ·rw [if_neg c] at h
  simp only [Prod.mk.injEq] at h
  obtain ⟨rfl,rfl,rfl,rfl⟩:=h
  have HK:=aK hk
  clear hk hsm hq
  go_enter Try.func69,Try.ntmps69
  have cx0:(((w.alloc (.cells #[.int .i64 a0_0,.int .i64 a0_1,.slice A0_2 l0_2.length c0_2] 38)).alloc (.cells #[.int .i64 a1_0,.int .i64 a1_1,.slice A1_2 l1_2.length c1_2] 38)).alloc (.cells #[.int .i64 0,.int .i64 0,.slice none 0 0] 38)).cell? ⟨w.heap.size,0,none⟩=some (.int .i64 a0_0):=qe_ (old_at (old_at (new_at rfl))) 0
  have cx1:(((w.alloc (.cells #[.int .i64 a0_0,.int .i64 a0_1,.slice A0_2 l0_2.length c0_2] 38)).alloc (.cells #[.int .i64 a1_0,.int .i64 a1_1,.slice A1_2 l1_2.length c1_2] 38)).alloc (.cells #[.int .i64 0,.int .i64 0,.slice none 0 0] 38)).cell? ⟨w.heap.size,1,none⟩=some (.int .i64 a0_1):=qe_ (old_at (old_at (new_at rfl))) 1
  have cx2:(((w.alloc (.cells #[.int .i64 a0_0,.int .i64 a0_1,.slice A0_2 l0_2.length c0_2] 38)).alloc (.cells #[.int .i64 a1_0,.int .i64 a1_1,.slice A1_2 l1_2.length c1_2] 38)).alloc (.cells #[.int .i64 0,.int .i64 0,.slice none 0 0] 38)).cell? ⟨w.heap.size,2,none⟩=some (.slice A0_2 l0_2.length c0_2):=qe_ (old_at (old_at (new_at rfl))) 2
  have cy0:(((w.alloc (.cells #[.int .i64 a0_0,.int .i64 a0_1,.slice A0_2 l0_2.length c0_2] 38)).alloc (.cells #[.int .i64 a1_0,.int .i64 a1_1,.slice A1_2 l1_2.length c1_2] 38)).alloc (.cells #[.int .i64 0,.int .i64 0,.slice none 0 0] 38)).cell? ⟨w.heap.size+1,0,none⟩=some (.int .i64 a1_0):=qe_ (old_at (new_at (by simp))) 0
  have cy1:(((w.alloc (.cells #[.int .i64 a0_0,.int .i64 a0_1,.slice A0_2 l0_2.length c0_2] 38)).alloc (.cells #[.int .i64 a1_0,.int .i64 a1_1,.slice A1_2 l1_2.length c1_2] 38)).alloc (.cells #[.int .i64 0,.int .i64 0,.slice none 0 0] 38)).cell? ⟨w.heap.size+1,1,none⟩=some (.int .i64 a1_1):=qe_ (old_at (new_at (by simp))) 1
  have cy2:(((w.alloc (.cells #[.int .i64 a0_0,.int .i64 a0_1,.slice A0_2 l0_2.length c0_2] 38)).alloc (.cells #[.int .i64 a1_0,.int .i64 a1_1,.slice A1_2 l1_2.length c1_2] 38)).alloc (.cells #[.int .i64 0,.int .i64 0,.slice none 0 0] 38)).cell? ⟨w.heap.size+1,2,none⟩=some (.slice A1_2 l1_2.length c1_2):=qe_ (old_at (new_at (by simp))) 2
  go_wp2_with ((go_at_call 106;(refine (qz_.calls k _ _ _ _ _ _ _ [⟨a1_0,a1_1,l1_2⟩] _ _ (Kd.qd1_ HR0.out (qb_ (qb_ (qb_ (qb_ (Below.refl _ _) _) _) _) _)) HC0.out (lit38 a1_0 a1_1 (Kd.qd1_ HR1.out (qb_ (qb_ (qb_ (Below.refl _ _) _) _) _)) HC1.out (by simp)) (by simp) HK.out).mono ?_);rintro e w1 ⟨rfl,hb⟩;have Sx:SrAt w1 (w.heap.size) (a0_0) (a0_1) (.slice A0_2 l0_2.length c0_2):=qk_ (old_at (old_at (old_at (new_at rfl)))) hb;have Sy:SrAt w1 (w.heap.size+1) (a1_0) (a1_1) (.slice A1_2 l1_2.length c1_2):=qk_ (old_at (old_at (new_at (by simp)))) hb;have Sr:SrAt w1 (w.heap.size+1+1) 0 0 (.slice none 0 0):=qk_ (old_at (new_at (by simp))) hb;have Sb:SrAt w1 (w.heap.size+1+1+1) (a1_0) (a1_1) (.slice A1_2 l1_2.length c1_2):=qk_ (new_at (by simp)) hb;clear cx0 cx1 cx2 cy0 cy1 cy2;have I8:=aK (show Below w.heap.size w w1 from qh_ (qb_ (qb_ (qb_ (qb_ (Below.refl _ _) _) _) _) _) hb);have cr0:w1.cell? ⟨w.heap.size+1+1,0,none⟩=some (.int .i64 0):=SrAt.c0 Sr;have fr0:w1.frozen? ⟨w.heap.size+1+1,0,none⟩=false:=qd_ Sr 0;have cr1:w1.cell? ⟨w.heap.size+1+1,1,none⟩=some (.int .i64 0):=SrAt.c1 Sr;have fr1:w1.frozen? ⟨w.heap.size+1+1,1,none⟩=false:=qd_ Sr 1;have cr2:w1.cell? ⟨w.heap.size+1+1,2,none⟩=some (.slice none 0 0):=SrAt.c2 Sr;have fr2:w1.frozen? ⟨w.heap.size+1+1,2,none⟩=false:=qd_ Sr 2;have HSx:=aK Sx;have HSy:=aK Sy;have HSr:=aK Sr;have HSb:=aK Sb;clear Sx Sy Sr Sb;clear hb))
  refine bodyPost_ret (results_ct rfl _ _ (w.heap.size+1+1) 38 _ (0,0) _ rfl (qu_ (qu_ (qu_ HSr.out 0 _) 1 _) 2 _) hu rfl (by kernel_rfl)) rfl ?_
  exact ⟨_,rfl,Kd.R_nil _ _ _ _ _,((I8.out.setCell (Nat.le_trans (Nat.le_add_right _ 1) (Nat.le_add_right _ 1)) _).setCell (Nat.le_trans (Nat.le_add_right _ 1) (Nat.le_add_right _ 1)) _).setCell (Nat.le_trans (Nat.le_add_right _ 1) (Nat.le_add_right _ 1)) _⟩
end Go.Proofs.Ytaiefdhenikiiaa.Base
namespace Go.Proofs.Ytaiefdhenikiiaa.Base
open Go.RowKit Go.Proofs.YtaiefdhenikiiaaW.PrintWords Go.Proofs.YtaiefdhenikiiaaW.PrintLast Go.Proofs.YtaiefdhenikiiaaW.PrintMore
attribute [local go_sem] max2_int qp1_ max_two min_two max_three min_three max_four min_four Go.Proofs.YtaiefdhenikiiaaZ.qw_   -- for this text's walks alone
set_option linter.unusedVariables false
set_option linter.unusedSimpArgs false
theorem qj2_.keep {w W:World} {a0 a1 a2 a3 a4 a5:Addr} {v0 v1 v2 v3 v4 v5:Value} (p0:w.cell? a0=some v0) (p1:w.cell? a1=some v1) (p2:w.cell? a2=some v2) (p3:w.cell? a3=some v3) (p4:w.cell? a4=some v4) (p5:w.cell? a5=some v5) (hb:Below w.heap.size w W):W.cell? a0=some v0∧W.cell? a1=some v1∧W.cell? a2=some v2∧W.cell? a3=some v3∧W.cell? a4=some v4∧W.cell? a5=some v5:=⟨qq_ hb p0,qq_ hb p1,qq_ hb p2,qq_ hb p3,qq_ hb p4,qq_ hb p5⟩
def qj2_.f (a0_0:Int) (a0_1:Int) (l0_2:List S79) (a1_0:Int) (a1_1:Int) (l1_2:List S79):Option (Int × Int × (List S79) × Int):=if (l0_2.length≤1048576∧(∀ x ∈ l0_2,x.f0.size≤1048576))∧(l1_2.length≤1048576∧(∀ x ∈ l1_2,x.f0.size≤1048576)) then some (joinR a0_0 a0_1 l0_2 a1_0 a1_1 l1_2) else none
set_option maxHeartbeats 16000000 in
set_option maxRecDepth 100000 in
theorem qj2_.calls (a0_0:Int) (a0_1:Int) (A0_2:Option Addr) (c0_2:Nat) (l0_2:List (S79)) (a1_0:Int) (a1_1:Int) (A1_2:Option Addr) (c1_2:Nat) (l1_2:List (S79)) (r1:Int) (r2:Int) (r3:List (S79)) (r4:Int) (w:World) (hr0_2:Kd.C k79 w A0_2 l0_2.length l0_2) (hc0_2:l0_2.length≤c0_2) (hr1_2:Kd.C k79 w A1_2 l1_2.length l1_2) (hc1_2:l1_2.length≤c1_2) (h:qj2_.f a0_0 a0_1 l0_2 a1_0 a1_1 l1_2=some (r1,r2,r3,r4)) :
  Calls Try.prog 70 #[.agg #[.int .i64 a0_0,.int .i64 a0_1,.slice A0_2 l0_2.length c0_2],.agg #[.int .i64 a1_0,.int .i64 a1_1,.slice A1_2 l1_2.length c1_2]] w fun e w'=>∃ v2_:Value,e=.returned (.tuple #[.agg #[.int .i64 r1,.int .i64 r2,v2_],.int .i64 r4])∧Kd.R k79 79 w' w.heap.size (fun _=>True) v2_ r3∧Below w.heap.size w w':=by
 unfold qj2_.f at h
 split at h
 rotate_left
 ·cases h
 rename_i hsm
 replace h:=Option.some.inj h
 have hu:=Try.underlying38
 have hu3:=Try.underlying77
 have HR0:=aK hr0_2
 have HC0:=aK hc0_2
 have HR1:=aK hr1_2
 have HC1:=aK hc1_2
 clear hr0_2 hc0_2 hr1_2 hc1_2
 obtain ⟨k,hk⟩:=(alike_impl a0_0 a0_1 l0_2 a1_0 a1_1 l1_2 hsm.1 hsm.2).rounds
 unfold joinR at h
 obtain ⟨q,hq⟩:∃ q,q=codeA a0_0 a0_1 l0_2 a1_0 a1_1 l1_2:=⟨_,rfl⟩
 rw [← hq] at h hk
 by_cases c:q=0
 ·rw [if_pos c] at h
  obtain ⟨rfl,rfl,d,n,rfl,rfl,hs,hn,g1,g2⟩:=codeA_good (hq.symm.trans c)
  rw [Int.toNat_natCast,Int.toNat_natCast] at h
  rw [c] at hk
  have HK:=aK hk
  have HZ:=aK (zeroT_ok hs)
  have HOA:=aK (show ∀ W,Below w.heap.size w W→Calls Try.prog 112 #[.agg #[.int .i64 (d:Int),.int .i64 (n:Int),.slice A0_2 l0_2.length c0_2]] W (NewT W (openN d n l0_2) (zeroT d n)) from fun W hW=>open_ W d n A0_2 c0_2 l0_2 (Kd.qd1_ HR0.out hW) HC0.out hs (good_okTs (by have:=hs.d3;omega) g1).1 (by have:=hsm.1.1;omega))
  have HOB:=aK (show ∀ W,Below w.heap.size w W→Calls Try.prog 112 #[.agg #[.int .i64 (d:Int),.int .i64 (n:Int),.slice A1_2 l1_2.length c1_2]] W (NewT W (openN d n l1_2) (zeroT d n)) from fun W hW=>open_ W d n A1_2 c1_2 l1_2 (Kd.qd1_ HR1.out hW) HC1.out hs (good_okTs (by have:=hs.d3;omega) g2).1 (by have:=hsm.2.1;omega))
  have HT:=aK (show constB d n l0_2 l1_2=false→∀ (W:World) (g k:Nat),TabAt W g k (joinT d n (openN d n l0_2) (openN d n l1_2))→Calls Try.prog 96 #[.pointer (some ⟨g,0,none⟩)] W (SerRes W r1 r2 r3 r4) from fun hc=>told_all (joinT_like hs _ _) (by rw [if_neg (by rw [hc];simp)] at h;exact h))
  have HC5:=aK (show constB d n l0_2 l1_2=true→r1=0∧r2=0∧r3=[]∧r4=5 from fun hc=>by
   rw [if_pos hc] at h
   simp only [Prod.mk.injEq] at h
   exact ⟨h.1.symm,h.2.1.symm,h.2.2.1.symm,h.2.2.2.symm⟩)
  have HLA:=aK (open_like hs g1)
  have HLB:=aK (open_like hs g2)
  have HLZ:=aK (show 0<(wordsD d n).length from by have:=zero_len hs hn;omega)
  unfold constB at HT HC5
  obtain ⟨TA,hTA⟩:∃ T,T=openN d n l0_2:=⟨_,rfl⟩
  obtain ⟨TB,hTB⟩:∃ T,T=openN d n l1_2:=⟨_,rfl⟩
  rw [← hTA] at HOA HT HC5 HLA
  rw [← hTB] at HOB HT HC5 HLB
  have lA:0<TA.vs.length:=by rw [HLA.out.2.2.len,HLA.out.1,HLA.out.2.1];exact HLZ.out
  have lB:0<TB.vs.length:=by rw [HLB.out.2.2.len,HLB.out.1,HLB.out.2.1];exact HLZ.out
  have HVA:=aK (show (TA.val []).f0=(TA.vs[0]).f0 from by rw [Tb.val_eq TA (l:=[]) (by exact lA)];rfl)
  have HVB:=aK (show (TB.val []).f0=(TB.vs[0]).f0 from by rw [Tb.val_eq TB (l:=[]) (by exact lB)];rfl)
  obtain ⟨xa,hxa⟩:∃ x,x=(TA.val []).f0:=⟨_,rfl⟩
  obtain ⟨xb,hxb⟩:∃ x,x=(TB.val []).f0:=⟨_,rfl⟩
  rw [← hxa] at HT HC5 HVA
  rw [← hxb] at HT HC5 HVB
  have zA:(0:Int)<(TA.vs.length:Int):=by omega
  have zB:(0:Int)<(TB.vs.length:Int):=by omega
  have LA:=aK lA
  have LB:=aK lB
  clear h hk c hs hsm hn hq g1 g2 hTA hTB hxa hxb
  go_enter Try.func70,Try.ntmps70
  have cx0:(((w.alloc (.cells #[.int .i64 (d:Int),.int .i64 (n:Int),.slice A0_2 l0_2.length c0_2] 38)).alloc (.cells #[.int .i64 (d:Int),.int .i64 (n:Int),.slice A1_2 l1_2.length c1_2] 38)).alloc (.cells #[.int .i64 0,.int .i64 0,.slice none 0 0] 38)).cell? ⟨w.heap.size,0,none⟩=some (.int .i64 (d:Int)):=qe_ (old_at (old_at (new_at rfl))) 0
  have cx1:(((w.alloc (.cells #[.int .i64 (d:Int),.int .i64 (n:Int),.slice A0_2 l0_2.length c0_2] 38)).alloc (.cells #[.int .i64 (d:Int),.int .i64 (n:Int),.slice A1_2 l1_2.length c1_2] 38)).alloc (.cells #[.int .i64 0,.int .i64 0,.slice none 0 0] 38)).cell? ⟨w.heap.size,1,none⟩=some (.int .i64 (n:Int)):=qe_ (old_at (old_at (new_at rfl))) 1
  have cx2:(((w.alloc (.cells #[.int .i64 (d:Int),.int .i64 (n:Int),.slice A0_2 l0_2.length c0_2] 38)).alloc (.cells #[.int .i64 (d:Int),.int .i64 (n:Int),.slice A1_2 l1_2.length c1_2] 38)).alloc (.cells #[.int .i64 0,.int .i64 0,.slice none 0 0] 38)).cell? ⟨w.heap.size,2,none⟩=some (.slice A0_2 l0_2.length c0_2):=qe_ (old_at (old_at (new_at rfl))) 2
  have cy0:(((w.alloc (.cells #[.int .i64 (d:Int),.int .i64 (n:Int),.slice A0_2 l0_2.length c0_2] 38)).alloc (.cells #[.int .i64 (d:Int),.int .i64 (n:Int),.slice A1_2 l1_2.length c1_2] 38)).alloc (.cells #[.int .i64 0,.int .i64 0,.slice none 0 0] 38)).cell? ⟨w.heap.size+1,0,none⟩=some (.int .i64 (d:Int)):=qe_ (old_at (new_at (by simp))) 0
  have cy1:(((w.alloc (.cells #[.int .i64 (d:Int),.int .i64 (n:Int),.slice A0_2 l0_2.length c0_2] 38)).alloc (.cells #[.int .i64 (d:Int),.int .i64 (n:Int),.slice A1_2 l1_2.length c1_2] 38)).alloc (.cells #[.int .i64 0,.int .i64 0,.slice none 0 0] 38)).cell? ⟨w.heap.size+1,1,none⟩=some (.int .i64 (n:Int)):=qe_ (old_at (new_at (by simp))) 1
  have cy2:(((w.alloc (.cells #[.int .i64 (d:Int),.int .i64 (n:Int),.slice A0_2 l0_2.length c0_2] 38)).alloc (.cells #[.int .i64 (d:Int),.int .i64 (n:Int),.slice A1_2 l1_2.length c1_2] 38)).alloc (.cells #[.int .i64 0,.int .i64 0,.slice none 0 0] 38)).cell? ⟨w.heap.size+1,2,none⟩=some (.slice A1_2 l1_2.length c1_2):=qe_ (old_at (new_at (by simp))) 2
  go_wp2_with (go_at_call 144;(with_reducible refine (qh1_.calls k _ _ _ _ _ _ _ _ _ _ _ _ (Kd.qd1_ HR0.out (qb_ (qb_ (qb_ (Below.refl _ _) _) _) _)) HC0.out (Kd.qd1_ HR1.out (qb_ (qb_ (qb_ (Below.refl _ _) _) _) _)) HC1.out HK.out).mono ?_);rintro e w1 ⟨rfl,hb⟩;have Sx:SrAt w1 (w.heap.size) (d:Int) (n:Int) (.slice A0_2 l0_2.length c0_2):=qk_ (old_at (old_at (new_at rfl))) hb;have Sy:SrAt w1 (w.heap.size+1) (d:Int) (n:Int) (.slice A1_2 l1_2.length c1_2):=qk_ (old_at (new_at (by simp))) hb;have Sr:SrAt w1 (w.heap.size+1+1) 0 0 (.slice none 0 0):=qk_ (new_at (by simp)) hb;clear cx0 cx1 cx2 cy0 cy1 cy2;have I8:=aK (show Below w.heap.size w w1 from qh_ (qb_ (qb_ (qb_ (Below.refl _ _) _) _) _) hb);have cx0:w1.cell? ⟨w.heap.size,0,none⟩=some (.int .i64 (d:Int)):=SrAt.c0 Sx;have cx1:w1.cell? ⟨w.heap.size,1,none⟩=some (.int .i64 (n:Int)):=SrAt.c1 Sx;have cx2:w1.cell? ⟨w.heap.size,2,none⟩=some (.slice A0_2 l0_2.length c0_2):=SrAt.c2 Sx;have cy0:w1.cell? ⟨w.heap.size+1,0,none⟩=some (.int .i64 (d:Int)):=SrAt.c0 Sy;have cy1:w1.cell? ⟨w.heap.size+1,1,none⟩=some (.int .i64 (n:Int)):=SrAt.c1 Sy;have cy2:w1.cell? ⟨w.heap.size+1,2,none⟩=some (.slice A1_2 l1_2.length c1_2):=SrAt.c2 Sy;have HSx:=aK Sx;have HSy:=aK Sy;have HSr:=aK Sr;clear Sx Sy Sr;clear hb)
  go_region_held3 (fun w'=>w'.cell? ⟨w.heap.size,0,none⟩=some (.int .i64 (d:Int))∧w'.cell? ⟨w.heap.size,1,none⟩=some (.int .i64 (n:Int))∧w'.cell? ⟨w.heap.size,2,none⟩=some (.slice A0_2 l0_2.length c0_2)∧w'.cell? ⟨w.heap.size+1,0,none⟩=some (.int .i64 (d:Int))∧w'.cell? ⟨w.heap.size+1,1,none⟩=some (.int .i64 (n:Int))∧w'.cell? ⟨w.heap.size+1,2,none⟩=some (.slice A1_2 l1_2.length c1_2)) (exact qj2_.keep cx0 cx1 cx2 cy0 cy1 cy2 (by (repeat' (first|(with_reducible exact Below.refl _ _)|(with_reducible exact V6.out)|(with_reducible exact X5.out)|(with_reducible refine qc_ ?_)|(with_reducible refine qa_ ?_ _)|(with_reducible refine qb_ ?_ _))))) (first|(go_at_call 112;(with_reducible refine (HOA.out _ (by repeat (first|(with_reducible exact I8.out)|(with_reducible refine qc_ ?_)|(with_reducible refine qa_ ?_ _)))).mono ?_);rintro e w2 ⟨gA,kA,rfl,T,hg,hh,hb'⟩;have hb:Below w1.heap.size w1 w2:=qh_ (by repeat (first|(with_reducible exact Below.refl _ _)|(with_reducible refine qc_ ?_)|(with_reducible refine qa_ ?_ _))) hb';have Sx:SrAt w2 (w.heap.size) (d:Int) (n:Int) (.slice A0_2 l0_2.length c0_2):=SrAt.below HSx.out hb;have Sy:SrAt w2 (w.heap.size+1) (d:Int) (n:Int) (.slice A1_2 l1_2.length c1_2):=SrAt.below HSy.out hb;have Sr:SrAt w2 (w.heap.size+1+1) 0 0 (.slice none 0 0):=SrAt.below HSr.out hb;have V6:=aK (show Below w1.heap.size w1 w2 from hb);have N7:=aK (show Below w.heap.size w w2 from qh_ I8.out hb);replace HSx:=aK Sx;replace HSy:=aK Sy;replace HSr:=aK Sr;clear Sx Sy Sr;have HTA:=aK T;clear T hg hh hb hb')|(go_at_call 112;(with_reducible refine (HOB.out _ (by repeat (first|(with_reducible exact N7.out)|(with_reducible refine qc_ ?_)|(with_reducible refine qa_ ?_ _)))).mono ?_);rintro e w3 ⟨gB,kB,rfl,T,hg,hh,hb'⟩;have hb:Below w2.heap.size w2 w3:=qh_ (by repeat (first|(with_reducible exact Below.refl _ _)|(with_reducible refine qc_ ?_)|(with_reducible refine qa_ ?_ _))) hb';have Sx:SrAt w3 (w.heap.size) (d:Int) (n:Int) (.slice A0_2 l0_2.length c0_2):=SrAt.below HSx.out hb;have Sy:SrAt w3 (w.heap.size+1) (d:Int) (n:Int) (.slice A1_2 l1_2.length c1_2):=SrAt.below HSy.out hb;have Sr:SrAt w3 (w.heap.size+1+1) 0 0 (.slice none 0 0):=SrAt.below HSr.out hb;have X5:=aK (show Below w1.heap.size w1 w3 from qh_ V6.out hb);have G8:=aK (show Below w.heap.size w w3 from qh_ N7.out hb);replace HSx:=aK Sx;replace HSy:=aK Sy;replace HSr:=aK Sr;clear Sx Sy Sr;have HTB:=aK T;replace HTA:=aK (HTA.out.below hb);clear T hg hh hb hb'))
  have c2A:=HTA.out.tab.c2
  have c2B:=HTB.out.tab.c2
  have v0A:w3.cell? ⟨kA,0,none⟩=some (.int .i64 xa):=by rw [HVA.out];have:=HTA.out.tab.v0 0 LA.out;simpa using this
  have v0B:w3.cell? ⟨kB,0,none⟩=some (.int .i64 xb):=by rw [HVB.out];have:=HTB.out.tab.v0 0 LB.out;simpa using this
  clear cx0 cx1 cx2 cy0 cy1 cy2 V6 X5
  by_cases ca:xa=0
  ·by_cases cb:xb=0
   ·replace HT:=aK (HT.out (by rw [ca,cb];rfl))
    have fa:(xa != 0)=false:=by rw [ca];rfl
    have fb:(xb != 0)=false:=by rw [cb];rfl
    clear HC5 HVA HVB ca cb
    go_wp2_with (first
     | (go_at_call 145;(with_reducible refine (exponential' _ HTA.out HZ.out).mono ?_);rintro e w4 ⟨g4,k4,rfl,T,hg,hh,hb⟩;clear c2A c2B v0A v0B;have Sx:SrAt w4 (w.heap.size) (d:Int) (n:Int) (.slice A0_2 l0_2.length c0_2):=SrAt.below HSx.out hb;have Sy:SrAt w4 (w.heap.size+1) (d:Int) (n:Int) (.slice A1_2 l1_2.length c1_2):=SrAt.below HSy.out hb;have Sr:SrAt w4 (w.heap.size+1+1) 0 0 (.slice none 0 0):=SrAt.below HSr.out hb;have J4:=aK (show Below w.heap.size w w4 from qh_ G8.out hb);replace HSx:=aK Sx;replace HSy:=aK Sy;replace HSr:=aK Sr;clear Sx Sy Sr;have HE4:=aK T;replace HTB:=aK (HTB.out.below hb);clear T hg hh hb)
     | (go_at_call 145;(with_reducible refine (exponential' _ HTB.out HZ.out).mono ?_);rintro e w5 ⟨g5,k5,rfl,T,hg,hh,hb⟩;have Sx:SrAt w5 (w.heap.size) (d:Int) (n:Int) (.slice A0_2 l0_2.length c0_2):=SrAt.below HSx.out hb;have Sy:SrAt w5 (w.heap.size+1) (d:Int) (n:Int) (.slice A1_2 l1_2.length c1_2):=SrAt.below HSy.out hb;have Sr:SrAt w5 (w.heap.size+1+1) 0 0 (.slice none 0 0):=SrAt.below HSr.out hb;have J3:=aK (show Below w.heap.size w w5 from qh_ J4.out hb);replace HSx:=aK Sx;replace HSy:=aK Sy;replace HSr:=aK Sr;clear Sx Sy Sr;have HE5:=aK T;replace HE4:=aK (HE4.out.below hb);clear T hg hh hb)
     | (go_at_call 146;(with_reducible refine (timesL _ HE4.out HE5.out HZ.out).mono ?_);rintro e w6 ⟨g6,k6,rfl,T,hg,hh,hb⟩;have Sx:SrAt w6 (w.heap.size) (d:Int) (n:Int) (.slice A0_2 l0_2.length c0_2):=SrAt.below HSx.out hb;have Sy:SrAt w6 (w.heap.size+1) (d:Int) (n:Int) (.slice A1_2 l1_2.length c1_2):=SrAt.below HSy.out hb;have Sr:SrAt w6 (w.heap.size+1+1) 0 0 (.slice none 0 0):=SrAt.below HSr.out hb;have Q6:=aK (show Below w.heap.size w w6 from qh_ J3.out hb);replace HSx:=aK Sx;replace HSy:=aK Sy;replace HSr:=aK Sr;clear Sx Sy Sr;have HE6:=aK T;clear T hg hh hb)
     | (go_at_call 147;(with_reducible refine (logarithm' _ HE6.out HZ.out).mono ?_);rintro e w7 ⟨g7,k7,rfl,T,hg,hh,hb⟩;have Sx:SrAt w7 (w.heap.size) (d:Int) (n:Int) (.slice A0_2 l0_2.length c0_2):=SrAt.below HSx.out hb;have Sy:SrAt w7 (w.heap.size+1) (d:Int) (n:Int) (.slice A1_2 l1_2.length c1_2):=SrAt.below HSy.out hb;have Sr:SrAt w7 (w.heap.size+1+1) 0 0 (.slice none 0 0):=SrAt.below HSr.out hb;have Y2:=aK (show Below w.heap.size w w7 from qh_ Q6.out hb);replace HSx:=aK Sx;replace HSy:=aK Sy;replace HSr:=aK Sr;clear Sx Sy Sr;have HE7:=aK T.tab;clear T hg hh hb)
     | (go_at_call 96;(with_reducible refine (HT.out _ _ _ HE7.out).mono ?_);rintro e w8 ⟨v,rfl,hv,hb⟩;obtain ⟨A1,c1,rfl⟩:=Kd.qd2_ hv;have Sx:SrAt w8 (w.heap.size) (d:Int) (n:Int) (.slice A0_2 l0_2.length c0_2):=SrAt.below HSx.out hb;have Sy:SrAt w8 (w.heap.size+1) (d:Int) (n:Int) (.slice A1_2 l1_2.length c1_2):=SrAt.below HSy.out hb;have Sr:SrAt w8 (w.heap.size+1+1) 0 0 (.slice none 0 0):=SrAt.below HSr.out hb;have HBw8:=aK (show Below w.heap.size w w8 from qh_ Y2.out hb);have cr0:w8.cell? ⟨w.heap.size+1+1,0,none⟩=some (.int .i64 0):=SrAt.c0 Sr;have fr0:w8.frozen? ⟨w.heap.size+1+1,0,none⟩=false:=qd_ Sr 0;have cr1:w8.cell? ⟨w.heap.size+1+1,1,none⟩=some (.int .i64 0):=SrAt.c1 Sr;have fr1:w8.frozen? ⟨w.heap.size+1+1,1,none⟩=false:=qd_ Sr 1;have cr2:w8.cell? ⟨w.heap.size+1+1,2,none⟩=some (.slice none 0 0):=SrAt.c2 Sr;have fr2:w8.frozen? ⟨w.heap.size+1+1,2,none⟩=false:=qd_ Sr 2;replace HSx:=aK Sx;replace HSy:=aK Sy;replace HSr:=aK Sr;clear Sx Sy Sr;have HV:=aK (Kd.qn2_ hv Y2.out.size);clear hv hb))
    refine bodyPost_ret (results_ct rfl _ _ (w.heap.size+1+1) 38 _ (0,0) _ rfl (qu_ (qu_ (qu_ HSr.out 0 _) 1 _) 2 _) hu rfl (by kernel_rfl)) rfl ?_
    refine ⟨_,rfl,?_,((HBw8.out.setCell (Nat.le_trans (Nat.le_add_right _ 1) (Nat.le_add_right _ 1)) _).setCell (Nat.le_trans (Nat.le_add_right _ 1) (Nat.le_add_right _ 1)) _).setCell (Nat.le_trans (Nat.le_add_right _ 1) (Nat.le_add_right _ 1)) _⟩
    exact Kd.R_set (Kd.R_set (Kd.R_set HV.out HSr.out (by decide) 0 _) (qu_ HSr.out 0 _) (by decide) 1 _) (qu_ (qu_ HSr.out 0 _) 1 _) (by decide) 2 _
   ·obtain ⟨rfl,rfl,rfl,rfl⟩:=HC5.out (by rw [ca];simp [cb])
    have fa:(xa != 0)=false:=by rw [ca];rfl
    have fb:(xb != 0)=true:=by simpa using cb
    clear HC5 HVA HVB ca HT
    have cr0:w3.cell? ⟨w.heap.size+1+1,0,none⟩=some (.int .i64 0):=HSr.out.c0
    have fr0:w3.frozen? ⟨w.heap.size+1+1,0,none⟩=false:=qd_ HSr.out 0
    have cr1:w3.cell? ⟨w.heap.size+1+1,1,none⟩=some (.int .i64 0):=HSr.out.c1
    have fr1:w3.frozen? ⟨w.heap.size+1+1,1,none⟩=false:=qd_ HSr.out 1
    have cr2:w3.cell? ⟨w.heap.size+1+1,2,none⟩=some (.slice none 0 0):=HSr.out.c2
    have fr2:w3.frozen? ⟨w.heap.size+1+1,2,none⟩=false:=qd_ HSr.out 2
    go_wp2
    refine bodyPost_ret (results_ct rfl _ _ (w.heap.size+1+1) 38 _ (0,0) _ rfl (qu_ (qu_ (qu_ HSr.out 0 _) 1 _) 2 _) hu rfl (by kernel_rfl)) rfl ?_
    exact ⟨_,rfl,Kd.R_nil _ _ _ _ _,((G8.out.setCell (Nat.le_trans (Nat.le_add_right _ 1) (Nat.le_add_right _ 1)) _).setCell (Nat.le_trans (Nat.le_add_right _ 1) (Nat.le_add_right _ 1)) _).setCell (Nat.le_trans (Nat.le_add_right _ 1) (Nat.le_add_right _ 1)) _⟩
  ·obtain ⟨rfl,rfl,rfl,rfl⟩:=HC5.out (by simp [ca])
   have fa:(xa != 0)=true:=by simpa using ca
   clear HC5 HVA HVB HT
   have cr0:w3.cell? ⟨w.heap.size+1+1,0,none⟩=some (.int .i64 0):=HSr.out.c0
   have fr0:w3.frozen? ⟨w.heap.size+1+1,0,none⟩=false:=qd_ HSr.out 0
   have cr1:w3.cell? ⟨w.heap.size+1+1,1,none⟩=some (.int .i64 0):=HSr.out.c1
   have fr1:w3.frozen? ⟨w.heap.size+1+1,1,none⟩=false:=qd_ HSr.out 1
   have cr2:w3.cell? ⟨w.heap.size+1+1,2,none⟩=some (.slice none 0 0):=HSr.out.c2
   have fr2:w3.frozen? ⟨w.heap.size+1+1,2,none⟩=false:=qd_ HSr.out 2
   go_wp2
   refine bodyPost_ret (results_ct rfl _ _ (w.heap.size+1+1) 38 _ (0,0) _ rfl (qu_ (qu_ (qu_ HSr.out 0 _) 1 _) 2 _) hu rfl (by kernel_rfl)) rfl ?_
   exact ⟨_,rfl,Kd.R_nil _ _ _ _ _,((G8.out.setCell (Nat.le_trans (Nat.le_add_right _ 1) (Nat.le_add_right _ 1)) _).setCell (Nat.le_trans (Nat.le_add_right _ 1) (Nat.le_add_right _ 1)) _).setCell (Nat.le_trans (Nat.le_add_right _ 1) (Nat.le_add_right _ 1)) _⟩
 ·rw [if_neg c] at h
  simp only [Prod.mk.injEq] at h
  obtain ⟨rfl,rfl,rfl,rfl⟩:=h
  have HK:=aK hk
  clear hk hsm hq
  go_enter Try.func70,Try.ntmps70
  have cx0:(((w.alloc (.cells #[.int .i64 a0_0,.int .i64 a0_1,.slice A0_2 l0_2.length c0_2] 38)).alloc (.cells #[.int .i64 a1_0,.int .i64 a1_1,.slice A1_2 l1_2.length c1_2] 38)).alloc (.cells #[.int .i64 0,.int .i64 0,.slice none 0 0] 38)).cell? ⟨w.heap.size,0,none⟩=some (.int .i64 a0_0):=qe_ (old_at (old_at (new_at rfl))) 0
  have cx1:(((w.alloc (.cells #[.int .i64 a0_0,.int .i64 a0_1,.slice A0_2 l0_2.length c0_2] 38)).alloc (.cells #[.int .i64 a1_0,.int .i64 a1_1,.slice A1_2 l1_2.length c1_2] 38)).alloc (.cells #[.int .i64 0,.int .i64 0,.slice none 0 0] 38)).cell? ⟨w.heap.size,1,none⟩=some (.int .i64 a0_1):=qe_ (old_at (old_at (new_at rfl))) 1
  have cx2:(((w.alloc (.cells #[.int .i64 a0_0,.int .i64 a0_1,.slice A0_2 l0_2.length c0_2] 38)).alloc (.cells #[.int .i64 a1_0,.int .i64 a1_1,.slice A1_2 l1_2.length c1_2] 38)).alloc (.cells #[.int .i64 0,.int .i64 0,.slice none 0 0] 38)).cell? ⟨w.heap.size,2,none⟩=some (.slice A0_2 l0_2.length c0_2):=qe_ (old_at (old_at (new_at rfl))) 2
  have cy0:(((w.alloc (.cells #[.int .i64 a0_0,.int .i64 a0_1,.slice A0_2 l0_2.length c0_2] 38)).alloc (.cells #[.int .i64 a1_0,.int .i64 a1_1,.slice A1_2 l1_2.length c1_2] 38)).alloc (.cells #[.int .i64 0,.int .i64 0,.slice none 0 0] 38)).cell? ⟨w.heap.size+1,0,none⟩=some (.int .i64 a1_0):=qe_ (old_at (new_at (by simp))) 0
  have cy1:(((w.alloc (.cells #[.int .i64 a0_0,.int .i64 a0_1,.slice A0_2 l0_2.length c0_2] 38)).alloc (.cells #[.int .i64 a1_0,.int .i64 a1_1,.slice A1_2 l1_2.length c1_2] 38)).alloc (.cells #[.int .i64 0,.int .i64 0,.slice none 0 0] 38)).cell? ⟨w.heap.size+1,1,none⟩=some (.int .i64 a1_1):=qe_ (old_at (new_at (by simp))) 1
  have cy2:(((w.alloc (.cells #[.int .i64 a0_0,.int .i64 a0_1,.slice A0_2 l0_2.length c0_2] 38)).alloc (.cells #[.int .i64 a1_0,.int .i64 a1_1,.slice A1_2 l1_2.length c1_2] 38)).alloc (.cells #[.int .i64 0,.int .i64 0,.slice none 0 0] 38)).cell? ⟨w.heap.size+1,2,none⟩=some (.slice A1_2 l1_2.length c1_2):=qe_ (old_at (new_at (by simp))) 2
  go_wp2_with (go_at_call 144;(with_reducible refine (qh1_.calls k _ _ _ _ _ _ _ _ _ _ _ _ (Kd.qd1_ HR0.out (qb_ (qb_ (qb_ (Below.refl _ _) _) _) _)) HC0.out (Kd.qd1_ HR1.out (qb_ (qb_ (qb_ (Below.refl _ _) _) _) _)) HC1.out HK.out).mono ?_);rintro e w1 ⟨rfl,hb⟩;have Sx:SrAt w1 (w.heap.size) (a0_0) (a0_1) (.slice A0_2 l0_2.length c0_2):=qk_ (old_at (old_at (new_at rfl))) hb;have Sy:SrAt w1 (w.heap.size+1) (a1_0) (a1_1) (.slice A1_2 l1_2.length c1_2):=qk_ (old_at (new_at (by simp))) hb;have Sr:SrAt w1 (w.heap.size+1+1) 0 0 (.slice none 0 0):=qk_ (new_at (by simp)) hb;clear cx0 cx1 cx2 cy0 cy1 cy2;have I8:=aK (show Below w.heap.size w w1 from qh_ (qb_ (qb_ (qb_ (Below.refl _ _) _) _) _) hb);have cr0:w1.cell? ⟨w.heap.size+1+1,0,none⟩=some (.int .i64 0):=SrAt.c0 Sr;have fr0:w1.frozen? ⟨w.heap.size+1+1,0,none⟩=false:=qd_ Sr 0;have cr1:w1.cell? ⟨w.heap.size+1+1,1,none⟩=some (.int .i64 0):=SrAt.c1 Sr;have fr1:w1.frozen? ⟨w.heap.size+1+1,1,none⟩=false:=qd_ Sr 1;have cr2:w1.cell? ⟨w.heap.size+1+1,2,none⟩=some (.slice none 0 0):=SrAt.c2 Sr;have fr2:w1.frozen? ⟨w.heap.size+1+1,2,none⟩=false:=qd_ Sr 2;have HSx:=aK Sx;have HSy:=aK Sy;have HSr:=aK Sr;clear Sx Sy Sr;clear hb)
  refine bodyPost_ret (results_ct rfl _ _ (w.heap.size+1+1) 38 _ (0,0) _ rfl (qu_ (qu_ (qu_ HSr.out 0 _) 1 _) 2 _) hu rfl (by kernel_rfl)) rfl ?_
  exact ⟨_,rfl,Kd.R_nil _ _ _ _ _,((I8.out.setCell (Nat.le_trans (Nat.le_add_right _ 1) (Nat.le_add_right _ 1)) _).setCell (Nat.le_trans (Nat.le_add_right _ 1) (Nat.le_add_right _ 1)) _).setCell (Nat.le_trans (Nat.le_add_right _ 1) (Nat.le_add_right _ 1)) _⟩
end Go.Proofs.Ytaiefdhenikiiaa.Base
namespace Go.Proofs.Ytaiefdhenikiiaa.Base
open Go.RowKit Go.Proofs.YtaiefdhenikiiaaW.PrintWords Go.Proofs.YtaiefdhenikiiaaW.PrintLast Go.Proofs.YtaiefdhenikiiaaW.PrintMore
attribute [local go_sem] max2_int qp1_ max_two min_two max_three min_three max_four min_four Go.Proofs.YtaiefdhenikiiaaZ.qw_   -- for this text's walks alone
set_option linter.unusedVariables false
set_option linter.unusedSimpArgs false
theorem qj1_.keep {w W:World} {a0:Addr} {v0:Value} {a1:Addr} {v1:Value} {a2:Addr} {v2:Value} {a3:Addr} {v3:Value} {a4:Addr} {v4:Value} {a5:Addr} {v5:Value} (p0:w.cell? a0=some v0) (p1:w.cell? a1=some v1) (p2:w.cell? a2=some v2) (p3:w.cell? a3=some v3) (p4:w.cell? a4=some v4) (p5:w.cell? a5=some v5) (hb:Below w.heap.size w W):W.cell? a0=some v0∧W.cell? a1=some v1∧W.cell? a2=some v2∧W.cell? a3=some v3∧W.cell? a4=some v4∧W.cell? a5=some v5:=⟨qq_ hb p0,qq_ hb p1,qq_ hb p2,qq_ hb p3,qq_ hb p4,qq_ hb p5⟩
def qj1_.f (k:Nat) (a0_0:Int) (a0_1:Int) (l0_2:List (S75)) (a1_0:Int) (a1_1:Int) (l1_2:List (S75)):Option Bool:=(qf2_.f k a0_0 a0_1 l0_2 1048576).bind fun K7=>if K7<0 then some true else (qf2_.f k a1_0 a1_1 l1_2 K7).bind fun Q5=>if Q5<0 then some true else (qv1_.f k a0_0 a0_1 l0_2).bind fun p3=>(qv1_.f k a1_0 a1_1 l1_2).bind fun p4=>(qu2_.f p3.1 p3.2.1 p3.2.2 p4.1 p4.2.1 p4.2.2).bind fun p5=>(qv1_.f k a0_0 a0_1 l0_2).bind fun p6=>(qv1_.f k a1_0 a1_1 l1_2).bind fun p7=>(qj2_.f p6.1 p6.2.1 p6.2.2 p7.1 p7.2.1 p7.2.2).bind fun p8=>if p8.2.2.2=p5.2.2.2 then (qc2_.f k p8.1 p8.2.1 p8.2.2.1 p5.1 p5.2.1 p5.2.2.1).bind fun V4=>if V4=true then (qv1_.f k a0_0 a0_1 l0_2).bind fun p10=>(qc2_.f k p6.1 p6.2.1 p6.2.2 p10.1 p10.2.1 p10.2.2).bind fun V3=>if V3=true then (qv1_.f k a1_0 a1_1 l1_2).bind fun p12=>(qc2_.f k p7.1 p7.2.1 p7.2.2 p12.1 p12.2.1 p12.2.2).bind fun U9=>if U9=true then (qa2_.f k p6.1 p6.2.1 p6.2.2 1).bind fun p14=>if 0≤p14.1 then (qa2_.f k p7.1 p7.2.1 p7.2.2 p14.1).bind fun p15=>if 0≤p15.1 then (qc2_.f k p8.1 p8.2.1 p8.2.2.1 p5.1 p5.2.1 p5.2.2.1).bind fun U7=>if U7=true then (qa2_.f k p8.1 p8.2.1 p8.2.2.1 1).bind fun p17=>if 0≤p17.1 then (qk2_.f k p8.1 p8.2.1 p17.2 1).bind fun K4=>if 0≤K4∧K4=p17.1 then (qv1_.f k a0_0 a0_1 l0_2).bind fun p19=>(qv1_.f k a1_0 a1_1 l1_2).bind fun p20=>(qj2_.f p19.1 p19.2.1 p19.2.2 p20.1 p20.2.1 p20.2.2).bind fun p21=>if p21.2.2.2=p5.2.2.2 then (qc2_.f k p21.1 p21.2.1 p21.2.2.1 p5.1 p5.2.1 p5.2.2.1).bind fun U6=>if U6=true then (qk2_.f k p8.1 p8.2.1 p17.2 1).bind fun K3=>if 0≤K3∧K3=p17.1 then some true else none else none else none else none else none else none else none else none else none else none else none else none
theorem qj1_.mono:∀ a0_0 a0_1 l0_2 a1_0 a1_1 l1_2 k,LeO (qj1_.f k a0_0 a0_1 l0_2 a1_0 a1_1 l1_2) (qj1_.f (k+1) a0_0 a0_1 l0_2 a1_0 a1_1 l1_2):=by
 intro a0_0 a0_1 l0_2 a1_0 a1_1 l1_2 k
 unfold qj1_.f
 repeat' first
  | (with_reducible exact qc2_.mono _ _ _ _ _ _ _)
  | (with_reducible exact qk2_.mono _ _ _ _ _)
  | (with_reducible exact qa2_.mono _ _ _ _ _)
  | (with_reducible exact qf2_.mono _ _ _ _ _)
  | (with_reducible exact qv1_.mono _ _ _ _)
  | (with_reducible exact LeO.refl _)
  | (with_reducible refine LeO.ite ?_ ?_)
  | (with_reducible refine LeO.bind ?_ (fun _=>?_))
  | exact LeO.refl _
  | exact LeO.none _
set_option maxHeartbeats 16000000 in
set_option maxRecDepth 100000 in
theorem qj1_.calls (k:Nat) (a0_0:Int) (a0_1:Int) (A0_2:Option Addr) (c0_2:Nat) (l0_2:List (S75)) (a1_0:Int) (a1_1:Int) (A1_2:Option Addr) (c1_2:Nat) (l1_2:List (S75)) (r:Bool) (w:World) (hr0_2:Kd.C k75 w A0_2 l0_2.length l0_2) (hc0_2:l0_2.length≤c0_2) (hr1_2:Kd.C k75 w A1_2 l1_2.length l1_2) (hc1_2:l1_2.length≤c1_2) (h:qj1_.f k a0_0 a0_1 l0_2 a1_0 a1_1 l1_2=some r) :
  Calls Try.prog 18 #[.agg #[.int .i64 a0_0,.int .i64 a0_1,.slice A0_2 l0_2.length c0_2],.agg #[.int .i64 a1_0,.int .i64 a1_1,.slice A1_2 l1_2.length c1_2]] w fun e w'=>e=.returned (.bool r)∧Below w.heap.size w w':=by
 have hu:=Try.underlying38
 unfold qj1_.f at h
 have HR0_2:=aK hr0_2
 have HC0_2:=aK hc0_2
 clear hr0_2 hc0_2
 have HR1_2:=aK hr1_2
 have HC1_2:=aK hc1_2
 clear hr1_2 hc1_2
 have B0:=aK (Below.refl w.heap.size w)
 have h0:=h
 clear h
 replace h0:=Option.bind_eq_some_iff.mp h0
 obtain ⟨K7,E1,h0⟩:=h0
 replace E1:=aK E1
 by_cases c1:K7<0
 ·rw [if_pos c1] at h0
  obtain rfl:=Option.some.inj h0
  clear h0
  have d1:decide (K7<0)=true:=decide_eq_true c1
  clear c1
  go_enter Try.func18,Try.ntmps18
  have z0_0_0:((w.alloc (.cells #[.int .i64 a0_0,.int .i64 a0_1,.slice A0_2 l0_2.length c0_2] 32)).alloc (.cells #[.int .i64 a1_0,.int .i64 a1_1,.slice A1_2 l1_2.length c1_2] 32)).cell? ⟨w.heap.size,0,none⟩=some (.int .i64 a0_0):=qe_ (old_at (new_at rfl)) 0
  have z0_0_1:((w.alloc (.cells #[.int .i64 a0_0,.int .i64 a0_1,.slice A0_2 l0_2.length c0_2] 32)).alloc (.cells #[.int .i64 a1_0,.int .i64 a1_1,.slice A1_2 l1_2.length c1_2] 32)).cell? ⟨w.heap.size,1,none⟩=some (.int .i64 a0_1):=qe_ (old_at (new_at rfl)) 1
  have z0_0_2:((w.alloc (.cells #[.int .i64 a0_0,.int .i64 a0_1,.slice A0_2 l0_2.length c0_2] 32)).alloc (.cells #[.int .i64 a1_0,.int .i64 a1_1,.slice A1_2 l1_2.length c1_2] 32)).cell? ⟨w.heap.size,2,none⟩=some (.slice A0_2 l0_2.length c0_2):=qe_ (old_at (new_at rfl)) 2
  go_wp2_with (go_at_call 28;(with_reducible refine (qf2_.calls k a0_0 a0_1 A0_2 c0_2 l0_2 1048576 K7 _ (Kd.qd1_ HR0_2.out (qb_ (qb_ B0.out _) _)) HC0_2.out E1.out).mono ?_);rintro e w1 ⟨rfl,hb⟩;have D_:Below w.heap.size w w1:=qh_ (qb_ (qb_ (Below.refl _ _) _) _) hb;have HS0:=aK (show w1.heap[w.heap.size]?=some (.cells #[.int .i64 a0_0,.int .i64 a0_1,.slice A0_2 l0_2.length c0_2] 32 (0,0)) from qk_ (old_at (new_at rfl)) hb);have HS1:=aK (show w1.heap[w.heap.size+1]?=some (.cells #[.int .i64 a1_0,.int .i64 a1_1,.slice A1_2 l1_2.length c1_2] 32 (0,0)) from qk_ (new_at (by simp)) hb);have OB0:=aK (show True from trivial);have OB1:=aK (show True from trivial);have B1:=aK (qh_ B0.out D_);have LB0:=aK (blk_lt HS0.out);have LB1:=aK (blk_lt HS1.out);clear D_ hb;clear z0_0_0 z0_0_1 z0_0_2;have z1_1_0:w1.cell? ⟨w.heap.size+1,0,none⟩=some (.int .i64 a1_0):=qe_ HS1.out 0;have z1_1_1:w1.cell? ⟨w.heap.size+1,1,none⟩=some (.int .i64 a1_1):=qe_ HS1.out 1;have z1_1_2:w1.cell? ⟨w.heap.size+1,2,none⟩=some (.slice A1_2 l1_2.length c1_2):=qe_ HS1.out 2)
  go_ret
  exact ⟨rfl,B1.out⟩
 ·rw [if_neg c1] at h0
  have d1:decide (K7<0)=false:=decide_eq_false c1
  clear c1
  replace h0:=Option.bind_eq_some_iff.mp h0
  obtain ⟨Q5,E2,h0⟩:=h0
  replace E2:=aK E2
  by_cases c2:Q5<0
  ·rw [if_pos c2] at h0
   obtain rfl:=Option.some.inj h0
   clear h0
   have d2:decide (Q5<0)=true:=decide_eq_true c2
   clear c2
   go_enter Try.func18,Try.ntmps18
   have z0_0_0:((w.alloc (.cells #[.int .i64 a0_0,.int .i64 a0_1,.slice A0_2 l0_2.length c0_2] 32)).alloc (.cells #[.int .i64 a1_0,.int .i64 a1_1,.slice A1_2 l1_2.length c1_2] 32)).cell? ⟨w.heap.size,0,none⟩=some (.int .i64 a0_0):=qe_ (old_at (new_at rfl)) 0
   have z0_0_1:((w.alloc (.cells #[.int .i64 a0_0,.int .i64 a0_1,.slice A0_2 l0_2.length c0_2] 32)).alloc (.cells #[.int .i64 a1_0,.int .i64 a1_1,.slice A1_2 l1_2.length c1_2] 32)).cell? ⟨w.heap.size,1,none⟩=some (.int .i64 a0_1):=qe_ (old_at (new_at rfl)) 1
   have z0_0_2:((w.alloc (.cells #[.int .i64 a0_0,.int .i64 a0_1,.slice A0_2 l0_2.length c0_2] 32)).alloc (.cells #[.int .i64 a1_0,.int .i64 a1_1,.slice A1_2 l1_2.length c1_2] 32)).cell? ⟨w.heap.size,2,none⟩=some (.slice A0_2 l0_2.length c0_2):=qe_ (old_at (new_at rfl)) 2
   go_wp2_with (go_at_call 28;(with_reducible refine (qf2_.calls k a0_0 a0_1 A0_2 c0_2 l0_2 1048576 K7 _ (Kd.qd1_ HR0_2.out (qb_ (qb_ B0.out _) _)) HC0_2.out E1.out).mono ?_);rintro e w1 ⟨rfl,hb⟩;have D_:Below w.heap.size w w1:=qh_ (qb_ (qb_ (Below.refl _ _) _) _) hb;have HS0:=aK (show w1.heap[w.heap.size]?=some (.cells #[.int .i64 a0_0,.int .i64 a0_1,.slice A0_2 l0_2.length c0_2] 32 (0,0)) from qk_ (old_at (new_at rfl)) hb);have HS1:=aK (show w1.heap[w.heap.size+1]?=some (.cells #[.int .i64 a1_0,.int .i64 a1_1,.slice A1_2 l1_2.length c1_2] 32 (0,0)) from qk_ (new_at (by simp)) hb);have OB0:=aK (show True from trivial);have OB1:=aK (show True from trivial);have B1:=aK (qh_ B0.out D_);have LB0:=aK (blk_lt HS0.out);have LB1:=aK (blk_lt HS1.out);clear D_ hb;clear z0_0_0 z0_0_1 z0_0_2;have z1_1_0:w1.cell? ⟨w.heap.size+1,0,none⟩=some (.int .i64 a1_0):=qe_ HS1.out 0;have z1_1_1:w1.cell? ⟨w.heap.size+1,1,none⟩=some (.int .i64 a1_1):=qe_ HS1.out 1;have z1_1_2:w1.cell? ⟨w.heap.size+1,2,none⟩=some (.slice A1_2 l1_2.length c1_2):=qe_ HS1.out 2)
   go_wp2_with (go_at_call 28;(with_reducible refine (qf2_.calls k a1_0 a1_1 A1_2 c1_2 l1_2 K7 Q5 _ (Kd.qd1_ HR1_2.out B1.out) HC1_2.out E2.out).mono ?_);rintro e w2 ⟨rfl,hb⟩;have D_:Below w1.heap.size w1 w2:=qh_ (Below.refl _ _) hb;replace HS0:=aK (qk_ HS0.out D_);replace HS1:=aK (qk_ HS1.out D_);have B2:=aK (qh_ B1.out D_);replace LB0:=aK (blk_lt HS0.out);replace LB1:=aK (blk_lt HS1.out);clear D_ hb;clear z1_1_0 z1_1_1 z1_1_2;have z2_0_0:w2.cell? ⟨w.heap.size,0,none⟩=some (.int .i64 a0_0):=qe_ HS0.out 0;have z2_0_1:w2.cell? ⟨w.heap.size,1,none⟩=some (.int .i64 a0_1):=qe_ HS0.out 1;have z2_0_2:w2.cell? ⟨w.heap.size,2,none⟩=some (.slice A0_2 l0_2.length c0_2):=qe_ HS0.out 2;have z2_1_0:w2.cell? ⟨w.heap.size+1,0,none⟩=some (.int .i64 a1_0):=qe_ HS1.out 0;have z2_1_1:w2.cell? ⟨w.heap.size+1,1,none⟩=some (.int .i64 a1_1):=qe_ HS1.out 1;have z2_1_2:w2.cell? ⟨w.heap.size+1,2,none⟩=some (.slice A1_2 l1_2.length c1_2):=qe_ HS1.out 2)
   go_ret
   exact ⟨rfl,B2.out⟩
  ·rw [if_neg c2] at h0
   have d2:decide (Q5<0)=false:=decide_eq_false c2
   clear c2
   replace h0:=Option.bind_eq_some_iff.mp h0
   obtain ⟨⟨U5,U4,Q4⟩,E3,h0⟩:=h0
   dsimp only at h0
   replace E3:=aK E3
   replace h0:=Option.bind_eq_some_iff.mp h0
   obtain ⟨⟨U1,U0,Q3⟩,E4,h0⟩:=h0
   dsimp only at h0
   replace E4:=aK E4
   replace h0:=Option.bind_eq_some_iff.mp h0
   obtain ⟨⟨I6,I5,C8,T9⟩,E5,h0⟩:=h0
   dsimp only at h0
   replace E5:=aK E5
   replace h0:=Option.bind_eq_some_iff.mp h0
   obtain ⟨⟨I4,I1,F5⟩,E6,h0⟩:=h0
   dsimp only at h0
   replace E6:=aK E6
   replace h0:=Option.bind_eq_some_iff.mp h0
   obtain ⟨⟨H9,H7,F4⟩,E7,h0⟩:=h0
   dsimp only at h0
   replace E7:=aK E7
   replace h0:=Option.bind_eq_some_iff.mp h0
   obtain ⟨⟨u7,r9,F3,V5⟩,E8,h0⟩:=h0
   dsimp only at h0
   replace E8:=aK E8
   by_cases c8:V5=T9
   rotate_left
   ·rw [if_neg c8] at h0;cases h0
   rw [if_pos c8] at h0
   have f8_0:(V5 != T9)=false:=by rw [bne_eq_false_iff_eq];exact c8
   clear c8
   replace h0:=Option.bind_eq_some_iff.mp h0
   obtain ⟨V4,E9,h0⟩:=h0
   replace E9:=aK E9
   by_cases c9:V4=true
   rotate_left
   ·rw [if_neg c9] at h0;cases h0
   rw [if_pos c9] at h0
   subst c9
   replace h0:=Option.bind_eq_some_iff.mp h0
   obtain ⟨⟨S9,R9,P5⟩,E10,h0⟩:=h0
   dsimp only at h0
   replace E10:=aK E10
   replace h0:=Option.bind_eq_some_iff.mp h0
   obtain ⟨V3,E11,h0⟩:=h0
   replace E11:=aK E11
   by_cases c11:V3=true
   rotate_left
   ·rw [if_neg c11] at h0;cases h0
   rw [if_pos c11] at h0
   subst c11
   replace h0:=Option.bind_eq_some_iff.mp h0
   obtain ⟨⟨R8,R7,O9⟩,E12,h0⟩:=h0
   dsimp only at h0
   replace E12:=aK E12
   replace h0:=Option.bind_eq_some_iff.mp h0
   obtain ⟨U9,E13,h0⟩:=h0
   replace E13:=aK E13
   by_cases c13:U9=true
   rotate_left
   ·rw [if_neg c13] at h0;cases h0
   rw [if_pos c13] at h0
   subst c13
   replace h0:=Option.bind_eq_some_iff.mp h0
   obtain ⟨⟨R6,z14⟩,E14,h0⟩:=h0
   dsimp only at h0
   replace E14:=aK E14
   by_cases c14:0≤R6
   rotate_left
   ·rw [if_neg c14] at h0;cases h0
   rw [if_pos c14] at h0
   have d14:decide (R6<0)=false:=decide_eq_false (by omega)
   clear c14
   replace h0:=Option.bind_eq_some_iff.mp h0
   obtain ⟨⟨U8,z15⟩,E15,h0⟩:=h0
   dsimp only at h0
   replace E15:=aK E15
   by_cases c15:0≤U8
   rotate_left
   ·rw [if_neg c15] at h0;cases h0
   rw [if_pos c15] at h0
   have d15:decide (U8<0)=false:=decide_eq_false (by omega)
   clear c15
   replace h0:=Option.bind_eq_some_iff.mp h0
   obtain ⟨U7,E16,h0⟩:=h0
   replace E16:=aK E16
   by_cases c16:U7=true
   rotate_left
   ·rw [if_neg c16] at h0;cases h0
   rw [if_pos c16] at h0
   subst c16
   replace h0:=Option.bind_eq_some_iff.mp h0
   obtain ⟨⟨K8,z17⟩,E17,h0⟩:=h0
   dsimp only at h0
   replace E17:=aK E17
   by_cases c17:0≤K8
   rotate_left
   ·rw [if_neg c17] at h0;cases h0
   rw [if_pos c17] at h0
   have d17:decide (K8<0)=false:=decide_eq_false (by omega)
   clear c17
   replace h0:=Option.bind_eq_some_iff.mp h0
   obtain ⟨K4,E18,h0⟩:=h0
   replace E18:=aK E18
   by_cases c18:0≤K4∧K4=K8
   rotate_left
   ·rw [if_neg c18] at h0;cases h0
   rw [if_pos c18] at h0
   have d18:decide (K4<0)=false:=decide_eq_false (by omega)
   have f18:(K4 != K8)=false:=by rw [bne_eq_false_iff_eq];exact c18.2
   clear c18
   replace h0:=Option.bind_eq_some_iff.mp h0
   obtain ⟨⟨R5,R4,O8⟩,E19,h0⟩:=h0
   dsimp only at h0
   replace E19:=aK E19
   replace h0:=Option.bind_eq_some_iff.mp h0
   obtain ⟨⟨R3,Q9,O7⟩,E20,h0⟩:=h0
   dsimp only at h0
   replace E20:=aK E20
   replace h0:=Option.bind_eq_some_iff.mp h0
   obtain ⟨⟨K6,K5,I7,Q8⟩,E21,h0⟩:=h0
   dsimp only at h0
   replace E21:=aK E21
   by_cases c21:Q8=T9
   rotate_left
   ·rw [if_neg c21] at h0;cases h0
   rw [if_pos c21] at h0
   have f21_0:(Q8 != T9)=false:=by rw [bne_eq_false_iff_eq];exact c21
   clear c21
   replace h0:=Option.bind_eq_some_iff.mp h0
   obtain ⟨U6,E22,h0⟩:=h0
   replace E22:=aK E22
   by_cases c22:U6=true
   rotate_left
   ·rw [if_neg c22] at h0;cases h0
   rw [if_pos c22] at h0
   subst c22
   replace h0:=Option.bind_eq_some_iff.mp h0
   obtain ⟨K3,E23,h0⟩:=h0
   replace E23:=aK E23
   by_cases c23:0≤K3∧K3=K8
   rotate_left
   ·rw [if_neg c23] at h0;cases h0
   rw [if_pos c23] at h0
   have d23:decide (K3<0)=false:=decide_eq_false (by omega)
   have f23:(K3 != K8)=false:=by rw [bne_eq_false_iff_eq];exact c23.2
   clear c23
   obtain rfl:=Option.some.inj h0
   clear h0
   go_enter Try.func18,Try.ntmps18
   have z0_0_0:((w.alloc (.cells #[.int .i64 a0_0,.int .i64 a0_1,.slice A0_2 l0_2.length c0_2] 32)).alloc (.cells #[.int .i64 a1_0,.int .i64 a1_1,.slice A1_2 l1_2.length c1_2] 32)).cell? ⟨w.heap.size,0,none⟩=some (.int .i64 a0_0):=qe_ (old_at (new_at rfl)) 0
   have z0_0_1:((w.alloc (.cells #[.int .i64 a0_0,.int .i64 a0_1,.slice A0_2 l0_2.length c0_2] 32)).alloc (.cells #[.int .i64 a1_0,.int .i64 a1_1,.slice A1_2 l1_2.length c1_2] 32)).cell? ⟨w.heap.size,1,none⟩=some (.int .i64 a0_1):=qe_ (old_at (new_at rfl)) 1
   have z0_0_2:((w.alloc (.cells #[.int .i64 a0_0,.int .i64 a0_1,.slice A0_2 l0_2.length c0_2] 32)).alloc (.cells #[.int .i64 a1_0,.int .i64 a1_1,.slice A1_2 l1_2.length c1_2] 32)).cell? ⟨w.heap.size,2,none⟩=some (.slice A0_2 l0_2.length c0_2):=qe_ (old_at (new_at rfl)) 2
   go_wp2_with (go_at_call 28;(with_reducible refine (qf2_.calls k a0_0 a0_1 A0_2 c0_2 l0_2 1048576 K7 _ (Kd.qd1_ HR0_2.out (qb_ (qb_ B0.out _) _)) HC0_2.out E1.out).mono ?_);rintro e w1 ⟨rfl,hb⟩;have D_:Below w.heap.size w w1:=qh_ (qb_ (qb_ (Below.refl _ _) _) _) hb;have HS0:=aK (show w1.heap[w.heap.size]?=some (.cells #[.int .i64 a0_0,.int .i64 a0_1,.slice A0_2 l0_2.length c0_2] 32 (0,0)) from qk_ (old_at (new_at rfl)) hb);have HS1:=aK (show w1.heap[w.heap.size+1]?=some (.cells #[.int .i64 a1_0,.int .i64 a1_1,.slice A1_2 l1_2.length c1_2] 32 (0,0)) from qk_ (new_at (by simp)) hb);have OB0:=aK (show True from trivial);have OB1:=aK (show True from trivial);have B1:=aK (qh_ B0.out D_);have LB0:=aK (blk_lt HS0.out);have LB1:=aK (blk_lt HS1.out);clear D_ hb;clear z0_0_0 z0_0_1 z0_0_2;have z1_1_0:w1.cell? ⟨w.heap.size+1,0,none⟩=some (.int .i64 a1_0):=qe_ HS1.out 0;have z1_1_1:w1.cell? ⟨w.heap.size+1,1,none⟩=some (.int .i64 a1_1):=qe_ HS1.out 1;have z1_1_2:w1.cell? ⟨w.heap.size+1,2,none⟩=some (.slice A1_2 l1_2.length c1_2):=qe_ HS1.out 2)
   go_wp2_with (go_at_call 28;(with_reducible refine (qf2_.calls k a1_0 a1_1 A1_2 c1_2 l1_2 K7 Q5 _ (Kd.qd1_ HR1_2.out B1.out) HC1_2.out E2.out).mono ?_);rintro e w2 ⟨rfl,hb⟩;have D_:Below w1.heap.size w1 w2:=qh_ (Below.refl _ _) hb;replace HS0:=aK (qk_ HS0.out D_);replace HS1:=aK (qk_ HS1.out D_);have B2:=aK (qh_ B1.out D_);replace LB0:=aK (blk_lt HS0.out);replace LB1:=aK (blk_lt HS1.out);clear D_ hb;clear z1_1_0 z1_1_1 z1_1_2;have z2_0_0:w2.cell? ⟨w.heap.size,0,none⟩=some (.int .i64 a0_0):=qe_ HS0.out 0;have z2_0_1:w2.cell? ⟨w.heap.size,1,none⟩=some (.int .i64 a0_1):=qe_ HS0.out 1;have z2_0_2:w2.cell? ⟨w.heap.size,2,none⟩=some (.slice A0_2 l0_2.length c0_2):=qe_ HS0.out 2;have z2_1_0:w2.cell? ⟨w.heap.size+1,0,none⟩=some (.int .i64 a1_0):=qe_ HS1.out 0;have z2_1_1:w2.cell? ⟨w.heap.size+1,1,none⟩=some (.int .i64 a1_1):=qe_ HS1.out 1;have z2_1_2:w2.cell? ⟨w.heap.size+1,2,none⟩=some (.slice A1_2 l1_2.length c1_2):=qe_ HS1.out 2)
   go_cut [6,7] (fun v6 v7 wx=>∃ (b_ lo hi:Nat) (A:Option Addr) (c_:Nat),v6=.pointer (some ⟨b_,0,none⟩)∧v7=.int .i64 T9∧Aside0 (SrAt wx b_ I6 I5 (.slice A C8.length c_))∧Aside0 (Go.Proofs.YtaiefdhenikiiaaA.AtR k79 79 lo hi wx (.slice A C8.length c_) C8)∧Aside0 (C8.length≤c_)∧Aside0 (w2.heap.size≤lo∧lo≤hi∧w2.heap.size≤b_∧(b_<lo∨hi≤b_))∧Aside0 (Below w2.heap.size w2 wx))
   case first =>
    go_region_held3 (fun w'=>w'.cell? ⟨w.heap.size,0,none⟩=some (.int .i64 a0_0)∧w'.cell? ⟨w.heap.size,1,none⟩=some (.int .i64 a0_1)∧w'.cell? ⟨w.heap.size,2,none⟩=some (.slice A0_2 l0_2.length c0_2)∧w'.cell? ⟨w.heap.size+1,0,none⟩=some (.int .i64 a1_0)∧w'.cell? ⟨w.heap.size+1,1,none⟩=some (.int .i64 a1_1)∧w'.cell? ⟨w.heap.size+1,2,none⟩=some (.slice A1_2 l1_2.length c1_2)) (exact qj1_.keep z2_0_0 z2_0_1 z2_0_2 z2_1_0 z2_1_1 z2_1_2 (by (repeat' (first|(with_reducible exact Below.refl _ _)|(with_reducible exact HK3.out)|(with_reducible exact HK4.out)|(with_reducible exact HK5.out)|(with_reducible refine Below.setCell ?_ ?_ _)|(with_reducible refine qc_ ?_)|(with_reducible refine qa_ ?_ _)|(with_reducible refine qb_ ?_ _)|(simp;done)|(simp;omega)|(have s3:=SZ3.out;(try simp at s3);have s4:=SZ4.out;(try simp at s4);have s5:=SZ5.out;(try simp at s5);have sl:=SL_H5_0_2.out;(try simp at sl);have sh:=SH_H5_0_2.out;have so:=SO_H5_0_2.out;(try simp);omega))))) (first|(go_at_call 30;(with_reducible refine (qv1_.calls k a0_0 a0_1 A0_2 c0_2 l0_2 U5 U4 Q4 _ (Kd.qd1_ HR0_2.out (by repeat (first|(with_reducible first|exact B2.out|apply qb_|apply qa_|apply qc_)|exact B2.out))) HC0_2.out E3.out).mono ?_);rintro e w3 ⟨v_H3_0_2,rfl,O6,hb⟩;have SZ3:=aK hb.size;(first|(refine (fun (Z:w3.heap[w2.heap.size]?=some (.cells #[.int .i64 0,.int .i64 0,.slice none 0 0] 38 (0,0)))=>?_) (qk_ ?_ hb);rotate_left;(first|exact new_at rfl|exact drew_at (new_at rfl)|exact drewN_at (new_at rfl));have HZZ:=aK Z;have cz0:=qe_ Z 0;have cz1:=qe_ Z 1;have cz2:=qe_ Z 2;have fz0:=qd_ Z 0;have fz1:=qd_ Z 1;have fz2:=qd_ Z 2;clear Z)|skip);have D_:Below w2.heap.size w2 w3:=qh_ (by repeat (first|(with_reducible first|exact Below.refl _ _|apply qb_|apply qa_|apply qc_)|exact Below.refl _ _)) hb;replace HS0:=aK (qk_ HS0.out D_);replace HS1:=aK (qk_ HS1.out D_);have B3:=aK (qh_ B2.out D_);obtain ⟨lo_H3_0_2,hi_H3_0_2,hlo_,hhi_,hsz_,hhe_,hx_⟩:∃ lo hi,w2.heap.size≤lo∧lo≤hi∧szLe hb lo∧hi=w3.heap.size∧Go.Proofs.YtaiefdhenikiiaaA.AtR k79 79 lo hi w3 v_H3_0_2 Q4:=⟨_,_,by simp,by have:=hb.size;simpa using this,rfl,rfl,Go.Proofs.YtaiefdhenikiiaaA.AtR.of O6⟩;have SL_H3_0_2:=aK hsz_.out;have SH_H3_0_2:=aK hhe_;have SO_H3_0_2:=aK hhi_;clear hsz_ hhe_;clear O6;obtain ⟨A_H3_0_2,c_H3_0_2,rfl,l_⟩:=hx_.form;have H3_0_2L:=aK l_;have M8:=aK hx_;clear hx_ l_ hlo_ hhi_;replace LB0:=aK (blk_lt HS0.out);replace LB1:=aK (blk_lt HS1.out);have HK3:=aK (show Below w2.heap.size w2 w3 from D_);clear D_ hb)|(go_at_call 30;(with_reducible refine (qv1_.calls k a1_0 a1_1 A1_2 c1_2 l1_2 U1 U0 Q3 _ (Kd.qd1_ HR1_2.out (by repeat (first|(with_reducible first|exact B3.out|apply qb_|apply qa_|apply qc_)|exact B3.out))) HC1_2.out E4.out).mono ?_);rintro e w4 ⟨v_H4_0_2,rfl,O5,hb⟩;have SZ4:=aK hb.size;(first|(refine (fun (Z:w4.heap[w3.heap.size]?=some (.cells #[.int .i64 0,.int .i64 0,.slice none 0 0] 38 (0,0)))=>?_) (qk_ ?_ hb);rotate_left;(first|exact new_at rfl|exact drew_at (new_at rfl)|exact drewN_at (new_at rfl));have HZZ:=aK Z;have cz0:=qe_ Z 0;have cz1:=qe_ Z 1;have cz2:=qe_ Z 2;have fz0:=qd_ Z 0;have fz1:=qd_ Z 1;have fz2:=qd_ Z 2;clear Z)|(refine (fun (Z:w4.heap[w2.heap.size]?=some (.cells #[.int .i64 0,.int .i64 0,.slice none 0 0] 38 (0,0)))=>?_) (qk_ ?_ hb);rotate_left;(first|exact HZZ.out|exact drew_at HZZ.out|exact drewN_at HZZ.out);have HZZ:=aK Z;have cz0:=qe_ Z 0;have cz1:=qe_ Z 1;have cz2:=qe_ Z 2;have fz0:=qd_ Z 0;have fz1:=qd_ Z 1;have fz2:=qd_ Z 2;clear Z)|skip);have D_:Below w3.heap.size w3 w4:=qh_ (by repeat (first|(with_reducible first|exact Below.refl _ _|apply qb_|apply qa_|apply qc_)|exact Below.refl _ _)) hb;replace HS0:=aK (qk_ HS0.out D_);replace HS1:=aK (qk_ HS1.out D_);replace M8:=aK (M8.out.below D_);have B4:=aK (qh_ B3.out D_);obtain ⟨lo_H4_0_2,hi_H4_0_2,hlo_,hhi_,hsz_,hhe_,hx_⟩:∃ lo hi,w3.heap.size≤lo∧lo≤hi∧szLe hb lo∧hi=w4.heap.size∧Go.Proofs.YtaiefdhenikiiaaA.AtR k79 79 lo hi w4 v_H4_0_2 Q3:=⟨_,_,by simp,by have:=hb.size;simpa using this,rfl,rfl,Go.Proofs.YtaiefdhenikiiaaA.AtR.of O5⟩;have SL_H4_0_2:=aK hsz_.out;have SH_H4_0_2:=aK hhe_;have SO_H4_0_2:=aK hhi_;clear hsz_ hhe_;clear O5;obtain ⟨A_H4_0_2,c_H4_0_2,rfl,l_⟩:=hx_.form;have H4_0_2L:=aK l_;have Q7:=aK hx_;clear hx_ l_ hlo_ hhi_;replace LB0:=aK (blk_lt HS0.out);replace LB1:=aK (blk_lt HS1.out);have HK4:=aK (show Below w2.heap.size w2 w4 from qh_ HK3.out D_);clear D_ hb)|(go_at_call 69;(with_reducible refine (qu2_.calls U5 U4 _ _ Q4 U1 U0 _ _ Q3 I6 I5 C8 T9 _ (Kd.qd1_ M8.out.C (by repeat (first|(with_reducible first|exact Below.refl _ _|apply qb_|apply qa_|apply qc_)|exact Below.refl _ _))) H3_0_2L.out (Kd.qd1_ Q7.out.C (by repeat (first|(with_reducible first|exact Below.refl _ _|apply qb_|apply qa_|apply qc_)|exact Below.refl _ _))) H4_0_2L.out E5.out).mono ?_);rintro e w5 ⟨v_H5_0_2,rfl,O4,hb⟩;have SZ5:=aK hb.size;(first|(refine (fun (Z:w5.heap[w4.heap.size]?=some (.cells #[.int .i64 0,.int .i64 0,.slice none 0 0] 38 (0,0)))=>?_) (qk_ ?_ hb);rotate_left;(first|exact new_at rfl|exact drew_at (new_at rfl)|exact drewN_at (new_at rfl));have HZZ:=aK Z;have cz0:=qe_ Z 0;have cz1:=qe_ Z 1;have cz2:=qe_ Z 2;have fz0:=qd_ Z 0;have fz1:=qd_ Z 1;have fz2:=qd_ Z 2;clear Z)|(refine (fun (Z:w5.heap[w2.heap.size]?=some (.cells #[.int .i64 0,.int .i64 0,.slice none 0 0] 38 (0,0)))=>?_) (qk_ ?_ hb);rotate_left;(first|exact HZZ.out|exact drew_at HZZ.out|exact drewN_at HZZ.out);have HZZ:=aK Z;have cz0:=qe_ Z 0;have cz1:=qe_ Z 1;have cz2:=qe_ Z 2;have fz0:=qd_ Z 0;have fz1:=qd_ Z 1;have fz2:=qd_ Z 2;clear Z)|(refine (fun (Z:w5.heap[w3.heap.size]?=some (.cells #[.int .i64 0,.int .i64 0,.slice none 0 0] 38 (0,0)))=>?_) (qk_ ?_ hb);rotate_left;(first|exact HZZ.out|exact drew_at HZZ.out|exact drewN_at HZZ.out);have HZZ:=aK Z;have cz0:=qe_ Z 0;have cz1:=qe_ Z 1;have cz2:=qe_ Z 2;have fz0:=qd_ Z 0;have fz1:=qd_ Z 1;have fz2:=qd_ Z 2;clear Z)|skip);have D_:Below w4.heap.size w4 w5:=qh_ (by repeat (first|(with_reducible first|exact Below.refl _ _|apply qb_|apply qa_|apply qc_)|exact Below.refl _ _)) hb;replace HS0:=aK (qk_ HS0.out D_);replace HS1:=aK (qk_ HS1.out D_);replace M8:=aK (M8.out.below D_);replace Q7:=aK (Q7.out.below D_);have B5:=aK (qh_ B4.out D_);obtain ⟨o7,j4,hlo_,hhi_,hsz_,hhe_,hx_⟩:∃ lo hi,w4.heap.size≤lo∧lo≤hi∧szLe hb lo∧hi=w5.heap.size∧Go.Proofs.YtaiefdhenikiiaaA.AtR k79 79 lo hi w5 v_H5_0_2 C8:=⟨_,_,by simp,by have:=hb.size;simpa using this,rfl,rfl,Go.Proofs.YtaiefdhenikiiaaA.AtR.of O4⟩;have SL_H5_0_2:=aK hsz_.out;have SH_H5_0_2:=aK hhe_;have SO_H5_0_2:=aK hhi_;clear hsz_ hhe_;clear O4;obtain ⟨H6,G7,rfl,l_⟩:=hx_.form;have J6:=aK l_;have LO_H5_0_2:=aK (show w.heap.size≤o7 from by have:=B4.out.size;omega);have I9:=aK (show o7≤j4∧w.heap.size<o7∧w.heap.size+1<o7 from ⟨hhi_,by have:=LB0.out;omega,by have:=LB1.out;omega⟩);have j3:=aK hx_;clear hx_ l_ hlo_ hhi_;replace LB0:=aK (blk_lt HS0.out);replace LB1:=aK (blk_lt HS1.out);have HK5:=aK (show Below w2.heap.size w2 w5 from qh_ HK4.out D_);clear D_ hb;have j6:=aK (show j4≤w5.heap.size from And.right j3.out)))
    all_goals
     go_wp2_with fail
     go_meet
     case rel =>
      refine ⟨_,o7,j4,H6,G7,rfl,rfl,⟨?_⟩,⟨?_⟩,J6,⟨?_⟩,⟨?_⟩⟩
      ·(repeat' (first|((with_reducible refine SrAt.new ?_);simp;done)|(with_reducible refine SrAt.put3 ?_ _ _ _)|(with_reducible exact HZZ.out)|(with_reducible refine SrAt.alloc ?_ _)|(with_reducible refine SrAt.drew ?_)|(with_reducible refine drewN_at ?_)|(with_reducible refine drew_at ?_)|((with_reducible refine new_at ?_);simp;done)|(with_reducible refine old_at ?_)))
      ·(repeat' (first|(with_reducible exact j3.out)|(with_reducible refine atR_set ?_ _ ?_)|(with_reducible refine atR_alloc ?_ _)|(with_reducible refine atR_drew ?_)|(with_reducible refine atR_drewN ?_)|(have s3:=SZ3.out;(try simp at s3);have s4:=SZ4.out;(try simp at s4);have s5:=SZ5.out;(try simp at s5);have sl:=SL_H5_0_2.out;(try simp at sl);have sh:=SH_H5_0_2.out;have so:=SO_H5_0_2.out;(try simp);omega)))
      ·have s3:=SZ3.out;(try simp at s3);have s4:=SZ4.out;(try simp at s4);have s5:=SZ5.out;(try simp at s5);have sl:=SL_H5_0_2.out;(try simp at sl);have sh:=SH_H5_0_2.out;have so:=SO_H5_0_2.out;(try simp);omega
      ·(repeat' (first|(with_reducible exact Below.refl _ _)|(with_reducible exact HK3.out)|(with_reducible exact HK4.out)|(with_reducible exact HK5.out)|(with_reducible refine Below.setCell ?_ ?_ _)|(with_reducible refine qc_ ?_)|(with_reducible refine qa_ ?_ _)|(with_reducible refine qb_ ?_ _)|(simp;done)|(simp;omega)|(have s3:=SZ3.out;(try simp at s3);have s4:=SZ4.out;(try simp at s4);have s5:=SZ5.out;(try simp at s5);have sl:=SL_H5_0_2.out;(try simp at sl);have sh:=SH_H5_0_2.out;have so:=SO_H5_0_2.out;(try simp);omega)))
   case rest =>
    obtain ⟨b_2,o7,j4,H6,G7,rfl,rfl,HS2,j3,J6,HQ_,HM_⟩:=hcut
    obtain ⟨w5,hw_⟩:∃ x,x=wc:=⟨_,rfl⟩
    rw [← hw_] at HS2 j3 HM_ ⊢
    clear hw_
    replace HS0:=aK (qk_ HS0.out HM_.out)
    replace HS1:=aK (qk_ HS1.out HM_.out)
    have B5:=aK (qh_ B2.out HM_.out)
    have LO_H5_0_2:=aK (show w.heap.size≤o7 from by have:=B2.out.size;have:=HQ_.out;omega)
    have I9:=aK (show o7≤j4∧w.heap.size<o7∧w.heap.size+1<o7 from by have:=LB0.out;have:=LB1.out;have:=HQ_.out;omega)
    have OB2:=aK (show 0≤b_2∧(b_2<o7∨j4≤b_2) from by have:=HQ_.out;omega)
    clear HQ_ HM_
    replace LB0:=aK (blk_lt HS0.out)
    replace LB1:=aK (blk_lt HS1.out)
    have LB2:=aK (blk_lt HS2.out)
    have j6:=aK (show j4≤w5.heap.size from And.right j3.out)
    clear z2_0_0 z2_0_1 z2_0_2 z2_1_0 z2_1_1 z2_1_2
    have z5_0_0:w5.cell? ⟨w.heap.size,0,none⟩=some (.int .i64 a0_0):=qe_ HS0.out 0
    have z5_0_1:w5.cell? ⟨w.heap.size,1,none⟩=some (.int .i64 a0_1):=qe_ HS0.out 1
    have z5_0_2:w5.cell? ⟨w.heap.size,2,none⟩=some (.slice A0_2 l0_2.length c0_2):=qe_ HS0.out 2
    go_wp2_with (go_at_call 30;(with_reducible refine (qv1_.calls k a0_0 a0_1 A0_2 c0_2 l0_2 I4 I1 F5 _ (Kd.qd1_ HR0_2.out B5.out) HC0_2.out E6.out).mono ?_);rintro e w6 ⟨v_H6_0_2,rfl,O1,hb⟩;have D_:Below w5.heap.size w5 w6:=qh_ (Below.refl _ _) hb;replace HS0:=aK (qk_ HS0.out D_);replace HS1:=aK (qk_ HS1.out D_);replace HS2:=aK (SrAt.below HS2.out D_);replace j3:=aK (j3.out.below D_);have B6:=aK (qh_ B5.out D_);obtain ⟨C9,l7,hlo_,hhi_,hx_⟩:∃ lo hi,w5.heap.size≤lo∧lo≤hi∧Go.Proofs.YtaiefdhenikiiaaA.AtR k79 79 lo hi w6 v_H6_0_2 F5:=⟨_,_,by simp,by have:=hb.size;simpa using this,Go.Proofs.YtaiefdhenikiiaaA.AtR.of O1⟩;clear O1;obtain ⟨H5,G6,rfl,l_⟩:=hx_.form;have P7:=aK l_;have LO_H6_0_2:=aK (show w.heap.size≤C9 from by have:=B5.out.size;omega);have D8:=aK (show C9≤l7∧j4≤C9∧w.heap.size<C9∧w.heap.size+1<C9∧b_2<C9 from ⟨hhi_,by have:=j6.out;omega,by have:=LB0.out;omega,by have:=LB1.out;omega,by have:=LB2.out;omega⟩);have l5:=aK hx_;clear hx_ l_ hlo_ hhi_;replace LB0:=aK (blk_lt HS0.out);replace LB1:=aK (blk_lt HS1.out);replace LB2:=aK (blk_lt HS2.out);clear D_ hb;have j6:=aK (show j4≤w6.heap.size from And.right j3.out);have z8:=aK (show l7≤w6.heap.size from And.right l5.out);clear z5_0_0 z5_0_1 z5_0_2;have z6_1_0:(w6.alloc (.cells #[.int .i64 I4,.int .i64 I1,.slice H5 F5.length G6] 38)).cell? ⟨w.heap.size+1,0,none⟩=some (.int .i64 a1_0):=qe_ (old_at HS1.out) 0;have z6_1_1:(w6.alloc (.cells #[.int .i64 I4,.int .i64 I1,.slice H5 F5.length G6] 38)).cell? ⟨w.heap.size+1,1,none⟩=some (.int .i64 a1_1):=qe_ (old_at HS1.out) 1;have z6_1_2:(w6.alloc (.cells #[.int .i64 I4,.int .i64 I1,.slice H5 F5.length G6] 38)).cell? ⟨w.heap.size+1,2,none⟩=some (.slice A1_2 l1_2.length c1_2):=qe_ (old_at HS1.out) 2)
    go_wp2_with (go_at_call 30;(with_reducible refine (qv1_.calls k a1_0 a1_1 A1_2 c1_2 l1_2 H9 H7 F4 _ (Kd.qd1_ HR1_2.out (qb_ B6.out _)) HC1_2.out E7.out).mono ?_);rintro e w7 ⟨v_H7_0_2,rfl,O0,hb⟩;have D_:Below w6.heap.size w6 w7:=qh_ (qb_ (Below.refl _ _) _) hb;have HS3:=aK (show SrAt w7 (w6.heap.size) (I4) (I1) (.slice H5 F5.length G6) from qk_ (new_at rfl) hb);replace HS0:=aK (qk_ HS0.out D_);replace HS1:=aK (qk_ HS1.out D_);replace HS2:=aK (SrAt.below HS2.out D_);have OB3:=aK (show True∧j4≤w6.heap.size∧l7≤w6.heap.size from ⟨trivial,Nat.le_trans (And.right j3.out) (by simp),Nat.le_trans (And.right l5.out) (by simp)⟩);replace j3:=aK (j3.out.below D_);replace l5:=aK (l5.out.below D_);have B7:=aK (qh_ B6.out D_);obtain ⟨q8,l8,hlo_,hhi_,hx_⟩:∃ lo hi,w6.heap.size+1≤lo∧lo≤hi∧Go.Proofs.YtaiefdhenikiiaaA.AtR k79 79 lo hi w7 v_H7_0_2 F4:=⟨_,_,by simp,by have:=hb.size;simpa using this,Go.Proofs.YtaiefdhenikiiaaA.AtR.of O0⟩;clear O0;obtain ⟨G9,G5,rfl,l_⟩:=hx_.form;have P6:=aK l_;have LO_H7_0_2:=aK (show w.heap.size≤q8 from by have:=B6.out.size;omega);have F7:=aK (show q8≤l8∧j4≤q8∧l7≤q8∧w.heap.size<q8∧w.heap.size+1<q8∧b_2<q8∧w6.heap.size<q8 from ⟨hhi_,by have:=j6.out;omega,by have:=z8.out;omega,by have:=LB0.out;omega,by have:=LB1.out;omega,by have:=LB2.out;omega,by omega⟩);have l6:=aK hx_;clear hx_ l_ hlo_ hhi_;replace LB0:=aK (blk_lt HS0.out);replace LB1:=aK (blk_lt HS1.out);replace LB2:=aK (blk_lt HS2.out);have LB3:=aK (blk_lt HS3.out);clear D_ hb;have j6:=aK (show j4≤w7.heap.size from And.right j3.out);have z8:=aK (show l7≤w7.heap.size from And.right l5.out);have D7:=aK (show l8≤w7.heap.size from And.right l6.out);clear z6_1_0 z6_1_1 z6_1_2;have z7_3_0:(w7.alloc (.cells #[.int .i64 H9,.int .i64 H7,.slice G9 F4.length G5] 38)).cell? ⟨w6.heap.size,0,none⟩=some (.int .i64 I4):=SrAt.c0 (SrAt.alloc HS3.out _);have z7_3_1:(w7.alloc (.cells #[.int .i64 H9,.int .i64 H7,.slice G9 F4.length G5] 38)).cell? ⟨w6.heap.size,1,none⟩=some (.int .i64 I1):=SrAt.c1 (SrAt.alloc HS3.out _);have z7_3_2:(w7.alloc (.cells #[.int .i64 H9,.int .i64 H7,.slice G9 F4.length G5] 38)).cell? ⟨w6.heap.size,2,none⟩=some (.slice H5 F5.length G6):=SrAt.c2 (SrAt.alloc HS3.out _))
    go_wp2_with (go_at_call 70;(with_reducible refine (qj2_.calls I4 I1 _ _ F5 H9 H7 _ _ F4 u7 r9 F3 V5 _ (Kd.qd1_ l5.out.C (qb_ (Below.refl _ _) _)) P7.out (Kd.qd1_ l6.out.C (qb_ (Below.refl _ _) _)) P6.out E8.out).mono ?_);rintro e w8 ⟨v_H8_0_2,rfl,N8,hb⟩;have D_:Below w7.heap.size w7 w8:=qh_ (qb_ (Below.refl _ _) _) hb;have HS4:=aK (show SrAt w8 (w7.heap.size) (H9) (H7) (.slice G9 F4.length G5) from qk_ (new_at rfl) hb);replace HS0:=aK (qk_ HS0.out D_);replace HS1:=aK (qk_ HS1.out D_);replace HS2:=aK (SrAt.below HS2.out D_);replace HS3:=aK (SrAt.below HS3.out D_);have OB4:=aK (show True∧j4≤w7.heap.size∧l7≤w7.heap.size∧l8≤w7.heap.size from ⟨trivial,Nat.le_trans (And.right j3.out) (by simp),Nat.le_trans (And.right l5.out) (by simp),Nat.le_trans (And.right l6.out) (by simp)⟩);replace j3:=aK (j3.out.below D_);replace l5:=aK (l5.out.below D_);replace l6:=aK (l6.out.below D_);have B8:=aK (qh_ B7.out D_);obtain ⟨o6,o5,hlo_,hhi_,hx_⟩:∃ lo hi,w7.heap.size+1≤lo∧lo≤hi∧Go.Proofs.YtaiefdhenikiiaaA.AtR k79 79 lo hi w8 v_H8_0_2 F3:=⟨_,_,by simp,by have:=hb.size;simpa using this,Go.Proofs.YtaiefdhenikiiaaA.AtR.of N8⟩;clear N8;obtain ⟨o9,o8,rfl,l_⟩:=hx_.form;have J5:=aK l_;have LO_H8_0_2:=aK (show w.heap.size≤o6 from by have:=B7.out.size;omega);have F6:=aK (show o6≤o5∧j4≤o6∧l7≤o6∧l8≤o6∧w.heap.size<o6∧w.heap.size+1<o6∧b_2<o6∧w6.heap.size<o6∧w7.heap.size<o6 from ⟨hhi_,by have:=j6.out;omega,by have:=z8.out;omega,by have:=D7.out;omega,by have:=LB0.out;omega,by have:=LB1.out;omega,by have:=LB2.out;omega,by have:=LB3.out;omega,by omega⟩);have j5:=aK hx_;clear hx_ l_ hlo_ hhi_;replace LB0:=aK (blk_lt HS0.out);replace LB1:=aK (blk_lt HS1.out);replace LB2:=aK (blk_lt HS2.out);replace LB3:=aK (blk_lt HS3.out);have LB4:=aK (blk_lt HS4.out);clear D_ hb;have j6:=aK (show j4≤w8.heap.size from And.right j3.out);have z8:=aK (show l7≤w8.heap.size from And.right l5.out);have D7:=aK (show l8≤w8.heap.size from And.right l6.out);have D5:=aK (show o5≤w8.heap.size from And.right j5.out);clear z7_3_0 z7_3_1 z7_3_2;have z8_2_0:(w8.alloc (.cells #[.int .i64 u7,.int .i64 r9,.slice o9 F3.length o8] 38)).cell? ⟨b_2,0,none⟩=some (.int .i64 I6):=SrAt.c0 (SrAt.alloc HS2.out _);have z8_2_1:(w8.alloc (.cells #[.int .i64 u7,.int .i64 r9,.slice o9 F3.length o8] 38)).cell? ⟨b_2,1,none⟩=some (.int .i64 I5):=SrAt.c1 (SrAt.alloc HS2.out _);have z8_2_2:(w8.alloc (.cells #[.int .i64 u7,.int .i64 r9,.slice o9 F3.length o8] 38)).cell? ⟨b_2,2,none⟩=some (.slice H6 C8.length G7):=SrAt.c2 (SrAt.alloc HS2.out _))
    go_wp2_with (go_at_call 33;(with_reducible refine (qc2_.calls k u7 r9 _ _ F3 I6 I5 _ _ C8 true _ (Kd.qd1_ j5.out.C (qb_ (Below.refl _ _) _)) J5.out (Kd.qd1_ j3.out.C (qb_ (Below.refl _ _) _)) J6.out E9.out).mono ?_);rintro e w9 ⟨rfl,hb⟩;have D_:Below w8.heap.size w8 w9:=qh_ (qb_ (Below.refl _ _) _) hb;have HS5:=aK (show SrAt w9 (w8.heap.size) (u7) (r9) (.slice o9 F3.length o8) from qk_ (new_at rfl) hb);replace HS0:=aK (qk_ HS0.out D_);replace HS1:=aK (qk_ HS1.out D_);replace HS2:=aK (SrAt.below HS2.out D_);replace HS3:=aK (SrAt.below HS3.out D_);replace HS4:=aK (SrAt.below HS4.out D_);have OB5:=aK (show True∧j4≤w8.heap.size∧l7≤w8.heap.size∧l8≤w8.heap.size∧o5≤w8.heap.size from ⟨trivial,Nat.le_trans (And.right j3.out) (by simp),Nat.le_trans (And.right l5.out) (by simp),Nat.le_trans (And.right l6.out) (by simp),Nat.le_trans (And.right j5.out) (by simp)⟩);replace j3:=aK (j3.out.below D_);replace l5:=aK (l5.out.below D_);replace l6:=aK (l6.out.below D_);replace j5:=aK (j5.out.below D_);have B9:=aK (qh_ B8.out D_);replace LB0:=aK (blk_lt HS0.out);replace LB1:=aK (blk_lt HS1.out);replace LB2:=aK (blk_lt HS2.out);replace LB3:=aK (blk_lt HS3.out);replace LB4:=aK (blk_lt HS4.out);have LB5:=aK (blk_lt HS5.out);clear D_ hb;have j6:=aK (show j4≤w9.heap.size from And.right j3.out);have z8:=aK (show l7≤w9.heap.size from And.right l5.out);have D7:=aK (show l8≤w9.heap.size from And.right l6.out);have D5:=aK (show o5≤w9.heap.size from And.right j5.out);clear z8_2_0 z8_2_1 z8_2_2;have z9_0_0:w9.cell? ⟨w.heap.size,0,none⟩=some (.int .i64 a0_0):=qe_ HS0.out 0;have z9_0_1:w9.cell? ⟨w.heap.size,1,none⟩=some (.int .i64 a0_1):=qe_ HS0.out 1;have z9_0_2:w9.cell? ⟨w.heap.size,2,none⟩=some (.slice A0_2 l0_2.length c0_2):=qe_ HS0.out 2;have z9_3_0:w9.cell? ⟨w6.heap.size,0,none⟩=some (.int .i64 I4):=SrAt.c0 HS3.out;have z9_3_1:w9.cell? ⟨w6.heap.size,1,none⟩=some (.int .i64 I1):=SrAt.c1 HS3.out;have z9_3_2:w9.cell? ⟨w6.heap.size,2,none⟩=some (.slice H5 F5.length G6):=SrAt.c2 HS3.out)
    go_region_held3 (fun w'=>w'.cell? ⟨w.heap.size,0,none⟩=some (.int .i64 a0_0)∧w'.cell? ⟨w.heap.size,1,none⟩=some (.int .i64 a0_1)∧w'.cell? ⟨w.heap.size,2,none⟩=some (.slice A0_2 l0_2.length c0_2)∧w'.cell? ⟨w6.heap.size,0,none⟩=some (.int .i64 I4)∧w'.cell? ⟨w6.heap.size,1,none⟩=some (.int .i64 I1)∧w'.cell? ⟨w6.heap.size,2,none⟩=some (.slice H5 F5.length G6)) (exact qj1_.keep z9_0_0 z9_0_1 z9_0_2 z9_3_0 z9_3_1 z9_3_2 (by (repeat' (first|(with_reducible exact Below.refl _ _)|(with_reducible exact W9.out)|(with_reducible exact X9.out)|(with_reducible refine qc_ ?_)|(with_reducible refine qa_ ?_ _)|(with_reducible refine qb_ ?_ _))))) (first|(go_at_call 30;(with_reducible refine (qv1_.calls k a0_0 a0_1 A0_2 c0_2 l0_2 S9 R9 P5 _ (Kd.qd1_ HR0_2.out (by repeat (first|(with_reducible first|exact B9.out|apply qb_|apply qa_|apply qc_)|exact B9.out))) HC0_2.out E10.out).mono ?_);rintro e w10 ⟨v_H10_0_2,rfl,M6,hb⟩;have D_:Below w9.heap.size w9 w10:=qh_ (by repeat (first|(with_reducible first|exact Below.refl _ _|apply qb_|apply qa_|apply qc_)|exact Below.refl _ _)) hb;replace HS0:=aK (qk_ HS0.out D_);replace HS1:=aK (qk_ HS1.out D_);replace HS2:=aK (SrAt.below HS2.out D_);replace HS3:=aK (SrAt.below HS3.out D_);replace HS4:=aK (SrAt.below HS4.out D_);replace HS5:=aK (SrAt.below HS5.out D_);replace j3:=aK (j3.out.below D_);replace l5:=aK (l5.out.below D_);replace l6:=aK (l6.out.below D_);replace j5:=aK (j5.out.below D_);have B10:=aK (qh_ B9.out D_);obtain ⟨lo_H10_0_2,hi_H10_0_2,hlo_,hhi_,hx_⟩:∃ lo hi,w9.heap.size≤lo∧lo≤hi∧Go.Proofs.YtaiefdhenikiiaaA.AtR k79 79 lo hi w10 v_H10_0_2 P5:=⟨_,_,by simp,by have:=hb.size;simpa using this,Go.Proofs.YtaiefdhenikiiaaA.AtR.of M6⟩;clear M6;obtain ⟨A_H10_0_2,c_H10_0_2,rfl,l_⟩:=hx_.form;have H10_0_2L:=aK l_;have Q0:=aK hx_;clear hx_ l_ hlo_ hhi_;replace LB0:=aK (blk_lt HS0.out);replace LB1:=aK (blk_lt HS1.out);replace LB2:=aK (blk_lt HS2.out);replace LB3:=aK (blk_lt HS3.out);replace LB4:=aK (blk_lt HS4.out);replace LB5:=aK (blk_lt HS5.out);have W9:=aK (show Below w9.heap.size w9 w10 from D_);clear D_ hb;have j6:=aK (show j4≤w10.heap.size from And.right j3.out);have z8:=aK (show l7≤w10.heap.size from And.right l5.out);have D7:=aK (show l8≤w10.heap.size from And.right l6.out);have D5:=aK (show o5≤w10.heap.size from And.right j5.out))|(go_at_call 33;(with_reducible refine (qc2_.calls k I4 I1 _ _ F5 S9 R9 _ _ P5 true _ (Kd.qd1_ l5.out.C (by repeat (first|(with_reducible first|exact Below.refl _ _|apply qb_|apply qa_|apply qc_)|exact Below.refl _ _))) P7.out (Kd.qd1_ Q0.out.C (by repeat (first|(with_reducible first|exact Below.refl _ _|apply qb_|apply qa_|apply qc_)|exact Below.refl _ _))) H10_0_2L.out E11.out).mono ?_);rintro e w11 ⟨rfl,hb⟩;have D_:Below w10.heap.size w10 w11:=qh_ (by repeat (first|(with_reducible first|exact Below.refl _ _|apply qb_|apply qa_|apply qc_)|exact Below.refl _ _)) hb;replace HS0:=aK (qk_ HS0.out D_);replace HS1:=aK (qk_ HS1.out D_);replace HS2:=aK (SrAt.below HS2.out D_);replace HS3:=aK (SrAt.below HS3.out D_);replace HS4:=aK (SrAt.below HS4.out D_);replace HS5:=aK (SrAt.below HS5.out D_);replace j3:=aK (j3.out.below D_);replace l5:=aK (l5.out.below D_);replace l6:=aK (l6.out.below D_);replace j5:=aK (j5.out.below D_);replace Q0:=aK (Q0.out.below D_);have B11:=aK (qh_ B10.out D_);replace LB0:=aK (blk_lt HS0.out);replace LB1:=aK (blk_lt HS1.out);replace LB2:=aK (blk_lt HS2.out);replace LB3:=aK (blk_lt HS3.out);replace LB4:=aK (blk_lt HS4.out);replace LB5:=aK (blk_lt HS5.out);have X9:=aK (show Below w9.heap.size w9 w11 from qh_ W9.out D_);clear D_ hb;have j6:=aK (show j4≤w11.heap.size from And.right j3.out);have z8:=aK (show l7≤w11.heap.size from And.right l5.out);have D7:=aK (show l8≤w11.heap.size from And.right l6.out);have D5:=aK (show o5≤w11.heap.size from And.right j5.out);have z11_1_0:w11.cell? ⟨w.heap.size+1,0,none⟩=some (.int .i64 a1_0):=qe_ HS1.out 0;have z11_1_1:w11.cell? ⟨w.heap.size+1,1,none⟩=some (.int .i64 a1_1):=qe_ HS1.out 1;have z11_1_2:w11.cell? ⟨w.heap.size+1,2,none⟩=some (.slice A1_2 l1_2.length c1_2):=qe_ HS1.out 2;have z11_4_0:w11.cell? ⟨w7.heap.size,0,none⟩=some (.int .i64 H9):=SrAt.c0 HS4.out;have z11_4_1:w11.cell? ⟨w7.heap.size,1,none⟩=some (.int .i64 H7):=SrAt.c1 HS4.out;have z11_4_2:w11.cell? ⟨w7.heap.size,2,none⟩=some (.slice G9 F4.length G5):=SrAt.c2 HS4.out))
    clear z9_0_0 z9_0_1 z9_0_2 z9_3_0 z9_3_1 z9_3_2 W9 X9
    go_wp2
    go_region_held3 (fun w'=>w'.cell? ⟨w.heap.size+1,0,none⟩=some (.int .i64 a1_0)∧w'.cell? ⟨w.heap.size+1,1,none⟩=some (.int .i64 a1_1)∧w'.cell? ⟨w.heap.size+1,2,none⟩=some (.slice A1_2 l1_2.length c1_2)∧w'.cell? ⟨w7.heap.size,0,none⟩=some (.int .i64 H9)∧w'.cell? ⟨w7.heap.size,1,none⟩=some (.int .i64 H7)∧w'.cell? ⟨w7.heap.size,2,none⟩=some (.slice G9 F4.length G5)) (exact qj1_.keep z11_1_0 z11_1_1 z11_1_2 z11_4_0 z11_4_1 z11_4_2 (by (repeat' (first|(with_reducible exact Below.refl _ _)|(with_reducible exact V9.out)|(with_reducible exact X8.out)|(with_reducible refine qc_ ?_)|(with_reducible refine qa_ ?_ _)|(with_reducible refine qb_ ?_ _))))) (first|(go_at_call 30;(with_reducible refine (qv1_.calls k a1_0 a1_1 A1_2 c1_2 l1_2 R8 R7 O9 _ (Kd.qd1_ HR1_2.out (by repeat (first|(with_reducible first|exact B11.out|apply qb_|apply qa_|apply qc_)|exact B11.out))) HC1_2.out E12.out).mono ?_);rintro e w12 ⟨v_H12_0_2,rfl,M0,hb⟩;have D_:Below w11.heap.size w11 w12:=qh_ (by repeat (first|(with_reducible first|exact Below.refl _ _|apply qb_|apply qa_|apply qc_)|exact Below.refl _ _)) hb;replace HS0:=aK (qk_ HS0.out D_);replace HS1:=aK (qk_ HS1.out D_);replace HS2:=aK (SrAt.below HS2.out D_);replace HS3:=aK (SrAt.below HS3.out D_);replace HS4:=aK (SrAt.below HS4.out D_);replace HS5:=aK (SrAt.below HS5.out D_);replace j3:=aK (j3.out.below D_);replace l5:=aK (l5.out.below D_);replace l6:=aK (l6.out.below D_);replace j5:=aK (j5.out.below D_);have B12:=aK (qh_ B11.out D_);obtain ⟨lo_H12_0_2,hi_H12_0_2,hlo_,hhi_,hx_⟩:∃ lo hi,w11.heap.size≤lo∧lo≤hi∧Go.Proofs.YtaiefdhenikiiaaA.AtR k79 79 lo hi w12 v_H12_0_2 O9:=⟨_,_,by simp,by have:=hb.size;simpa using this,Go.Proofs.YtaiefdhenikiiaaA.AtR.of M0⟩;clear M0;obtain ⟨A_H12_0_2,c_H12_0_2,rfl,l_⟩:=hx_.form;have H12_0_2L:=aK l_;have P9:=aK hx_;clear hx_ l_ hlo_ hhi_;replace LB0:=aK (blk_lt HS0.out);replace LB1:=aK (blk_lt HS1.out);replace LB2:=aK (blk_lt HS2.out);replace LB3:=aK (blk_lt HS3.out);replace LB4:=aK (blk_lt HS4.out);replace LB5:=aK (blk_lt HS5.out);have V9:=aK (show Below w11.heap.size w11 w12 from D_);clear D_ hb;have j6:=aK (show j4≤w12.heap.size from And.right j3.out);have z8:=aK (show l7≤w12.heap.size from And.right l5.out);have D7:=aK (show l8≤w12.heap.size from And.right l6.out);have D5:=aK (show o5≤w12.heap.size from And.right j5.out))|(go_at_call 33;(with_reducible refine (qc2_.calls k H9 H7 _ _ F4 R8 R7 _ _ O9 true _ (Kd.qd1_ l6.out.C (by repeat (first|(with_reducible first|exact Below.refl _ _|apply qb_|apply qa_|apply qc_)|exact Below.refl _ _))) P6.out (Kd.qd1_ P9.out.C (by repeat (first|(with_reducible first|exact Below.refl _ _|apply qb_|apply qa_|apply qc_)|exact Below.refl _ _))) H12_0_2L.out E13.out).mono ?_);rintro e w13 ⟨rfl,hb⟩;have D_:Below w12.heap.size w12 w13:=qh_ (by repeat (first|(with_reducible first|exact Below.refl _ _|apply qb_|apply qa_|apply qc_)|exact Below.refl _ _)) hb;replace HS0:=aK (qk_ HS0.out D_);replace HS1:=aK (qk_ HS1.out D_);replace HS2:=aK (SrAt.below HS2.out D_);replace HS3:=aK (SrAt.below HS3.out D_);replace HS4:=aK (SrAt.below HS4.out D_);replace HS5:=aK (SrAt.below HS5.out D_);replace j3:=aK (j3.out.below D_);replace l5:=aK (l5.out.below D_);replace l6:=aK (l6.out.below D_);replace j5:=aK (j5.out.below D_);replace P9:=aK (P9.out.below D_);have B13:=aK (qh_ B12.out D_);replace LB0:=aK (blk_lt HS0.out);replace LB1:=aK (blk_lt HS1.out);replace LB2:=aK (blk_lt HS2.out);replace LB3:=aK (blk_lt HS3.out);replace LB4:=aK (blk_lt HS4.out);replace LB5:=aK (blk_lt HS5.out);have X8:=aK (show Below w11.heap.size w11 w13 from qh_ V9.out D_);clear D_ hb;have j6:=aK (show j4≤w13.heap.size from And.right j3.out);have z8:=aK (show l7≤w13.heap.size from And.right l5.out);have D7:=aK (show l8≤w13.heap.size from And.right l6.out);have D5:=aK (show o5≤w13.heap.size from And.right j5.out);have z13_3_0:w13.cell? ⟨w6.heap.size,0,none⟩=some (.int .i64 I4):=SrAt.c0 HS3.out;have z13_3_1:w13.cell? ⟨w6.heap.size,1,none⟩=some (.int .i64 I1):=SrAt.c1 HS3.out;have z13_3_2:w13.cell? ⟨w6.heap.size,2,none⟩=some (.slice H5 F5.length G6):=SrAt.c2 HS3.out))
    clear z11_1_0 z11_1_1 z11_1_2 z11_4_0 z11_4_1 z11_4_2 V9 X8
    go_wp2_with (go_at_call 34;(with_reducible refine (qa2_.calls k I4 I1 (fun k_=>C9≤k_∧k_<l7) _ F5 1 R6 z14 w _ B13.out (Kd.ql2_ (Go.Proofs.YtaiefdhenikiiaaA.AtR.mark l5.out LO_H6_0_2.out) (Below.refl _ _)) E14.out).mono ?_);rintro e w14 ⟨rfl,ho,hb,hk⟩;have B14:=aK hb;have KP:=aK (show Kept w13 w14 (fun k_=>C9≤k_∧k_<l7) from Kept.then_ (Kept.of_below (Below.refl _ _) _) hk (fun _ h_=>.inl h_));have HN:=aK (Go.Proofs.YtaiefdhenikiiaaA.AtR.of ho);clear ho hb hk;replace j3:=aK (Go.Proofs.YtaiefdhenikiiaaA.AtR.kept j3.out KP.out (by have:=D8.out;have:=I9.out;omega));replace l6:=aK (Go.Proofs.YtaiefdhenikiiaaA.AtR.kept l6.out KP.out (by have:=D8.out;have:=F7.out;omega));replace j5:=aK (Go.Proofs.YtaiefdhenikiiaaA.AtR.kept j5.out KP.out (by have:=D8.out;have:=F6.out;omega));replace HS0:=aK (show w14.heap[w.heap.size]?=some (.cells #[.int .i64 a0_0,.int .i64 a0_1,.slice A0_2 l0_2.length c0_2] 32 (0,0)) from (KP.out.2 _ (blk_lt HS0.out) (by have:=D8.out;have:=OB0.out;omega)).trans HS0.out);replace HS1:=aK (show w14.heap[w.heap.size+1]?=some (.cells #[.int .i64 a1_0,.int .i64 a1_1,.slice A1_2 l1_2.length c1_2] 32 (0,0)) from (KP.out.2 _ (blk_lt HS1.out) (by have:=D8.out;have:=OB1.out;omega)).trans HS1.out);replace HS2:=aK (show SrAt w14 (b_2) (I6) (I5) (.slice H6 C8.length G7) from (KP.out.2 _ (blk_lt HS2.out) (by have:=D8.out;have:=OB2.out;omega)).trans HS2.out);replace HS4:=aK (show SrAt w14 (w7.heap.size) (H9) (H7) (.slice G9 F4.length G5) from (KP.out.2 _ (blk_lt HS4.out) (by have:=D8.out;have:=OB4.out;omega)).trans HS4.out);replace HS5:=aK (show SrAt w14 (w8.heap.size) (u7) (r9) (.slice o9 F3.length o8) from (KP.out.2 _ (blk_lt HS5.out) (by have:=D8.out;have:=OB5.out;omega)).trans HS5.out);replace l5:=HN;clear HN KP;obtain ⟨A_,c_,e_,l_⟩:=l5.out.form;injection e_ with e1_ e2_ e3_;replace P7:=aK (e3_ ▸ l_);clear l_ e1_ e3_;(first|rw [e2_]|skip);replace l5:=aK (e2_ ▸ l5.out);clear e2_;replace LB0:=aK (blk_lt HS0.out);replace LB1:=aK (blk_lt HS1.out);replace LB2:=aK (blk_lt HS2.out);replace LB3:=aK (blk_lt HS3.out);replace LB4:=aK (blk_lt HS4.out);replace LB5:=aK (blk_lt HS5.out);have j6:=aK (show j4≤w14.heap.size from And.right j3.out);have D7:=aK (show l8≤w14.heap.size from And.right l6.out);have D5:=aK (show o5≤w14.heap.size from And.right j5.out);clear z13_3_0 z13_3_1 z13_3_2;have z14_4_0:w14.cell? ⟨w7.heap.size,0,none⟩=some (.int .i64 H9):=SrAt.c0 HS4.out;have z14_4_1:w14.cell? ⟨w7.heap.size,1,none⟩=some (.int .i64 H7):=SrAt.c1 HS4.out;have z14_4_2:w14.cell? ⟨w7.heap.size,2,none⟩=some (.slice G9 F4.length G5):=SrAt.c2 HS4.out)
    go_wp2_with (go_at_call 34;(with_reducible refine (qa2_.calls k H9 H7 (fun k_=>q8≤k_∧k_<l8) _ F4 R6 U8 z15 w _ B14.out (Kd.ql2_ (Go.Proofs.YtaiefdhenikiiaaA.AtR.mark l6.out LO_H7_0_2.out) (Below.refl _ _)) E15.out).mono ?_);rintro e w15 ⟨rfl,ho,hb,hk⟩;have B15:=aK hb;have KP:=aK (show Kept w14 w15 (fun k_=>q8≤k_∧k_<l8) from Kept.then_ (Kept.of_below (Below.refl _ _) _) hk (fun _ h_=>.inl h_));have HN:=aK (Go.Proofs.YtaiefdhenikiiaaA.AtR.of ho);clear ho hb hk;replace j3:=aK (Go.Proofs.YtaiefdhenikiiaaA.AtR.kept j3.out KP.out (by have:=F7.out;have:=I9.out;omega));replace j5:=aK (Go.Proofs.YtaiefdhenikiiaaA.AtR.kept j5.out KP.out (by have:=F7.out;have:=F6.out;omega));replace HS0:=aK (show w15.heap[w.heap.size]?=some (.cells #[.int .i64 a0_0,.int .i64 a0_1,.slice A0_2 l0_2.length c0_2] 32 (0,0)) from (KP.out.2 _ (blk_lt HS0.out) (by have:=F7.out;have:=OB0.out;omega)).trans HS0.out);replace HS1:=aK (show w15.heap[w.heap.size+1]?=some (.cells #[.int .i64 a1_0,.int .i64 a1_1,.slice A1_2 l1_2.length c1_2] 32 (0,0)) from (KP.out.2 _ (blk_lt HS1.out) (by have:=F7.out;have:=OB1.out;omega)).trans HS1.out);replace HS2:=aK (show SrAt w15 (b_2) (I6) (I5) (.slice H6 C8.length G7) from (KP.out.2 _ (blk_lt HS2.out) (by have:=F7.out;have:=OB2.out;omega)).trans HS2.out);replace HS5:=aK (show SrAt w15 (w8.heap.size) (u7) (r9) (.slice o9 F3.length o8) from (KP.out.2 _ (blk_lt HS5.out) (by have:=F7.out;have:=OB5.out;omega)).trans HS5.out);replace l6:=HN;clear HN KP;obtain ⟨A_,c_,e_,l_⟩:=l6.out.form;injection e_ with e1_ e2_ e3_;replace P6:=aK (e3_ ▸ l_);clear l_ e1_ e3_;(first|rw [e2_]|skip);replace l6:=aK (e2_ ▸ l6.out);clear e2_;replace LB0:=aK (blk_lt HS0.out);replace LB1:=aK (blk_lt HS1.out);replace LB2:=aK (blk_lt HS2.out);replace LB4:=aK (blk_lt HS4.out);replace LB5:=aK (blk_lt HS5.out);have j6:=aK (show j4≤w15.heap.size from And.right j3.out);have D5:=aK (show o5≤w15.heap.size from And.right j5.out);clear z14_4_0 z14_4_1 z14_4_2;have z15_2_0:w15.cell? ⟨b_2,0,none⟩=some (.int .i64 I6):=SrAt.c0 HS2.out;have z15_2_1:w15.cell? ⟨b_2,1,none⟩=some (.int .i64 I5):=SrAt.c1 HS2.out;have z15_2_2:w15.cell? ⟨b_2,2,none⟩=some (.slice H6 C8.length G7):=SrAt.c2 HS2.out;have z15_5_0:w15.cell? ⟨w8.heap.size,0,none⟩=some (.int .i64 u7):=SrAt.c0 HS5.out;have z15_5_1:w15.cell? ⟨w8.heap.size,1,none⟩=some (.int .i64 r9):=SrAt.c1 HS5.out;have z15_5_2:w15.cell? ⟨w8.heap.size,2,none⟩=some (.slice o9 F3.length o8):=SrAt.c2 HS5.out)
    go_wp2_with (go_at_call 33;(with_reducible refine (qc2_.calls k u7 r9 _ _ F3 I6 I5 _ _ C8 true _ (Kd.qd1_ j5.out.C (Below.refl _ _)) J5.out (Kd.qd1_ j3.out.C (Below.refl _ _)) J6.out E16.out).mono ?_);rintro e w16 ⟨rfl,hb⟩;have D_:Below w15.heap.size w15 w16:=qh_ (Below.refl _ _) hb;replace HS0:=aK (qk_ HS0.out D_);replace HS1:=aK (qk_ HS1.out D_);replace HS2:=aK (SrAt.below HS2.out D_);replace HS5:=aK (SrAt.below HS5.out D_);replace j3:=aK (j3.out.below D_);replace j5:=aK (j5.out.below D_);have B16:=aK (qh_ B15.out D_);replace LB0:=aK (blk_lt HS0.out);replace LB1:=aK (blk_lt HS1.out);replace LB2:=aK (blk_lt HS2.out);replace LB5:=aK (blk_lt HS5.out);clear D_ hb;have j6:=aK (show j4≤w16.heap.size from And.right j3.out);have D5:=aK (show o5≤w16.heap.size from And.right j5.out);clear z15_2_0 z15_2_1 z15_2_2 z15_5_0 z15_5_1 z15_5_2;have z16_5_0:w16.cell? ⟨w8.heap.size,0,none⟩=some (.int .i64 u7):=SrAt.c0 HS5.out;have z16_5_1:w16.cell? ⟨w8.heap.size,1,none⟩=some (.int .i64 r9):=SrAt.c1 HS5.out;have z16_5_2:w16.cell? ⟨w8.heap.size,2,none⟩=some (.slice o9 F3.length o8):=SrAt.c2 HS5.out)
    go_wp2_with (go_at_call 34;(with_reducible refine (qa2_.calls k u7 r9 (fun k_=>o6≤k_∧k_<o5) _ F3 1 K8 z17 w _ B16.out (Kd.ql2_ (Go.Proofs.YtaiefdhenikiiaaA.AtR.mark j5.out LO_H8_0_2.out) (Below.refl _ _)) E17.out).mono ?_);rintro e w17 ⟨rfl,ho,hb,hk⟩;have B17:=aK hb;have KP:=aK (show Kept w16 w17 (fun k_=>o6≤k_∧k_<o5) from Kept.then_ (Kept.of_below (Below.refl _ _) _) hk (fun _ h_=>.inl h_));have HN:=aK (Go.Proofs.YtaiefdhenikiiaaA.AtR.of ho);clear ho hb hk;replace j3:=aK (Go.Proofs.YtaiefdhenikiiaaA.AtR.kept j3.out KP.out (by have:=F6.out;have:=I9.out;omega));replace HS0:=aK (show w17.heap[w.heap.size]?=some (.cells #[.int .i64 a0_0,.int .i64 a0_1,.slice A0_2 l0_2.length c0_2] 32 (0,0)) from (KP.out.2 _ (blk_lt HS0.out) (by have:=F6.out;have:=OB0.out;omega)).trans HS0.out);replace HS1:=aK (show w17.heap[w.heap.size+1]?=some (.cells #[.int .i64 a1_0,.int .i64 a1_1,.slice A1_2 l1_2.length c1_2] 32 (0,0)) from (KP.out.2 _ (blk_lt HS1.out) (by have:=F6.out;have:=OB1.out;omega)).trans HS1.out);replace HS2:=aK (show SrAt w17 (b_2) (I6) (I5) (.slice H6 C8.length G7) from (KP.out.2 _ (blk_lt HS2.out) (by have:=F6.out;have:=OB2.out;omega)).trans HS2.out);replace HS5:=aK (show SrAt w17 (w8.heap.size) (u7) (r9) (.slice o9 F3.length o8) from (KP.out.2 _ (blk_lt HS5.out) (by have:=F6.out;have:=OB5.out;omega)).trans HS5.out);replace j5:=HN;clear HN KP;obtain ⟨A_,c_,e_,l_⟩:=j5.out.form;injection e_ with e1_ e2_ e3_;replace J5:=aK (e3_ ▸ l_);clear l_ e1_ e3_;(first|rw [e2_]|skip);replace j5:=aK (e2_ ▸ j5.out);replace HS5:=aK (show SrAt w17 (w8.heap.size) (u7) (r9) (.slice o9 z17.length o8) from by rw [← e2_];exact HS5.out);clear e2_;replace LB0:=aK (blk_lt HS0.out);replace LB1:=aK (blk_lt HS1.out);replace LB2:=aK (blk_lt HS2.out);replace LB5:=aK (blk_lt HS5.out);have j6:=aK (show j4≤w17.heap.size from And.right j3.out);clear z16_5_0 z16_5_1 z16_5_2;have z17_5_0:w17.cell? ⟨w8.heap.size,0,none⟩=some (.int .i64 u7):=SrAt.c0 HS5.out;have z17_5_1:w17.cell? ⟨w8.heap.size,1,none⟩=some (.int .i64 r9):=SrAt.c1 HS5.out;have z17_5_2:w17.cell? ⟨w8.heap.size,2,none⟩=some (.slice o9 z17.length o8):=SrAt.c2 HS5.out)
    go_wp2_with (go_at_call 39;(with_reducible refine (qk2_.calls k u7 r9 _ _ z17 1 K4 _ (Kd.qd1_ j5.out.C (Below.refl _ _)) J5.out E18.out).mono ?_);rintro e w18 ⟨rfl,hb⟩;have D_:Below w17.heap.size w17 w18:=qh_ (Below.refl _ _) hb;replace HS0:=aK (qk_ HS0.out D_);replace HS1:=aK (qk_ HS1.out D_);replace HS2:=aK (SrAt.below HS2.out D_);replace HS5:=aK (SrAt.below HS5.out D_);replace j3:=aK (j3.out.below D_);replace j5:=aK (j5.out.below D_);have B18:=aK (qh_ B17.out D_);replace LB0:=aK (blk_lt HS0.out);replace LB1:=aK (blk_lt HS1.out);replace LB2:=aK (blk_lt HS2.out);replace LB5:=aK (blk_lt HS5.out);clear D_ hb;have j6:=aK (show j4≤w18.heap.size from And.right j3.out);clear z17_5_0 z17_5_1 z17_5_2;have z18_0_0:w18.cell? ⟨w.heap.size,0,none⟩=some (.int .i64 a0_0):=qe_ HS0.out 0;have z18_0_1:w18.cell? ⟨w.heap.size,1,none⟩=some (.int .i64 a0_1):=qe_ HS0.out 1;have z18_0_2:w18.cell? ⟨w.heap.size,2,none⟩=some (.slice A0_2 l0_2.length c0_2):=qe_ HS0.out 2;have z18_1_0:w18.cell? ⟨w.heap.size+1,0,none⟩=some (.int .i64 a1_0):=qe_ HS1.out 0;have z18_1_1:w18.cell? ⟨w.heap.size+1,1,none⟩=some (.int .i64 a1_1):=qe_ HS1.out 1;have z18_1_2:w18.cell? ⟨w.heap.size+1,2,none⟩=some (.slice A1_2 l1_2.length c1_2):=qe_ HS1.out 2)
    go_cut [15,16] (fun v15 v16 wx=>∃ (b_ lo hi:Nat) (A:Option Addr) (c_:Nat),v15=.pointer (some ⟨b_,0,none⟩)∧v16=.int .i64 Q8∧Aside0 (SrAt wx b_ K6 K5 (.slice A I7.length c_))∧Aside0 (Go.Proofs.YtaiefdhenikiiaaA.AtR k79 79 lo hi wx (.slice A I7.length c_) I7)∧Aside0 (I7.length≤c_)∧Aside0 (w18.heap.size≤lo∧lo≤hi∧w18.heap.size≤b_∧(b_<lo∨hi≤b_))∧Aside0 (Below w18.heap.size w18 wx))
    case first =>
     go_region_held3 (fun w'=>w'.cell? ⟨w.heap.size,0,none⟩=some (.int .i64 a0_0)∧w'.cell? ⟨w.heap.size,1,none⟩=some (.int .i64 a0_1)∧w'.cell? ⟨w.heap.size,2,none⟩=some (.slice A0_2 l0_2.length c0_2)∧w'.cell? ⟨w.heap.size+1,0,none⟩=some (.int .i64 a1_0)∧w'.cell? ⟨w.heap.size+1,1,none⟩=some (.int .i64 a1_1)∧w'.cell? ⟨w.heap.size+1,2,none⟩=some (.slice A1_2 l1_2.length c1_2)) (exact qj1_.keep z18_0_0 z18_0_1 z18_0_2 z18_1_0 z18_1_1 z18_1_2 (by (repeat' (first|(with_reducible exact Below.refl _ _)|(with_reducible exact V8.out)|(with_reducible exact V7.out)|(with_reducible exact X7.out)|(with_reducible refine Below.setCell ?_ ?_ _)|(with_reducible refine qc_ ?_)|(with_reducible refine qa_ ?_ _)|(with_reducible refine qb_ ?_ _)|(simp;done)|(simp;omega)|(have s19:=SZ19.out;(try simp at s19);have s20:=SZ20.out;(try simp at s20);have s21:=SZ21.out;(try simp at s21);have sl:=SL_H21_0_2.out;(try simp at sl);have sh:=SH_H21_0_2.out;have so:=SO_H21_0_2.out;(try simp);omega))))) (first|(go_at_call 30;(with_reducible refine (qv1_.calls k a0_0 a0_1 A0_2 c0_2 l0_2 R5 R4 O8 _ (Kd.qd1_ HR0_2.out (by repeat (first|(with_reducible first|exact B18.out|apply qb_|apply qa_|apply qc_)|exact B18.out))) HC0_2.out E19.out).mono ?_);rintro e w19 ⟨v_H19_0_2,rfl,L9,hb⟩;have SZ19:=aK hb.size;(first|(refine (fun (Z:w19.heap[w18.heap.size]?=some (.cells #[.int .i64 0,.int .i64 0,.slice none 0 0] 38 (0,0)))=>?_) (qk_ ?_ hb);rotate_left;(first|exact new_at rfl|exact drew_at (new_at rfl)|exact drewN_at (new_at rfl));have HZZ:=aK Z;have cz0:=qe_ Z 0;have cz1:=qe_ Z 1;have cz2:=qe_ Z 2;have fz0:=qd_ Z 0;have fz1:=qd_ Z 1;have fz2:=qd_ Z 2;clear Z)|skip);have D_:Below w18.heap.size w18 w19:=qh_ (by repeat (first|(with_reducible first|exact Below.refl _ _|apply qb_|apply qa_|apply qc_)|exact Below.refl _ _)) hb;replace HS0:=aK (qk_ HS0.out D_);replace HS1:=aK (qk_ HS1.out D_);replace HS2:=aK (SrAt.below HS2.out D_);replace HS5:=aK (SrAt.below HS5.out D_);replace j3:=aK (j3.out.below D_);replace j5:=aK (j5.out.below D_);have B19:=aK (qh_ B18.out D_);obtain ⟨lo_H19_0_2,hi_H19_0_2,hlo_,hhi_,hsz_,hhe_,hx_⟩:∃ lo hi,w18.heap.size≤lo∧lo≤hi∧szLe hb lo∧hi=w19.heap.size∧Go.Proofs.YtaiefdhenikiiaaA.AtR k79 79 lo hi w19 v_H19_0_2 O8:=⟨_,_,by simp,by have:=hb.size;simpa using this,rfl,rfl,Go.Proofs.YtaiefdhenikiiaaA.AtR.of L9⟩;have SL_H19_0_2:=aK hsz_.out;have SH_H19_0_2:=aK hhe_;have SO_H19_0_2:=aK hhi_;clear hsz_ hhe_;clear L9;obtain ⟨A_H19_0_2,c_H19_0_2,rfl,l_⟩:=hx_.form;have H19_0_2L:=aK l_;have J7:=aK hx_;clear hx_ l_ hlo_ hhi_;replace LB0:=aK (blk_lt HS0.out);replace LB1:=aK (blk_lt HS1.out);replace LB2:=aK (blk_lt HS2.out);replace LB5:=aK (blk_lt HS5.out);have V8:=aK (show Below w18.heap.size w18 w19 from D_);clear D_ hb;have j6:=aK (show j4≤w19.heap.size from And.right j3.out))|(go_at_call 30;(with_reducible refine (qv1_.calls k a1_0 a1_1 A1_2 c1_2 l1_2 R3 Q9 O7 _ (Kd.qd1_ HR1_2.out (by repeat (first|(with_reducible first|exact B19.out|apply qb_|apply qa_|apply qc_)|exact B19.out))) HC1_2.out E20.out).mono ?_);rintro e w20 ⟨v_H20_0_2,rfl,L8,hb⟩;have SZ20:=aK hb.size;(first|(refine (fun (Z:w20.heap[w19.heap.size]?=some (.cells #[.int .i64 0,.int .i64 0,.slice none 0 0] 38 (0,0)))=>?_) (qk_ ?_ hb);rotate_left;(first|exact new_at rfl|exact drew_at (new_at rfl)|exact drewN_at (new_at rfl));have HZZ:=aK Z;have cz0:=qe_ Z 0;have cz1:=qe_ Z 1;have cz2:=qe_ Z 2;have fz0:=qd_ Z 0;have fz1:=qd_ Z 1;have fz2:=qd_ Z 2;clear Z)|(refine (fun (Z:w20.heap[w18.heap.size]?=some (.cells #[.int .i64 0,.int .i64 0,.slice none 0 0] 38 (0,0)))=>?_) (qk_ ?_ hb);rotate_left;(first|exact HZZ.out|exact drew_at HZZ.out|exact drewN_at HZZ.out);have HZZ:=aK Z;have cz0:=qe_ Z 0;have cz1:=qe_ Z 1;have cz2:=qe_ Z 2;have fz0:=qd_ Z 0;have fz1:=qd_ Z 1;have fz2:=qd_ Z 2;clear Z)|skip);have D_:Below w19.heap.size w19 w20:=qh_ (by repeat (first|(with_reducible first|exact Below.refl _ _|apply qb_|apply qa_|apply qc_)|exact Below.refl _ _)) hb;replace HS0:=aK (qk_ HS0.out D_);replace HS1:=aK (qk_ HS1.out D_);replace HS2:=aK (SrAt.below HS2.out D_);replace HS5:=aK (SrAt.below HS5.out D_);replace j3:=aK (j3.out.below D_);replace j5:=aK (j5.out.below D_);replace J7:=aK (J7.out.below D_);have B20:=aK (qh_ B19.out D_);obtain ⟨lo_H20_0_2,hi_H20_0_2,hlo_,hhi_,hsz_,hhe_,hx_⟩:∃ lo hi,w19.heap.size≤lo∧lo≤hi∧szLe hb lo∧hi=w20.heap.size∧Go.Proofs.YtaiefdhenikiiaaA.AtR k79 79 lo hi w20 v_H20_0_2 O7:=⟨_,_,by simp,by have:=hb.size;simpa using this,rfl,rfl,Go.Proofs.YtaiefdhenikiiaaA.AtR.of L8⟩;have SL_H20_0_2:=aK hsz_.out;have SH_H20_0_2:=aK hhe_;have SO_H20_0_2:=aK hhi_;clear hsz_ hhe_;clear L8;obtain ⟨A_H20_0_2,c_H20_0_2,rfl,l_⟩:=hx_.form;have H20_0_2L:=aK l_;have P8:=aK hx_;clear hx_ l_ hlo_ hhi_;replace LB0:=aK (blk_lt HS0.out);replace LB1:=aK (blk_lt HS1.out);replace LB2:=aK (blk_lt HS2.out);replace LB5:=aK (blk_lt HS5.out);have V7:=aK (show Below w18.heap.size w18 w20 from qh_ V8.out D_);clear D_ hb;have j6:=aK (show j4≤w20.heap.size from And.right j3.out))|(go_at_call 70;(with_reducible refine (qj2_.calls R5 R4 _ _ O8 R3 Q9 _ _ O7 K6 K5 I7 Q8 _ (Kd.qd1_ J7.out.C (by repeat (first|(with_reducible first|exact Below.refl _ _|apply qb_|apply qa_|apply qc_)|exact Below.refl _ _))) H19_0_2L.out (Kd.qd1_ P8.out.C (by repeat (first|(with_reducible first|exact Below.refl _ _|apply qb_|apply qa_|apply qc_)|exact Below.refl _ _))) H20_0_2L.out E21.out).mono ?_);rintro e w21 ⟨v_H21_0_2,rfl,L6,hb⟩;have SZ21:=aK hb.size;(first|(refine (fun (Z:w21.heap[w20.heap.size]?=some (.cells #[.int .i64 0,.int .i64 0,.slice none 0 0] 38 (0,0)))=>?_) (qk_ ?_ hb);rotate_left;(first|exact new_at rfl|exact drew_at (new_at rfl)|exact drewN_at (new_at rfl));have HZZ:=aK Z;have cz0:=qe_ Z 0;have cz1:=qe_ Z 1;have cz2:=qe_ Z 2;have fz0:=qd_ Z 0;have fz1:=qd_ Z 1;have fz2:=qd_ Z 2;clear Z)|(refine (fun (Z:w21.heap[w18.heap.size]?=some (.cells #[.int .i64 0,.int .i64 0,.slice none 0 0] 38 (0,0)))=>?_) (qk_ ?_ hb);rotate_left;(first|exact HZZ.out|exact drew_at HZZ.out|exact drewN_at HZZ.out);have HZZ:=aK Z;have cz0:=qe_ Z 0;have cz1:=qe_ Z 1;have cz2:=qe_ Z 2;have fz0:=qd_ Z 0;have fz1:=qd_ Z 1;have fz2:=qd_ Z 2;clear Z)|(refine (fun (Z:w21.heap[w19.heap.size]?=some (.cells #[.int .i64 0,.int .i64 0,.slice none 0 0] 38 (0,0)))=>?_) (qk_ ?_ hb);rotate_left;(first|exact HZZ.out|exact drew_at HZZ.out|exact drewN_at HZZ.out);have HZZ:=aK Z;have cz0:=qe_ Z 0;have cz1:=qe_ Z 1;have cz2:=qe_ Z 2;have fz0:=qd_ Z 0;have fz1:=qd_ Z 1;have fz2:=qd_ Z 2;clear Z)|skip);have D_:Below w20.heap.size w20 w21:=qh_ (by repeat (first|(with_reducible first|exact Below.refl _ _|apply qb_|apply qa_|apply qc_)|exact Below.refl _ _)) hb;replace HS0:=aK (qk_ HS0.out D_);replace HS1:=aK (qk_ HS1.out D_);replace HS2:=aK (SrAt.below HS2.out D_);replace HS5:=aK (SrAt.below HS5.out D_);replace j3:=aK (j3.out.below D_);replace j5:=aK (j5.out.below D_);replace J7:=aK (J7.out.below D_);replace P8:=aK (P8.out.below D_);have B21:=aK (qh_ B20.out D_);obtain ⟨K9,M7,hlo_,hhi_,hsz_,hhe_,hx_⟩:∃ lo hi,w20.heap.size≤lo∧lo≤hi∧szLe hb lo∧hi=w21.heap.size∧Go.Proofs.YtaiefdhenikiiaaA.AtR k79 79 lo hi w21 v_H21_0_2 I7:=⟨_,_,by simp,by have:=hb.size;simpa using this,rfl,rfl,Go.Proofs.YtaiefdhenikiiaaA.AtR.of L6⟩;have SL_H21_0_2:=aK hsz_.out;have SH_H21_0_2:=aK hhe_;have SO_H21_0_2:=aK hhi_;clear hsz_ hhe_;clear L6;obtain ⟨J9,J8,rfl,l_⟩:=hx_.form;have M9:=aK l_;have J2:=aK hx_;clear hx_ l_ hlo_ hhi_;replace LB0:=aK (blk_lt HS0.out);replace LB1:=aK (blk_lt HS1.out);replace LB2:=aK (blk_lt HS2.out);replace LB5:=aK (blk_lt HS5.out);have X7:=aK (show Below w18.heap.size w18 w21 from qh_ V7.out D_);clear D_ hb;have j6:=aK (show j4≤w21.heap.size from And.right j3.out)))
     all_goals
      go_wp2_with fail
      go_meet
      case rel =>
       refine ⟨_,K9,M7,J9,J8,rfl,rfl,⟨?_⟩,⟨?_⟩,M9,⟨?_⟩,⟨?_⟩⟩
       ·(repeat' (first|((with_reducible refine SrAt.new ?_);simp;done)|(with_reducible refine SrAt.put3 ?_ _ _ _)|(with_reducible exact HZZ.out)|(with_reducible refine SrAt.alloc ?_ _)|(with_reducible refine SrAt.drew ?_)|(with_reducible refine drewN_at ?_)|(with_reducible refine drew_at ?_)|((with_reducible refine new_at ?_);simp;done)|(with_reducible refine old_at ?_)))
       ·(repeat' (first|(with_reducible exact J2.out)|(with_reducible refine atR_set ?_ _ ?_)|(with_reducible refine atR_alloc ?_ _)|(with_reducible refine atR_drew ?_)|(with_reducible refine atR_drewN ?_)|(have s19:=SZ19.out;(try simp at s19);have s20:=SZ20.out;(try simp at s20);have s21:=SZ21.out;(try simp at s21);have sl:=SL_H21_0_2.out;(try simp at sl);have sh:=SH_H21_0_2.out;have so:=SO_H21_0_2.out;(try simp);omega)))
       ·have s19:=SZ19.out;(try simp at s19);have s20:=SZ20.out;(try simp at s20);have s21:=SZ21.out;(try simp at s21);have sl:=SL_H21_0_2.out;(try simp at sl);have sh:=SH_H21_0_2.out;have so:=SO_H21_0_2.out;(try simp);omega
       ·(repeat' (first|(with_reducible exact Below.refl _ _)|(with_reducible exact V8.out)|(with_reducible exact V7.out)|(with_reducible exact X7.out)|(with_reducible refine Below.setCell ?_ ?_ _)|(with_reducible refine qc_ ?_)|(with_reducible refine qa_ ?_ _)|(with_reducible refine qb_ ?_ _)|(simp;done)|(simp;omega)|(have s19:=SZ19.out;(try simp at s19);have s20:=SZ20.out;(try simp at s20);have s21:=SZ21.out;(try simp at s21);have sl:=SL_H21_0_2.out;(try simp at sl);have sh:=SH_H21_0_2.out;have so:=SO_H21_0_2.out;(try simp);omega)))
    case rest =>
     obtain ⟨b_6,K9,M7,J9,J8,rfl,rfl,HS6,J2,M9,HQ_,HM_⟩:=hcut
     obtain ⟨w21,hw_⟩:∃ x,x=wc:=⟨_,rfl⟩
     rw [← hw_] at HS6 J2 HM_ ⊢
     clear hw_
     replace j3:=aK (j3.out.below HM_.out)
     replace j5:=aK (j5.out.below HM_.out)
     replace HS2:=aK (SrAt.below HS2.out HM_.out)
     replace HS5:=aK (SrAt.below HS5.out HM_.out)
     have B21:=aK (qh_ B18.out HM_.out)
     clear HQ_ HM_
     replace LB2:=aK (blk_lt HS2.out)
     replace LB5:=aK (blk_lt HS5.out)
     have j6:=aK (show j4≤w21.heap.size from And.right j3.out)
     clear z18_0_0 z18_0_1 z18_0_2 z18_1_0 z18_1_1 z18_1_2
     have z21_2_0:w21.cell? ⟨b_2,0,none⟩=some (.int .i64 I6):=SrAt.c0 HS2.out
     have z21_2_1:w21.cell? ⟨b_2,1,none⟩=some (.int .i64 I5):=SrAt.c1 HS2.out
     have z21_2_2:w21.cell? ⟨b_2,2,none⟩=some (.slice H6 C8.length G7):=SrAt.c2 HS2.out
     have z21_6_0:w21.cell? ⟨b_6,0,none⟩=some (.int .i64 K6):=SrAt.c0 HS6.out
     have z21_6_1:w21.cell? ⟨b_6,1,none⟩=some (.int .i64 K5):=SrAt.c1 HS6.out
     have z21_6_2:w21.cell? ⟨b_6,2,none⟩=some (.slice J9 I7.length J8):=SrAt.c2 HS6.out
     go_wp2_with (go_at_call 33;(with_reducible refine (qc2_.calls k K6 K5 _ _ I7 I6 I5 _ _ C8 true _ (Kd.qd1_ J2.out.C (Below.refl _ _)) M9.out (Kd.qd1_ j3.out.C (Below.refl _ _)) J6.out E22.out).mono ?_);rintro e w22 ⟨rfl,hb⟩;have D_:Below w21.heap.size w21 w22:=qh_ (Below.refl _ _) hb;replace HS2:=aK (SrAt.below HS2.out D_);replace HS5:=aK (SrAt.below HS5.out D_);replace HS6:=aK (SrAt.below HS6.out D_);replace j3:=aK (j3.out.below D_);replace j5:=aK (j5.out.below D_);replace J2:=aK (J2.out.below D_);have B22:=aK (qh_ B21.out D_);replace LB2:=aK (blk_lt HS2.out);replace LB5:=aK (blk_lt HS5.out);clear D_ hb;have j6:=aK (show j4≤w22.heap.size from And.right j3.out);clear z21_2_0 z21_2_1 z21_2_2 z21_6_0 z21_6_1 z21_6_2;have z22_5_0:w22.cell? ⟨w8.heap.size,0,none⟩=some (.int .i64 u7):=SrAt.c0 HS5.out;have z22_5_1:w22.cell? ⟨w8.heap.size,1,none⟩=some (.int .i64 r9):=SrAt.c1 HS5.out;have z22_5_2:w22.cell? ⟨w8.heap.size,2,none⟩=some (.slice o9 z17.length o8):=SrAt.c2 HS5.out)
     go_wp2_with (go_at_call 39;(with_reducible refine (qk2_.calls k u7 r9 _ _ z17 1 K3 _ (Kd.qd1_ j5.out.C (Below.refl _ _)) J5.out E23.out).mono ?_);rintro e w23 ⟨rfl,hb⟩;have D_:Below w22.heap.size w22 w23:=qh_ (Below.refl _ _) hb;replace HS5:=aK (SrAt.below HS5.out D_);replace j5:=aK (j5.out.below D_);have B23:=aK (qh_ B22.out D_);replace LB5:=aK (blk_lt HS5.out);clear D_ hb;clear z22_5_0 z22_5_1 z22_5_2)
     go_ret
     exact ⟨rfl,B23.out⟩
end Go.Proofs.Ytaiefdhenikiiaa.Base
namespace Go.Proofs.Ytaiefdhenikiiaa.PFnExactJoinedSeries
open Go.RowKit Go.Proofs.YtaiefdhenikiiaaW.PrintWords Go.Proofs.YtaiefdhenikiiaaO Go.Proofs.Ytaiefdhenikiiaa.Base
set_option linter.unusedVariables false
/-- What is known of such a value that came in. -/
def ok73 (x:S73):Prop:=(Lit.int .i64 x.f0).wf=true∧(Lit.int .i64 x.f1).wf=true
theorem opens73:Opens Try.prog 73 k73 ok73:=opens_iso (fun x:S73=>(x.f0,x.f1)) (fun p=>⟨p.1,p.2⟩) (fun _=>rfl) (opens_two Try.underlying73 rfl rfl (by kernel_rfl) (opens_int Try.underlying2 (by kernel_rfl)) (opens_int Try.underlying2 (by kernel_rfl)))
/-- What is known of such a value that came in. -/
def ok75 (x:S75):Prop:=x.f0.size≤9223372036854775807∧ok73 x.f1
theorem opens75:Opens Try.prog 75 k75 ok75:=opens_iso (fun x:S75=>(x.f0,x.f1)) (fun p=>⟨p.1,p.2⟩) (fun _=>rfl) (opens_two Try.underlying75 rfl rfl (by kernel_rfl) (opens_string Try.underlying9 (by kernel_rfl)) opens73)
structure S32 where
  f0:Int
  f1:Int
  f2:(List S75)
def k32:Kd S32:=Kd.iso (Kd.pair (Kd.int .i64) (Kd.pair (Kd.int .i64) (Kd.slice 75 k75))) (fun x:S32=>(x.f0,x.f1,x.f2))
/-- What is known of such a value that came in. -/
def ok32 (x:S32):Prop:=(Lit.int .i64 x.f0).wf=true∧(Lit.int .i64 x.f1).wf=true∧(x.f2.length≤9223372036854775807∧∀ a_ ∈ x.f2,ok75 a_)
theorem opens32:Opens Try.prog 32 k32 ok32:=opens_iso (fun x:S32=>(x.f0,x.f1,x.f2)) (fun p=>⟨p.1,p.2.1,p.2.2⟩) (fun _=>rfl) (opens_three Try.underlying32 rfl rfl rfl (by kernel_rfl) (opens_int Try.underlying2 (by kernel_rfl)) (opens_int Try.underlying2 (by kernel_rfl)) (opens_slice Try.underlying22 (by kernel_rfl) opens75))
def qj1_.Pure:Prop:=∀ (s0:S32) (s1:S32),ok32 s0→ok32 s1→∃ k,qj1_.f k s0.f0 s0.f1 s0.f2 s1.f0 s1.f1 s1.f2=some true
end Go.Proofs.Ytaiefdhenikiiaa.PFnExactJoinedSeries
namespace Go.Proofs.Ytaiefdhenikiiaa.Pure
open Go.RowKit Go.Proofs.Ytaiefdhenikiiaa.Base Go.Proofs.Ytaiefdhenikiiaa.PFnExactJoinedSeries Go.Proofs.YtaiefdhenikiiaaW.PrintWords Go.Proofs.YtaiefdhenikiiaaW.PrintLast
set_option linter.unusedSimpArgs false
set_option linter.unusedVariables false
theorem markSer_from (d n:Int) (l:List S79) (hl:l.length≤2000000) (k0:Nat) (h:k0+3*l.length≤100000000):∃ l',Ev (fun q=>qa2_.f q d n l (k0:Int)) (((k0+3*l.length:Nat):Int),l'):=by
  obtain ⟨l',_,_,h3,_⟩:=marksT_ends l.length l.length 0 k0 l (by omega) rfl hl h
  refine ⟨l',?_⟩
  unfold qa2_.f
  exact Ev.bind (h:=(show Ev (fun q=>qk1_.f q l (k0:Int)) _ from h3)) (Ev.now _)
theorem FnExactJoinedSeries:qj1_.Pure:=by
  intro s0 s1 hok0 hok1
  obtain ⟨D0,N0,l0⟩:=s0
  obtain ⟨_,_,hn0,hw0⟩:=hok0
  obtain ⟨D1,N1,l1⟩:=s1
  obtain ⟨_,_,hn1,hw1⟩:=hok1
  simp only at hn0 hw0 hn1 hw1 ⊢
  unfold qj1_.f
  obtain ⟨v0,hs0,hv0,hz0⟩:=szS_is D0 N0 l0 hn0 (fun x hx=>(hw0 x hx).1) 1048576 (by omega) (by omega)
  refine Ev.rounds (Ev.bind hs0 ?_)
  by_cases c0:v0<0
  · simp only [c0,if_true];exact Ev.now _
  · simp only [c0,if_false]
    obtain ⟨v1,hs1,hv1,hz1⟩:=szS_is D1 N1 l1 hn1 (fun x hx=>(hw1 x hx).1) v0 (by omega) (by omega)
    refine Ev.bind hs1 ?_
    by_cases c1:v1<0
    · simp only [c1,if_true];exact Ev.now _
    · simp only [c1,if_false]
      have hm0:=hz0 (by omega)
      have hc0:=toSer_is D0 N0 l0 (by omega)
      have hX0:=arg_small l0 hm0
      obtain ⟨X0,hXe0⟩:∃ X,X=l0.map toX:=⟨_,rfl⟩
      rw [← hXe0] at hc0 hX0
      have hXl0:=hX0.1
      have hq0:=eqSer_id D0 N0 X0 (by omega)
      have hm1:=hz1 (by omega)
      have hc1:=toSer_is D1 N1 l1 (by omega)
      have hX1:=arg_small l1 hm1
      obtain ⟨X1,hXe1⟩:∃ X,X=l1.map toX:=⟨_,rfl⟩
      rw [← hXe1] at hc1 hX1
      have hXl1:=hX1.1
      have hq1:=eqSer_id D1 N1 X1 (by omega)
      have hlen:=joinR_len D0 N0 X0 D1 N1 X1
      obtain ⟨⟨R1,R2,R,C⟩,hR⟩:∃ q,q=joinR D0 N0 X0 D1 N1 X1:=⟨_,rfl⟩
      rw [← hR] at hlen
      have hI:qj2_.f D0 N0 X0 D1 N1 X1=some (R1,R2,R,C):=by unfold qj2_.f;rw [if_pos ⟨hX0,hX1⟩,hR]
      have hS:qu2_.f D0 N0 X0 D1 N1 X1=some (R1,R2,R,C):=by unfold qu2_.f;rw [if_pos ⟨hX0,hX1⟩,hR]
      have eR:=eqSer_id R1 R2 R hlen
      obtain ⟨R',mR,dR⟩:=marksSer_id R1 R2 R hlen
      obtain ⟨Y0,mX0⟩:=markSer_from D0 N0 X0 (by omega) (1) (by omega)
      obtain ⟨Y1,mX1⟩:=markSer_from D1 N1 X1 (by omega) (1+3*X0.length) (by omega)
      refine Ev.bind hc0 ?_
      refine Ev.bind hc1 ?_
      simp only [hS,Option.bind_some]
      refine Ev.bind hc0 ?_
      refine Ev.bind hc1 ?_
      simp only [hI,Option.bind_some,if_true]
      refine Ev.bind eR ?_
      refine Ev.congr (fun _=>if_pos rfl) ?_
      refine Ev.bind hc0 (Ev.bind hq0 ?_)
      refine Ev.congr (fun _=>if_pos rfl) ?_
      refine Ev.bind hc1 (Ev.bind hq1 ?_)
      refine Ev.congr (fun _=>if_pos rfl) ?_
      refine Ev.bind mX0 ?_
      dsimp only
      refine Ev.congr (fun _=>if_pos (by omega)) ?_
      refine Ev.bind mX1 ?_
      dsimp only
      refine Ev.congr (fun _=>if_pos (by omega)) ?_
      refine Ev.bind eR ?_
      refine Ev.congr (fun _=>if_pos rfl) ?_
      refine Ev.bind mR ?_
      dsimp only
      refine Ev.congr (fun _=>if_pos (by omega)) ?_
      refine Ev.bind dR ?_
      refine Ev.congr (fun _=>if_pos ⟨by omega,rfl⟩) ?_
      refine Ev.bind hc0 ?_
      refine Ev.bind hc1 ?_
      simp only [hI,Option.bind_some,if_true]
      refine Ev.bind eR ?_
      refine Ev.congr (fun _=>if_pos rfl) ?_
      refine Ev.bind dR ?_
      refine Ev.congr (fun _=>if_pos ⟨by omega,rfl⟩) ?_
      exact Ev.now _
end Go.Proofs.Ytaiefdhenikiiaa.Pure
