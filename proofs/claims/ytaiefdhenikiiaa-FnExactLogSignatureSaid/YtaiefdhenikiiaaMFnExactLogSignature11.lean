/- Texts that the proof of FnExactLogSignature needs, part 11. No condition. -/
import Derived.Test.YtaiefdhenikiiaaMFnExactLogSignature10
namespace Go.Proofs.Ytaiefdhenikiiaa.Base
open Go.RowKit Go.Proofs.YtaiefdhenikiiaaW.PrintWords Go.Proofs.YtaiefdhenikiiaaW.PrintLast Go.Proofs.YtaiefdhenikiiaaW.PrintMore
set_option linter.unusedVariables false
set_option linter.unusedSimpArgs false
def logL (i:Nat):List S77:=(List.range i).map fun k=>if 1≤k then logF k else zeroF
theorem logL_succ (i:Nat):logL (i+1)=logL i ++ [if 1≤i then logF i else zeroF]:=by unfold logL;rw [List.range_succ,List.map_append];rfl
theorem logL_len (i:Nat):(logL i).length=i:=by unfold logL;simp
theorem logL_at (m k:Nat) (h:k < (logL m).length):(logL m)[k]=if 1≤k then logF k else zeroF:=by simp only [logL,List.getElem_map,List.getElem_range]
theorem logT_bad {d n:Nat} {t:Tb} (hn:1≤n) (h:(lessT t (zeroT d n)).bad=true):(logT t (zeroT d n)).bad=true:=by
  unfold logT
  exact powers_bad2 (p:=zeroT d n) (m:=1) (by show 1 < n+1;omega) (by omega) (Nat.le_refl _) (timesT_bad (Or.inr h))
theorem logF_ne:∀ k,k≤8→1≤k→(logF k).f0 ≠ 0:=by decide
set_option maxHeartbeats 32000000 in
set_option maxRecDepth 100000 in
theorem logSp (w:World) (d n:Nat) (hs:Sz d n) (hn1:1≤n) {t:Tb} (ht:Like t (zeroT d n)) (hbt:t.bad=false) {A:Option Addr} {ca:Nat} (hA:TmsC w A ca (termsT t)) :
    Calls Try.prog 148 #[.agg #[.int .i64 (d:Int),.int .i64 (n:Int),.slice A (termsT t).length ca]] w (OutR w d n (outT (logT t (zeroT d n)))):=by
  have hu2:=Try.underlying38
  have hu3:=Try.underlying77
  obtain ⟨Y,hY⟩:∃ Y,Y=lessT t (zeroT d n):=⟨_,rfl⟩
  have hYL:Like Y (zeroT d n):=by rw [hY];exact lessT_like ht
  have HLE:=Aside0.mk (show ∀ W B cb,TmsC W B cb (termsT t)→Calls Try.prog 204 #[.agg #[.int .i64 (d:Int),.int .i64 (n:Int),.slice B (termsT t).length cb],.agg #[.int .i64 1,.int .i64 1]] W (OutR W d n (outT Y)) from fun W B cb h=>by rw [hY];exact lessSp W d n hs ht hbt h)
  obtain ⟨R,hR⟩:∃ R,R=outT (logT t (zeroT d n)):=⟨_,rfl⟩
  rw [← hR]
  have HRB:=Aside0.mk (show Y.bad=true→R=none from fun h=>by rw [hR];exact outT_bad (logT_bad hn1 (by rw [← hY];exact h)))
  have HSM:=Aside0.mk (show Y.bad=false→∀ W B cb C cc,TmsC W B cb (termsT Y)→Kd.C k77 W C (logL (n+1)).length (logL (n+1))→Calls Try.prog 169 #[.agg #[.int .i64 (d:Int),.int .i64 (n:Int),.slice B (termsT Y).length cb],.slice C (logL (n+1)).length cc] W (OutR W d n R) from fun hb W B cb C cc h1 h2=>by
    rw [hR,show logT t (zeroT d n)=powersT Y (zeroT d n) 1 logF from by rw [hY];rfl]
    exact sumSp W d n hs hYL hb h1 h2 1 logF (Nat.le_refl _) (logL_len _) (fun k h=>logL_at _ _ h) (fun k hk h1=>⟨logF_ok k (by have:=hs.n8;omega) h1,logF_ne k (by have:=hs.n8;omega) h1⟩))
  have H8:=Aside0.mk hs.n8
  have HYZ:=Aside0.mk (terms_len hYL hs)
  generalize termsT t=lt at hA HLE ⊢
  have HA:=Aside0.mk hA
  clear hA hs ht hbt hR hY hYL hn1
  go_enter Try.func148,Try.ntmps148
  go_wp2
  generalize hW:World.alloc _ _=W0
  have HX0:=Aside0.mk (show SrAt W0 w.heap.size d n (.slice A lt.length ca) from by rw [← hW];exact old_at (new_at rfl))
  have HR0:=Aside0.mk (show SrAt W0 (w.heap.size+1) 0 0 (.slice none 0 0) from by rw [← hW];exact new_at (by simp))
  have HB0:=Aside0.mk (show Below w.heap.size w W0 from by rw [← hW];exact qb_ (qb_ (Below.refl _ _) _) _)
  have HA0:=Aside0.mk (HA.out.below HB0.out)
  have p0:=HX0.out.c0
  have p1:=HX0.out.c1
  have p2:=HX0.out.c2
  clear hW
  go_cut [4,5] (fun v4 v5 wx=>∃ (b4:Nat) (D N:Int) (Ax:Option Addr) (cx:Nat) (l9:List S79) (ok:Bool),v4=.pointer (some ⟨b4,0,none⟩)∧v5=.bool ok∧Aside0 (SrAt wx b4 D N (.slice Ax l9.length cx))∧Aside0 (TermsR wx w.heap.size (.slice Ax l9.length cx) l9)∧Aside0 (OutV d n (outT Y) D N l9 ok)∧Aside0 (Below W0.heap.size W0 wx))
  case first =>
    go_region_held3 (fun w'=>w'.cell? ⟨w.heap.size,0,none⟩=some (.int .i64 (d:Int))∧w'.cell? ⟨w.heap.size,1,none⟩=some (.int .i64 (n:Int))∧w'.cell? ⟨w.heap.size,2,none⟩=some (.slice A lt.length ca)) (exact keep3 p0 p1 p2 (by (repeat' (first|(with_reducible exact Below.refl _ _)|(with_reducible exact HB7.out)|(with_reducible exact HB6.out)|(with_reducible refine Below.setCell ?_ ?_ _)|(with_reducible refine qc_ ?_)|(with_reducible refine qa_ ?_ _)|(with_reducible refine qb_ ?_ _)|(simp;done)|(simp;omega)|(have q_:=HB7.out.size;simp;omega)|(have q_:=HB6.out.size;simp;omega))))) (first
      | (go_at_call 124;refine (oneS _ 1).mono ?_;rintro e w6 ⟨rfl,hb⟩;have HB6:=Aside0.mk (show Below W0.heap.size W0 w6 from qe_ (by repeat (first|(with_reducible exact Below.refl _ _)|(with_reducible refine qc_ ?_)|(with_reducible refine qa_ ?_ _)|(with_reducible refine qb_ ?_ _))) hb);(first|(refine (fun (Za:w6.heap[W0.heap.size]?=some (.cells #[.int .i64 0,.int .i64 0,.slice none 0 0] 38 (0,0)))=>?_) (ql_ ?_ hb);rotate_left;(first|exact drew_at (new_at rfl)|exact new_at rfl);have HZa:=Aside0.mk Za;have c0Za:=qj_ Za 0;have c1Za:=qj_ Za 1;have c2Za:=qj_ Za 2;have f0Za:=qd_ Za 0;have f1Za:=qd_ Za 1;have f2Za:=qd_ Za 2;clear Za)|skip);clear hb)
      | (go_at_call 204;refine (HLE.out _ _ _ (HA0.out.below (by repeat (first|(with_reducible exact Below.refl _ _)|(with_reducible exact HB6.out)|(with_reducible refine qc_ ?_)|(with_reducible refine qa_ ?_ _)|(with_reducible refine qb_ ?_ _))))).mono ?_;rintro e w7 h7;obtain ⟨D9,N9,A9,c9,l9,ok9,rfl,ho9,hv9,hb⟩:=h7.val;have HB7:=Aside0.mk (show Below W0.heap.size W0 w7 from qe_ (by repeat (first|(with_reducible exact Below.refl _ _)|(with_reducible exact HB6.out)|(with_reducible refine qc_ ?_)|(with_reducible refine qa_ ?_ _)|(with_reducible refine qb_ ?_ _))) hb);have HO9:=Aside0.mk ho9;have HV9:=Aside0.mk (show TermsR w7 w.heap.size (.slice A9 l9.length c9) l9 from Kd.qi2_ hv9 (Nat.le_trans HB0.out.size (qk_ (show Below W0.heap.size W0 _ from (by repeat (first|(with_reducible exact Below.refl _ _)|(with_reducible exact HB6.out)|(with_reducible refine qc_ ?_)|(with_reducible refine qa_ ?_ _)|(with_reducible refine qb_ ?_ _)))))));(first|(refine (fun (Za7:w7.heap[W0.heap.size]?=some (.cells #[.int .i64 0,.int .i64 0,.slice none 0 0] 38 (0,0)))=>?_) (ql_ ?_ hb);rotate_left;(first|exact HZa.out|exact drew_at HZa.out);have HZa7:=Aside0.mk Za7;have c0Za7:=qj_ Za7 0;have c1Za7:=qj_ Za7 1;have c2Za7:=qj_ Za7 2;have f0Za7:=qd_ Za7 0;have f1Za7:=qd_ Za7 1;have f2Za7:=qd_ Za7 2;clear Za7)|skip);(first|(refine (fun (Zb7:w7.heap[w6.heap.size]?=some (.cells #[.int .i64 0,.int .i64 0,.slice none 0 0] 38 (0,0)))=>?_) (ql_ ?_ hb);rotate_left;(first|exact drew_at (new_at rfl)|exact new_at rfl);have HZb7:=Aside0.mk Zb7;have c0Zb7:=qj_ Zb7 0;have c1Zb7:=qj_ Zb7 1;have c2Zb7:=qj_ Zb7 2;have f0Zb7:=qd_ Zb7 0;have f1Zb7:=qd_ Zb7 1;have f2Zb7:=qd_ Zb7 2;clear Zb7)|skip);clear h7 ho9 hv9 hb))
    all_goals
      go_wp2_with fail
      go_meet
      case rel =>
        refine ⟨_,D9,N9,A9,c9,l9,ok9,rfl,rfl,⟨?_⟩,⟨?_⟩,HO9,⟨?_⟩⟩
        · (repeat' (first|((with_reducible refine SrAt.new ?_);simp;done)|(with_reducible refine SrAt.put3 ?_ _ _ _)|(with_reducible refine SrAt.alloc ?_ _)|(with_reducible refine SrAt.drew ?_)|(with_reducible exact HZa7.out)|(with_reducible exact HZb7.out)|((with_reducible refine new_at ?_);simp;done)|(with_reducible refine old_at ?_)|(with_reducible refine drew_at ?_)))
        · (repeat' (first|(with_reducible exact HV9.out)|(with_reducible refine Kd.qa1_ ?_ _)|(with_reducible refine Kd.R_drew ?_)|(with_reducible refine R_box3 (cs:=?_) ?_ ?_ _ _ _)|(with_reducible exact HZa7.out)|(with_reducible exact HZb7.out)|fail))
        · (repeat' (first|(with_reducible exact Below.refl _ _)|(with_reducible exact HB7.out)|(with_reducible exact HB6.out)|(with_reducible refine Below.setCell ?_ ?_ _)|(with_reducible refine qc_ ?_)|(with_reducible refine qa_ ?_ _)|(with_reducible refine qb_ ?_ _)|(simp;done)|(simp;omega)|(have q_:=HB7.out.size;simp;omega)|(have q_:=HB6.out.size;simp;omega)))
  case rest =>
    obtain ⟨b4,D,N,A4,c4,l4,ok,rfl,rfl,HS4,HV4,HO4,HM4⟩:=hcut
    clear p0 p1 p2
    have HBW:=Aside0.mk (qe_ HB0.out HM4.out)
    have HX4:=Aside0.mk (HX0.out.below HM4.out)
    have HR4:=Aside0.mk (HR0.out.below HM4.out)
    by_cases hyb:Y.bad=true
    · have ho:=HO4.out
      rw [outT_bad hyb] at ho
      obtain ⟨rfl,rfl,rfl,rfl⟩:=ho
      have HRN:=Aside0.mk (HRB.out hyb)
      clear hyb
      have SR:=HR4.out
      have x0:wc.cell? ⟨w.heap.size+1,0,none⟩=some (.int .i64 0):=SR.c0
      have f0:wc.frozen? ⟨w.heap.size+1,0,none⟩=false:=qd_ SR 0
      have x1:wc.cell? ⟨w.heap.size+1,1,none⟩=some (.int .i64 0):=SR.c1
      have f1:wc.frozen? ⟨w.heap.size+1,1,none⟩=false:=qd_ SR 1
      have x2:wc.cell? ⟨w.heap.size+1,2,none⟩=some (.slice none 0 0):=SR.c2
      have f2:wc.frozen? ⟨w.heap.size+1,2,none⟩=false:=qd_ SR 2
      have HSRX:=Aside0.mk SR
      clear SR
      go_wp2
      refine bodyPost_ret (results_ct rfl _ _ (w.heap.size+1) 38 _ (0,0) _ rfl (qr_ (qr_ (qr_ HSRX.out 0 _) 1 _) 2 _) hu2 rfl (by kernel_rfl)) rfl ?_
      rw [HRN.out]
      exact ⟨_,rfl,Kd.R_nil _ _ _ _ _,((HBW.out.setCell (Nat.le_add_right _ 1) _).setCell (Nat.le_add_right _ 1) _).setCell (Nat.le_add_right _ 1) _⟩
    · have hyg:Y.bad=false:=by simpa using hyb
      have ho:=HO4.out
      rw [outT_good hyg] at ho
      obtain ⟨rfl,rfl,rfl,rfl⟩:=ho
      have HSY:=Aside0.mk (HSM.out hyg)
      generalize termsT Y=ly at HS4 HV4 HSY HYZ
      clear hyb hyg HO4
      go_wp2_with (first
        | (go_at_call 124;refine (oneS _ 0).mono ?_;rintro e w5 ⟨rfl,hb⟩;have HB5:=Aside0.mk hb;clear hb)
        | ((with_reducible refine qd1_ (N:=20) rfl ?_);refine Kd.R_lit k77 _ 77 ?hg (N:=20) ?hd (xs:=[zeroF]) (inner:=[.int .i64 0,.int .i64 1]) (ok:=fun _=>True) (okp:=fun _=>True) ?hr ?hp (fun _ hk=>hk) trivial (Below.refl _ _) (Nat.le_refl _) (by simp) ?_;(case hd=>rfl);(case hg=>rfl);(case hr=>first|(go_simp;done)|(go_simp;rfl));(case hp=>exact ⟨rfl,fun j p hp=>by cases j with|zero=>(obtain rfl:=Option.some.inj hp;exact k77_mkM _ _ _ zeroF)|succ j=>simp at hp⟩);intro v3 w3 ho hb hg hnew;clear hg hnew;have HB3:=Aside0.mk hb;have HV3:=Aside0.mk (show FracsR w3 w5.heap.size v3 (logL 1) from ho);clear ho hb))
      have HX5:=Aside0.mk (HX4.out.below HB5.out)
      have HR5:=Aside0.mk (HR4.out.below HB5.out)
      have HS5:=Aside0.mk (HS4.out.below HB5.out)
      have HV5:=Aside0.mk (Kd.qe2_ HV4.out HB5.out)
      have HBW5:=Aside0.mk (qe_ HBW.out HB5.out)
      clear HX4 HR4 HS4 HV4
      go_loopg [6,7] (n+1) (fun gg v6 v7 wr=>∃ (i:Nat) (vs:Value),1≤i∧i≤n+1∧n+1 - i≤gg∧v6=vs∧v7=.int .i64 i∧Aside0 (FracsR wr w5.heap.size vs (logL i))∧Aside0 (Below w5.heap.size w5 wr))
      case atStart=>exact ⟨1,_,Nat.le_refl _,by omega,by omega,rfl,rfl,HV3,HB3⟩
      case round =>
        clear HV3 HB3
        obtain ⟨i,vs,hi1,hi,hg,he6,rfl,HV,HB⟩:=hrel
        have he6':=he6.symm
        subst he6'
        have HX:=Aside0.mk (HX5.out.below HB.out)
        have z1:=HX.out.c1
        by_cases hlt:i≤n
        · have hltz:(i:Int)≤(n:Int):=by omega
          have h8:i≤8:=by have:=H8.out;omega
          have HIW:=Aside0.mk h8
          go_wp2_with ((with_reducible refine qf2_ (b:=.append) (xs:=#[.tmp 27,.tmp 34]) rfl ?_);at_builtin;refine Kd.R_append k77 (w0:=w5) w5.heap.size rfl (.tmp 27) (.tmp 34) 124 77 (.agg #[(.int .i64 0),(.int .i64 0)]) 16 rfl Try.underlying124 info77 rfl (by decide) (by omega) vs (logL i) ⟨2 * ((i:Int) % 2) - 1,(i:Int)⟩ [.int .i64 (2 * ((i:Int) % 2) - 1),.int .i64 (i:Int)] (fun _=>True) (fun _=>False) rfl rfl ?aP (fun _ hk=>hk.elim) ?aF ?aO ?aB ?aS ?aL ?_;(case aP=>exact k77_mkM _ _ _ ⟨2 * ((i:Int) % 2) - 1,(i:Int)⟩);(case aB=>exact HB.out);(case aF=>exact (fun _ _=>trivial));(case aO=>exact HV.out);(case aS=>exact (qk_ HB.out));(case aL=>have:=H8.out;rw [logL_len];omega);intro v7 w7 ho hb hg hat;have HB7:=Aside0.mk hb;have HV7:=Aside0.mk ho;clear ho hb hg hat)
          all_goals
            go_roundg (n+1 - (i+1))
            case measure=>omega
            case rel =>
              refine ⟨i+1,_,by omega,by omega,by omega,rfl,by have:=H8.out;first|rfl|(rw [w64 (by omega) (by omega)];rfl),⟨?_⟩,HB7⟩
              have h7:=HV7.out
              have e7:logL (i+1)=logL i ++ [logF i]:=by rw [logL_succ,if_pos hi1]
              have e8:(⟨2 * ((i:Int) % 2) - 1,(i:Int)⟩:S77)=logF i:=S77.ext' (by show 2 * ((i:Int) % 2) - 1=1 - 2 * (((i:Int)+1) % 2);omega) rfl
              rw [e8] at h7
              rw [e7];exact h7
        · have hltz:¬ (i:Int)≤(n:Int):=by omega
          obtain rfl:i=n+1:=by omega
          obtain ⟨Av,cv,rfl⟩:=Kd.qy1_ HV.out
          have HS:=Aside0.mk (HS5.out.below HB.out)
          have p0:=HS.out.c0
          have p1:=HS.out.c1
          have p2:=HS.out.c2
          have HR:=Aside0.mk (HR5.out.below HB.out)
          have HBB:=Aside0.mk (qe_ HBW5.out HB.out)
          have HRC:=Aside0.mk (Kd.qy2_ HV.out).2.2
          have HYC:=Aside0.mk (show TmsC wr A4 c4 ly from (TmsC.of (Kd.qe2_ HV5.out HB.out) (by have:=HYZ.out;omega)).1)
          go_wp2_with (go_at_call 169;refine (HSY.out _ _ _ _ _ HYC.out HRC.out).mono ?_;rintro e w8 h8;obtain ⟨D,N,Ax,cx,lr,ok,rfl,ho,hv,hb⟩:=h8.val;have HOX:=Aside0.mk ho;have HVX:=Aside0.mk (show TermsR w8 w.heap.size (.slice Ax lr.length cx) lr from Kd.qi2_ hv HBB.out.size);have HBX:=Aside0.mk (qe_ HBB.out hb);have SR:=HR.out.below hb;have x0:(w8.alloc (.cells #[.int .i64 D,.int .i64 N,.slice Ax lr.length cx] 38)).cell? ⟨w.heap.size+1,0,none⟩=some (.int .i64 0):=(SrAt.alloc SR _).c0;have f0:(w8.alloc (.cells #[.int .i64 D,.int .i64 N,.slice Ax lr.length cx] 38)).frozen? ⟨w.heap.size+1,0,none⟩=false:=qd_ (SrAt.alloc SR (.cells #[.int .i64 D,.int .i64 N,.slice Ax lr.length cx] 38)) 0;have x1:(w8.alloc (.cells #[.int .i64 D,.int .i64 N,.slice Ax lr.length cx] 38)).cell? ⟨w.heap.size+1,1,none⟩=some (.int .i64 0):=(SrAt.alloc SR _).c1;have f1:(w8.alloc (.cells #[.int .i64 D,.int .i64 N,.slice Ax lr.length cx] 38)).frozen? ⟨w.heap.size+1,1,none⟩=false:=qd_ (SrAt.alloc SR (.cells #[.int .i64 D,.int .i64 N,.slice Ax lr.length cx] 38)) 1;have x2:(w8.alloc (.cells #[.int .i64 D,.int .i64 N,.slice Ax lr.length cx] 38)).cell? ⟨w.heap.size+1,2,none⟩=some (.slice none 0 0):=(SrAt.alloc SR _).c2;have f2:(w8.alloc (.cells #[.int .i64 D,.int .i64 N,.slice Ax lr.length cx] 38)).frozen? ⟨w.heap.size+1,2,none⟩=false:=qd_ (SrAt.alloc SR (.cells #[.int .i64 D,.int .i64 N,.slice Ax lr.length cx] 38)) 2;have HSRX:=Aside0.mk SR;clear SR h8 ho hv hb)
          refine bodyPost_ret (results_ct rfl _ _ (w.heap.size+1) 38 _ (0,0) _ rfl (qr_ (qr_ (qr_ (HSRX.out.alloc _) 0 _) 1 _) 2 _) hu2 rfl (by kernel_rfl)) rfl ?_
          refine OutR.of HOX.out ?_ (((qb_ HBX.out _).setCell (Nat.le_add_right _ 1) _).setCell (Nat.le_add_right _ 1) _ |>.setCell (Nat.le_add_right _ 1) _)
          exact R_box3 (Kd.qa1_ HVX.out _) (HSRX.out.alloc _) _ _ _
end Go.Proofs.Ytaiefdhenikiiaa.Base
namespace Go.Proofs.Ytaiefdhenikiiaa.Base
open Go.RowKit Go.Proofs.YtaiefdhenikiiaaW.PrintWords Go.Proofs.YtaiefdhenikiiaaW.PrintLast Go.Proofs.YtaiefdhenikiiaaW.PrintMore
set_option linter.unusedVariables false
set_option linter.unusedSimpArgs false
/-- The exponential of a step. -/
theorem stepExp (d n:Nat) (hs:Sz d n) (hn:1≤n) (row:List Int) (ho:okRow row):∀ W A c,TmsC W A c (termsT (stepT d n row))→Calls Try.prog 102 #[.agg #[.int .i64 (d:Int),.int .i64 (n:Int),.slice A (termsT (stepT d n row)).length c]] W (OutR W d n (outT (stepSigT d n row))):=fun W A c h=>expSp W d n hs (stepT_like hs ho) (stepN_good d n row row.length) h
set_option maxHeartbeats 32000000 in
set_option maxRecDepth 100000 in
theorem sigSp (w:World) (d n:Nat) (hs:Sz d n) (hn:1≤n) {A:Option Addr} {ca:Nat} {path:List (List Int)} (hA:Kd.C (Kd.slice 2 (Kd.int .i64)) w A path.length path) (hp:path.length≤1000000) (hl:∀ r ∈ path,r.length=d∧okRow r) :
    Calls Try.prog 115 #[.int .i64 (d:Int),.int .i64 (n:Int),.slice A path.length ca] w (OutR w d n (outT (sigT d n path))):=by
  have hu2:=Try.underlying38
  have hu3:=Try.underlying79
  have HA:=Aside0.mk hA
  have HS:=Aside0.mk hs
  have HL:=Aside0.mk hl
  have HP:=Aside0.mk hp
  have HN1:=Aside0.mk hn
  obtain ⟨R,hR⟩:∃ R,R=outT (sigT d n path):=⟨_,rfl⟩
  rw [← hR]
  have HBad:=Aside0.mk (show ∀ i,(sigT d n (path.take i)).bad=true→R=none from fun i h=>by rw [hR];exact outT_bad (sigT_bad i h))
  have HOwn:=Aside0.mk (show ∀ i (h:i < path.length),(stepSigT d n path[i]).bad=true→R=none from fun i h hb=>by rw [hR];exact outT_bad (sigT_own h hb))
  have HEnd:=Aside0.mk (show (sigT d n path).bad=false→R=some (termsT (sigT d n path)) from fun h=>by rw [hR];exact outT_good h)
  clear hA hs hl hR hp hn
  go_enter Try.func115,Try.ntmps115
  go_wp2_with (go_at_call 132;refine (unitS _ HS.out (nil_tms _)).mono ?_;rintro e w1 ⟨A1,c1,rfl,hv,hb⟩;have HB1:=Aside0.mk (show Below w.heap.size w w1 from qe_ (qb_ (Below.refl _ _) _) hb);have HSR:=Aside0.mk (show SrAt w1 w.heap.size 0 0 (.slice none 0 0) from ql_ (new_at rfl) hb);have HV1:=Aside0.mk (show TermsR w1 w.heap.size (.slice A1 (termsT (unitT d n)).length c1) (termsT (unitT d n)) from Kd.qi2_ hv (qk_ (qb_ (Below.refl w.heap.size w) _)));clear hv hb)
  generalize hW:World.alloc w1 _=W1
  have HS6:=Aside0.mk (show SrAt W1 w1.heap.size d n (.slice A1 (termsT (sigT d n (path.take 0))).length c1) from by rw [← hW,List.take_zero];exact new_at rfl)
  have HV6:=Aside0.mk (show TermsR W1 w.heap.size (.slice A1 (termsT (sigT d n (path.take 0))).length c1) (termsT (sigT d n (path.take 0))) from by rw [← hW,List.take_zero];exact Kd.qa1_ HV1.out _)
  have HSR1:=Aside0.mk (show SrAt W1 w.heap.size 0 0 (.slice none 0 0) from by rw [← hW];exact HSR.out.alloc _)
  have HB2:=Aside0.mk (show Below w.heap.size w W1 from by rw [← hW];exact qb_ HB1.out _)
  have HLO:=Aside0.mk (show w.heap.size < w1.heap.size from HSR.out.lt)
  have HG0:=Aside0.mk (show (sigT d n (path.take 0)).bad=false from by rw [List.take_zero];rfl)
  obtain ⟨b6,hb6⟩:∃ b,b=w1.heap.size:=⟨_,rfl⟩
  rw [← hb6] at HS6 HLO ⊢
  clear hW HV1 HSR HB1 hb6
  go_loopg [9] path.length (fun gg v9 wr=>∃ (i:Nat) (A6:Option Addr) (c6:Nat),i≤path.length∧path.length - i≤gg∧v9=.int .i64 i∧Aside0 ((sigT d n (path.take i)).bad=false)∧Aside0 (SrAt wr b6 d n (.slice A6 (termsT (sigT d n (path.take i))).length c6))∧Aside0 (TermsR wr w.heap.size (.slice A6 (termsT (sigT d n (path.take i))).length c6) (termsT (sigT d n (path.take i))))∧Aside0 (SrAt wr w.heap.size 0 0 (.slice none 0 0))∧Aside0 (Below w.heap.size w wr))
  case atStart=>exact ⟨0,A1,c1,Nat.zero_le _,by omega,rfl,HG0,HS6,HV6,HSR1,HB2⟩
  case round =>
    clear HS6 HV6 HSR1 HB2 HG0
    obtain ⟨i,A6,c6,hi,hg,rfl,HG,HS6,HV6,HSR,HB⟩:=hrel
    by_cases hlt:i < path.length
    · have hltz:(i:Int) < (path.length:Int):=by omega
      obtain ⟨ad,A0,c0,rfl,x0,hc0,hK⟩:=rows_at (Kd.qv1_ HA.out HB.out) i hlt
      have e1:path.getD i []=path[i]:=by rw [List.getD_eq_getElem?_getD,List.getElem?_eq_getElem hlt,Option.getD_some]
      obtain ⟨row,hrow⟩:∃ row,row=path[i]:=⟨_,rfl⟩
      rw [e1,← hrow] at x0 hK hc0
      have hm:row ∈ path:=by rw [hrow];exact List.getElem_mem hlt
      obtain ⟨hm1,hm2⟩:=HL.out row hm
      have HST:=Aside0.mk (show ∀ W,Below wr.heap.size wr W→Calls Try.prog 103 #[.int .i64 (d:Int),.int .i64 (n:Int),.slice A0 row.length c0] W fun e w'=>∃ v:Value,e=.returned (.agg #[.int .i64 (d:Int),.int .i64 (n:Int),v])∧TermsR w' W.heap.size v (termsT (stepT d n row))∧Below W.heap.size W w' from fun W hW=>stepSp W d n HS.out HN1.out hm1 (Kd.qv1_ hK hW) hc0)
      have hEX:=stepExp d n HS.out HN1.out row hm2
      have HSL:=Aside0.mk (terms_len (stepT_like HS.out hm2) HS.out)
      obtain ⟨T,hT⟩:∃ T,T=sigT d n (path.take i):=⟨_,rfl⟩
      obtain ⟨U,hU⟩:∃ U,U=stepSigT d n row:=⟨_,rfl⟩
      have HN:=Aside0.mk (show sigT d n (path.take (i+1))=timesT T U from by rw [sigT_succ d n path hlt,← hrow,hT,hU])
      have HTL:=Aside0.mk (show Like T (zeroT d n) from by rw [hT];exact sigT_like HS.out _)
      have HUL:=Aside0.mk (show Like U (zeroT d n) from by rw [hU];exact stepSigT_like HS.out _)
      have HOB:=Aside0.mk (show U.bad=true→R=none from fun h=>HOwn.out i hlt (by rw [← hrow,← hU];exact h))
      rw [← hT] at HG HS6 HV6
      rw [← hU] at hEX
      obtain ⟨ls,hls⟩:∃ ls,ls=termsT (stepT d n row):=⟨_,rfl⟩
      rw [← hls] at HST hEX HSL
      clear hrow hm hm1 hm2 e1 hT hU hls hK hc0
      have y0:=HSL.out
      by_cases hub:U.bad=true
      · have HRN:=Aside0.mk (HOB.out hub)
        rw [outT_bad hub] at hEX
        have HEX:=Aside0.mk hEX
        clear hEX hub y0
        go_wp2_with (first
          | (go_at_call 103;refine (HST.out _ (Below.refl _ _)).mono ?_;rintro e w3 ⟨v,rfl,hv,hb⟩;obtain ⟨A3,c3,rfl⟩:=Kd.qy1_ hv;have HB3:=Aside0.mk (show Below wr.heap.size wr w3 from hb);have HT3:=Aside0.mk (TmsC.of hv (by have:=HSL.out;omega)).1;clear hv hb)
          | (go_at_call 102;refine (HEX.out _ _ _ HT3.out).mono ?_;rintro e w4 ⟨v,rfl,hv,hb⟩;obtain ⟨A4,c4,rfl⟩:=Kd.qy1_ hv;have HB4:=Aside0.mk (show Below w.heap.size w w4 from qe_ (qe_ HB.out HB3.out) hb);have SR:=(HSR.out.below HB3.out).below hb;have s0:(w4.alloc (.cells #[.int .i64 0,.int .i64 0,.slice A4 0 c4] 38)).cell? ⟨w.heap.size,0,none⟩=some (.int .i64 0):=SrAt.c0 (SrAt.alloc SR _);have sf0:(w4.alloc (.cells #[.int .i64 0,.int .i64 0,.slice A4 0 c4] 38)).frozen? ⟨w.heap.size,0,none⟩=false:=qd_ (SrAt.alloc SR _) 0;have s1:(w4.alloc (.cells #[.int .i64 0,.int .i64 0,.slice A4 0 c4] 38)).cell? ⟨w.heap.size,1,none⟩=some (.int .i64 0):=SrAt.c1 (SrAt.alloc SR _);have sf1:(w4.alloc (.cells #[.int .i64 0,.int .i64 0,.slice A4 0 c4] 38)).frozen? ⟨w.heap.size,1,none⟩=false:=qd_ (SrAt.alloc SR _) 1;have s2:(w4.alloc (.cells #[.int .i64 0,.int .i64 0,.slice A4 0 c4] 38)).cell? ⟨w.heap.size,2,none⟩=some (.slice none 0 0):=SrAt.c2 (SrAt.alloc SR _);have sf2:(w4.alloc (.cells #[.int .i64 0,.int .i64 0,.slice A4 0 c4] 38)).frozen? ⟨w.heap.size,2,none⟩=false:=qd_ (SrAt.alloc SR _) 2;have HSR4:=Aside0.mk SR;clear SR hv hb))
        refine bodyPost_ret (results_ct rfl _ _ w.heap.size 38 _ (0,0) _ rfl (qr_ (qr_ (qr_ (HSR4.out.alloc _) 0 _) 1 _) 2 _) hu2 rfl (by kernel_rfl)) rfl ?_
        rw [HRN.out]
        exact ⟨_,rfl,Kd.R_nil _ _ _ _ _,below_box3 (qb_ HB4.out _) (Nat.le_refl _) _ _ _⟩
      · have hug:U.bad=false:=by simpa using hub
        rw [outT_good hug] at hEX
        have HEX:=Aside0.mk hEX
        have hTI:∀ W B c C e,TmsC W B c (termsT T)→TmsC W C e (termsT U)→Calls Try.prog 133 #[.agg #[.int .i64 (d:Int),.int .i64 (n:Int),.slice B (termsT T).length c],.agg #[.int .i64 (d:Int),.int .i64 (n:Int),.slice C (termsT U).length e]] W (OutR W d n (outT (timesT T U))):=fun W B c C e h1 h2=>timesS W d n HS.out HTL.out HUL.out HG.out hug h1 h2
        have HT6:=Aside0.mk (show TmsC wr A6 c6 (termsT T) from (TmsC.of HV6.out (by have:=terms_len HTL.out HS.out;omega)).1)
        have HTLL:=Aside0.mk (terms_len HTL.out HS.out)
        have HULL:=Aside0.mk (terms_len HUL.out HS.out)
        by_cases hpb:(timesT T U).bad=true
        · have HRN:=Aside0.mk (HBad.out (i+1) (by rw [HN.out];exact hpb))
          rw [outT_bad hpb] at hTI
          have HTI:=Aside0.mk hTI
          clear hTI hEX hub hug hpb y0
          generalize termsT T=lt at HTI HT6 HS6 HV6 HTLL
          generalize termsT U=lu at HTI HEX HULL
          go_wp2_with (first
            | (go_at_call 103;refine (HST.out _ (Below.refl _ _)).mono ?_;rintro e w3 ⟨v,rfl,hv,hb⟩;obtain ⟨A3,c3,rfl⟩:=Kd.qy1_ hv;have HB3:=Aside0.mk (show Below wr.heap.size wr w3 from hb);have HT3:=Aside0.mk (TmsC.of hv (by have:=HSL.out;omega)).1;clear hv hb)
            | (go_at_call 102;refine (HEX.out _ _ _ HT3.out).mono ?_;rintro e w4 ⟨v,rfl,hv,hb⟩;obtain ⟨A4,c4,rfl⟩:=Kd.qy1_ hv;have HB4:=Aside0.mk (show Below wr.heap.size wr w4 from qe_ HB3.out hb);have HC4:=Aside0.mk (TmsC.of hv (by have:=HULL.out;omega)).1;have S6:=HS6.out.below HB4.out;have q0:(w4.alloc (.cells #[.int .i64 (d:Int),.int .i64 (n:Int),.slice A4 lu.length c4] 38)).cell? ⟨b6,0,none⟩=some (.int .i64 (d:Int)):=SrAt.c0 (SrAt.alloc S6 _);have q1:(w4.alloc (.cells #[.int .i64 (d:Int),.int .i64 (n:Int),.slice A4 lu.length c4] 38)).cell? ⟨b6,1,none⟩=some (.int .i64 (n:Int)):=SrAt.c1 (SrAt.alloc S6 _);have q2:(w4.alloc (.cells #[.int .i64 (d:Int),.int .i64 (n:Int),.slice A4 lu.length c4] 38)).cell? ⟨b6,2,none⟩=some (.slice A6 lt.length c6):=SrAt.c2 (SrAt.alloc S6 _);have HS64:=Aside0.mk S6;clear S6 hv hb)
            | (go_at_call 133;refine (HTI.out _ _ _ _ _ (HT6.out.below (qb_ HB4.out _)) (HC4.out.below (qb_ (Below.refl _ _) _))).mono ?_;rintro e w5 ⟨v,rfl,hv,hb⟩;obtain ⟨A5,c5,rfl⟩:=Kd.qy1_ hv;have HW5:=Aside0.mk (show Below wr.heap.size wr w5 from qe_ (qb_ HB4.out _) hb);have HB5:=Aside0.mk (show Below w.heap.size w w5 from qe_ HB.out HW5.out);clear q0 q1 q2;have SR:=HSR.out.below HW5.out;have s0:(w5.alloc (.cells #[.int .i64 0,.int .i64 0,.slice A5 0 c5] 38)).cell? ⟨w.heap.size,0,none⟩=some (.int .i64 0):=SrAt.c0 (SrAt.alloc SR _);have sf0:(w5.alloc (.cells #[.int .i64 0,.int .i64 0,.slice A5 0 c5] 38)).frozen? ⟨w.heap.size,0,none⟩=false:=qd_ (SrAt.alloc SR _) 0;have s1:(w5.alloc (.cells #[.int .i64 0,.int .i64 0,.slice A5 0 c5] 38)).cell? ⟨w.heap.size,1,none⟩=some (.int .i64 0):=SrAt.c1 (SrAt.alloc SR _);have sf1:(w5.alloc (.cells #[.int .i64 0,.int .i64 0,.slice A5 0 c5] 38)).frozen? ⟨w.heap.size,1,none⟩=false:=qd_ (SrAt.alloc SR _) 1;have s2:(w5.alloc (.cells #[.int .i64 0,.int .i64 0,.slice A5 0 c5] 38)).cell? ⟨w.heap.size,2,none⟩=some (.slice none 0 0):=SrAt.c2 (SrAt.alloc SR _);have sf2:(w5.alloc (.cells #[.int .i64 0,.int .i64 0,.slice A5 0 c5] 38)).frozen? ⟨w.heap.size,2,none⟩=false:=qd_ (SrAt.alloc SR _) 2;have HSR5:=Aside0.mk SR;clear SR hv hb))
          refine bodyPost_ret (results_ct rfl _ _ w.heap.size 38 _ (0,0) _ rfl (qr_ (qr_ (qr_ (HSR5.out.alloc _) 0 _) 1 _) 2 _) hu2 rfl (by kernel_rfl)) rfl ?_
          rw [HRN.out]
          exact ⟨_,rfl,Kd.R_nil _ _ _ _ _,below_box3 (qb_ HB5.out _) (Nat.le_refl _) _ _ _⟩
        · have hpg:(timesT T U).bad=false:=by simpa using hpb
          rw [outT_good hpg] at hTI
          have HTI:=Aside0.mk hTI
          have HG2:=Aside0.mk (show (sigT d n (path.take (i+1))).bad=false from by rw [HN.out];exact hpg)
          obtain ⟨lp,hlp⟩:∃ l,l=termsT (timesT T U):=⟨_,rfl⟩
          have HNP:=Aside0.mk (show termsT (sigT d n (path.take (i+1)))=lp from by rw [HN.out,hlp])
          rw [← hlp] at HTI
          clear hTI hEX hub hug hpb hpg y0 hlp
          generalize termsT T=lt at HTI HT6 HS6 HV6 HTLL
          generalize termsT U=lu at HTI HEX HULL
          go_wp2_with (first
            | (go_at_call 103;refine (HST.out _ (Below.refl _ _)).mono ?_;rintro e w3 ⟨v,rfl,hv,hb⟩;obtain ⟨A3,c3,rfl⟩:=Kd.qy1_ hv;have HB3:=Aside0.mk (show Below wr.heap.size wr w3 from hb);have HT3:=Aside0.mk (TmsC.of hv (by have:=HSL.out;omega)).1;clear hv hb)
            | (go_at_call 102;refine (HEX.out _ _ _ HT3.out).mono ?_;rintro e w4 ⟨v,rfl,hv,hb⟩;obtain ⟨A4,c4,rfl⟩:=Kd.qy1_ hv;have HB4:=Aside0.mk (show Below wr.heap.size wr w4 from qe_ HB3.out hb);have HC4:=Aside0.mk (TmsC.of hv (by have:=HULL.out;omega)).1;have S6:=HS6.out.below HB4.out;have q0:(w4.alloc (.cells #[.int .i64 (d:Int),.int .i64 (n:Int),.slice A4 lu.length c4] 38)).cell? ⟨b6,0,none⟩=some (.int .i64 (d:Int)):=SrAt.c0 (SrAt.alloc S6 _);have q1:(w4.alloc (.cells #[.int .i64 (d:Int),.int .i64 (n:Int),.slice A4 lu.length c4] 38)).cell? ⟨b6,1,none⟩=some (.int .i64 (n:Int)):=SrAt.c1 (SrAt.alloc S6 _);have q2:(w4.alloc (.cells #[.int .i64 (d:Int),.int .i64 (n:Int),.slice A4 lu.length c4] 38)).cell? ⟨b6,2,none⟩=some (.slice A6 lt.length c6):=SrAt.c2 (SrAt.alloc S6 _);have HS64:=Aside0.mk S6;clear S6 hv hb)
            | (go_at_call 133;refine (HTI.out _ _ _ _ _ (HT6.out.below (qb_ HB4.out _)) (HC4.out.below (qb_ (Below.refl _ _) _))).mono ?_;rintro e w5 ⟨v,rfl,hv,hb⟩;obtain ⟨A5,c5,rfl⟩:=Kd.qy1_ hv;have HW5:=Aside0.mk (show Below wr.heap.size wr w5 from qe_ (qb_ HB4.out _) hb);have HB5:=Aside0.mk (show Below w.heap.size w w5 from qe_ HB.out HW5.out);clear q0 q1 q2;have SR:=HSR.out.below HW5.out;have HSR5:=Aside0.mk SR;have S6:=HS6.out.below HW5.out;have q0:(w5.alloc (.cells #[.int .i64 (d:Int),.int .i64 (n:Int),.slice A5 lp.length c5] 38)).cell? ⟨b6,0,none⟩=some (.int .i64 (d:Int)):=SrAt.c0 (SrAt.alloc S6 _);have qf0:(w5.alloc (.cells #[.int .i64 (d:Int),.int .i64 (n:Int),.slice A5 lp.length c5] 38)).frozen? ⟨b6,0,none⟩=false:=qd_ (SrAt.alloc S6 _) 0;have q1:(w5.alloc (.cells #[.int .i64 (d:Int),.int .i64 (n:Int),.slice A5 lp.length c5] 38)).cell? ⟨b6,1,none⟩=some (.int .i64 (n:Int)):=SrAt.c1 (SrAt.alloc S6 _);have qf1:(w5.alloc (.cells #[.int .i64 (d:Int),.int .i64 (n:Int),.slice A5 lp.length c5] 38)).frozen? ⟨b6,1,none⟩=false:=qd_ (SrAt.alloc S6 _) 1;have q2:(w5.alloc (.cells #[.int .i64 (d:Int),.int .i64 (n:Int),.slice A5 lp.length c5] 38)).cell? ⟨b6,2,none⟩=some (.slice A6 lt.length c6):=SrAt.c2 (SrAt.alloc S6 _);have qf2:(w5.alloc (.cells #[.int .i64 (d:Int),.int .i64 (n:Int),.slice A5 lp.length c5] 38)).frozen? ⟨b6,2,none⟩=false:=qd_ (SrAt.alloc S6 _) 2;have HS65:=Aside0.mk S6;have HV5:=Aside0.mk (show TermsR w5 w.heap.size (.slice A5 lp.length c5) lp from Kd.qi2_ hv (Nat.le_trans HB.out.size (qk_ (qb_ HB4.out _))));clear SR S6 hv hb))
          go_roundg (path.length - (i+1))
          case measure=>omega
          case rel =>
            refine ⟨i+1,A5,c5,by omega,by omega,by have:=HP.out;first|rfl|(rw [w64 (by omega) (by omega)];rfl),HG2,⟨?_⟩,⟨?_⟩,⟨?_⟩,⟨?_⟩⟩
            · rw [HNP.out];exact (HS65.out.alloc _).box3
            · rw [HNP.out];exact R_box3 (Kd.qa1_ HV5.out _) (HS65.out.alloc _) _ _ _
            · exact (HSR5.out.alloc _).far3 (by have:=HLO.out;omega) _ _ _
            · exact below_box3 (qb_ HB5.out _) (by have:=HLO.out;omega) _ _ _
    · have hltz:¬ (i:Int) < (path.length:Int):=by omega
      obtain rfl:i=path.length:=by omega
      rw [List.take_length] at HG HS6 HV6
      have HRN:=Aside0.mk (HEnd.out HG.out)
      have q0:wr.cell? ⟨b6,0,none⟩=some (.int .i64 (d:Int)):=SrAt.c0 HS6.out
      have q1:wr.cell? ⟨b6,1,none⟩=some (.int .i64 (n:Int)):=SrAt.c1 HS6.out
      have q2:wr.cell? ⟨b6,2,none⟩=some (.slice A6 (termsT (sigT d n path)).length c6):=SrAt.c2 HS6.out
      have s0:wr.cell? ⟨w.heap.size,0,none⟩=some (.int .i64 0):=SrAt.c0 HSR.out
      have sf0:wr.frozen? ⟨w.heap.size,0,none⟩=false:=qd_ HSR.out 0
      have s1:wr.cell? ⟨w.heap.size,1,none⟩=some (.int .i64 0):=SrAt.c1 HSR.out
      have sf1:wr.frozen? ⟨w.heap.size,1,none⟩=false:=qd_ HSR.out 1
      have s2:wr.cell? ⟨w.heap.size,2,none⟩=some (.slice none 0 0):=SrAt.c2 HSR.out
      have sf2:wr.frozen? ⟨w.heap.size,2,none⟩=false:=qd_ HSR.out 2
      go_wp2
      refine bodyPost_ret (results_ct rfl _ _ w.heap.size 38 _ (0,0) _ rfl (qr_ (qr_ (qr_ HSR.out 0 _) 1 _) 2 _) hu2 rfl (by kernel_rfl)) rfl ?_
      rw [HRN.out]
      refine ⟨_,rfl,?_,below_box3 HB.out (Nat.le_refl _) _ _ _⟩
      exact R_box3 HV6.out HSR.out _ _ _
end Go.Proofs.Ytaiefdhenikiiaa.Base
namespace Go.Proofs.Ytaiefdhenikiiaa.Base
open Go.RowKit Go.Proofs.YtaiefdhenikiiaaW.PrintWords Go.Proofs.YtaiefdhenikiiaaW.PrintLast Go.Proofs.YtaiefdhenikiiaaW.PrintMore
attribute [local go_sem] max2_int qp1_ max_two min_two max_three min_three max_four min_four Go.Proofs.YtaiefdhenikiiaaZ.qt_   -- for this text's walks alone
set_option linter.unusedVariables false
set_option linter.unusedSimpArgs false
def qb3_.f (a0:Int) (a1:Int) (l2:List (List Int)):Option (Int × Int × (List S79) × Int):=if l2.length≤1048576∧(∀ r ∈ l2,r.length≤1048576) then some (sigR a0 a1 l2) else none
set_option maxHeartbeats 8000000 in
set_option maxRecDepth 100000 in
theorem qb3_.calls (a0:Int) (a1:Int) (A2:Option Addr) (c2:Nat) (l2:List (List Int)) (r1:Int) (r2:Int) (r3:List (S79)) (r4:Int) (w:World) (hr2:Kd.C (Kd.slice 2 (Kd.int .i64)) w A2 l2.length l2) (hc2:l2.length≤c2) (h:qb3_.f a0 a1 l2=some (r1,r2,r3,r4)) :
  Calls Try.prog 63 #[.int .i64 a0,.int .i64 a1,.slice A2 l2.length c2] w fun e w'=>∃ v2_:Value,e=.returned (.tuple #[.agg #[.int .i64 r1,.int .i64 r2,v2_],.int .i64 r4])∧Kd.R k79 79 w' w.heap.size (fun _=>True) v2_ r3∧Below w.heap.size w w':=by
 unfold qb3_.f at h
 split at h
 rotate_left
 ·cases h
 rename_i hsm
 have h:=Option.some.inj h
 have hu:=Try.underlying38
 obtain ⟨k,hk⟩:=(pcode_spec a0 a1 [l2] (by simp) (fun p hp=>by
  obtain rfl:p=l2:=by simpa using hp
  exact hsm)).rounds
 rw [show [l2].all (Go.Proofs.YtaiefdhenikiiaaC.isPath a0)=Go.Proofs.YtaiefdhenikiiaaC.isPath a0 l2 from by simp] at hk
 have HR:=aK hr2
 have HC:=aK hc2
 clear hr2 hc2
 unfold sigR at h
 obtain ⟨q,hq⟩:∃ q,q=codeP a0 a1 (Go.Proofs.YtaiefdhenikiiaaC.isPath a0 l2):=⟨_,rfl⟩
 rw [← hq] at h hk
 by_cases c:q=0
 ·rw [if_pos c] at h
  obtain ⟨hb_,d,n,rfl,rfl,hs,hn⟩:=codeP_good (hq.symm.trans c)
  obtain ⟨hpl,hok⟩:=okP hb_
  rw [Int.toNat_natCast,Int.toNat_natCast] at h
  rw [c] at hk
  have HK:=aK hk
  obtain ⟨T,hT⟩:∃ T,T=sigT d n l2:=⟨_,rfl⟩
  rw [← hT] at h
  have hlk:Like T (zeroT d n):=by rw [hT];exact sigT_like hs l2
  have hI:∀ W,Below w.heap.size w W→Calls Try.prog 115 #[.int .i64 (d:Int),.int .i64 (n:Int),.slice A2 l2.length c2] W (OutR W d n (outT T)):=fun W hW=>by rw [hT];exact sigSp W d n hs hn (Kd.qv1_ HR.out hW) (by omega) (fun r hr=>⟨by have:=(hok r hr).1;omega,(hok r hr).2⟩)
  unfold serR at h
  by_cases hb:T.bad=true
  ·rw [if_pos hb] at h
   rw [outT_bad hb] at hI
   simp only [Prod.mk.injEq] at h
   obtain ⟨rfl,rfl,rfl,rfl⟩:=h
   have HI:=aK hI
   clear hk c hs hsm hT hlk hI hb hb_ hok hpl hn hq
   go_enter Try.func63,Try.ntmps63
   go_wp2_with (first
    | (go_at_call 101;refine (qr1_.calls k _ _ _ _ [l2] _ _ (lit1 (Kd.qv1_ HR.out (qb_ (Below.refl _ _) _)) HC.out (by simp)) (by simp) HK.out).mono ?_;rintro e w1 ⟨rfl,hd⟩;have HB1:=aK (show Below w.heap.size w w1 from qe_ (qb_ (qb_ (Below.refl _ _) _) _) hd.below);have S:SrAt w1 w.heap.size 0 0 (.slice none 0 0):=ql_ (old_at (new_at rfl)) hd.below;have HS1:=aK S;clear S hd)
    | (go_at_call 115;refine (HI.out _ HB1.out).mono ?_;rintro e w2 ⟨v,rfl,hv,hb⟩;obtain ⟨A1,c1,rfl⟩:=Kd.qy1_ hv;have HB2:=aK (qe_ HB1.out hb);have S:=HS1.out.below hb;have x0:(w2.alloc (.cells #[.int .i64 0,.int .i64 0,.slice A1 0 c1] 38)).cell? ⟨w.heap.size,0,none⟩=some (.int .i64 0):=SrAt.c0 (SrAt.alloc S _);have xf0:(w2.alloc (.cells #[.int .i64 0,.int .i64 0,.slice A1 0 c1] 38)).frozen? ⟨w.heap.size,0,none⟩=false:=qd_ (SrAt.alloc S _) 0;have x1:(w2.alloc (.cells #[.int .i64 0,.int .i64 0,.slice A1 0 c1] 38)).cell? ⟨w.heap.size,1,none⟩=some (.int .i64 0):=SrAt.c1 (SrAt.alloc S _);have xf1:(w2.alloc (.cells #[.int .i64 0,.int .i64 0,.slice A1 0 c1] 38)).frozen? ⟨w.heap.size,1,none⟩=false:=qd_ (SrAt.alloc S _) 1;have x2:(w2.alloc (.cells #[.int .i64 0,.int .i64 0,.slice A1 0 c1] 38)).cell? ⟨w.heap.size,2,none⟩=some (.slice none 0 0):=SrAt.c2 (SrAt.alloc S _);have xf2:(w2.alloc (.cells #[.int .i64 0,.int .i64 0,.slice A1 0 c1] 38)).frozen? ⟨w.heap.size,2,none⟩=false:=qd_ (SrAt.alloc S _) 2;have HS2:=aK S;clear S hv hb))
   refine bodyPost_ret (results_ct rfl _ _ w.heap.size 38 _ (0,0) _ rfl (qr_ (qr_ (qr_ (HS2.out.alloc _) 0 _) 1 _) 2 _) hu rfl (by kernel_rfl)) rfl ?_
   exact ⟨_,rfl,Kd.R_nil _ _ _ _ _,(((qb_ HB2.out _).setCell (Nat.le_refl _) _).setCell (Nat.le_refl _) _).setCell (Nat.le_refl _) _⟩
  ·have hg:T.bad=false:=by simpa using hb
   rw [if_neg hb] at h
   rw [outT_good hg] at hI
   simp only [Prod.mk.injEq] at h
   obtain ⟨rfl,rfl,rfl,rfl⟩:=h
   have HD:=aK hlk
   obtain ⟨lt,hlt⟩:∃ l,l=termsT T:=⟨_,rfl⟩
   rw [← hlt] at hI ⊢
   have HI:=aK hI
   clear hk c hs hsm hT hlk hI hb hg hlt hb_ hok hpl hn hq
   go_enter Try.func63,Try.ntmps63
   go_wp2_with (first
    | (go_at_call 101;refine (qr1_.calls k _ _ _ _ [l2] _ _ (lit1 (Kd.qv1_ HR.out (qb_ (Below.refl _ _) _)) HC.out (by simp)) (by simp) HK.out).mono ?_;rintro e w1 ⟨rfl,hd⟩;have HB1:=aK (show Below w.heap.size w w1 from qe_ (qb_ (qb_ (Below.refl _ _) _) _) hd.below);have S:SrAt w1 w.heap.size 0 0 (.slice none 0 0):=ql_ (old_at (new_at rfl)) hd.below;have HS1:=aK S;clear S hd)
    | (go_at_call 115;refine (HI.out _ HB1.out).mono ?_;rintro e w2 ⟨v,rfl,hv,hb⟩;obtain ⟨A1,c1,rfl⟩:=Kd.qy1_ hv;have HB2:=aK (qe_ HB1.out hb);have HV:=aK (Kd.qi2_ hv HB1.out.size);have S:=HS1.out.below hb;have x0:(w2.alloc (.cells #[.int .i64 (d:Int),.int .i64 (n:Int),.slice A1 lt.length c1] 38)).cell? ⟨w.heap.size,0,none⟩=some (.int .i64 0):=SrAt.c0 (SrAt.alloc S _);have xf0:(w2.alloc (.cells #[.int .i64 (d:Int),.int .i64 (n:Int),.slice A1 lt.length c1] 38)).frozen? ⟨w.heap.size,0,none⟩=false:=qd_ (SrAt.alloc S _) 0;have x1:(w2.alloc (.cells #[.int .i64 (d:Int),.int .i64 (n:Int),.slice A1 lt.length c1] 38)).cell? ⟨w.heap.size,1,none⟩=some (.int .i64 0):=SrAt.c1 (SrAt.alloc S _);have xf1:(w2.alloc (.cells #[.int .i64 (d:Int),.int .i64 (n:Int),.slice A1 lt.length c1] 38)).frozen? ⟨w.heap.size,1,none⟩=false:=qd_ (SrAt.alloc S _) 1;have x2:(w2.alloc (.cells #[.int .i64 (d:Int),.int .i64 (n:Int),.slice A1 lt.length c1] 38)).cell? ⟨w.heap.size,2,none⟩=some (.slice none 0 0):=SrAt.c2 (SrAt.alloc S _);have xf2:(w2.alloc (.cells #[.int .i64 (d:Int),.int .i64 (n:Int),.slice A1 lt.length c1] 38)).frozen? ⟨w.heap.size,2,none⟩=false:=qd_ (SrAt.alloc S _) 2;have HS2:=aK S;clear S hv hb))
   refine bodyPost_ret (results_ct rfl _ _ w.heap.size 38 _ (0,0) _ rfl (qr_ (qr_ (qr_ (HS2.out.alloc _) 0 _) 1 _) 2 _) hu rfl (by kernel_rfl)) rfl ?_
   refine ⟨.slice A1 lt.length c1,by rw [HD.out.1,HD.out.2.1];rfl,?_,(((qb_ HB2.out _).setCell (Nat.le_refl _) _).setCell (Nat.le_refl _) _).setCell (Nat.le_refl _) _⟩
   exact R_box3 (Kd.qa1_ HV.out _) (HS2.out.alloc _) _ _ _
 ·rw [if_neg c] at h
  simp only [Prod.mk.injEq] at h
  obtain ⟨rfl,rfl,rfl,rfl⟩:=h
  have HK:=aK hk
  clear hk hsm hq
  go_enter Try.func63,Try.ntmps63
  go_wp2_with (go_at_call 101;refine (qr1_.calls k _ _ _ _ [l2] _ _ (lit1 (Kd.qv1_ HR.out (qb_ (Below.refl _ _) _)) HC.out (by simp)) (by simp) HK.out).mono ?_;rintro e w1 ⟨rfl,hd⟩;have HB1:=aK (show Below w.heap.size w w1 from qe_ (qb_ (qb_ (Below.refl _ _) _) _) hd.below);have S:SrAt w1 w.heap.size 0 0 (.slice none 0 0):=ql_ (old_at (new_at rfl)) hd.below;have x0:w1.cell? ⟨w.heap.size,0,none⟩=some (.int .i64 0):=SrAt.c0 S;have xf0:w1.frozen? ⟨w.heap.size,0,none⟩=false:=qd_ S 0;have x1:w1.cell? ⟨w.heap.size,1,none⟩=some (.int .i64 0):=SrAt.c1 S;have xf1:w1.frozen? ⟨w.heap.size,1,none⟩=false:=qd_ S 1;have x2:w1.cell? ⟨w.heap.size,2,none⟩=some (.slice none 0 0):=SrAt.c2 S;have xf2:w1.frozen? ⟨w.heap.size,2,none⟩=false:=qd_ S 2;have HS1:=aK S;clear S hd)
  refine bodyPost_ret (results_ct rfl _ _ w.heap.size 38 _ (0,0) _ rfl (qr_ (qr_ (qr_ HS1.out 0 _) 1 _) 2 _) hu rfl (by kernel_rfl)) rfl ?_
  exact ⟨_,rfl,Kd.R_nil _ _ _ _ _,((HB1.out.setCell (Nat.le_refl _) _).setCell (Nat.le_refl _) _).setCell (Nat.le_refl _) _⟩
end Go.Proofs.Ytaiefdhenikiiaa.Base
namespace Go.Proofs.Ytaiefdhenikiiaa.Base
open Go.RowKit Go.Proofs.YtaiefdhenikiiaaW.PrintWords Go.Proofs.YtaiefdhenikiiaaW.PrintLast Go.Proofs.YtaiefdhenikiiaaW.PrintMore
attribute [local go_sem] max2_int qp1_ max_two min_two max_three min_three max_four min_four Go.Proofs.YtaiefdhenikiiaaZ.qt_   -- for this text's walks alone
set_option linter.unusedVariables false
set_option linter.unusedSimpArgs false
def qt2_.f (a0:Int) (a1:Int) (l2:List (List Int)):Option (Int × Int × (List S79) × Int):=if l2.length≤1048576∧(∀ r ∈ l2,r.length≤1048576) then some (logR a0 a1 l2) else none
set_option maxHeartbeats 8000000 in
set_option maxRecDepth 100000 in
theorem qt2_.calls (a0:Int) (a1:Int) (A2:Option Addr) (c2:Nat) (l2:List (List Int)) (r1:Int) (r2:Int) (r3:List (S79)) (r4:Int) (w:World) (hr2:Kd.C (Kd.slice 2 (Kd.int .i64)) w A2 l2.length l2) (hc2:l2.length≤c2) (h:qt2_.f a0 a1 l2=some (r1,r2,r3,r4)) :
  Calls Try.prog 71 #[.int .i64 a0,.int .i64 a1,.slice A2 l2.length c2] w fun e w'=>∃ v2_:Value,e=.returned (.tuple #[.agg #[.int .i64 r1,.int .i64 r2,v2_],.int .i64 r4])∧Kd.R k79 79 w' w.heap.size (fun _=>True) v2_ r3∧Below w.heap.size w w':=by
 unfold qt2_.f at h
 split at h
 rotate_left
 ·cases h
 rename_i hsm
 have h:=Option.some.inj h
 have hu:=Try.underlying38
 obtain ⟨⟨s1,s2,s3,s4⟩,hser⟩:∃ q,q=sigR a0 a1 l2:=⟨_,rfl⟩
 have HSP:=aK (show ∀ W,Below w.heap.size w W→Calls Try.prog 63 #[.int .i64 a0,.int .i64 a1,.slice A2 l2.length c2] W (SerRes W s1 s2 s3 s4) from fun W hW=>qb3_.calls a0 a1 A2 c2 l2 s1 s2 s3 s4 W (Kd.qv1_ hr2 hW) hc2 (by unfold qb3_.f;rw [if_pos hsm,hser]))
 clear hr2 hc2
 have bad:s4 ≠ 0→r1=0∧r2=0∧r3=[]∧r4=s4→Calls Try.prog 71 #[.int .i64 a0,.int .i64 a1,.slice A2 l2.length c2] w fun e w'=>∃ v2_:Value,e=.returned (.tuple #[.agg #[.int .i64 r1,.int .i64 r2,v2_],.int .i64 r4])∧Kd.R k79 79 w' w.heap.size (fun _=>True) v2_ r3∧Below w.heap.size w w':=by
  rintro hne ⟨rfl,rfl,rfl,rfl⟩
  clear h hser hsm
  go_enter Try.func71,Try.ntmps71
  go_wp2_with (go_at_call 63;refine (HSP.out _ (qb_ (Below.refl _ _) _)).mono ?_;rintro e w1 ⟨v,rfl,hv,hb⟩;obtain ⟨A1,c1,rfl⟩:=Kd.qy1_ hv;have HB1:=aK (show Below w.heap.size w w1 from qe_ (qb_ (Below.refl _ _) _) hb);have S:SrAt w1 w.heap.size 0 0 (.slice none 0 0):=ql_ (new_at rfl) hb;have x0:(w1.alloc (.cells #[.int .i64 s1,.int .i64 s2,.slice A1 s3.length c1] 38)).cell? ⟨w.heap.size,0,none⟩=some (.int .i64 0):=(SrAt.alloc S _).c0;have xf0:(w1.alloc (.cells #[.int .i64 s1,.int .i64 s2,.slice A1 s3.length c1] 38)).frozen? ⟨w.heap.size,0,none⟩=false:=qd_ (SrAt.alloc S (.cells #[.int .i64 s1,.int .i64 s2,.slice A1 s3.length c1] 38)) 0;have x1:(w1.alloc (.cells #[.int .i64 s1,.int .i64 s2,.slice A1 s3.length c1] 38)).cell? ⟨w.heap.size,1,none⟩=some (.int .i64 0):=(SrAt.alloc S _).c1;have xf1:(w1.alloc (.cells #[.int .i64 s1,.int .i64 s2,.slice A1 s3.length c1] 38)).frozen? ⟨w.heap.size,1,none⟩=false:=qd_ (SrAt.alloc S (.cells #[.int .i64 s1,.int .i64 s2,.slice A1 s3.length c1] 38)) 1;have x2:(w1.alloc (.cells #[.int .i64 s1,.int .i64 s2,.slice A1 s3.length c1] 38)).cell? ⟨w.heap.size,2,none⟩=some (.slice none 0 0):=(SrAt.alloc S _).c2;have xf2:(w1.alloc (.cells #[.int .i64 s1,.int .i64 s2,.slice A1 s3.length c1] 38)).frozen? ⟨w.heap.size,2,none⟩=false:=qd_ (SrAt.alloc S (.cells #[.int .i64 s1,.int .i64 s2,.slice A1 s3.length c1] 38)) 2;have HS1:=aK S;have HV1:=aK hv;clear S hv hb)
  refine bodyPost_ret (results_ct rfl _ _ w.heap.size 38 _ (0,0) _ rfl (qr_ (qr_ (qr_ (HS1.out.alloc _) 0 _) 1 _) 2 _) hu rfl (by kernel_rfl)) rfl ?_
  exact ⟨_,rfl,Kd.R_nil _ _ _ _ _,(((qb_ HB1.out _).setCell (Nat.le_refl _) _).setCell (Nat.le_refl _) _).setCell (Nat.le_refl _) _⟩
 unfold logR at h
 unfold sigR at hser
 by_cases c:codeP a0 a1 (Go.Proofs.YtaiefdhenikiiaaC.isPath a0 l2)=0
 ·obtain ⟨hb_,d,n,rfl,rfl,hs,hn1⟩:=codeP_good c
  rw [if_pos c,Int.toNat_natCast,Int.toNat_natCast] at h hser
  obtain ⟨T,hT⟩:∃ T,T=sigT d n l2:=⟨_,rfl⟩
  rw [← hT] at h hser
  have hlk:Like T (zeroT d n):=by rw [hT];exact sigT_like hs l2
  obtain ⟨E,hE⟩:∃ E,E=logT T (zeroT d n):=⟨_,rfl⟩
  rw [← hE] at h
  have hle:Like E (zeroT d n):=by rw [hE];exact logT_like hs
  unfold serR at h hser
  by_cases hb:T.bad=true
  ·have hbe:E.bad=true:=by rw [hE];exact logT_bad hn1 (sumT_bad (Or.inl hb))
   rw [if_pos hb] at hser
   rw [if_pos hbe] at h
   simp only [Prod.mk.injEq] at h hser
   exact bad (by rw [hser.2.2.2];decide) ⟨h.1.symm,h.2.1.symm,h.2.2.1.symm,by rw [← h.2.2.2,hser.2.2.2]⟩
  ·have hg:T.bad=false:=by simpa using hb
   rw [if_neg hb] at hser
   simp only [Prod.mk.injEq] at hser
   obtain ⟨rfl,rfl,rfl,rfl⟩:=hser
   clear bad
   have hdn:(T.d:Int)=(d:Int)∧(T.n:Int)=(n:Int):=⟨by rw [hlk.1];rfl,by rw [hlk.2.1];rfl⟩
   rw [hdn.1,hdn.2] at HSP
   have hI:∀ W A ca,TmsC W A ca (termsT T)→Calls Try.prog 148 #[.agg #[.int .i64 (d:Int),.int .i64 (n:Int),.slice A (termsT T).length ca]] W (OutR W d n (outT E)):=fun W A ca H=>by rw [hE];exact logSp W d n hs hn1 hlk hg H
   have HTL:=aK (terms_len hlk hs)
   by_cases hbe:E.bad=true
   ·rw [if_pos hbe] at h
    rw [outT_bad hbe] at hI
    simp only [Prod.mk.injEq] at h
    obtain ⟨rfl,rfl,rfl,rfl⟩:=h
    have HI:=aK hI
    clear c hs hb_ hn1 hsm hT hlk hle hI hb hg hE hbe hdn
    generalize termsT T=lt at HSP HI HTL
    go_enter Try.func71,Try.ntmps71
    go_wp2_with (first
     | (go_at_call 63;refine (HSP.out _ (qb_ (Below.refl _ _) _)).mono ?_;rintro e w1 ⟨v,rfl,hv,hb⟩;obtain ⟨A1,c1,rfl⟩:=Kd.qy1_ hv;have HB1:=aK (show Below w.heap.size w w1 from qe_ (qb_ (Below.refl _ _) _) hb);have S:SrAt w1 w.heap.size 0 0 (.slice none 0 0):=ql_ (new_at rfl) hb;skip;have HS1:=aK S;have HV1:=aK hv;clear S hv hb)
     | (go_at_call 148;refine (HI.out _ _ _ (TmsC.of (Kd.qa1_ HV1.out _) (by have:=HTL.out;omega)).1).mono ?_;rintro e w5 ⟨v,rfl,hv,hb⟩;obtain ⟨A5,c5,rfl⟩:=Kd.qy1_ hv;have HB5:=aK (qe_ (qb_ HB1.out _) hb);have S:=(HS1.out.alloc (.cells #[.int .i64 (d:Int),.int .i64 (n:Int),.slice A1 lt.length c1] 38)).below hb;have x0:(w5.alloc (.cells #[.int .i64 0,.int .i64 0,.slice A5 0 c5] 38)).cell? ⟨w.heap.size,0,none⟩=some (.int .i64 0):=(SrAt.alloc S _).c0;have xf0:(w5.alloc (.cells #[.int .i64 0,.int .i64 0,.slice A5 0 c5] 38)).frozen? ⟨w.heap.size,0,none⟩=false:=qd_ (SrAt.alloc S (.cells #[.int .i64 0,.int .i64 0,.slice A5 0 c5] 38)) 0;have x1:(w5.alloc (.cells #[.int .i64 0,.int .i64 0,.slice A5 0 c5] 38)).cell? ⟨w.heap.size,1,none⟩=some (.int .i64 0):=(SrAt.alloc S _).c1;have xf1:(w5.alloc (.cells #[.int .i64 0,.int .i64 0,.slice A5 0 c5] 38)).frozen? ⟨w.heap.size,1,none⟩=false:=qd_ (SrAt.alloc S (.cells #[.int .i64 0,.int .i64 0,.slice A5 0 c5] 38)) 1;have x2:(w5.alloc (.cells #[.int .i64 0,.int .i64 0,.slice A5 0 c5] 38)).cell? ⟨w.heap.size,2,none⟩=some (.slice none 0 0):=(SrAt.alloc S _).c2;have xf2:(w5.alloc (.cells #[.int .i64 0,.int .i64 0,.slice A5 0 c5] 38)).frozen? ⟨w.heap.size,2,none⟩=false:=qd_ (SrAt.alloc S (.cells #[.int .i64 0,.int .i64 0,.slice A5 0 c5] 38)) 2;have HS5:=aK S;clear S hv hb))
    refine bodyPost_ret (results_ct rfl _ _ w.heap.size 38 _ (0,0) _ rfl (qr_ (qr_ (qr_ (HS5.out.alloc _) 0 _) 1 _) 2 _) hu rfl (by kernel_rfl)) rfl ?_
    exact ⟨_,rfl,Kd.R_nil _ _ _ _ _,(((qb_ HB5.out _).setCell (Nat.le_refl _) _).setCell (Nat.le_refl _) _).setCell (Nat.le_refl _) _⟩
   ·have hge:E.bad=false:=by simpa using hbe
    rw [if_neg hbe] at h
    rw [outT_good hge] at hI
    simp only [Prod.mk.injEq] at h
    obtain ⟨rfl,rfl,rfl,rfl⟩:=h
    have HI:=aK hI
    have HD:=aK hle
    clear c hs hb_ hn1 hsm hT hlk hle hI hb hg hE hbe hge hdn
    generalize termsT T=lt at HSP HI HTL
    go_enter Try.func71,Try.ntmps71
    go_wp2_with (first
     | (go_at_call 63;refine (HSP.out _ (qb_ (Below.refl _ _) _)).mono ?_;rintro e w1 ⟨v,rfl,hv,hb⟩;obtain ⟨A1,c1,rfl⟩:=Kd.qy1_ hv;have HB1:=aK (show Below w.heap.size w w1 from qe_ (qb_ (Below.refl _ _) _) hb);have S:SrAt w1 w.heap.size 0 0 (.slice none 0 0):=ql_ (new_at rfl) hb;skip;have HS1:=aK S;have HV1:=aK hv;clear S hv hb)
     | (go_at_call 148;refine (HI.out _ _ _ (TmsC.of (Kd.qa1_ HV1.out _) (by have:=HTL.out;omega)).1).mono ?_;rintro e w5 ⟨v,rfl,hv,hb⟩;obtain ⟨A5,c5,rfl⟩:=Kd.qy1_ hv;have HB5:=aK (qe_ (qb_ HB1.out _) hb);have HV5:=aK (Kd.qi2_ hv (qk_ (qb_ HB1.out _)));have S:=(HS1.out.alloc (.cells #[.int .i64 (d:Int),.int .i64 (n:Int),.slice A1 lt.length c1] 38)).below hb;have x0:(w5.alloc (.cells #[.int .i64 (d:Int),.int .i64 (n:Int),.slice A5 (termsT E).length c5] 38)).cell? ⟨w.heap.size,0,none⟩=some (.int .i64 0):=(SrAt.alloc S _).c0;have xf0:(w5.alloc (.cells #[.int .i64 (d:Int),.int .i64 (n:Int),.slice A5 (termsT E).length c5] 38)).frozen? ⟨w.heap.size,0,none⟩=false:=qd_ (SrAt.alloc S (.cells #[.int .i64 (d:Int),.int .i64 (n:Int),.slice A5 (termsT E).length c5] 38)) 0;have x1:(w5.alloc (.cells #[.int .i64 (d:Int),.int .i64 (n:Int),.slice A5 (termsT E).length c5] 38)).cell? ⟨w.heap.size,1,none⟩=some (.int .i64 0):=(SrAt.alloc S _).c1;have xf1:(w5.alloc (.cells #[.int .i64 (d:Int),.int .i64 (n:Int),.slice A5 (termsT E).length c5] 38)).frozen? ⟨w.heap.size,1,none⟩=false:=qd_ (SrAt.alloc S (.cells #[.int .i64 (d:Int),.int .i64 (n:Int),.slice A5 (termsT E).length c5] 38)) 1;have x2:(w5.alloc (.cells #[.int .i64 (d:Int),.int .i64 (n:Int),.slice A5 (termsT E).length c5] 38)).cell? ⟨w.heap.size,2,none⟩=some (.slice none 0 0):=(SrAt.alloc S _).c2;have xf2:(w5.alloc (.cells #[.int .i64 (d:Int),.int .i64 (n:Int),.slice A5 (termsT E).length c5] 38)).frozen? ⟨w.heap.size,2,none⟩=false:=qd_ (SrAt.alloc S (.cells #[.int .i64 (d:Int),.int .i64 (n:Int),.slice A5 (termsT E).length c5] 38)) 2;have HS5:=aK S;clear S hv hb))
    refine bodyPost_ret (results_ct rfl _ _ w.heap.size 38 _ (0,0) _ rfl (qr_ (qr_ (qr_ (HS5.out.alloc _) 0 _) 1 _) 2 _) hu rfl (by kernel_rfl)) rfl ?_
    refine ⟨.slice A5 (termsT E).length c5,by rw [HD.out.1,HD.out.2.1];rfl,?_,(((qb_ HB5.out _).setCell (Nat.le_refl _) _).setCell (Nat.le_refl _) _).setCell (Nat.le_refl _) _⟩
    exact R_box3 (Kd.qa1_ HV5.out _) (HS5.out.alloc _) _ _ _
 ·rw [if_neg c] at h hser
  simp only [Prod.mk.injEq] at h hser
  exact bad (by rw [hser.2.2.2];exact c) ⟨h.1.symm,h.2.1.symm,h.2.2.1.symm,by rw [← h.2.2.2,hser.2.2.2]⟩
end Go.Proofs.Ytaiefdhenikiiaa.Base
namespace Go.Proofs.Ytaiefdhenikiiaa.Base
open Go.RowKit Go.Proofs.YtaiefdhenikiiaaW.PrintWords Go.Proofs.YtaiefdhenikiiaaW.PrintLast Go.Proofs.YtaiefdhenikiiaaW.PrintMore
attribute [local go_sem] max2_int qp1_ max_two min_two max_three min_three max_four min_four Go.Proofs.YtaiefdhenikiiaaZ.qt_   -- for this text's walks alone
set_option linter.unusedVariables false
set_option linter.unusedSimpArgs false
def qk2_.f (a0:Int) (a1:Int) (l2:List (List Int)):Option (Int × Int × (List S79) × Int):=if l2.length≤1048576∧(∀ r ∈ l2,r.length≤1048576) then some (logR a0 a1 l2) else none
set_option maxHeartbeats 8000000 in
set_option maxRecDepth 100000 in
theorem qk2_.calls (a0:Int) (a1:Int) (A2:Option Addr) (c2:Nat) (l2:List (List Int)) (r1:Int) (r2:Int) (r3:List (S79)) (r4:Int) (w:World) (hr2:Kd.C (Kd.slice 2 (Kd.int .i64)) w A2 l2.length l2) (hc2:l2.length≤c2) (h:qk2_.f a0 a1 l2=some (r1,r2,r3,r4)) :
  Calls Try.prog 72 #[.int .i64 a0,.int .i64 a1,.slice A2 l2.length c2] w fun e w'=>∃ v2_:Value,e=.returned (.tuple #[.agg #[.int .i64 r1,.int .i64 r2,v2_],.int .i64 r4])∧Kd.R k79 79 w' w.heap.size (fun _=>True) v2_ r3∧Below w.heap.size w w':=by
 unfold qk2_.f at h
 split at h
 rotate_left
 ·cases h
 rename_i hsm
 have h:=Option.some.inj h
 have hu:=Try.underlying38
 have hk:=pcode_impl a0 a1 l2
 have HR:=aK hr2
 have HC:=aK hc2
 clear hr2 hc2
 unfold logR at h
 obtain ⟨q,hq⟩:∃ q,q=codeP a0 a1 (Go.Proofs.YtaiefdhenikiiaaC.isPath a0 l2):=⟨_,rfl⟩
 rw [← hq] at h hk
 by_cases c:q=0
 ·rw [if_pos c] at h
  obtain ⟨hb_,d,n,rfl,rfl,hs,hn⟩:=codeP_good (hq.symm.trans c)
  obtain ⟨hpl,hok⟩:=okP hb_
  rw [Int.toNat_natCast,Int.toNat_natCast] at h
  rw [c] at hk
  have HK:=aK hk
  have HT:=aK (told_all (logT_like hs) h)
  have HZ:=aK (zeroT_ok hs)
  have HL:=aK (show ∀ W,Below w.heap.size w W→Calls Try.prog 131 #[.int .i64 (d:Int),.int .i64 (n:Int),.slice A2 l2.length c2] W (NewT W (sigT d n l2) (zeroT d n)) from fun W hW=>signature_ W d n A2 c2 l2 (Kd.qv1_ HR.out hW) hs hn (fun row hr=>⟨by have:=(hok row hr).1;omega,(hok row hr).2⟩) (by omega))
  clear h hk c hs hsm hb_ hok hpl hn hq
  go_enter Try.func72,Try.ntmps72
  go_wp2_with (first
   | (go_at_call 104;refine (qe3_.calls _ _ _ _ l2 _ _ (Kd.qv1_ HR.out (qb_ (Below.refl _ _) _)) HC.out HK.out).mono ?_;rintro e w1 ⟨rfl,hd⟩;have HB1:=aK (show Below w.heap.size w w1 from qe_ (qb_ (Below.refl _ _) _) hd);have S:SrAt w1 w.heap.size 0 0 (.slice none 0 0):=ql_ (new_at rfl) hd;have HS1:=aK S;clear S hd)
   | (go_at_call 131;refine (HL.out _ HB1.out).mono ?_;rintro e w2 ⟨g2,k2,rfl,T,hg,hh,hb⟩;have HO2:=aK T;have HB2:=aK (show Below w.heap.size w w2 from qe_ HB1.out hb);have HS2:=aK (HS1.out.below hb);clear T hg hh hb)
   | (go_at_call 147;refine (logarithm' _ HO2.out HZ.out).mono ?_;rintro e w4 ⟨g4,k4,rfl,T,hg,hh,hb⟩;have HO4:=aK T.tab;have HB4:=aK (show Below w.heap.size w w4 from qe_ HB2.out hb);have HS4:=aK (HS2.out.below hb);clear T hg hh hb)
   | (go_at_call 96;refine (HT.out _ _ _ HO4.out).mono ?_;rintro e w3 ⟨v,rfl,hv,hb⟩;obtain ⟨A1,c1,rfl⟩:=Kd.qy1_ hv;have HB3:=aK (show Below w.heap.size w w3 from qe_ HB4.out hb);have HV:=aK (Kd.qi2_ hv HB4.out.size);have S:=HS4.out.below hb;have x0:w3.cell? ⟨w.heap.size,0,none⟩=some (.int .i64 0):=SrAt.c0 S;have xf0:w3.frozen? ⟨w.heap.size,0,none⟩=false:=qd_ S 0;have x1:w3.cell? ⟨w.heap.size,1,none⟩=some (.int .i64 0):=SrAt.c1 S;have xf1:w3.frozen? ⟨w.heap.size,1,none⟩=false:=qd_ S 1;have x2:w3.cell? ⟨w.heap.size,2,none⟩=some (.slice none 0 0):=SrAt.c2 S;have xf2:w3.frozen? ⟨w.heap.size,2,none⟩=false:=qd_ S 2;have HS3:=aK S;clear S hv hb))
  refine bodyPost_ret (results_ct rfl _ _ w.heap.size 38 _ (0,0) _ rfl (qr_ (qr_ (qr_ HS3.out 0 _) 1 _) 2 _) hu rfl (by kernel_rfl)) rfl ?_
  refine ⟨_,rfl,?_,((HB3.out.setCell (Nat.le_refl _) _).setCell (Nat.le_refl _) _).setCell (Nat.le_refl _) _⟩
  exact Kd.R_set (Kd.R_set (Kd.R_set HV.out HS3.out (by decide) 0 _) (qr_ HS3.out 0 _) (by decide) 1 _) (qr_ (qr_ HS3.out 0 _) 1 _) (by decide) 2 _
 ·rw [if_neg c] at h
  simp only [Prod.mk.injEq] at h
  obtain ⟨rfl,rfl,rfl,rfl⟩:=h
  have HK:=aK hk
  clear hk hsm hq
  go_enter Try.func72,Try.ntmps72
  go_wp2_with (go_at_call 104;refine (qe3_.calls _ _ _ _ l2 _ _ (Kd.qv1_ HR.out (qb_ (Below.refl _ _) _)) HC.out HK.out).mono ?_;rintro e w1 ⟨rfl,hd⟩;have HB1:=aK (show Below w.heap.size w w1 from qe_ (qb_ (Below.refl _ _) _) hd);have S:SrAt w1 w.heap.size 0 0 (.slice none 0 0):=ql_ (new_at rfl) hd;have x0:w1.cell? ⟨w.heap.size,0,none⟩=some (.int .i64 0):=SrAt.c0 S;have xf0:w1.frozen? ⟨w.heap.size,0,none⟩=false:=qd_ S 0;have x1:w1.cell? ⟨w.heap.size,1,none⟩=some (.int .i64 0):=SrAt.c1 S;have xf1:w1.frozen? ⟨w.heap.size,1,none⟩=false:=qd_ S 1;have x2:w1.cell? ⟨w.heap.size,2,none⟩=some (.slice none 0 0):=SrAt.c2 S;have xf2:w1.frozen? ⟨w.heap.size,2,none⟩=false:=qd_ S 2;have HS1:=aK S;clear S hd)
  refine bodyPost_ret (results_ct rfl _ _ w.heap.size 38 _ (0,0) _ rfl (qr_ (qr_ (qr_ HS1.out 0 _) 1 _) 2 _) hu rfl (by kernel_rfl)) rfl ?_
  exact ⟨_,rfl,Kd.R_nil _ _ _ _ _,((HB1.out.setCell (Nat.le_refl _) _).setCell (Nat.le_refl _) _).setCell (Nat.le_refl _) _⟩
end Go.Proofs.Ytaiefdhenikiiaa.Base
namespace Go.Proofs.Ytaiefdhenikiiaa.Base
open Go.RowKit Go.Proofs.YtaiefdhenikiiaaW.PrintWords Go.Proofs.YtaiefdhenikiiaaW.PrintLast Go.Proofs.YtaiefdhenikiiaaW.PrintMore
attribute [local go_sem] max2_int qp1_ max_two min_two max_three min_three max_four min_four Go.Proofs.YtaiefdhenikiiaaZ.qt_   -- for this text's walks alone
set_option linter.unusedVariables false
set_option linter.unusedSimpArgs false
def qw1_.f (k:Nat) (a0:Int) (a1:Int) (l2:List (List (Int))):Option Bool:=(qc1_.f k l2 1048576).bind fun y1_0=>if y1_0 < 0 then some true else (qw_.f k l2).bind fun y2_0=>(qt2_.f a0 a1 y2_0).bind fun p3=>(qw_.f k l2).bind fun y4_0=>(qk2_.f a0 a1 y4_0).bind fun p5=>if p5.2.2.2=p3.2.2.2 then (qh2_.f k p5.1 p5.2.1 p5.2.2.1 p3.1 p3.2.1 p3.2.2.1).bind fun y6_0=>if y6_0=true then (qw_.f k l2).bind fun y7_0=>(qj1_.f k y4_0 y7_0).bind fun y8_0=>if y8_0=true then (qz_.f k y4_0 1).bind fun p9=>if 0≤p9.1 then (qh2_.f k p5.1 p5.2.1 p5.2.2.1 p3.1 p3.2.1 p3.2.2.1).bind fun y10_0=>if y10_0=true then (qj2_.f k p5.1 p5.2.1 p5.2.2.1 1).bind fun p11=>if 0≤p11.1 then (qg2_.f k p5.1 p5.2.1 p11.2 1).bind fun y12_0=>if 0≤y12_0∧y12_0=p11.1 then (qw_.f k l2).bind fun y13_0=>(qk2_.f a0 a1 y13_0).bind fun p14=>if p14.2.2.2=p3.2.2.2 then (qh2_.f k p14.1 p14.2.1 p14.2.2.1 p3.1 p3.2.1 p3.2.2.1).bind fun y15_0=>if y15_0=true then (qg2_.f k p5.1 p5.2.1 p11.2 1).bind fun y16_0=>if 0≤y16_0∧y16_0=p11.1 then some true else none else none else none else none else none else none else none else none else none else none
theorem qw1_.mono:∀ a0 a1 l2 k,LeO (qw1_.f k a0 a1 l2) (qw1_.f (k+1) a0 a1 l2):=by
 intro a0 a1 l2 k
 unfold qw1_.f
 repeat' first
  | (with_reducible exact qj1_.mono _ _ _)
  | (with_reducible exact qh2_.mono _ _ _ _ _ _ _)
  | (with_reducible exact qg2_.mono _ _ _ _ _)
  | (with_reducible exact qz_.mono _ _ _)
  | (with_reducible exact qj2_.mono _ _ _ _ _)
  | (with_reducible exact qc1_.mono _ _ _)
  | (with_reducible exact qw_.mono _ _)
  | (with_reducible exact LeO.refl _)
  | (with_reducible refine LeO.ite ?_ ?_)
  | (with_reducible refine LeO.bind ?_ (fun _=>?_))
  | exact LeO.refl _
  | exact LeO.none _
set_option maxHeartbeats 16000000 in
set_option maxRecDepth 100000 in
theorem qw1_.calls (k:Nat) (a0:Int) (a1:Int) (A2:Option Addr) (c2:Nat) (l2:List (List (Int))) (r:Bool) (w:World) (hr2:Kd.C (Kd.slice 2 (Kd.int .i64)) w A2 l2.length l2) (hc2:l2.length≤c2) (h:qw1_.f k a0 a1 l2=some r) :
  Calls Try.prog 19 #[.int .i64 a0,.int .i64 a1,.slice A2 l2.length c2] w fun e w'=>e=.returned (.bool r)∧Below w.heap.size w w':=by
 have hu:=Try.underlying38
 unfold qw1_.f at h
 have HR2:=aK hr2
 have HC2:=aK hc2
 clear hr2 hc2
 have B0:=aK (Below.refl w.heap.size w)
 have h0:=h
 clear h
 replace h0:=Option.bind_eq_some_iff.mp h0
 obtain ⟨y1_0,E1,h0⟩:=h0
 replace E1:=aK E1
 by_cases c1:y1_0 < 0
 ·rw [if_pos c1] at h0
  obtain rfl:=Option.some.inj h0
  clear h0
  have d1:decide (y1_0 < 0)=true:=decide_eq_true c1
  clear c1
  go_enter Try.func19,Try.ntmps19
  go_wp2_with (go_at_call 53;(with_reducible refine (qc1_.calls k A2 c2 l2 1048576 y1_0 _ (Kd.qv1_ HR2.out (by repeat (first|(with_reducible first|exact B0.out|apply qb_|apply qa_|apply qc_)|exact B0.out))) HC2.out E1.out).mono ?_);rintro e w1 ⟨rfl,hd⟩;have D_:Below w.heap.size w w1:=qe_ (by repeat (first|(with_reducible first|exact Below.refl _ _|apply qb_|apply qa_|apply qc_)|exact Below.refl _ _)) (Go.Proofs.YtaiefdhenikiiaaA.below_drawn hd);have B1:=aK (qe_ B0.out D_);clear D_ hd)
  go_ret
  exact ⟨rfl,B1.out⟩
 ·rw [if_neg c1] at h0
  have d1:decide (y1_0 < 0)=false:=decide_eq_false c1
  clear c1
  replace h0:=Option.bind_eq_some_iff.mp h0
  obtain ⟨y2_0,E2,h0⟩:=h0
  replace E2:=aK E2
  replace h0:=Option.bind_eq_some_iff.mp h0
  obtain ⟨⟨y3_0_0,y3_0_1,y3_0_2,y3_1⟩,E3,h0⟩:=h0
  dsimp only at h0
  replace E3:=aK E3
  replace h0:=Option.bind_eq_some_iff.mp h0
  obtain ⟨y4_0,E4,h0⟩:=h0
  replace E4:=aK E4
  replace h0:=Option.bind_eq_some_iff.mp h0
  obtain ⟨⟨y5_0_0,y5_0_1,y5_0_2,y5_1⟩,E5,h0⟩:=h0
  dsimp only at h0
  replace E5:=aK E5
  by_cases c5:y5_1=y3_1
  rotate_left
  ·rw [if_neg c5] at h0;cases h0
  rw [if_pos c5] at h0
  have f5_0:(y5_1 != y3_1)=false:=by rw [bne_eq_false_iff_eq];exact c5
  clear c5
  replace h0:=Option.bind_eq_some_iff.mp h0
  obtain ⟨y6_0,E6,h0⟩:=h0
  replace E6:=aK E6
  by_cases c6:y6_0=true
  rotate_left
  ·rw [if_neg c6] at h0;cases h0
  rw [if_pos c6] at h0
  subst c6
  replace h0:=Option.bind_eq_some_iff.mp h0
  obtain ⟨y7_0,E7,h0⟩:=h0
  replace E7:=aK E7
  replace h0:=Option.bind_eq_some_iff.mp h0
  obtain ⟨y8_0,E8,h0⟩:=h0
  replace E8:=aK E8
  by_cases c8:y8_0=true
  rotate_left
  ·rw [if_neg c8] at h0;cases h0
  rw [if_pos c8] at h0
  subst c8
  replace h0:=Option.bind_eq_some_iff.mp h0
  obtain ⟨⟨y9_0,z9⟩,E9,h0⟩:=h0
  dsimp only at h0
  replace E9:=aK E9
  by_cases c9:0≤y9_0
  rotate_left
  ·rw [if_neg c9] at h0;cases h0
  rw [if_pos c9] at h0
  have d9:decide (y9_0 < 0)=false:=decide_eq_false (by omega)
  clear c9
  replace h0:=Option.bind_eq_some_iff.mp h0
  obtain ⟨y10_0,E10,h0⟩:=h0
  replace E10:=aK E10
  by_cases c10:y10_0=true
  rotate_left
  ·rw [if_neg c10] at h0;cases h0
  rw [if_pos c10] at h0
  subst c10
  replace h0:=Option.bind_eq_some_iff.mp h0
  obtain ⟨⟨y11_0,z11⟩,E11,h0⟩:=h0
  dsimp only at h0
  replace E11:=aK E11
  by_cases c11:0≤y11_0
  rotate_left
  ·rw [if_neg c11] at h0;cases h0
  rw [if_pos c11] at h0
  have d11:decide (y11_0 < 0)=false:=decide_eq_false (by omega)
  clear c11
  replace h0:=Option.bind_eq_some_iff.mp h0
  obtain ⟨y12_0,E12,h0⟩:=h0
  replace E12:=aK E12
  by_cases c12:0≤y12_0∧y12_0=y11_0
  rotate_left
  ·rw [if_neg c12] at h0;cases h0
  rw [if_pos c12] at h0
  have d12:decide (y12_0 < 0)=false:=decide_eq_false (by omega)
  have f12:(y12_0 != y11_0)=false:=by rw [bne_eq_false_iff_eq];exact c12.2
  clear c12
  replace h0:=Option.bind_eq_some_iff.mp h0
  obtain ⟨y13_0,E13,h0⟩:=h0
  replace E13:=aK E13
  replace h0:=Option.bind_eq_some_iff.mp h0
  obtain ⟨⟨y14_0_0,y14_0_1,y14_0_2,y14_1⟩,E14,h0⟩:=h0
  dsimp only at h0
  replace E14:=aK E14
  by_cases c14:y14_1=y3_1
  rotate_left
  ·rw [if_neg c14] at h0;cases h0
  rw [if_pos c14] at h0
  have f14_0:(y14_1 != y3_1)=false:=by rw [bne_eq_false_iff_eq];exact c14
  clear c14
  replace h0:=Option.bind_eq_some_iff.mp h0
  obtain ⟨y15_0,E15,h0⟩:=h0
  replace E15:=aK E15
  by_cases c15:y15_0=true
  rotate_left
  ·rw [if_neg c15] at h0;cases h0
  rw [if_pos c15] at h0
  subst c15
  replace h0:=Option.bind_eq_some_iff.mp h0
  obtain ⟨y16_0,E16,h0⟩:=h0
  replace E16:=aK E16
  by_cases c16:0≤y16_0∧y16_0=y11_0
  rotate_left
  ·rw [if_neg c16] at h0;cases h0
  rw [if_pos c16] at h0
  have d16:decide (y16_0 < 0)=false:=decide_eq_false (by omega)
  have f16:(y16_0 != y11_0)=false:=by rw [bne_eq_false_iff_eq];exact c16.2
  clear c16
  obtain rfl:=Option.some.inj h0
  clear h0
  go_enter Try.func19,Try.ntmps19
  go_wp2_with (go_at_call 53;(with_reducible refine (qc1_.calls k A2 c2 l2 1048576 y1_0 _ (Kd.qv1_ HR2.out (by repeat (first|(with_reducible first|exact B0.out|apply qb_|apply qa_|apply qc_)|exact B0.out))) HC2.out E1.out).mono ?_);rintro e w1 ⟨rfl,hd⟩;have D_:Below w.heap.size w w1:=qe_ (by repeat (first|(with_reducible first|exact Below.refl _ _|apply qb_|apply qa_|apply qc_)|exact Below.refl _ _)) (Go.Proofs.YtaiefdhenikiiaaA.below_drawn hd);have B1:=aK (qe_ B0.out D_);clear D_ hd)
  go_wp2_with (go_at_call 55;(with_reducible refine (qw_.calls k A2 c2 l2 y2_0 _ (Kd.qv1_ HR2.out (by repeat (first|(with_reducible first|exact B1.out|apply qb_|apply qa_|apply qc_)|exact B1.out))) HC2.out E2.out).mono ?_);rintro e w2 ⟨v_H2_0,rfl,ho_H2_0,hb⟩;have D_:Below w1.heap.size w1 w2:=qe_ (by repeat (first|(with_reducible first|exact Below.refl _ _|apply qb_|apply qa_|apply qc_)|exact Below.refl _ _)) hb;have B2:=aK (qe_ B1.out D_);obtain ⟨lo_H2_0,hi_H2_0,hlo_,hhi_,hx_⟩:∃ lo hi,w1.heap.size≤lo∧lo≤hi∧Go.Proofs.YtaiefdhenikiiaaA.AtS (Kd.slice 2 (Kd.int .i64)) 50 lo hi w2 v_H2_0 y2_0:=⟨_,_,by simp,by have:=hb.size;simpa using this,Go.Proofs.YtaiefdhenikiiaaA.AtS.of ho_H2_0⟩;clear ho_H2_0;obtain ⟨A_H2_0,c_H2_0,rfl,l_⟩:=hx_.form;have H2_0L:=aK l_;have LO_H2_0:=aK (show w.heap.size≤lo_H2_0 from by have:=B1.out.size;omega);have OR_H2_0:=aK (show lo_H2_0≤hi_H2_0 from hhi_);have H2_0:=aK hx_;clear hx_ l_ hlo_ hhi_;clear D_ hb;have PS_H2_0:=aK (show hi_H2_0≤w2.heap.size from And.right H2_0.out))
  go_wp2_with (go_at_call 71;(with_reducible refine (qt2_.calls a0 a1 _ _ y2_0 y3_0_0 y3_0_1 y3_0_2 y3_1 _ (Kd.qv1_ H2_0.out.C (by repeat (first|(with_reducible first|exact Below.refl _ _|apply qb_|apply qa_|apply qc_)|exact Below.refl _ _))) H2_0L.out E3.out).mono ?_);rintro e w3 ⟨v_H3_0_2,rfl,ho_H3_0_2,hb⟩;have D_:Below w2.heap.size w2 w3:=qe_ (by repeat (first|(with_reducible first|exact Below.refl _ _|apply qb_|apply qa_|apply qc_)|exact Below.refl _ _)) hb;replace H2_0:=aK (H2_0.out.below D_);have B3:=aK (qe_ B2.out D_);obtain ⟨lo_H3_0_2,hi_H3_0_2,hlo_,hhi_,hx_⟩:∃ lo hi,w2.heap.size≤lo∧lo≤hi∧Go.Proofs.YtaiefdhenikiiaaA.AtR k79 79 lo hi w3 v_H3_0_2 y3_0_2:=⟨_,_,by simp,by have:=hb.size;simpa using this,Go.Proofs.YtaiefdhenikiiaaA.AtR.of ho_H3_0_2⟩;clear ho_H3_0_2;obtain ⟨A_H3_0_2,c_H3_0_2,rfl,l_⟩:=hx_.form;have H3_0_2L:=aK l_;have LO_H3_0_2:=aK (show w.heap.size≤lo_H3_0_2 from by have:=B2.out.size;omega);have OR_H3_0_2:=aK (show lo_H3_0_2≤hi_H3_0_2∧hi_H2_0≤lo_H3_0_2 from ⟨hhi_,by have:=PS_H2_0.out;omega⟩);have H3_0_2:=aK hx_;clear hx_ l_ hlo_ hhi_;clear D_ hb;have PS_H2_0:=aK (show hi_H2_0≤w3.heap.size from And.right H2_0.out);have PS_H3_0_2:=aK (show hi_H3_0_2≤w3.heap.size from And.right H3_0_2.out))
  go_wp2_with (go_at_call 55;(with_reducible refine (qw_.calls k A2 c2 l2 y4_0 _ (Kd.qv1_ HR2.out (by repeat (first|(with_reducible first|exact B3.out|apply qb_|apply qa_|apply qc_)|exact B3.out))) HC2.out E4.out).mono ?_);rintro e w4 ⟨v_H4_0,rfl,ho_H4_0,hb⟩;have D_:Below w3.heap.size w3 w4:=qe_ (by repeat (first|(with_reducible first|exact Below.refl _ _|apply qb_|apply qa_|apply qc_)|exact Below.refl _ _)) hb;have HS0:=aK (show SrAt w4 (w3.heap.size) (y3_0_0) (y3_0_1) (.slice A_H3_0_2 y3_0_2.length c_H3_0_2) from ql_ (new_at rfl) hb);have OB0:=aK (show True∧hi_H2_0≤w3.heap.size∧hi_H3_0_2≤w3.heap.size from ⟨trivial,Nat.le_trans (And.right H2_0.out) (by simp),Nat.le_trans (And.right H3_0_2.out) (by simp)⟩);replace H2_0:=aK (H2_0.out.below D_);replace H3_0_2:=aK (H3_0_2.out.below D_);have B4:=aK (qe_ B3.out D_);obtain ⟨lo_H4_0,hi_H4_0,hlo_,hhi_,hx_⟩:∃ lo hi,w3.heap.size+1≤lo∧lo≤hi∧Go.Proofs.YtaiefdhenikiiaaA.AtS (Kd.slice 2 (Kd.int .i64)) 50 lo hi w4 v_H4_0 y4_0:=⟨_,_,by simp,by have:=hb.size;simpa using this,Go.Proofs.YtaiefdhenikiiaaA.AtS.of ho_H4_0⟩;clear ho_H4_0;obtain ⟨A_H4_0,c_H4_0,rfl,l_⟩:=hx_.form;have H4_0L:=aK l_;have LO_H4_0:=aK (show w.heap.size≤lo_H4_0 from by have:=B3.out.size;omega);have OR_H4_0:=aK (show lo_H4_0≤hi_H4_0∧hi_H2_0≤lo_H4_0∧hi_H3_0_2≤lo_H4_0∧w3.heap.size < lo_H4_0 from ⟨hhi_,by have:=PS_H2_0.out;omega,by have:=PS_H3_0_2.out;omega,by omega⟩);have H4_0:=aK hx_;clear hx_ l_ hlo_ hhi_;have LB0:=aK (show w3.heap.size < w4.heap.size from blk_lt HS0.out);clear D_ hb;have PS_H2_0:=aK (show hi_H2_0≤w4.heap.size from And.right H2_0.out);have PS_H3_0_2:=aK (show hi_H3_0_2≤w4.heap.size from And.right H3_0_2.out);have PS_H4_0:=aK (show hi_H4_0≤w4.heap.size from And.right H4_0.out);have z0_0:w4.cell? ⟨w3.heap.size,0,none⟩=some (.int .i64 y3_0_0):=SrAt.c0 HS0.out;have z0_1:w4.cell? ⟨w3.heap.size,1,none⟩=some (.int .i64 y3_0_1):=SrAt.c1 HS0.out;have z0_2:w4.cell? ⟨w3.heap.size,2,none⟩=some (.slice A_H3_0_2 y3_0_2.length c_H3_0_2):=SrAt.c2 HS0.out)
  go_wp2_with (go_at_call 72;(with_reducible refine (qk2_.calls a0 a1 _ _ y4_0 y5_0_0 y5_0_1 y5_0_2 y5_1 _ (Kd.qv1_ H4_0.out.C (by repeat (first|(with_reducible first|exact Below.refl _ _|apply qb_|apply qa_|apply qc_)|exact Below.refl _ _))) H4_0L.out E5.out).mono ?_);rintro e w5 ⟨v_H5_0_2,rfl,ho_H5_0_2,hb⟩;have D_:Below w4.heap.size w4 w5:=qe_ (by repeat (first|(with_reducible first|exact Below.refl _ _|apply qb_|apply qa_|apply qc_)|exact Below.refl _ _)) hb;replace HS0:=aK (show SrAt w5 (w3.heap.size) (y3_0_0) (y3_0_1) (.slice A_H3_0_2 y3_0_2.length c_H3_0_2) from ql_ HS0.out D_);replace H2_0:=aK (H2_0.out.below D_);replace H3_0_2:=aK (H3_0_2.out.below D_);replace H4_0:=aK (H4_0.out.below D_);have B5:=aK (qe_ B4.out D_);obtain ⟨lo_H5_0_2,hi_H5_0_2,hlo_,hhi_,hx_⟩:∃ lo hi,w4.heap.size≤lo∧lo≤hi∧Go.Proofs.YtaiefdhenikiiaaA.AtR k79 79 lo hi w5 v_H5_0_2 y5_0_2:=⟨_,_,by simp,by have:=hb.size;simpa using this,Go.Proofs.YtaiefdhenikiiaaA.AtR.of ho_H5_0_2⟩;clear ho_H5_0_2;obtain ⟨A_H5_0_2,c_H5_0_2,rfl,l_⟩:=hx_.form;have H5_0_2L:=aK l_;have LO_H5_0_2:=aK (show w.heap.size≤lo_H5_0_2 from by have:=B4.out.size;omega);have OR_H5_0_2:=aK (show lo_H5_0_2≤hi_H5_0_2∧hi_H2_0≤lo_H5_0_2∧hi_H3_0_2≤lo_H5_0_2∧hi_H4_0≤lo_H5_0_2∧w3.heap.size < lo_H5_0_2 from ⟨hhi_,by have:=PS_H2_0.out;omega,by have:=PS_H3_0_2.out;omega,by have:=PS_H4_0.out;omega,by have:=LB0.out;omega⟩);have H5_0_2:=aK hx_;clear hx_ l_ hlo_ hhi_;replace LB0:=aK (show w3.heap.size < w5.heap.size from blk_lt HS0.out);clear D_ hb;have PS_H2_0:=aK (show hi_H2_0≤w5.heap.size from And.right H2_0.out);have PS_H3_0_2:=aK (show hi_H3_0_2≤w5.heap.size from And.right H3_0_2.out);have PS_H4_0:=aK (show hi_H4_0≤w5.heap.size from And.right H4_0.out);have PS_H5_0_2:=aK (show hi_H5_0_2≤w5.heap.size from And.right H5_0_2.out);clear z0_0 z0_1 z0_2;have z0_0:(w5.alloc (.cells #[.int .i64 y5_0_0,.int .i64 y5_0_1,.slice A_H5_0_2 y5_0_2.length c_H5_0_2] 38)).cell? ⟨w3.heap.size,0,none⟩=some (.int .i64 y3_0_0):=SrAt.c0 (SrAt.alloc HS0.out _);have z0_1:(w5.alloc (.cells #[.int .i64 y5_0_0,.int .i64 y5_0_1,.slice A_H5_0_2 y5_0_2.length c_H5_0_2] 38)).cell? ⟨w3.heap.size,1,none⟩=some (.int .i64 y3_0_1):=SrAt.c1 (SrAt.alloc HS0.out _);have z0_2:(w5.alloc (.cells #[.int .i64 y5_0_0,.int .i64 y5_0_1,.slice A_H5_0_2 y5_0_2.length c_H5_0_2] 38)).cell? ⟨w3.heap.size,2,none⟩=some (.slice A_H3_0_2 y3_0_2.length c_H3_0_2):=SrAt.c2 (SrAt.alloc HS0.out _))
  go_wp2_with (go_at_call 33;(with_reducible refine (qh2_.calls k y5_0_0 y5_0_1 _ _ y5_0_2 y3_0_0 y3_0_1 _ _ y3_0_2 true _ (Kd.qv1_ H5_0_2.out.C (by repeat (first|(with_reducible first|exact Below.refl _ _|apply qb_|apply qa_|apply qc_)|exact Below.refl _ _))) H5_0_2L.out (Kd.qv1_ H3_0_2.out.C (by repeat (first|(with_reducible first|exact Below.refl _ _|apply qb_|apply qa_|apply qc_)|exact Below.refl _ _))) H3_0_2L.out E6.out).mono ?_);rintro e w6 ⟨rfl,hb⟩;have D_:Below w5.heap.size w5 w6:=qe_ (by repeat (first|(with_reducible first|exact Below.refl _ _|apply qb_|apply qa_|apply qc_)|exact Below.refl _ _)) hb;have HS1:=aK (show SrAt w6 (w5.heap.size) (y5_0_0) (y5_0_1) (.slice A_H5_0_2 y5_0_2.length c_H5_0_2) from ql_ (new_at rfl) hb);replace HS0:=aK (show SrAt w6 (w3.heap.size) (y3_0_0) (y3_0_1) (.slice A_H3_0_2 y3_0_2.length c_H3_0_2) from ql_ HS0.out D_);have OB1:=aK (show True∧hi_H2_0≤w5.heap.size∧hi_H3_0_2≤w5.heap.size∧hi_H4_0≤w5.heap.size∧hi_H5_0_2≤w5.heap.size from ⟨trivial,Nat.le_trans (And.right H2_0.out) (by simp),Nat.le_trans (And.right H3_0_2.out) (by simp),Nat.le_trans (And.right H4_0.out) (by simp),Nat.le_trans (And.right H5_0_2.out) (by simp)⟩);replace H2_0:=aK (H2_0.out.below D_);replace H3_0_2:=aK (H3_0_2.out.below D_);replace H4_0:=aK (H4_0.out.below D_);replace H5_0_2:=aK (H5_0_2.out.below D_);have B6:=aK (qe_ B5.out D_);replace LB0:=aK (show w3.heap.size < w6.heap.size from blk_lt HS0.out);have LB1:=aK (show w5.heap.size < w6.heap.size from blk_lt HS1.out);clear D_ hb;have PS_H2_0:=aK (show hi_H2_0≤w6.heap.size from And.right H2_0.out);have PS_H3_0_2:=aK (show hi_H3_0_2≤w6.heap.size from And.right H3_0_2.out);have PS_H4_0:=aK (show hi_H4_0≤w6.heap.size from And.right H4_0.out);have PS_H5_0_2:=aK (show hi_H5_0_2≤w6.heap.size from And.right H5_0_2.out);clear z0_0 z0_1 z0_2;have z0_0:w6.cell? ⟨w3.heap.size,0,none⟩=some (.int .i64 y3_0_0):=SrAt.c0 HS0.out;have z0_1:w6.cell? ⟨w3.heap.size,1,none⟩=some (.int .i64 y3_0_1):=SrAt.c1 HS0.out;have z0_2:w6.cell? ⟨w3.heap.size,2,none⟩=some (.slice A_H3_0_2 y3_0_2.length c_H3_0_2):=SrAt.c2 HS0.out;have z1_0:w6.cell? ⟨w5.heap.size,0,none⟩=some (.int .i64 y5_0_0):=SrAt.c0 HS1.out;have z1_1:w6.cell? ⟨w5.heap.size,1,none⟩=some (.int .i64 y5_0_1):=SrAt.c1 HS1.out;have z1_2:w6.cell? ⟨w5.heap.size,2,none⟩=some (.slice A_H5_0_2 y5_0_2.length c_H5_0_2):=SrAt.c2 HS1.out)
  go_wp2_with (go_at_call 55;(with_reducible refine (qw_.calls k A2 c2 l2 y7_0 _ (Kd.qv1_ HR2.out (by repeat (first|(with_reducible first|exact B6.out|apply qb_|apply qa_|apply qc_)|exact B6.out))) HC2.out E7.out).mono ?_);rintro e w7 ⟨v_H7_0,rfl,ho_H7_0,hb⟩;have D_:Below w6.heap.size w6 w7:=qe_ (by repeat (first|(with_reducible first|exact Below.refl _ _|apply qb_|apply qa_|apply qc_)|exact Below.refl _ _)) hb;replace HS0:=aK (show SrAt w7 (w3.heap.size) (y3_0_0) (y3_0_1) (.slice A_H3_0_2 y3_0_2.length c_H3_0_2) from ql_ HS0.out D_);replace HS1:=aK (show SrAt w7 (w5.heap.size) (y5_0_0) (y5_0_1) (.slice A_H5_0_2 y5_0_2.length c_H5_0_2) from ql_ HS1.out D_);replace H2_0:=aK (H2_0.out.below D_);replace H3_0_2:=aK (H3_0_2.out.below D_);replace H4_0:=aK (H4_0.out.below D_);replace H5_0_2:=aK (H5_0_2.out.below D_);have B7:=aK (qe_ B6.out D_);obtain ⟨lo_H7_0,hi_H7_0,hlo_,hhi_,hx_⟩:∃ lo hi,w6.heap.size≤lo∧lo≤hi∧Go.Proofs.YtaiefdhenikiiaaA.AtS (Kd.slice 2 (Kd.int .i64)) 50 lo hi w7 v_H7_0 y7_0:=⟨_,_,by simp,by have:=hb.size;simpa using this,Go.Proofs.YtaiefdhenikiiaaA.AtS.of ho_H7_0⟩;clear ho_H7_0;obtain ⟨A_H7_0,c_H7_0,rfl,l_⟩:=hx_.form;have H7_0L:=aK l_;have LO_H7_0:=aK (show w.heap.size≤lo_H7_0 from by have:=B6.out.size;omega);have OR_H7_0:=aK (show lo_H7_0≤hi_H7_0∧hi_H2_0≤lo_H7_0∧hi_H3_0_2≤lo_H7_0∧hi_H4_0≤lo_H7_0∧hi_H5_0_2≤lo_H7_0∧w3.heap.size < lo_H7_0∧w5.heap.size < lo_H7_0 from ⟨hhi_,by have:=PS_H2_0.out;omega,by have:=PS_H3_0_2.out;omega,by have:=PS_H4_0.out;omega,by have:=PS_H5_0_2.out;omega,by have:=LB0.out;omega,by have:=LB1.out;omega⟩);have H7_0:=aK hx_;clear hx_ l_ hlo_ hhi_;replace LB0:=aK (show w3.heap.size < w7.heap.size from blk_lt HS0.out);replace LB1:=aK (show w5.heap.size < w7.heap.size from blk_lt HS1.out);clear D_ hb;have PS_H2_0:=aK (show hi_H2_0≤w7.heap.size from And.right H2_0.out);have PS_H3_0_2:=aK (show hi_H3_0_2≤w7.heap.size from And.right H3_0_2.out);have PS_H4_0:=aK (show hi_H4_0≤w7.heap.size from And.right H4_0.out);have PS_H5_0_2:=aK (show hi_H5_0_2≤w7.heap.size from And.right H5_0_2.out);have PS_H7_0:=aK (show hi_H7_0≤w7.heap.size from And.right H7_0.out);clear z0_0 z0_1 z0_2 z1_0 z1_1 z1_2;have z0_0:w7.cell? ⟨w3.heap.size,0,none⟩=some (.int .i64 y3_0_0):=SrAt.c0 HS0.out;have z0_1:w7.cell? ⟨w3.heap.size,1,none⟩=some (.int .i64 y3_0_1):=SrAt.c1 HS0.out;have z0_2:w7.cell? ⟨w3.heap.size,2,none⟩=some (.slice A_H3_0_2 y3_0_2.length c_H3_0_2):=SrAt.c2 HS0.out;have z1_0:w7.cell? ⟨w5.heap.size,0,none⟩=some (.int .i64 y5_0_0):=SrAt.c0 HS1.out;have z1_1:w7.cell? ⟨w5.heap.size,1,none⟩=some (.int .i64 y5_0_1):=SrAt.c1 HS1.out;have z1_2:w7.cell? ⟨w5.heap.size,2,none⟩=some (.slice A_H5_0_2 y5_0_2.length c_H5_0_2):=SrAt.c2 HS1.out)
  go_wp2_with (go_at_call 32;(with_reducible refine (qj1_.calls k _ _ y4_0 _ _ y7_0 true _ (Kd.qv1_ H4_0.out.C (by repeat (first|(with_reducible first|exact Below.refl _ _|apply qb_|apply qa_|apply qc_)|exact Below.refl _ _))) H4_0L.out (Kd.qv1_ H7_0.out.C (by repeat (first|(with_reducible first|exact Below.refl _ _|apply qb_|apply qa_|apply qc_)|exact Below.refl _ _))) H7_0L.out E8.out).mono ?_);rintro e w8 ⟨rfl,hd⟩;have D_:Below w7.heap.size w7 w8:=qe_ (by repeat (first|(with_reducible first|exact Below.refl _ _|apply qb_|apply qa_|apply qc_)|exact Below.refl _ _)) (Go.Proofs.YtaiefdhenikiiaaA.below_drawn hd);replace HS0:=aK (show SrAt w8 (w3.heap.size) (y3_0_0) (y3_0_1) (.slice A_H3_0_2 y3_0_2.length c_H3_0_2) from ql_ HS0.out D_);replace HS1:=aK (show SrAt w8 (w5.heap.size) (y5_0_0) (y5_0_1) (.slice A_H5_0_2 y5_0_2.length c_H5_0_2) from ql_ HS1.out D_);replace H2_0:=aK (H2_0.out.below D_);replace H3_0_2:=aK (H3_0_2.out.below D_);replace H4_0:=aK (H4_0.out.below D_);replace H5_0_2:=aK (H5_0_2.out.below D_);replace H7_0:=aK (H7_0.out.below D_);have B8:=aK (qe_ B7.out D_);replace LB0:=aK (show w3.heap.size < w8.heap.size from blk_lt HS0.out);replace LB1:=aK (show w5.heap.size < w8.heap.size from blk_lt HS1.out);clear D_ hd;have PS_H2_0:=aK (show hi_H2_0≤w8.heap.size from And.right H2_0.out);have PS_H3_0_2:=aK (show hi_H3_0_2≤w8.heap.size from And.right H3_0_2.out);have PS_H4_0:=aK (show hi_H4_0≤w8.heap.size from And.right H4_0.out);have PS_H5_0_2:=aK (show hi_H5_0_2≤w8.heap.size from And.right H5_0_2.out);have PS_H7_0:=aK (show hi_H7_0≤w8.heap.size from And.right H7_0.out);clear z0_0 z0_1 z0_2 z1_0 z1_1 z1_2;have z0_0:w8.cell? ⟨w3.heap.size,0,none⟩=some (.int .i64 y3_0_0):=SrAt.c0 HS0.out;have z0_1:w8.cell? ⟨w3.heap.size,1,none⟩=some (.int .i64 y3_0_1):=SrAt.c1 HS0.out;have z0_2:w8.cell? ⟨w3.heap.size,2,none⟩=some (.slice A_H3_0_2 y3_0_2.length c_H3_0_2):=SrAt.c2 HS0.out;have z1_0:w8.cell? ⟨w5.heap.size,0,none⟩=some (.int .i64 y5_0_0):=SrAt.c0 HS1.out;have z1_1:w8.cell? ⟨w5.heap.size,1,none⟩=some (.int .i64 y5_0_1):=SrAt.c1 HS1.out;have z1_2:w8.cell? ⟨w5.heap.size,2,none⟩=some (.slice A_H5_0_2 y5_0_2.length c_H5_0_2):=SrAt.c2 HS1.out)
  go_wp2_with (go_at_call 35;(with_reducible refine (qz_.calls k  (fun k_=>lo_H4_0≤k_∧k_ < hi_H4_0) _ y4_0 1 y9_0 z9 w _ (by repeat (first|(with_reducible first|exact B8.out|apply qb_|apply qa_|apply qc_)|exact B8.out)) (Kd.S_below (Go.Proofs.YtaiefdhenikiiaaA.AtS.mark H4_0.out LO_H4_0.out) (by repeat (first|(with_reducible first|exact Below.refl _ _|apply qb_|apply qa_|apply qc_)|exact Below.refl _ _))) E9.out).mono ?_);rintro e w9 ⟨rfl,ho,hb,hk⟩;have B9:=aK hb;have KP:=aK (show Kept w8 w9 (fun k_=>lo_H4_0≤k_∧k_ < hi_H4_0) from Kept.then_ (Kept.of_below (by repeat (first|(with_reducible first|exact Below.refl _ _|apply qb_|apply qa_|apply qc_)|exact Below.refl _ _)) _) hk (fun _ h_=>.inl h_));have HN:=aK (Go.Proofs.YtaiefdhenikiiaaA.AtS.of ho);clear ho hb hk;replace H2_0:=aK (Go.Proofs.YtaiefdhenikiiaaA.AtS.kept H2_0.out KP.out (by have:=OR_H4_0.out;have:=OR_H2_0.out;omega));replace H3_0_2:=aK (Go.Proofs.YtaiefdhenikiiaaA.AtR.kept H3_0_2.out KP.out (by have:=OR_H4_0.out;have:=OR_H3_0_2.out;omega));replace H5_0_2:=aK (Go.Proofs.YtaiefdhenikiiaaA.AtR.kept H5_0_2.out KP.out (by have:=OR_H4_0.out;have:=OR_H5_0_2.out;omega));replace H7_0:=aK (Go.Proofs.YtaiefdhenikiiaaA.AtS.kept H7_0.out KP.out (by have:=OR_H4_0.out;have:=OR_H7_0.out;omega));replace HS0:=aK (show SrAt w9 (w3.heap.size) (y3_0_0) (y3_0_1) (.slice A_H3_0_2 y3_0_2.length c_H3_0_2) from (KP.out.2 _ (blk_lt HS0.out) (by have:=OR_H4_0.out;have:=OB0.out;omega)).trans HS0.out);replace HS1:=aK (show SrAt w9 (w5.heap.size) (y5_0_0) (y5_0_1) (.slice A_H5_0_2 y5_0_2.length c_H5_0_2) from (KP.out.2 _ (blk_lt HS1.out) (by have:=OR_H4_0.out;have:=OB1.out;omega)).trans HS1.out);replace H4_0:=HN;clear HN KP;obtain ⟨A_,c_,e_,l_⟩:=H4_0.out.form;injection e_ with e1_ e2_ e3_;replace H4_0L:=aK (e3_ ▸ l_);clear l_ e1_ e3_;(first|rw [e2_]|skip);replace H4_0:=aK (e2_ ▸ H4_0.out);clear e2_;replace LB0:=aK (show w3.heap.size < w9.heap.size from blk_lt HS0.out);replace LB1:=aK (show w5.heap.size < w9.heap.size from blk_lt HS1.out);have PS_H2_0:=aK (show hi_H2_0≤w9.heap.size from And.right H2_0.out);have PS_H3_0_2:=aK (show hi_H3_0_2≤w9.heap.size from And.right H3_0_2.out);have PS_H5_0_2:=aK (show hi_H5_0_2≤w9.heap.size from And.right H5_0_2.out);have PS_H7_0:=aK (show hi_H7_0≤w9.heap.size from And.right H7_0.out);clear z0_0 z0_1 z0_2 z1_0 z1_1 z1_2;have z0_0:w9.cell? ⟨w3.heap.size,0,none⟩=some (.int .i64 y3_0_0):=SrAt.c0 HS0.out;have z0_1:w9.cell? ⟨w3.heap.size,1,none⟩=some (.int .i64 y3_0_1):=SrAt.c1 HS0.out;have z0_2:w9.cell? ⟨w3.heap.size,2,none⟩=some (.slice A_H3_0_2 y3_0_2.length c_H3_0_2):=SrAt.c2 HS0.out;have z1_0:w9.cell? ⟨w5.heap.size,0,none⟩=some (.int .i64 y5_0_0):=SrAt.c0 HS1.out;have z1_1:w9.cell? ⟨w5.heap.size,1,none⟩=some (.int .i64 y5_0_1):=SrAt.c1 HS1.out;have z1_2:w9.cell? ⟨w5.heap.size,2,none⟩=some (.slice A_H5_0_2 y5_0_2.length c_H5_0_2):=SrAt.c2 HS1.out)
  go_wp2_with (go_at_call 33;(with_reducible refine (qh2_.calls k y5_0_0 y5_0_1 _ _ y5_0_2 y3_0_0 y3_0_1 _ _ y3_0_2 true _ (Kd.qv1_ H5_0_2.out.C (by repeat (first|(with_reducible first|exact Below.refl _ _|apply qb_|apply qa_|apply qc_)|exact Below.refl _ _))) H5_0_2L.out (Kd.qv1_ H3_0_2.out.C (by repeat (first|(with_reducible first|exact Below.refl _ _|apply qb_|apply qa_|apply qc_)|exact Below.refl _ _))) H3_0_2L.out E10.out).mono ?_);rintro e w10 ⟨rfl,hb⟩;have D_:Below w9.heap.size w9 w10:=qe_ (by repeat (first|(with_reducible first|exact Below.refl _ _|apply qb_|apply qa_|apply qc_)|exact Below.refl _ _)) hb;replace HS0:=aK (show SrAt w10 (w3.heap.size) (y3_0_0) (y3_0_1) (.slice A_H3_0_2 y3_0_2.length c_H3_0_2) from ql_ HS0.out D_);replace HS1:=aK (show SrAt w10 (w5.heap.size) (y5_0_0) (y5_0_1) (.slice A_H5_0_2 y5_0_2.length c_H5_0_2) from ql_ HS1.out D_);replace H2_0:=aK (H2_0.out.below D_);replace H3_0_2:=aK (H3_0_2.out.below D_);replace H4_0:=aK (H4_0.out.below D_);replace H5_0_2:=aK (H5_0_2.out.below D_);replace H7_0:=aK (H7_0.out.below D_);have B10:=aK (qe_ B9.out D_);replace LB0:=aK (show w3.heap.size < w10.heap.size from blk_lt HS0.out);replace LB1:=aK (show w5.heap.size < w10.heap.size from blk_lt HS1.out);clear D_ hb;have PS_H2_0:=aK (show hi_H2_0≤w10.heap.size from And.right H2_0.out);have PS_H3_0_2:=aK (show hi_H3_0_2≤w10.heap.size from And.right H3_0_2.out);have PS_H5_0_2:=aK (show hi_H5_0_2≤w10.heap.size from And.right H5_0_2.out);have PS_H7_0:=aK (show hi_H7_0≤w10.heap.size from And.right H7_0.out);clear z0_0 z0_1 z0_2 z1_0 z1_1 z1_2;have z0_0:w10.cell? ⟨w3.heap.size,0,none⟩=some (.int .i64 y3_0_0):=SrAt.c0 HS0.out;have z0_1:w10.cell? ⟨w3.heap.size,1,none⟩=some (.int .i64 y3_0_1):=SrAt.c1 HS0.out;have z0_2:w10.cell? ⟨w3.heap.size,2,none⟩=some (.slice A_H3_0_2 y3_0_2.length c_H3_0_2):=SrAt.c2 HS0.out;have z1_0:w10.cell? ⟨w5.heap.size,0,none⟩=some (.int .i64 y5_0_0):=SrAt.c0 HS1.out;have z1_1:w10.cell? ⟨w5.heap.size,1,none⟩=some (.int .i64 y5_0_1):=SrAt.c1 HS1.out;have z1_2:w10.cell? ⟨w5.heap.size,2,none⟩=some (.slice A_H5_0_2 y5_0_2.length c_H5_0_2):=SrAt.c2 HS1.out)
  go_wp2_with (go_at_call 34;(with_reducible refine (qj2_.calls k y5_0_0 y5_0_1 (fun k_=>lo_H5_0_2≤k_∧k_ < hi_H5_0_2) _ y5_0_2 1 y11_0 z11 w _ (by repeat (first|(with_reducible first|exact B10.out|apply qb_|apply qa_|apply qc_)|exact B10.out)) (Kd.qe2_ (Go.Proofs.YtaiefdhenikiiaaA.AtR.mark H5_0_2.out LO_H5_0_2.out) (by repeat (first|(with_reducible first|exact Below.refl _ _|apply qb_|apply qa_|apply qc_)|exact Below.refl _ _))) E11.out).mono ?_);rintro e w11 ⟨rfl,ho,hb,hk⟩;have B11:=aK hb;have KP:=aK (show Kept w10 w11 (fun k_=>lo_H5_0_2≤k_∧k_ < hi_H5_0_2) from Kept.then_ (Kept.of_below (by repeat (first|(with_reducible first|exact Below.refl _ _|apply qb_|apply qa_|apply qc_)|exact Below.refl _ _)) _) hk (fun _ h_=>.inl h_));have HN:=aK (Go.Proofs.YtaiefdhenikiiaaA.AtR.of ho);clear ho hb hk;replace H2_0:=aK (Go.Proofs.YtaiefdhenikiiaaA.AtS.kept H2_0.out KP.out (by have:=OR_H5_0_2.out;have:=OR_H2_0.out;omega));replace H3_0_2:=aK (Go.Proofs.YtaiefdhenikiiaaA.AtR.kept H3_0_2.out KP.out (by have:=OR_H5_0_2.out;have:=OR_H3_0_2.out;omega));clear H4_0 H4_0L;replace H7_0:=aK (Go.Proofs.YtaiefdhenikiiaaA.AtS.kept H7_0.out KP.out (by have:=OR_H5_0_2.out;have:=OR_H7_0.out;omega));replace HS0:=aK (show SrAt w11 (w3.heap.size) (y3_0_0) (y3_0_1) (.slice A_H3_0_2 y3_0_2.length c_H3_0_2) from (KP.out.2 _ (blk_lt HS0.out) (by have:=OR_H5_0_2.out;have:=OB0.out;omega)).trans HS0.out);replace HS1:=aK (show SrAt w11 (w5.heap.size) (y5_0_0) (y5_0_1) (.slice A_H5_0_2 y5_0_2.length c_H5_0_2) from (KP.out.2 _ (blk_lt HS1.out) (by have:=OR_H5_0_2.out;have:=OB1.out;omega)).trans HS1.out);replace H5_0_2:=HN;clear HN KP;obtain ⟨A_,c_,e_,l_⟩:=H5_0_2.out.form;injection e_ with e1_ e2_ e3_;replace H5_0_2L:=aK (e3_ ▸ l_);clear l_ e1_ e3_;(first|rw [e2_]|skip);replace H5_0_2:=aK (e2_ ▸ H5_0_2.out);replace HS1:=aK (show SrAt w11 (w5.heap.size) (y5_0_0) (y5_0_1) (.slice A_H5_0_2 z11.length c_H5_0_2) from by rw [← e2_];exact HS1.out);clear e2_;replace LB0:=aK (show w3.heap.size < w11.heap.size from blk_lt HS0.out);replace LB1:=aK (show w5.heap.size < w11.heap.size from blk_lt HS1.out);have PS_H2_0:=aK (show hi_H2_0≤w11.heap.size from And.right H2_0.out);have PS_H3_0_2:=aK (show hi_H3_0_2≤w11.heap.size from And.right H3_0_2.out);have PS_H7_0:=aK (show hi_H7_0≤w11.heap.size from And.right H7_0.out);clear z0_0 z0_1 z0_2 z1_0 z1_1 z1_2;have z0_0:w11.cell? ⟨w3.heap.size,0,none⟩=some (.int .i64 y3_0_0):=SrAt.c0 HS0.out;have z0_1:w11.cell? ⟨w3.heap.size,1,none⟩=some (.int .i64 y3_0_1):=SrAt.c1 HS0.out;have z0_2:w11.cell? ⟨w3.heap.size,2,none⟩=some (.slice A_H3_0_2 y3_0_2.length c_H3_0_2):=SrAt.c2 HS0.out;have z1_0:w11.cell? ⟨w5.heap.size,0,none⟩=some (.int .i64 y5_0_0):=SrAt.c0 HS1.out;have z1_1:w11.cell? ⟨w5.heap.size,1,none⟩=some (.int .i64 y5_0_1):=SrAt.c1 HS1.out;have z1_2:w11.cell? ⟨w5.heap.size,2,none⟩=some (.slice A_H5_0_2 z11.length c_H5_0_2):=SrAt.c2 HS1.out)
  go_wp2_with (go_at_call 39;(with_reducible refine (qg2_.calls k y5_0_0 y5_0_1 _ _ z11 1 y12_0 _ (Kd.qv1_ H5_0_2.out.C (by repeat (first|(with_reducible first|exact Below.refl _ _|apply qb_|apply qa_|apply qc_)|exact Below.refl _ _))) H5_0_2L.out E12.out).mono ?_);rintro e w12 ⟨rfl,hb⟩;have D_:Below w11.heap.size w11 w12:=qe_ (by repeat (first|(with_reducible first|exact Below.refl _ _|apply qb_|apply qa_|apply qc_)|exact Below.refl _ _)) hb;replace HS0:=aK (show SrAt w12 (w3.heap.size) (y3_0_0) (y3_0_1) (.slice A_H3_0_2 y3_0_2.length c_H3_0_2) from ql_ HS0.out D_);replace HS1:=aK (show SrAt w12 (w5.heap.size) (y5_0_0) (y5_0_1) (.slice A_H5_0_2 z11.length c_H5_0_2) from ql_ HS1.out D_);replace H2_0:=aK (H2_0.out.below D_);replace H3_0_2:=aK (H3_0_2.out.below D_);replace H5_0_2:=aK (H5_0_2.out.below D_);replace H7_0:=aK (H7_0.out.below D_);have B12:=aK (qe_ B11.out D_);replace LB0:=aK (show w3.heap.size < w12.heap.size from blk_lt HS0.out);replace LB1:=aK (show w5.heap.size < w12.heap.size from blk_lt HS1.out);clear D_ hb;have PS_H2_0:=aK (show hi_H2_0≤w12.heap.size from And.right H2_0.out);have PS_H3_0_2:=aK (show hi_H3_0_2≤w12.heap.size from And.right H3_0_2.out);have PS_H7_0:=aK (show hi_H7_0≤w12.heap.size from And.right H7_0.out);clear z0_0 z0_1 z0_2 z1_0 z1_1 z1_2;have z0_0:w12.cell? ⟨w3.heap.size,0,none⟩=some (.int .i64 y3_0_0):=SrAt.c0 HS0.out;have z0_1:w12.cell? ⟨w3.heap.size,1,none⟩=some (.int .i64 y3_0_1):=SrAt.c1 HS0.out;have z0_2:w12.cell? ⟨w3.heap.size,2,none⟩=some (.slice A_H3_0_2 y3_0_2.length c_H3_0_2):=SrAt.c2 HS0.out;have z1_0:w12.cell? ⟨w5.heap.size,0,none⟩=some (.int .i64 y5_0_0):=SrAt.c0 HS1.out;have z1_1:w12.cell? ⟨w5.heap.size,1,none⟩=some (.int .i64 y5_0_1):=SrAt.c1 HS1.out;have z1_2:w12.cell? ⟨w5.heap.size,2,none⟩=some (.slice A_H5_0_2 z11.length c_H5_0_2):=SrAt.c2 HS1.out)
  go_wp2_with (go_at_call 55;(with_reducible refine (qw_.calls k A2 c2 l2 y13_0 _ (Kd.qv1_ HR2.out (by repeat (first|(with_reducible first|exact B12.out|apply qb_|apply qa_|apply qc_)|exact B12.out))) HC2.out E13.out).mono ?_);rintro e w13 ⟨v_H13_0,rfl,ho_H13_0,hb⟩;have D_:Below w12.heap.size w12 w13:=qe_ (by repeat (first|(with_reducible first|exact Below.refl _ _|apply qb_|apply qa_|apply qc_)|exact Below.refl _ _)) hb;replace HS0:=aK (show SrAt w13 (w3.heap.size) (y3_0_0) (y3_0_1) (.slice A_H3_0_2 y3_0_2.length c_H3_0_2) from ql_ HS0.out D_);replace HS1:=aK (show SrAt w13 (w5.heap.size) (y5_0_0) (y5_0_1) (.slice A_H5_0_2 z11.length c_H5_0_2) from ql_ HS1.out D_);replace H2_0:=aK (H2_0.out.below D_);replace H3_0_2:=aK (H3_0_2.out.below D_);replace H5_0_2:=aK (H5_0_2.out.below D_);replace H7_0:=aK (H7_0.out.below D_);have B13:=aK (qe_ B12.out D_);obtain ⟨lo_H13_0,hi_H13_0,hlo_,hhi_,hx_⟩:∃ lo hi,w12.heap.size≤lo∧lo≤hi∧Go.Proofs.YtaiefdhenikiiaaA.AtS (Kd.slice 2 (Kd.int .i64)) 50 lo hi w13 v_H13_0 y13_0:=⟨_,_,by simp,by have:=hb.size;simpa using this,Go.Proofs.YtaiefdhenikiiaaA.AtS.of ho_H13_0⟩;clear ho_H13_0;obtain ⟨A_H13_0,c_H13_0,rfl,l_⟩:=hx_.form;have H13_0L:=aK l_;have LO_H13_0:=aK (show w.heap.size≤lo_H13_0 from by have:=B12.out.size;omega);have OR_H13_0:=aK (show lo_H13_0≤hi_H13_0∧hi_H2_0≤lo_H13_0∧hi_H3_0_2≤lo_H13_0∧hi_H7_0≤lo_H13_0∧w3.heap.size < lo_H13_0∧w5.heap.size < lo_H13_0 from ⟨hhi_,by have:=PS_H2_0.out;omega,by have:=PS_H3_0_2.out;omega,by have:=PS_H7_0.out;omega,by have:=LB0.out;omega,by have:=LB1.out;omega⟩);have H13_0:=aK hx_;clear hx_ l_ hlo_ hhi_;replace LB0:=aK (show w3.heap.size < w13.heap.size from blk_lt HS0.out);replace LB1:=aK (show w5.heap.size < w13.heap.size from blk_lt HS1.out);clear D_ hb;have PS_H2_0:=aK (show hi_H2_0≤w13.heap.size from And.right H2_0.out);have PS_H3_0_2:=aK (show hi_H3_0_2≤w13.heap.size from And.right H3_0_2.out);have PS_H7_0:=aK (show hi_H7_0≤w13.heap.size from And.right H7_0.out);have PS_H13_0:=aK (show hi_H13_0≤w13.heap.size from And.right H13_0.out);clear z0_0 z0_1 z0_2 z1_0 z1_1 z1_2;have z0_0:w13.cell? ⟨w3.heap.size,0,none⟩=some (.int .i64 y3_0_0):=SrAt.c0 HS0.out;have z0_1:w13.cell? ⟨w3.heap.size,1,none⟩=some (.int .i64 y3_0_1):=SrAt.c1 HS0.out;have z0_2:w13.cell? ⟨w3.heap.size,2,none⟩=some (.slice A_H3_0_2 y3_0_2.length c_H3_0_2):=SrAt.c2 HS0.out;have z1_0:w13.cell? ⟨w5.heap.size,0,none⟩=some (.int .i64 y5_0_0):=SrAt.c0 HS1.out;have z1_1:w13.cell? ⟨w5.heap.size,1,none⟩=some (.int .i64 y5_0_1):=SrAt.c1 HS1.out;have z1_2:w13.cell? ⟨w5.heap.size,2,none⟩=some (.slice A_H5_0_2 z11.length c_H5_0_2):=SrAt.c2 HS1.out)
  go_wp2_with (go_at_call 72;(with_reducible refine (qk2_.calls a0 a1 _ _ y13_0 y14_0_0 y14_0_1 y14_0_2 y14_1 _ (Kd.qv1_ H13_0.out.C (by repeat (first|(with_reducible first|exact Below.refl _ _|apply qb_|apply qa_|apply qc_)|exact Below.refl _ _))) H13_0L.out E14.out).mono ?_);rintro e w14 ⟨v_H14_0_2,rfl,ho_H14_0_2,hb⟩;have D_:Below w13.heap.size w13 w14:=qe_ (by repeat (first|(with_reducible first|exact Below.refl _ _|apply qb_|apply qa_|apply qc_)|exact Below.refl _ _)) hb;replace HS0:=aK (show SrAt w14 (w3.heap.size) (y3_0_0) (y3_0_1) (.slice A_H3_0_2 y3_0_2.length c_H3_0_2) from ql_ HS0.out D_);replace HS1:=aK (show SrAt w14 (w5.heap.size) (y5_0_0) (y5_0_1) (.slice A_H5_0_2 z11.length c_H5_0_2) from ql_ HS1.out D_);replace H2_0:=aK (H2_0.out.below D_);replace H3_0_2:=aK (H3_0_2.out.below D_);replace H5_0_2:=aK (H5_0_2.out.below D_);replace H7_0:=aK (H7_0.out.below D_);replace H13_0:=aK (H13_0.out.below D_);have B14:=aK (qe_ B13.out D_);obtain ⟨lo_H14_0_2,hi_H14_0_2,hlo_,hhi_,hx_⟩:∃ lo hi,w13.heap.size≤lo∧lo≤hi∧Go.Proofs.YtaiefdhenikiiaaA.AtR k79 79 lo hi w14 v_H14_0_2 y14_0_2:=⟨_,_,by simp,by have:=hb.size;simpa using this,Go.Proofs.YtaiefdhenikiiaaA.AtR.of ho_H14_0_2⟩;clear ho_H14_0_2;obtain ⟨A_H14_0_2,c_H14_0_2,rfl,l_⟩:=hx_.form;have H14_0_2L:=aK l_;have LO_H14_0_2:=aK (show w.heap.size≤lo_H14_0_2 from by have:=B13.out.size;omega);have OR_H14_0_2:=aK (show lo_H14_0_2≤hi_H14_0_2∧hi_H2_0≤lo_H14_0_2∧hi_H3_0_2≤lo_H14_0_2∧hi_H7_0≤lo_H14_0_2∧hi_H13_0≤lo_H14_0_2∧w3.heap.size < lo_H14_0_2∧w5.heap.size < lo_H14_0_2 from ⟨hhi_,by have:=PS_H2_0.out;omega,by have:=PS_H3_0_2.out;omega,by have:=PS_H7_0.out;omega,by have:=PS_H13_0.out;omega,by have:=LB0.out;omega,by have:=LB1.out;omega⟩);have H14_0_2:=aK hx_;clear hx_ l_ hlo_ hhi_;replace LB0:=aK (show w3.heap.size < w14.heap.size from blk_lt HS0.out);replace LB1:=aK (show w5.heap.size < w14.heap.size from blk_lt HS1.out);clear D_ hb;have PS_H2_0:=aK (show hi_H2_0≤w14.heap.size from And.right H2_0.out);have PS_H3_0_2:=aK (show hi_H3_0_2≤w14.heap.size from And.right H3_0_2.out);have PS_H7_0:=aK (show hi_H7_0≤w14.heap.size from And.right H7_0.out);have PS_H13_0:=aK (show hi_H13_0≤w14.heap.size from And.right H13_0.out);have PS_H14_0_2:=aK (show hi_H14_0_2≤w14.heap.size from And.right H14_0_2.out);clear z0_0 z0_1 z0_2 z1_0 z1_1 z1_2;have z0_0:(w14.alloc (.cells #[.int .i64 y14_0_0,.int .i64 y14_0_1,.slice A_H14_0_2 y14_0_2.length c_H14_0_2] 38)).cell? ⟨w3.heap.size,0,none⟩=some (.int .i64 y3_0_0):=SrAt.c0 (SrAt.alloc HS0.out _);have z0_1:(w14.alloc (.cells #[.int .i64 y14_0_0,.int .i64 y14_0_1,.slice A_H14_0_2 y14_0_2.length c_H14_0_2] 38)).cell? ⟨w3.heap.size,1,none⟩=some (.int .i64 y3_0_1):=SrAt.c1 (SrAt.alloc HS0.out _);have z0_2:(w14.alloc (.cells #[.int .i64 y14_0_0,.int .i64 y14_0_1,.slice A_H14_0_2 y14_0_2.length c_H14_0_2] 38)).cell? ⟨w3.heap.size,2,none⟩=some (.slice A_H3_0_2 y3_0_2.length c_H3_0_2):=SrAt.c2 (SrAt.alloc HS0.out _);have z1_0:(w14.alloc (.cells #[.int .i64 y14_0_0,.int .i64 y14_0_1,.slice A_H14_0_2 y14_0_2.length c_H14_0_2] 38)).cell? ⟨w5.heap.size,0,none⟩=some (.int .i64 y5_0_0):=SrAt.c0 (SrAt.alloc HS1.out _);have z1_1:(w14.alloc (.cells #[.int .i64 y14_0_0,.int .i64 y14_0_1,.slice A_H14_0_2 y14_0_2.length c_H14_0_2] 38)).cell? ⟨w5.heap.size,1,none⟩=some (.int .i64 y5_0_1):=SrAt.c1 (SrAt.alloc HS1.out _);have z1_2:(w14.alloc (.cells #[.int .i64 y14_0_0,.int .i64 y14_0_1,.slice A_H14_0_2 y14_0_2.length c_H14_0_2] 38)).cell? ⟨w5.heap.size,2,none⟩=some (.slice A_H5_0_2 z11.length c_H5_0_2):=SrAt.c2 (SrAt.alloc HS1.out _))
  go_wp2_with (go_at_call 33;(with_reducible refine (qh2_.calls k y14_0_0 y14_0_1 _ _ y14_0_2 y3_0_0 y3_0_1 _ _ y3_0_2 true _ (Kd.qv1_ H14_0_2.out.C (by repeat (first|(with_reducible first|exact Below.refl _ _|apply qb_|apply qa_|apply qc_)|exact Below.refl _ _))) H14_0_2L.out (Kd.qv1_ H3_0_2.out.C (by repeat (first|(with_reducible first|exact Below.refl _ _|apply qb_|apply qa_|apply qc_)|exact Below.refl _ _))) H3_0_2L.out E15.out).mono ?_);rintro e w15 ⟨rfl,hb⟩;have D_:Below w14.heap.size w14 w15:=qe_ (by repeat (first|(with_reducible first|exact Below.refl _ _|apply qb_|apply qa_|apply qc_)|exact Below.refl _ _)) hb;have HS2:=aK (show SrAt w15 (w14.heap.size) (y14_0_0) (y14_0_1) (.slice A_H14_0_2 y14_0_2.length c_H14_0_2) from ql_ (new_at rfl) hb);replace HS0:=aK (show SrAt w15 (w3.heap.size) (y3_0_0) (y3_0_1) (.slice A_H3_0_2 y3_0_2.length c_H3_0_2) from ql_ HS0.out D_);replace HS1:=aK (show SrAt w15 (w5.heap.size) (y5_0_0) (y5_0_1) (.slice A_H5_0_2 z11.length c_H5_0_2) from ql_ HS1.out D_);have OB2:=aK (show True∧hi_H2_0≤w14.heap.size∧hi_H3_0_2≤w14.heap.size∧hi_H7_0≤w14.heap.size∧hi_H13_0≤w14.heap.size∧hi_H14_0_2≤w14.heap.size from ⟨trivial,Nat.le_trans (And.right H2_0.out) (by simp),Nat.le_trans (And.right H3_0_2.out) (by simp),Nat.le_trans (And.right H7_0.out) (by simp),Nat.le_trans (And.right H13_0.out) (by simp),Nat.le_trans (And.right H14_0_2.out) (by simp)⟩);replace H2_0:=aK (H2_0.out.below D_);replace H3_0_2:=aK (H3_0_2.out.below D_);replace H5_0_2:=aK (H5_0_2.out.below D_);replace H7_0:=aK (H7_0.out.below D_);replace H13_0:=aK (H13_0.out.below D_);replace H14_0_2:=aK (H14_0_2.out.below D_);have B15:=aK (qe_ B14.out D_);replace LB0:=aK (show w3.heap.size < w15.heap.size from blk_lt HS0.out);replace LB1:=aK (show w5.heap.size < w15.heap.size from blk_lt HS1.out);have LB2:=aK (show w14.heap.size < w15.heap.size from blk_lt HS2.out);clear D_ hb;have PS_H2_0:=aK (show hi_H2_0≤w15.heap.size from And.right H2_0.out);have PS_H3_0_2:=aK (show hi_H3_0_2≤w15.heap.size from And.right H3_0_2.out);have PS_H7_0:=aK (show hi_H7_0≤w15.heap.size from And.right H7_0.out);have PS_H13_0:=aK (show hi_H13_0≤w15.heap.size from And.right H13_0.out);have PS_H14_0_2:=aK (show hi_H14_0_2≤w15.heap.size from And.right H14_0_2.out);clear z0_0 z0_1 z0_2 z1_0 z1_1 z1_2;have z0_0:w15.cell? ⟨w3.heap.size,0,none⟩=some (.int .i64 y3_0_0):=SrAt.c0 HS0.out;have z0_1:w15.cell? ⟨w3.heap.size,1,none⟩=some (.int .i64 y3_0_1):=SrAt.c1 HS0.out;have z0_2:w15.cell? ⟨w3.heap.size,2,none⟩=some (.slice A_H3_0_2 y3_0_2.length c_H3_0_2):=SrAt.c2 HS0.out;have z1_0:w15.cell? ⟨w5.heap.size,0,none⟩=some (.int .i64 y5_0_0):=SrAt.c0 HS1.out;have z1_1:w15.cell? ⟨w5.heap.size,1,none⟩=some (.int .i64 y5_0_1):=SrAt.c1 HS1.out;have z1_2:w15.cell? ⟨w5.heap.size,2,none⟩=some (.slice A_H5_0_2 z11.length c_H5_0_2):=SrAt.c2 HS1.out;have z2_0:w15.cell? ⟨w14.heap.size,0,none⟩=some (.int .i64 y14_0_0):=SrAt.c0 HS2.out;have z2_1:w15.cell? ⟨w14.heap.size,1,none⟩=some (.int .i64 y14_0_1):=SrAt.c1 HS2.out;have z2_2:w15.cell? ⟨w14.heap.size,2,none⟩=some (.slice A_H14_0_2 y14_0_2.length c_H14_0_2):=SrAt.c2 HS2.out)
  go_wp2_with (go_at_call 39;(with_reducible refine (qg2_.calls k y5_0_0 y5_0_1 _ _ z11 1 y16_0 _ (Kd.qv1_ H5_0_2.out.C (by repeat (first|(with_reducible first|exact Below.refl _ _|apply qb_|apply qa_|apply qc_)|exact Below.refl _ _))) H5_0_2L.out E16.out).mono ?_);rintro e w16 ⟨rfl,hb⟩;have D_:Below w15.heap.size w15 w16:=qe_ (by repeat (first|(with_reducible first|exact Below.refl _ _|apply qb_|apply qa_|apply qc_)|exact Below.refl _ _)) hb;replace HS0:=aK (show SrAt w16 (w3.heap.size) (y3_0_0) (y3_0_1) (.slice A_H3_0_2 y3_0_2.length c_H3_0_2) from ql_ HS0.out D_);replace HS1:=aK (show SrAt w16 (w5.heap.size) (y5_0_0) (y5_0_1) (.slice A_H5_0_2 z11.length c_H5_0_2) from ql_ HS1.out D_);replace HS2:=aK (show SrAt w16 (w14.heap.size) (y14_0_0) (y14_0_1) (.slice A_H14_0_2 y14_0_2.length c_H14_0_2) from ql_ HS2.out D_);replace H2_0:=aK (H2_0.out.below D_);replace H3_0_2:=aK (H3_0_2.out.below D_);replace H5_0_2:=aK (H5_0_2.out.below D_);replace H7_0:=aK (H7_0.out.below D_);replace H13_0:=aK (H13_0.out.below D_);replace H14_0_2:=aK (H14_0_2.out.below D_);have B16:=aK (qe_ B15.out D_);replace LB0:=aK (show w3.heap.size < w16.heap.size from blk_lt HS0.out);replace LB1:=aK (show w5.heap.size < w16.heap.size from blk_lt HS1.out);replace LB2:=aK (show w14.heap.size < w16.heap.size from blk_lt HS2.out);clear D_ hb;have PS_H2_0:=aK (show hi_H2_0≤w16.heap.size from And.right H2_0.out);have PS_H3_0_2:=aK (show hi_H3_0_2≤w16.heap.size from And.right H3_0_2.out);have PS_H7_0:=aK (show hi_H7_0≤w16.heap.size from And.right H7_0.out);have PS_H13_0:=aK (show hi_H13_0≤w16.heap.size from And.right H13_0.out);have PS_H14_0_2:=aK (show hi_H14_0_2≤w16.heap.size from And.right H14_0_2.out);clear z0_0 z0_1 z0_2 z1_0 z1_1 z1_2 z2_0 z2_1 z2_2;have z0_0:w16.cell? ⟨w3.heap.size,0,none⟩=some (.int .i64 y3_0_0):=SrAt.c0 HS0.out;have z0_1:w16.cell? ⟨w3.heap.size,1,none⟩=some (.int .i64 y3_0_1):=SrAt.c1 HS0.out;have z0_2:w16.cell? ⟨w3.heap.size,2,none⟩=some (.slice A_H3_0_2 y3_0_2.length c_H3_0_2):=SrAt.c2 HS0.out;have z1_0:w16.cell? ⟨w5.heap.size,0,none⟩=some (.int .i64 y5_0_0):=SrAt.c0 HS1.out;have z1_1:w16.cell? ⟨w5.heap.size,1,none⟩=some (.int .i64 y5_0_1):=SrAt.c1 HS1.out;have z1_2:w16.cell? ⟨w5.heap.size,2,none⟩=some (.slice A_H5_0_2 z11.length c_H5_0_2):=SrAt.c2 HS1.out;have z2_0:w16.cell? ⟨w14.heap.size,0,none⟩=some (.int .i64 y14_0_0):=SrAt.c0 HS2.out;have z2_1:w16.cell? ⟨w14.heap.size,1,none⟩=some (.int .i64 y14_0_1):=SrAt.c1 HS2.out;have z2_2:w16.cell? ⟨w14.heap.size,2,none⟩=some (.slice A_H14_0_2 y14_0_2.length c_H14_0_2):=SrAt.c2 HS2.out)
  go_ret
  exact ⟨rfl,B16.out⟩
end Go.Proofs.Ytaiefdhenikiiaa.Base
namespace Go.Proofs.Ytaiefdhenikiiaa.PFnExactLogSignature
open Go.RowKit Go.Proofs.YtaiefdhenikiiaaW.PrintWords Go.Proofs.YtaiefdhenikiiaaO Go.Proofs.Ytaiefdhenikiiaa.Base
set_option linter.unusedVariables false
def qw1_.Pure:Prop:=∀ (a0:Int) (a1:Int) (l2:List (List Int)),(Lit.int .i64 a0).wf=true→(Lit.int .i64 a1).wf=true→(l2.length≤9223372036854775807∧∀ a_ ∈ l2,(a_.length≤9223372036854775807∧∀ a__ ∈ a_,(Lit.int .i64 a__).wf=true))→∃ k,qw1_.f k a0 a1 l2=some true
end Go.Proofs.Ytaiefdhenikiiaa.PFnExactLogSignature
namespace Go.Proofs.Ytaiefdhenikiiaa.Pure
open Go.RowKit Go.Proofs.Ytaiefdhenikiiaa.Base Go.Proofs.Ytaiefdhenikiiaa.PFnExactLogSignature Go.Proofs.YtaiefdhenikiiaaW.PrintWords Go.Proofs.YtaiefdhenikiiaaW.PrintLast
set_option linter.unusedSimpArgs false
set_option linter.unusedVariables false
theorem FnExactLogSignature:qw1_.Pure:=by
  intro x0 x1 l2 _ _ hl2
  obtain ⟨hn,hr⟩:=hl2
  have hr':∀ r ∈ l2,r.length≤9223372036854775807:=fun r h=>(hr r h).1
  obtain ⟨v,hs,hc⟩:=sz_both l2 hn hr'
  unfold qw1_.f
  refine Ev.rounds (Ev.bind hs ?_)
  by_cases c:v < 0
  · simp only [c,if_true];exact Ev.now _
  · simp only [c,if_false]
    have ht:l2.length+total l2≤1048576:=by rcases hc with hc|hc;exact absurd hc c;exact hc
    have h1:l2.length≤1048576:=by omega
    have h2:∀ r ∈ l2,r.length≤1048576:=fun r h=>by have:=total_mem h;omega
    have hcp:=copy_rows l2 h1 h2
    have hsame:=same_rows l2 h1 h2
    have hmark:=markSS l2 1 (by omega) (by omega) h1
    have hlen:=logR_len x0 x1 l2
    obtain ⟨⟨R1,R2,R,C⟩,hR⟩:∃ q,q=logR x0 x1 l2:=⟨_,rfl⟩
    rw [← hR] at hlen
    have hI:qk2_.f x0 x1 l2=some (R1,R2,R,C):=by unfold qk2_.f;rw [if_pos ⟨h1,h2⟩,hR]
    have hS:qt2_.f x0 x1 l2=some (R1,R2,R,C):=by unfold qt2_.f;rw [if_pos ⟨h1,h2⟩,hR]
    have eR:=eqSer_id R1 R2 R hlen
    obtain ⟨R',mR,dR⟩:=marksSer_id R1 R2 R hlen
    refine Ev.bind hcp ?_
    simp only [hS,Option.bind_some]
    refine Ev.bind hcp ?_
    simp only [hI,Option.bind_some,if_true]
    refine Ev.bind eR ?_
    refine Ev.congr (fun _=>if_pos rfl) ?_
    refine Ev.bind hcp (Ev.bind hsame ?_)
    refine Ev.congr (fun _=>if_pos rfl) ?_
    refine Ev.bind hmark ?_
    dsimp only
    refine Ev.congr (fun _=>if_pos (by omega)) ?_
    refine Ev.bind eR ?_
    refine Ev.congr (fun _=>if_pos rfl) ?_
    refine Ev.bind mR ?_
    dsimp only
    refine Ev.congr (fun _=>if_pos (by omega)) ?_
    refine Ev.bind dR ?_
    refine Ev.congr (fun _=>if_pos ⟨by omega,rfl⟩) ?_
    refine Ev.bind hcp ?_
    simp only [hI,Option.bind_some,if_true]
    refine Ev.bind eR ?_
    refine Ev.congr (fun _=>if_pos rfl) ?_
    refine Ev.bind dR ?_
    refine Ev.congr (fun _=>if_pos ⟨by omega,rfl⟩) ?_
    exact Ev.now _
end Go.Proofs.Ytaiefdhenikiiaa.Pure
