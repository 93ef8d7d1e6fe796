/- Texts that the proof of FnExactDynkinMap needs, part 11. No condition. -/
import Derived.Test.YtaiefdhenikiiaaMFnExactDynkinMap10
namespace Go.Proofs.Ytaiefdhenikiiaa.Base
open Go.RowKit Go.Proofs.YtaiefdhenikiiaaW.PrintWords Go.Proofs.YtaiefdhenikiiaaW.PrintLast Go.Proofs.YtaiefdhenikiiaaW.PrintMore
attribute [local go_sem] max2_int qo1_ max_two min_two max_three min_three max_four min_four Go.Proofs.YtaiefdhenikiiaaZ.qx_   -- for this text's walks alone
set_option linter.unusedVariables false
set_option linter.unusedSimpArgs false
theorem dyn_TmBelow {W W':World} {b:Nat} {x:S79} (H:TmAt W b x) (hb:Below W.heap.size W W'):TmAt W' b x:=qm_ H hb
def qs2_.f (a0_0:Int) (a0_1:Int) (l0_2:List S79):Option (Int × Int × (List S79) × Int):=if l0_2.length≤1048576∧(∀ x ∈ l0_2,x.f0.size≤1048576) then some (dynR a0_0 a0_1 l0_2) else none
set_option maxHeartbeats 16000000 in
set_option maxRecDepth 100000 in
theorem qs2_.calls (a0_0:Int) (a0_1:Int) (A0_2:Option Addr) (c0_2:Nat) (l0_2:List (S79)) (r1:Int) (r2:Int) (r3:List (S79)) (r4:Int) (w:World) (hr0_2:Kd.C k79 w A0_2 l0_2.length l0_2) (hc0_2:l0_2.length≤c0_2) (h:qs2_.f a0_0 a0_1 l0_2=some (r1,r2,r3,r4)) :
  Calls Try.prog 62 #[.agg #[.int .i64 a0_0,.int .i64 a0_1,.slice A0_2 l0_2.length c0_2]] w fun e w'=>∃ v2_:Value,e=.returned (.tuple #[.agg #[.int .i64 r1,.int .i64 r2,v2_],.int .i64 r4])∧Kd.R k79 79 w' w.heap.size (fun _=>True) v2_ r3∧Below w.heap.size w w':=by
 unfold qs2_.f at h
 split at h
 rotate_left
 ·cases h
 rename_i hsm
 replace h:=Option.some.inj h
 have hu:=Try.underlying38
 have hu2:=Try.underlying79
 have hu3:=Try.underlying77
 have HR:=aK hr0_2
 have HC:=aK hc0_2
 clear hr0_2 hc0_2
 obtain ⟨k1,h1⟩:=(ser_impl a0_0 a0_1 l0_2 hsm).rounds
 unfold dynR at h
 by_cases c:serB a0_0 a0_1 l0_2=true
 rotate_left
 ·have cf:serB a0_0 a0_1 l0_2=false:=by simpa using c
  rw [cf] at h1
  have HIS:=aK h1
  rw [if_neg c] at h
  simp only [Prod.mk.injEq] at h
  obtain ⟨rfl,rfl,rfl,rfl⟩:=h
  clear h1 c cf hsm
  go_enter Try.func62,Try.ntmps62
  have x0:((w.alloc (.cells #[.int .i64 a0_0,.int .i64 a0_1,.slice A0_2 l0_2.length c0_2] 38)).alloc (.cells #[.int .i64 0,.int .i64 0,.slice none 0 0] 38)).cell? ⟨w.heap.size,0,none⟩=some (.int .i64 a0_0):=qg_ (old_at (new_at rfl)) 0
  have x1:((w.alloc (.cells #[.int .i64 a0_0,.int .i64 a0_1,.slice A0_2 l0_2.length c0_2] 38)).alloc (.cells #[.int .i64 0,.int .i64 0,.slice none 0 0] 38)).cell? ⟨w.heap.size,1,none⟩=some (.int .i64 a0_1):=qg_ (old_at (new_at rfl)) 1
  have x2:((w.alloc (.cells #[.int .i64 a0_0,.int .i64 a0_1,.slice A0_2 l0_2.length c0_2] 38)).alloc (.cells #[.int .i64 0,.int .i64 0,.slice none 0 0] 38)).cell? ⟨w.heap.size,2,none⟩=some (.slice A0_2 l0_2.length c0_2):=qg_ (old_at (new_at rfl)) 2
  go_wp2_with (go_at_call 83;(with_reducible refine (qt2_.calls k1 _ _ _ _ _ _ _ (Kd.qv1_ HR.out (qb_ (qb_ (Below.refl _ _) _) _)) HC.out HIS.out).mono ?_);rintro e w1 ⟨rfl,hb⟩;have HB1:=aK (show Below w.heap.size w w1 from qj_ (qb_ (qb_ (Below.refl _ _) _) _) hb);have HX1:=aK (show SrAt w1 w.heap.size a0_0 a0_1 (.slice A0_2 l0_2.length c0_2) from qm_ (old_at (new_at rfl)) hb);have HR1:=aK (show SrAt w1 (w.heap.size+1) 0 0 (.slice none 0 0) from qm_ (new_at (by simp)) hb);clear x0 x1 x2;have s0:w1.cell? ⟨w.heap.size+1,0,none⟩=some (.int .i64 0):=qg_ HR1.out 0;have sf0:w1.frozen? ⟨w.heap.size+1,0,none⟩=false:=qd_ HR1.out 0;have s1:w1.cell? ⟨w.heap.size+1,1,none⟩=some (.int .i64 0):=qg_ HR1.out 1;have sf1:w1.frozen? ⟨w.heap.size+1,1,none⟩=false:=qd_ HR1.out 1;have s2:w1.cell? ⟨w.heap.size+1,2,none⟩=some (.slice none 0 0):=qg_ HR1.out 2;have sf2:w1.frozen? ⟨w.heap.size+1,2,none⟩=false:=qd_ HR1.out 2;clear hb)
  refine bodyPost_ret (results_ct rfl _ _ (w.heap.size+1) 38 _ (0,0) _ rfl (qt_ (qt_ (qt_ HR1.out 0 _) 1 _) 2 _) hu rfl (by kernel_rfl)) rfl ?_
  exact ⟨_,rfl,Kd.R_nil _ _ _ _ _,((HB1.out.setCell (Nat.le_add_right _ 1) _).setCell (Nat.le_add_right _ 1) _).setCell (Nat.le_add_right _ 1) _⟩
 ·rw [c] at h1
  have HIS:=aK h1
  rw [if_pos c] at h
  obtain ⟨d,n,rfl,rfl,hs,hgd⟩:=serB_nat c
  rw [Int.toNat_natCast,Int.toNat_natCast] at h
  have HT:=aK (told_all (dynT_like hs l0_2) h)
  have HS:=aK hs
  have HZ:=aK (zeroT_ok hs)
  have HOK:=aK (good_okTs (by have:=hs.d3;omega) hgd).1
  have HLL:=aK hsm.1
  clear h h1 c hs hgd hsm
  go_enter Try.func62,Try.ntmps62
  have x0:((w.alloc (.cells #[.int .i64 (d:Int),.int .i64 (n:Int),.slice A0_2 l0_2.length c0_2] 38)).alloc (.cells #[.int .i64 0,.int .i64 0,.slice none 0 0] 38)).cell? ⟨w.heap.size,0,none⟩=some (.int .i64 (d:Int)):=qg_ (old_at (new_at rfl)) 0
  have x1:((w.alloc (.cells #[.int .i64 (d:Int),.int .i64 (n:Int),.slice A0_2 l0_2.length c0_2] 38)).alloc (.cells #[.int .i64 0,.int .i64 0,.slice none 0 0] 38)).cell? ⟨w.heap.size,1,none⟩=some (.int .i64 (n:Int)):=qg_ (old_at (new_at rfl)) 1
  have x2:((w.alloc (.cells #[.int .i64 (d:Int),.int .i64 (n:Int),.slice A0_2 l0_2.length c0_2] 38)).alloc (.cells #[.int .i64 0,.int .i64 0,.slice none 0 0] 38)).cell? ⟨w.heap.size,2,none⟩=some (.slice A0_2 l0_2.length c0_2):=qg_ (old_at (new_at rfl)) 2
  go_wp2_with (first
   | (go_at_call 83;(with_reducible refine (qt2_.calls k1 _ _ _ _ _ _ _ (Kd.qv1_ HR.out (qb_ (qb_ (Below.refl _ _) _) _)) HC.out HIS.out).mono ?_);rintro e w1 ⟨rfl,hb⟩;have HB1:=aK (show Below w.heap.size w w1 from qj_ (qb_ (qb_ (Below.refl _ _) _) _) hb);have HX1:=aK (show SrAt w1 w.heap.size (d:Int) (n:Int) (.slice A0_2 l0_2.length c0_2) from qm_ (old_at (new_at rfl)) hb);have HR1:=aK (show SrAt w1 (w.heap.size+1) 0 0 (.slice none 0 0) from qm_ (new_at (by simp)) hb);clear x0 x1 x2;have x0:w1.cell? ⟨w.heap.size,0,none⟩=some (.int .i64 (d:Int)):=qg_ HX1.out 0;have x1:w1.cell? ⟨w.heap.size,1,none⟩=some (.int .i64 (n:Int)):=qg_ HX1.out 1;have x2:w1.cell? ⟨w.heap.size,2,none⟩=some (.slice A0_2 l0_2.length c0_2):=qg_ HX1.out 2;clear hb)
   | (go_at_call 126;(with_reducible refine (newTableL _ d n HS.out).mono ?_);rintro e w2 ⟨g2,k2,rfl,T,hg,hh,hb⟩;have HO2:=aK T;have HX2:=aK (HX1.out.below hb);have HR2:=aK (HR1.out.below hb);have HB2:=aK (show Below w.heap.size w w2 from qj_ HB1.out hb);clear x0 x1 x2;have x0:w2.cell? ⟨w.heap.size,0,none⟩=some (.int .i64 (d:Int)):=qg_ HX2.out 0;have x1:w2.cell? ⟨w.heap.size,1,none⟩=some (.int .i64 (n:Int)):=qg_ HX2.out 1;have x2:w2.cell? ⟨w.heap.size,2,none⟩=some (.slice A0_2 l0_2.length c0_2):=qg_ HX2.out 2;have HG2:=aK (show w.heap.size≤g2 from Nat.le_trans HB1.out.size hg);clear T hg hh hb))
  go_loopg [4,20] l0_2.length (fun gg v4 v20 wr=>∃ (i g k:Nat),i≤l0_2.length∧l0_2.length - i≤gg∧v4=.pointer (some ⟨g,0,none⟩)∧v20=.int .i64 i∧Aside0 (HasT wr g k (dynT d n (l0_2.take i)) (zeroT d n))∧Aside0 (w.heap.size≤g)∧Aside0 (SrAt wr w.heap.size d n (.slice A0_2 l0_2.length c0_2))∧Aside0 (SrAt wr (w.heap.size+1) 0 0 (.slice none 0 0))∧Aside0 (Below w.heap.size w wr))
  case atStart=>exact ⟨0,g2,k2,Nat.zero_le _,by omega,rfl,rfl,HO2,HG2,HX2,HR2,HB2⟩
  case round =>
   clear HO2 HX2 HR2 HB2 HX1 HR1 HB1 x0 x1 x2
   obtain ⟨i,g,k,hi,hg,rfl,rfl,HO,HG,HX,HRB,HB⟩:=hrel
   by_cases hlt:i < l0_2.length
   ·have hltz:(i:Int) < (l0_2.length:Int):=by omega
    obtain ⟨ad,rfl,t0,t1,t2⟩:=at_T79 (Kd.qv1_ HR.out HB.out) (i:Int) (by omega) (by omega)
    have e1:rd_T79 l0_2 (i:Int)=l0_2[i]:=by simp [rd_T79,List.getD_eq_getElem?_getD,List.getElem?_eq_getElem hlt]
    obtain ⟨x,hx⟩:∃ x,x=l0_2[i]:=⟨_,rfl⟩
    rw [e1,← hx,Int.toNat_natCast] at t0 t1 t2
    obtain ⟨hw,hf⟩:=HOK.out l0_2[i] (List.getElem_mem hlt)
    rw [← hx] at hw hf
    have HD:=aK (dyn_succ (d:=d) (n:=n) hlt)
    rw [← hx] at HD
    have hsz:x.f0.size=(decW x.f0).length:=by conv=>lhs;rw [← hw.1,encW_size]
    obtain ⟨O,hO⟩:∃ O,O=dynT d n (l0_2.take i):=⟨_,rfl⟩
    rw [← hO] at HD HO
    have HOL:=aK (show Like O (zeroT d n) from HO.out.like)
    by_cases c0:(decW x.f0).length=0
    ·have he:x.f0.toList.isEmpty=true:=by
      rw [← hw.1,List.length_eq_zero_iff.1 c0,encW_list];rfl
     have HN:=aK (show dynT d n (l0_2.take (i+1))=O from by rw [HD.out];unfold dynStep;rw [if_pos c0])
     clear hw hf hsz hx e1 hO c0
     go_wp2
     go_roundg (l0_2.length - (i+1))
     case measure=>omega
     case rel=>exact ⟨i+1,g,k,by omega,by omega,rfl,by have:=HLL.out;first|rfl|(rw [w64 (by omega) (by omega)];rfl),⟨by rw [HN.out];exact HO.out.below (qb_ (Below.refl _ _) _)⟩,HG,⟨HX.out.alloc _⟩,⟨HRB.out.alloc _⟩,⟨qb_ HB.out _⟩⟩
    ·have he:x.f0.toList.isEmpty=false:=by
      rw [← hw.1,encW_list]
      cases hh:decW x.f0 with
      | nil=>rw [hh] at c0;exact absurd rfl c0
      | cons y z=>rfl
     have h8:(decW x.f0).length≤8:=by have:=hw.2.1;have:=HS.out.n8;omega
     have hlf:okF (lenF (decW x.f0).length):=lenF_ok (by omega) (by omega)
     obtain ⟨q,hq⟩:∃ q,q=dynA x:=⟨_,rfl⟩
     obtain ⟨kt,hkt⟩:=(times_is hf hlf).rounds
     have HK:=aK (show qy1_.f kt x.f1.f0 x.f1.f1 1 (x.f0.size:Int)=some (q.1.f0,q.1.f1,q.2) from by rw [hq,hsz];exact hkt)
     obtain ⟨a,ha⟩:∃ a,a=chkF q.1 q.2:=⟨_,rfl⟩
     have HAF:=aK (show okF a from by rw [ha];exact chkF_ok (fun hh=>by rw [hq];exact times_okF (by rw [hq] at hh;exact hh)))
     have HN:=aK (show dynT d n (l0_2.take (i+1))=sumT (O.chk q.2) (scaleT (leftT d n (decW x.f0)) a) from by rw [HD.out];unfold dynStep;rw [if_neg c0,← hq,← ha])
     have H1:=aK (show ∀ W,Calls Try.prog 95 #[.int .i64 (d:Int),.int .i64 (n:Int),.string x.f0] W (NewT W (leftT d n (decW x.f0)) (zeroT d n)) from fun W=>by have:=leftBracket_ W d n (decW x.f0) HS.out hw.2;rwa [hw.1] at this)
     have HA:=aK ha
     clear hw hf hsz hx e1 hO c0 h8 hlf hq hkt ha
     go_wp2_with (first
      | (go_at_call 128;(with_reducible refine (qy1_.calls kt _ _ _ _ _ _ _ _ HK.out).mono ?_);rintro e w3 ⟨rfl,hb⟩;have HM3:=aK (show Below wr.heap.size wr w3 from qj_ (by repeat (first|(with_reducible exact Below.refl _ _)|(with_reducible refine qc_ ?_)|(with_reducible refine qa_ ?_ _)|(with_reducible refine qb_ ?_ _))) hb);have X3:TmAt w3 wr.heap.size x:=qm_ (by repeat' (first|(with_reducible refine drew_at ?_)|((with_reducible refine new_at ?_);simp;done))) hb;have HT3:=aK X3;have HO3:=aK (HO.out.below HM3.out);have N1:wr.heap.size ≠ g:=blk_ne X3 HO3.out.tab.st (by decide);clear X3 hb t0 t1 t2)
      | (go_at_call 127;(with_reducible refine (check_ _ g k O HO3.out.tab q.1 q.2).mono ?_);rintro e w4 ⟨rfl,O4,m⟩;have HO4:=aK (show HasT w4 g k (O.chk q.2) (zeroT d n) from ⟨O4,HOL.out.1,HOL.out.2.1,HOL.out.2.2.chk _⟩);have HT4:=aK (show TmAt w4 wr.heap.size x from (m.block _ (blk_lt HT3.out) N1).trans HT3.out);have HX3:=HX.out.below HM3.out;have HX4:=aK (show SrAt w4 w.heap.size d n (.slice (some ad) l0_2.length c0_2) from (m.block _ (blk_lt HX3) (blk_ne HX3 HO3.out.tab.st (by decide))).trans HX3);have HR3:=HRB.out.below HM3.out;have HR4:=aK (show SrAt w4 (w.heap.size+1) 0 0 (.slice none 0 0) from (m.block _ (blk_lt HR3) (blk_ne HR3 HO3.out.tab.st (by decide))).trans HR3);have HB4:=aK (show Below w.heap.size w w4 from m.below (qj_ HB.out HM3.out) (Nat.le_trans HB.out.size HM3.out.size) (fun j _ e=>e ▸ HG.out));clear O4 m HX3 HR3 N1))
     rw [← HA.out]
     generalize hW:World.alloc w4 _=W3
     have HX3:=aK (show SrAt W3 w.heap.size d n (.slice (some ad) l0_2.length c0_2) from by rw [← hW];exact HX4.out.alloc _)
     have HR3':=aK (show SrAt W3 (w.heap.size+1) 0 0 (.slice none 0 0) from by rw [← hW];exact HR4.out.alloc _)
     have HT3':=aK (show TmAt W3 wr.heap.size x from by rw [← hW];exact old_at HT4.out)
     have HF3:=aK (show FrAt W3 w4.heap.size a from by rw [← hW];exact new_at rfl)
     have HO3':=aK (show HasT W3 g k (O.chk q.2) (zeroT d n) from by rw [← hW];exact HO4.out.below (qb_ (Below.refl _ _) _))
     have HB3':=aK (show Below w.heap.size w W3 from by rw [← hW];exact qb_ HB4.out _)
     obtain ⟨b6,hb6⟩:∃ b,b=wr.heap.size:=⟨_,rfl⟩
     obtain ⟨b7,hb7⟩:∃ b,b=w4.heap.size:=⟨_,rfl⟩
     rw [← hb6] at HT3' ⊢
     rw [← hb7] at HF3 ⊢
     clear hW hb6 hb7 HX4 HR4 HT4 HO4 HB4 HM3 HT3 HO3
     have z0:W3.cell? ⟨w.heap.size,0,none⟩=some (.int .i64 (d:Int)):=qg_ HX3.out 0
     have z1:W3.cell? ⟨w.heap.size,1,none⟩=some (.int .i64 (n:Int)):=qg_ HX3.out 1
     have z2:W3.cell? ⟨b6,0,none⟩=some (.string x.f0):=qg_ HT3'.out 0
     have z3:W3.cell? ⟨b7,0,none⟩=some (.int .i64 a.f0):=qg_ HF3.out 0
     have z4:W3.cell? ⟨b7,1,none⟩=some (.int .i64 a.f1):=qg_ HF3.out 1
     go_region_held3 (fun w'=>w'.cell? ⟨w.heap.size,0,none⟩=some (.int .i64 (d:Int))∧w'.cell? ⟨w.heap.size,1,none⟩=some (.int .i64 (n:Int))∧w'.cell? ⟨b6,0,none⟩=some (.string x.f0)∧w'.cell? ⟨b7,0,none⟩=some (.int .i64 a.f0)∧w'.cell? ⟨b7,1,none⟩=some (.int .i64 a.f1)) (go_keep) (first
      | (go_at_call 95;(with_reducible refine (H1.out _).mono ?_);rintro e w5 ⟨g5,k5,rfl,T,hg,hh,hb⟩;have HM5:=aK (show Below W3.heap.size W3 w5 from qj_ (by repeat (first|(with_reducible exact Below.refl _ _)|(with_reducible refine qc_ ?_)|(with_reducible refine qa_ ?_ _)|(with_reducible refine qb_ ?_ _))) hb);have HT5:=aK T;have SX:=HX3.out.below HM5.out;have ST:=dyn_TmBelow HT3'.out HM5.out;have SF:=HF3.out.below HM5.out;have z0:w5.cell? ⟨w.heap.size,0,none⟩=some (.int .i64 (d:Int)):=qg_ SX 0;have z1:w5.cell? ⟨w.heap.size,1,none⟩=some (.int .i64 (n:Int)):=qg_ SX 1;have z2:w5.cell? ⟨b6,0,none⟩=some (.string x.f0):=qg_ ST 0;have z3:w5.cell? ⟨b7,0,none⟩=some (.int .i64 a.f0):=qg_ SF 0;have z4:w5.cell? ⟨b7,1,none⟩=some (.int .i64 a.f1):=qg_ SF 1;clear SX ST SF;clear T hg hh hb)
      | (go_at_call 130;(with_reducible refine (scaledL _ HT5.out a HAF.out).mono ?_);rintro e w6 ⟨g6,k6,rfl,T,hg,hh,hb⟩;have HM6:=aK (show Below W3.heap.size W3 w6 from qj_ HM5.out hb);have HT6:=aK T;have SX:=HX3.out.below HM6.out;have ST:=dyn_TmBelow HT3'.out HM6.out;have SF:=HF3.out.below HM6.out;have z0:w6.cell? ⟨w.heap.size,0,none⟩=some (.int .i64 (d:Int)):=qg_ SX 0;have z1:w6.cell? ⟨w.heap.size,1,none⟩=some (.int .i64 (n:Int)):=qg_ SX 1;have z2:w6.cell? ⟨b6,0,none⟩=some (.string x.f0):=qg_ ST 0;have z3:w6.cell? ⟨b7,0,none⟩=some (.int .i64 a.f0):=qg_ SF 0;have z4:w6.cell? ⟨b7,1,none⟩=some (.int .i64 a.f1):=qg_ SF 1;clear SX ST SF;clear T hg hh hb)
      | (go_at_call 129;(with_reducible refine (sumL _ (HO3'.out.below HM6.out) HT6.out HZ.out).mono ?_);rintro e w7 ⟨g7,k7,rfl,T,hg,hh,hb⟩;have HM7:=aK (show Below W3.heap.size W3 w7 from qj_ HM6.out hb);have HT7:=aK T;have HG7:=aK (show w.heap.size≤g7 from Nat.le_trans HB3'.out.size (Nat.le_trans HM6.out.size hg));have SX:=HX3.out.below HM7.out;have ST:=dyn_TmBelow HT3'.out HM7.out;have SF:=HF3.out.below HM7.out;have z0:w7.cell? ⟨w.heap.size,0,none⟩=some (.int .i64 (d:Int)):=qg_ SX 0;have z1:w7.cell? ⟨w.heap.size,1,none⟩=some (.int .i64 (n:Int)):=qg_ SX 1;have z2:w7.cell? ⟨b6,0,none⟩=some (.string x.f0):=qg_ ST 0;have z3:w7.cell? ⟨b7,0,none⟩=some (.int .i64 a.f0):=qg_ SF 0;have z4:w7.cell? ⟨b7,1,none⟩=some (.int .i64 a.f1):=qg_ SF 1;clear SX ST SF;clear T hg hh hb))
     go_wp2
     go_roundg (l0_2.length - (i+1))
     case measure=>omega
     case rel=>exact ⟨i+1,g7,k7,by omega,by omega,rfl,by have:=HLL.out;first|rfl|(rw [w64 (by omega) (by omega)];rfl),⟨by rw [HN.out];exact HT7.out⟩,HG7,⟨HX3.out.below HM7.out⟩,⟨HR3'.out.below HM7.out⟩,⟨qj_ HB3'.out HM7.out⟩⟩
   ·have hltz:¬ (i:Int) < (l0_2.length:Int):=by omega
    have hil:i=l0_2.length:=by omega
    rw [hil,List.take_length] at HO
    rw [hil]
    clear hil
    go_wp2_with (go_at_call 96;(with_reducible refine (HT.out _ _ _ HO.out.tab).mono ?_);rintro e w8 ⟨v,rfl,hv,hb⟩;obtain ⟨A1,c1,rfl⟩:=Kd.qf2_ hv;have HB8:=aK (show Below w.heap.size w w8 from qj_ HB.out hb);have HV:=aK (Kd.qn2_ hv HB.out.size);have S:=HRB.out.below hb;have s0:w8.cell? ⟨w.heap.size+1,0,none⟩=some (.int .i64 0):=qg_ S 0;have sf0:w8.frozen? ⟨w.heap.size+1,0,none⟩=false:=qd_ S 0;have s1:w8.cell? ⟨w.heap.size+1,1,none⟩=some (.int .i64 0):=qg_ S 1;have sf1:w8.frozen? ⟨w.heap.size+1,1,none⟩=false:=qd_ S 1;have s2:w8.cell? ⟨w.heap.size+1,2,none⟩=some (.slice none 0 0):=qg_ S 2;have sf2:w8.frozen? ⟨w.heap.size+1,2,none⟩=false:=qd_ S 2;have HS8:=aK S;clear S hv hb)
    refine bodyPost_ret (results_ct rfl _ _ (w.heap.size+1) 38 _ (0,0) _ rfl (qt_ (qt_ (qt_ HS8.out 0 _) 1 _) 2 _) hu rfl (by kernel_rfl)) rfl ?_
    refine ⟨_,rfl,?_,((HB8.out.setCell (Nat.le_add_right _ 1) _).setCell (Nat.le_add_right _ 1) _).setCell (Nat.le_add_right _ 1) _⟩
    exact Kd.R_set (Kd.R_set (Kd.R_set HV.out HS8.out (by decide) 0 _) (qt_ HS8.out 0 _) (by decide) 1 _) (qt_ (qt_ HS8.out 0 _) 1 _) (by decide) 2 _
end Go.Proofs.Ytaiefdhenikiiaa.Base
namespace Go.Proofs.Ytaiefdhenikiiaa.Base
open Go.RowKit Go.Proofs.YtaiefdhenikiiaaW.PrintWords Go.Proofs.YtaiefdhenikiiaaW.PrintLast Go.Proofs.YtaiefdhenikiiaaW.PrintMore
attribute [local go_sem] max2_int qo1_ max_two min_two max_three min_three max_four min_four Go.Proofs.YtaiefdhenikiiaaZ.qx_   -- for this text's walks alone
set_option linter.unusedVariables false
set_option linter.unusedSimpArgs false
theorem qs1_.keep {w W:World} {a0:Addr} {v0:Value} {a1:Addr} {v1:Value} {a2:Addr} {v2:Value} {a3:Addr} {v3:Value} {a4:Addr} {v4:Value} {a5:Addr} {v5:Value} (p0:w.cell? a0=some v0) (p1:w.cell? a1=some v1) (p2:w.cell? a2=some v2) (p3:w.cell? a3=some v3) (p4:w.cell? a4=some v4) (p5:w.cell? a5=some v5) (hb:Below w.heap.size w W):W.cell? a0=some v0∧W.cell? a1=some v1∧W.cell? a2=some v2∧W.cell? a3=some v3∧W.cell? a4=some v4∧W.cell? a5=some v5:=⟨qq_ hb p0,qq_ hb p1,qq_ hb p2,qq_ hb p3,qq_ hb p4,qq_ hb p5⟩
def qs1_.f (k:Nat) (a0_0:Int) (a0_1:Int) (l0_2:List (S75)):Option Bool:=(qk2_.f k a0_0 a0_1 l0_2 1048576).bind fun y1_0=>if y1_0 < 0 then some true else (qd2_.f k a0_0 a0_1 l0_2).bind fun p2=>(qy2_.f p2.1 p2.2.1 p2.2.2).bind fun p3=>(qd2_.f k a0_0 a0_1 l0_2).bind fun p4=>(qs2_.f p4.1 p4.2.1 p4.2.2).bind fun p5=>if p5.2.2.2=p3.2.2.2 then (qb2_.f k p5.1 p5.2.1 p5.2.2.1 p3.1 p3.2.1 p3.2.2.1).bind fun y6_0=>if y6_0=true then (qd2_.f k a0_0 a0_1 l0_2).bind fun p7=>(qb2_.f k p4.1 p4.2.1 p4.2.2 p7.1 p7.2.1 p7.2.2).bind fun y8_0=>if y8_0=true then (qz1_.f k p4.1 p4.2.1 p4.2.2 1).bind fun p9=>if 0≤p9.1 then (qb2_.f k p5.1 p5.2.1 p5.2.2.1 p3.1 p3.2.1 p3.2.2.1).bind fun y10_0=>if y10_0=true then (qz1_.f k p5.1 p5.2.1 p5.2.2.1 1).bind fun p11=>if 0≤p11.1 then (qe2_.f k p5.1 p5.2.1 p11.2 1).bind fun y12_0=>if 0≤y12_0∧y12_0=p11.1 then (qd2_.f k a0_0 a0_1 l0_2).bind fun p13=>(qs2_.f p13.1 p13.2.1 p13.2.2).bind fun p14=>if p14.2.2.2=p3.2.2.2 then (qb2_.f k p14.1 p14.2.1 p14.2.2.1 p3.1 p3.2.1 p3.2.2.1).bind fun y15_0=>if y15_0=true then (qe2_.f k p5.1 p5.2.1 p11.2 1).bind fun y16_0=>if 0≤y16_0∧y16_0=p11.1 then some true else none else none else none else none else none else none else none else none else none else none
theorem qs1_.mono:∀ a0_0 a0_1 l0_2 k,LeO (qs1_.f k a0_0 a0_1 l0_2) (qs1_.f (k+1) a0_0 a0_1 l0_2):=by
 intro a0_0 a0_1 l0_2 k
 unfold qs1_.f
 repeat' first
  | (with_reducible exact qb2_.mono _ _ _ _ _ _ _)
  | (with_reducible exact qe2_.mono _ _ _ _ _)
  | (with_reducible exact qz1_.mono _ _ _ _ _)
  | (with_reducible exact qk2_.mono _ _ _ _ _)
  | (with_reducible exact qd2_.mono _ _ _ _)
  | (with_reducible exact LeO.refl _)
  | (with_reducible refine LeO.ite ?_ ?_)
  | (with_reducible refine LeO.bind ?_ (fun _=>?_))
  | exact LeO.refl _
  | exact LeO.none _
set_option maxHeartbeats 16000000 in
set_option maxRecDepth 100000 in
theorem qs1_.calls (k:Nat) (a0_0:Int) (a0_1:Int) (A0_2:Option Addr) (c0_2:Nat) (l0_2:List (S75)) (r:Bool) (w:World) (hr0_2:Kd.C k75 w A0_2 l0_2.length l0_2) (hc0_2:l0_2.length≤c0_2) (h:qs1_.f k a0_0 a0_1 l0_2=some r) :
  Calls Try.prog 14 #[.agg #[.int .i64 a0_0,.int .i64 a0_1,.slice A0_2 l0_2.length c0_2]] w fun e w'=>e=.returned (.bool r)∧Below w.heap.size w w':=by
 have hu:=Try.underlying38
 unfold qs1_.f at h
 have HR0_2:=aK hr0_2
 have HC0_2:=aK hc0_2
 clear hr0_2 hc0_2
 have B0:=aK (Below.refl w.heap.size w)
 have h0:=h
 clear h
 replace h0:=Option.bind_eq_some_iff.mp h0
 obtain ⟨y1_0,E1,h0⟩:=h0
 replace E1:=aK E1
 by_cases c1:y1_0 < 0
 ·rw [if_pos c1] at h0
  obtain rfl:=Option.some.inj h0
  clear h0
  have d1:decide (y1_0 < 0)=true:=decide_eq_true c1
  clear c1
  go_enter Try.func14,Try.ntmps14
  have z0_0_0:(w.alloc (.cells #[.int .i64 a0_0,.int .i64 a0_1,.slice A0_2 l0_2.length c0_2] 32)).cell? ⟨w.heap.size,0,none⟩=some (.int .i64 a0_0):=qg_ (new_at rfl) 0
  have z0_0_1:(w.alloc (.cells #[.int .i64 a0_0,.int .i64 a0_1,.slice A0_2 l0_2.length c0_2] 32)).cell? ⟨w.heap.size,1,none⟩=some (.int .i64 a0_1):=qg_ (new_at rfl) 1
  have z0_0_2:(w.alloc (.cells #[.int .i64 a0_0,.int .i64 a0_1,.slice A0_2 l0_2.length c0_2] 32)).cell? ⟨w.heap.size,2,none⟩=some (.slice A0_2 l0_2.length c0_2):=qg_ (new_at rfl) 2
  go_wp2_with (go_at_call 28;(with_reducible refine (qk2_.calls k a0_0 a0_1 A0_2 c0_2 l0_2 1048576 y1_0 _ (Kd.qv1_ HR0_2.out (qb_ B0.out _)) HC0_2.out E1.out).mono ?_);rintro e w1 ⟨rfl,hb⟩;have D_:Below w.heap.size w w1:=qj_ (qb_ (Below.refl _ _) _) hb;have HS0:=aK (show w1.heap[w.heap.size]?=some (.cells #[.int .i64 a0_0,.int .i64 a0_1,.slice A0_2 l0_2.length c0_2] 32 (0,0)) from qm_ (new_at rfl) hb);have OB0:=aK (show True from trivial);have B1:=aK (qj_ B0.out D_);have LB0:=aK (blk_lt HS0.out);clear D_ hb;clear z0_0_0 z0_0_1 z0_0_2;have z1_0_0:w1.cell? ⟨w.heap.size,0,none⟩=some (.int .i64 a0_0):=qg_ HS0.out 0;have z1_0_1:w1.cell? ⟨w.heap.size,1,none⟩=some (.int .i64 a0_1):=qg_ HS0.out 1;have z1_0_2:w1.cell? ⟨w.heap.size,2,none⟩=some (.slice A0_2 l0_2.length c0_2):=qg_ HS0.out 2)
  go_ret
  exact ⟨rfl,B1.out⟩
 ·rw [if_neg c1] at h0
  have d1:decide (y1_0 < 0)=false:=decide_eq_false c1
  clear c1
  replace h0:=Option.bind_eq_some_iff.mp h0
  obtain ⟨⟨y2_0_0,y2_0_1,y2_0_2⟩,E2,h0⟩:=h0
  dsimp only at h0
  replace E2:=aK E2
  replace h0:=Option.bind_eq_some_iff.mp h0
  obtain ⟨⟨y3_0_0,y3_0_1,y3_0_2,y3_1⟩,E3,h0⟩:=h0
  dsimp only at h0
  replace E3:=aK E3
  replace h0:=Option.bind_eq_some_iff.mp h0
  obtain ⟨⟨y4_0_0,y4_0_1,y4_0_2⟩,E4,h0⟩:=h0
  dsimp only at h0
  replace E4:=aK E4
  replace h0:=Option.bind_eq_some_iff.mp h0
  obtain ⟨⟨y5_0_0,y5_0_1,y5_0_2,y5_1⟩,E5,h0⟩:=h0
  dsimp only at h0
  replace E5:=aK E5
  by_cases c5:y5_1=y3_1
  rotate_left
  ·rw [if_neg c5] at h0;cases h0
  rw [if_pos c5] at h0
  have f5_0:(y5_1 != y3_1)=false:=by rw [bne_eq_false_iff_eq];exact c5
  clear c5
  replace h0:=Option.bind_eq_some_iff.mp h0
  obtain ⟨y6_0,E6,h0⟩:=h0
  replace E6:=aK E6
  by_cases c6:y6_0=true
  rotate_left
  ·rw [if_neg c6] at h0;cases h0
  rw [if_pos c6] at h0
  subst c6
  replace h0:=Option.bind_eq_some_iff.mp h0
  obtain ⟨⟨y7_0_0,y7_0_1,y7_0_2⟩,E7,h0⟩:=h0
  dsimp only at h0
  replace E7:=aK E7
  replace h0:=Option.bind_eq_some_iff.mp h0
  obtain ⟨y8_0,E8,h0⟩:=h0
  replace E8:=aK E8
  by_cases c8:y8_0=true
  rotate_left
  ·rw [if_neg c8] at h0;cases h0
  rw [if_pos c8] at h0
  subst c8
  replace h0:=Option.bind_eq_some_iff.mp h0
  obtain ⟨⟨y9_0,z9⟩,E9,h0⟩:=h0
  dsimp only at h0
  replace E9:=aK E9
  by_cases c9:0≤y9_0
  rotate_left
  ·rw [if_neg c9] at h0;cases h0
  rw [if_pos c9] at h0
  have d9:decide (y9_0 < 0)=false:=decide_eq_false (by omega)
  clear c9
  replace h0:=Option.bind_eq_some_iff.mp h0
  obtain ⟨y10_0,E10,h0⟩:=h0
  replace E10:=aK E10
  by_cases c10:y10_0=true
  rotate_left
  ·rw [if_neg c10] at h0;cases h0
  rw [if_pos c10] at h0
  subst c10
  replace h0:=Option.bind_eq_some_iff.mp h0
  obtain ⟨⟨y11_0,z11⟩,E11,h0⟩:=h0
  dsimp only at h0
  replace E11:=aK E11
  by_cases c11:0≤y11_0
  rotate_left
  ·rw [if_neg c11] at h0;cases h0
  rw [if_pos c11] at h0
  have d11:decide (y11_0 < 0)=false:=decide_eq_false (by omega)
  clear c11
  replace h0:=Option.bind_eq_some_iff.mp h0
  obtain ⟨y12_0,E12,h0⟩:=h0
  replace E12:=aK E12
  by_cases c12:0≤y12_0∧y12_0=y11_0
  rotate_left
  ·rw [if_neg c12] at h0;cases h0
  rw [if_pos c12] at h0
  have d12:decide (y12_0 < 0)=false:=decide_eq_false (by omega)
  have f12:(y12_0 != y11_0)=false:=by rw [bne_eq_false_iff_eq];exact c12.2
  clear c12
  replace h0:=Option.bind_eq_some_iff.mp h0
  obtain ⟨⟨y13_0_0,y13_0_1,y13_0_2⟩,E13,h0⟩:=h0
  dsimp only at h0
  replace E13:=aK E13
  replace h0:=Option.bind_eq_some_iff.mp h0
  obtain ⟨⟨y14_0_0,y14_0_1,y14_0_2,y14_1⟩,E14,h0⟩:=h0
  dsimp only at h0
  replace E14:=aK E14
  by_cases c14:y14_1=y3_1
  rotate_left
  ·rw [if_neg c14] at h0;cases h0
  rw [if_pos c14] at h0
  have f14_0:(y14_1 != y3_1)=false:=by rw [bne_eq_false_iff_eq];exact c14
  clear c14
  replace h0:=Option.bind_eq_some_iff.mp h0
  obtain ⟨y15_0,E15,h0⟩:=h0
  replace E15:=aK E15
  by_cases c15:y15_0=true
  rotate_left
  ·rw [if_neg c15] at h0;cases h0
  rw [if_pos c15] at h0
  subst c15
  replace h0:=Option.bind_eq_some_iff.mp h0
  obtain ⟨y16_0,E16,h0⟩:=h0
  replace E16:=aK E16
  by_cases c16:0≤y16_0∧y16_0=y11_0
  rotate_left
  ·rw [if_neg c16] at h0;cases h0
  rw [if_pos c16] at h0
  have d16:decide (y16_0 < 0)=false:=decide_eq_false (by omega)
  have f16:(y16_0 != y11_0)=false:=by rw [bne_eq_false_iff_eq];exact c16.2
  clear c16
  obtain rfl:=Option.some.inj h0
  clear h0
  go_enter Try.func14,Try.ntmps14
  have z0_0_0:(w.alloc (.cells #[.int .i64 a0_0,.int .i64 a0_1,.slice A0_2 l0_2.length c0_2] 32)).cell? ⟨w.heap.size,0,none⟩=some (.int .i64 a0_0):=qg_ (new_at rfl) 0
  have z0_0_1:(w.alloc (.cells #[.int .i64 a0_0,.int .i64 a0_1,.slice A0_2 l0_2.length c0_2] 32)).cell? ⟨w.heap.size,1,none⟩=some (.int .i64 a0_1):=qg_ (new_at rfl) 1
  have z0_0_2:(w.alloc (.cells #[.int .i64 a0_0,.int .i64 a0_1,.slice A0_2 l0_2.length c0_2] 32)).cell? ⟨w.heap.size,2,none⟩=some (.slice A0_2 l0_2.length c0_2):=qg_ (new_at rfl) 2
  go_wp2_with (go_at_call 28;(with_reducible refine (qk2_.calls k a0_0 a0_1 A0_2 c0_2 l0_2 1048576 y1_0 _ (Kd.qv1_ HR0_2.out (qb_ B0.out _)) HC0_2.out E1.out).mono ?_);rintro e w1 ⟨rfl,hb⟩;have D_:Below w.heap.size w w1:=qj_ (qb_ (Below.refl _ _) _) hb;have HS0:=aK (show w1.heap[w.heap.size]?=some (.cells #[.int .i64 a0_0,.int .i64 a0_1,.slice A0_2 l0_2.length c0_2] 32 (0,0)) from qm_ (new_at rfl) hb);have OB0:=aK (show True from trivial);have B1:=aK (qj_ B0.out D_);have LB0:=aK (blk_lt HS0.out);clear D_ hb;clear z0_0_0 z0_0_1 z0_0_2;have z1_0_0:w1.cell? ⟨w.heap.size,0,none⟩=some (.int .i64 a0_0):=qg_ HS0.out 0;have z1_0_1:w1.cell? ⟨w.heap.size,1,none⟩=some (.int .i64 a0_1):=qg_ HS0.out 1;have z1_0_2:w1.cell? ⟨w.heap.size,2,none⟩=some (.slice A0_2 l0_2.length c0_2):=qg_ HS0.out 2)
  go_wp2_with (go_at_call 30;(with_reducible refine (qd2_.calls k a0_0 a0_1 A0_2 c0_2 l0_2 y2_0_0 y2_0_1 y2_0_2 _ (Kd.qv1_ HR0_2.out B1.out) HC0_2.out E2.out).mono ?_);rintro e w2 ⟨v_H2_0_2,rfl,ho_H2_0_2,hb⟩;have D_:Below w1.heap.size w1 w2:=qj_ (Below.refl _ _) hb;replace HS0:=aK (qm_ HS0.out D_);have B2:=aK (qj_ B1.out D_);obtain ⟨lo_H2_0_2,hi_H2_0_2,hlo_,hhi_,hx_⟩:∃ lo hi,w1.heap.size≤lo∧lo≤hi∧Go.Proofs.YtaiefdhenikiiaaA.AtR k79 79 lo hi w2 v_H2_0_2 y2_0_2:=⟨_,_,by simp,by have:=hb.size;simpa using this,Go.Proofs.YtaiefdhenikiiaaA.AtR.of ho_H2_0_2⟩;clear ho_H2_0_2;obtain ⟨A_H2_0_2,c_H2_0_2,rfl,l_⟩:=hx_.form;have H2_0_2L:=aK l_;have H2_0_2:=aK hx_;clear hx_ l_ hlo_ hhi_;replace LB0:=aK (blk_lt HS0.out);clear D_ hb;clear z1_0_0 z1_0_1 z1_0_2)
  go_wp2_with (go_at_call 61;(with_reducible refine (qy2_.calls y2_0_0 y2_0_1 _ _ y2_0_2 y3_0_0 y3_0_1 y3_0_2 y3_1 _ (Kd.qv1_ H2_0_2.out.C (Below.refl _ _)) H2_0_2L.out E3.out).mono ?_);rintro e w3 ⟨v_H3_0_2,rfl,ho_H3_0_2,hb⟩;have D_:Below w2.heap.size w2 w3:=qj_ (Below.refl _ _) hb;replace HS0:=aK (qm_ HS0.out D_);replace H2_0_2:=aK (H2_0_2.out.below D_);have B3:=aK (qj_ B2.out D_);obtain ⟨lo_H3_0_2,hi_H3_0_2,hlo_,hhi_,hx_⟩:∃ lo hi,w2.heap.size≤lo∧lo≤hi∧Go.Proofs.YtaiefdhenikiiaaA.AtR k79 79 lo hi w3 v_H3_0_2 y3_0_2:=⟨_,_,by simp,by have:=hb.size;simpa using this,Go.Proofs.YtaiefdhenikiiaaA.AtR.of ho_H3_0_2⟩;clear ho_H3_0_2;obtain ⟨A_H3_0_2,c_H3_0_2,rfl,l_⟩:=hx_.form;have H3_0_2L:=aK l_;have LO_H3_0_2:=aK (show w.heap.size≤lo_H3_0_2 from by have:=B2.out.size;omega);have OR_H3_0_2:=aK (show lo_H3_0_2≤hi_H3_0_2∧w.heap.size < lo_H3_0_2 from ⟨hhi_,by have:=LB0.out;omega⟩);have H3_0_2:=aK hx_;clear hx_ l_ hlo_ hhi_;replace LB0:=aK (blk_lt HS0.out);clear D_ hb;have PS_H3_0_2:=aK (show hi_H3_0_2≤w3.heap.size from And.right H3_0_2.out);have z3_0_0:(w3.alloc (.cells #[.int .i64 y3_0_0,.int .i64 y3_0_1,.slice A_H3_0_2 y3_0_2.length c_H3_0_2] 38)).cell? ⟨w.heap.size,0,none⟩=some (.int .i64 a0_0):=qg_ (old_at HS0.out) 0;have z3_0_1:(w3.alloc (.cells #[.int .i64 y3_0_0,.int .i64 y3_0_1,.slice A_H3_0_2 y3_0_2.length c_H3_0_2] 38)).cell? ⟨w.heap.size,1,none⟩=some (.int .i64 a0_1):=qg_ (old_at HS0.out) 1;have z3_0_2:(w3.alloc (.cells #[.int .i64 y3_0_0,.int .i64 y3_0_1,.slice A_H3_0_2 y3_0_2.length c_H3_0_2] 38)).cell? ⟨w.heap.size,2,none⟩=some (.slice A0_2 l0_2.length c0_2):=qg_ (old_at HS0.out) 2)
  go_wp2_with (go_at_call 30;(with_reducible refine (qd2_.calls k a0_0 a0_1 A0_2 c0_2 l0_2 y4_0_0 y4_0_1 y4_0_2 _ (Kd.qv1_ HR0_2.out (qb_ B3.out _)) HC0_2.out E4.out).mono ?_);rintro e w4 ⟨v_H4_0_2,rfl,ho_H4_0_2,hb⟩;have D_:Below w3.heap.size w3 w4:=qj_ (qb_ (Below.refl _ _) _) hb;have HS1:=aK (show SrAt w4 (w3.heap.size) (y3_0_0) (y3_0_1) (.slice A_H3_0_2 y3_0_2.length c_H3_0_2) from qm_ (new_at rfl) hb);replace HS0:=aK (qm_ HS0.out D_);have OB1:=aK (show True∧hi_H3_0_2≤w3.heap.size from ⟨trivial,Nat.le_trans (And.right H3_0_2.out) (by simp)⟩);replace H3_0_2:=aK (H3_0_2.out.below D_);have B4:=aK (qj_ B3.out D_);obtain ⟨lo_H4_0_2,hi_H4_0_2,hlo_,hhi_,hx_⟩:∃ lo hi,w3.heap.size+1≤lo∧lo≤hi∧Go.Proofs.YtaiefdhenikiiaaA.AtR k79 79 lo hi w4 v_H4_0_2 y4_0_2:=⟨_,_,by simp,by have:=hb.size;simpa using this,Go.Proofs.YtaiefdhenikiiaaA.AtR.of ho_H4_0_2⟩;clear ho_H4_0_2;obtain ⟨A_H4_0_2,c_H4_0_2,rfl,l_⟩:=hx_.form;have H4_0_2L:=aK l_;have LO_H4_0_2:=aK (show w.heap.size≤lo_H4_0_2 from by have:=B3.out.size;omega);have OR_H4_0_2:=aK (show lo_H4_0_2≤hi_H4_0_2∧hi_H3_0_2≤lo_H4_0_2∧w.heap.size < lo_H4_0_2∧w3.heap.size < lo_H4_0_2 from ⟨hhi_,by have:=PS_H3_0_2.out;omega,by have:=LB0.out;omega,by omega⟩);have H4_0_2:=aK hx_;clear hx_ l_ hlo_ hhi_;replace LB0:=aK (blk_lt HS0.out);have LB1:=aK (blk_lt HS1.out);clear D_ hb;have PS_H3_0_2:=aK (show hi_H3_0_2≤w4.heap.size from And.right H3_0_2.out);have PS_H4_0_2:=aK (show hi_H4_0_2≤w4.heap.size from And.right H4_0_2.out);clear z3_0_0 z3_0_1 z3_0_2)
  go_wp2_with (go_at_call 62;(with_reducible refine (qs2_.calls y4_0_0 y4_0_1 _ _ y4_0_2 y5_0_0 y5_0_1 y5_0_2 y5_1 _ (Kd.qv1_ H4_0_2.out.C (qb_ (Below.refl _ _) _)) H4_0_2L.out E5.out).mono ?_);rintro e w5 ⟨v_H5_0_2,rfl,ho_H5_0_2,hb⟩;have D_:Below w4.heap.size w4 w5:=qj_ (qb_ (Below.refl _ _) _) hb;have HS2:=aK (show SrAt w5 (w4.heap.size) (y4_0_0) (y4_0_1) (.slice A_H4_0_2 y4_0_2.length c_H4_0_2) from qm_ (new_at rfl) hb);replace HS0:=aK (qm_ HS0.out D_);replace HS1:=aK (SrAt.below HS1.out D_);have OB2:=aK (show True∧hi_H3_0_2≤w4.heap.size∧hi_H4_0_2≤w4.heap.size from ⟨trivial,Nat.le_trans (And.right H3_0_2.out) (by simp),Nat.le_trans (And.right H4_0_2.out) (by simp)⟩);replace H3_0_2:=aK (H3_0_2.out.below D_);replace H4_0_2:=aK (H4_0_2.out.below D_);have B5:=aK (qj_ B4.out D_);obtain ⟨lo_H5_0_2,hi_H5_0_2,hlo_,hhi_,hx_⟩:∃ lo hi,w4.heap.size+1≤lo∧lo≤hi∧Go.Proofs.YtaiefdhenikiiaaA.AtR k79 79 lo hi w5 v_H5_0_2 y5_0_2:=⟨_,_,by simp,by have:=hb.size;simpa using this,Go.Proofs.YtaiefdhenikiiaaA.AtR.of ho_H5_0_2⟩;clear ho_H5_0_2;obtain ⟨A_H5_0_2,c_H5_0_2,rfl,l_⟩:=hx_.form;have H5_0_2L:=aK l_;have LO_H5_0_2:=aK (show w.heap.size≤lo_H5_0_2 from by have:=B4.out.size;omega);have OR_H5_0_2:=aK (show lo_H5_0_2≤hi_H5_0_2∧hi_H3_0_2≤lo_H5_0_2∧hi_H4_0_2≤lo_H5_0_2∧w.heap.size < lo_H5_0_2∧w3.heap.size < lo_H5_0_2∧w4.heap.size < lo_H5_0_2 from ⟨hhi_,by have:=PS_H3_0_2.out;omega,by have:=PS_H4_0_2.out;omega,by have:=LB0.out;omega,by have:=LB1.out;omega,by omega⟩);have H5_0_2:=aK hx_;clear hx_ l_ hlo_ hhi_;replace LB0:=aK (blk_lt HS0.out);replace LB1:=aK (blk_lt HS1.out);have LB2:=aK (blk_lt HS2.out);clear D_ hb;have PS_H3_0_2:=aK (show hi_H3_0_2≤w5.heap.size from And.right H3_0_2.out);have PS_H4_0_2:=aK (show hi_H4_0_2≤w5.heap.size from And.right H4_0_2.out);have PS_H5_0_2:=aK (show hi_H5_0_2≤w5.heap.size from And.right H5_0_2.out);have z5_1_0:(w5.alloc (.cells #[.int .i64 y5_0_0,.int .i64 y5_0_1,.slice A_H5_0_2 y5_0_2.length c_H5_0_2] 38)).cell? ⟨w3.heap.size,0,none⟩=some (.int .i64 y3_0_0):=SrAt.c0 (SrAt.alloc HS1.out _);have z5_1_1:(w5.alloc (.cells #[.int .i64 y5_0_0,.int .i64 y5_0_1,.slice A_H5_0_2 y5_0_2.length c_H5_0_2] 38)).cell? ⟨w3.heap.size,1,none⟩=some (.int .i64 y3_0_1):=SrAt.c1 (SrAt.alloc HS1.out _);have z5_1_2:(w5.alloc (.cells #[.int .i64 y5_0_0,.int .i64 y5_0_1,.slice A_H5_0_2 y5_0_2.length c_H5_0_2] 38)).cell? ⟨w3.heap.size,2,none⟩=some (.slice A_H3_0_2 y3_0_2.length c_H3_0_2):=SrAt.c2 (SrAt.alloc HS1.out _))
  go_wp2_with (go_at_call 33;(with_reducible refine (qb2_.calls k y5_0_0 y5_0_1 _ _ y5_0_2 y3_0_0 y3_0_1 _ _ y3_0_2 true _ (Kd.qv1_ H5_0_2.out.C (qb_ (Below.refl _ _) _)) H5_0_2L.out (Kd.qv1_ H3_0_2.out.C (qb_ (Below.refl _ _) _)) H3_0_2L.out E6.out).mono ?_);rintro e w6 ⟨rfl,hb⟩;have D_:Below w5.heap.size w5 w6:=qj_ (qb_ (Below.refl _ _) _) hb;have HS3:=aK (show SrAt w6 (w5.heap.size) (y5_0_0) (y5_0_1) (.slice A_H5_0_2 y5_0_2.length c_H5_0_2) from qm_ (new_at rfl) hb);replace HS0:=aK (qm_ HS0.out D_);replace HS1:=aK (SrAt.below HS1.out D_);replace HS2:=aK (SrAt.below HS2.out D_);have OB3:=aK (show True∧hi_H3_0_2≤w5.heap.size∧hi_H4_0_2≤w5.heap.size∧hi_H5_0_2≤w5.heap.size from ⟨trivial,Nat.le_trans (And.right H3_0_2.out) (by simp),Nat.le_trans (And.right H4_0_2.out) (by simp),Nat.le_trans (And.right H5_0_2.out) (by simp)⟩);replace H3_0_2:=aK (H3_0_2.out.below D_);replace H4_0_2:=aK (H4_0_2.out.below D_);replace H5_0_2:=aK (H5_0_2.out.below D_);have B6:=aK (qj_ B5.out D_);replace LB0:=aK (blk_lt HS0.out);replace LB1:=aK (blk_lt HS1.out);replace LB2:=aK (blk_lt HS2.out);have LB3:=aK (blk_lt HS3.out);clear D_ hb;have PS_H3_0_2:=aK (show hi_H3_0_2≤w6.heap.size from And.right H3_0_2.out);have PS_H4_0_2:=aK (show hi_H4_0_2≤w6.heap.size from And.right H4_0_2.out);have PS_H5_0_2:=aK (show hi_H5_0_2≤w6.heap.size from And.right H5_0_2.out);clear z5_1_0 z5_1_1 z5_1_2;have z6_0_0:w6.cell? ⟨w.heap.size,0,none⟩=some (.int .i64 a0_0):=qg_ HS0.out 0;have z6_0_1:w6.cell? ⟨w.heap.size,1,none⟩=some (.int .i64 a0_1):=qg_ HS0.out 1;have z6_0_2:w6.cell? ⟨w.heap.size,2,none⟩=some (.slice A0_2 l0_2.length c0_2):=qg_ HS0.out 2;have z6_2_0:w6.cell? ⟨w4.heap.size,0,none⟩=some (.int .i64 y4_0_0):=SrAt.c0 HS2.out;have z6_2_1:w6.cell? ⟨w4.heap.size,1,none⟩=some (.int .i64 y4_0_1):=SrAt.c1 HS2.out;have z6_2_2:w6.cell? ⟨w4.heap.size,2,none⟩=some (.slice A_H4_0_2 y4_0_2.length c_H4_0_2):=SrAt.c2 HS2.out)
  go_region_held3 (fun w'=>w'.cell? ⟨w.heap.size,0,none⟩=some (.int .i64 a0_0)∧w'.cell? ⟨w.heap.size,1,none⟩=some (.int .i64 a0_1)∧w'.cell? ⟨w.heap.size,2,none⟩=some (.slice A0_2 l0_2.length c0_2)∧w'.cell? ⟨w4.heap.size,0,none⟩=some (.int .i64 y4_0_0)∧w'.cell? ⟨w4.heap.size,1,none⟩=some (.int .i64 y4_0_1)∧w'.cell? ⟨w4.heap.size,2,none⟩=some (.slice A_H4_0_2 y4_0_2.length c_H4_0_2)) (exact qs1_.keep z6_0_0 z6_0_1 z6_0_2 z6_2_0 z6_2_1 z6_2_2 (by (repeat' (first|(with_reducible exact Below.refl _ _)|(with_reducible exact HK7.out)|(with_reducible exact HK8.out)|(with_reducible refine qc_ ?_)|(with_reducible refine qa_ ?_ _)|(with_reducible refine qb_ ?_ _))))) (first|(go_at_call 30;(with_reducible refine (qd2_.calls k a0_0 a0_1 A0_2 c0_2 l0_2 y7_0_0 y7_0_1 y7_0_2 _ (Kd.qv1_ HR0_2.out (by repeat (first|(with_reducible first|exact B6.out|apply qb_|apply qa_|apply qc_)|exact B6.out))) HC0_2.out E7.out).mono ?_);rintro e w7 ⟨v_H7_0_2,rfl,ho_H7_0_2,hb⟩;have D_:Below w6.heap.size w6 w7:=qj_ (by repeat (first|(with_reducible first|exact Below.refl _ _|apply qb_|apply qa_|apply qc_)|exact Below.refl _ _)) hb;replace HS0:=aK (qm_ HS0.out D_);replace HS1:=aK (SrAt.below HS1.out D_);replace HS2:=aK (SrAt.below HS2.out D_);replace HS3:=aK (SrAt.below HS3.out D_);replace H3_0_2:=aK (H3_0_2.out.below D_);replace H4_0_2:=aK (H4_0_2.out.below D_);replace H5_0_2:=aK (H5_0_2.out.below D_);have B7:=aK (qj_ B6.out D_);obtain ⟨lo_H7_0_2,hi_H7_0_2,hlo_,hhi_,hx_⟩:∃ lo hi,w6.heap.size≤lo∧lo≤hi∧Go.Proofs.YtaiefdhenikiiaaA.AtR k79 79 lo hi w7 v_H7_0_2 y7_0_2:=⟨_,_,by simp,by have:=hb.size;simpa using this,Go.Proofs.YtaiefdhenikiiaaA.AtR.of ho_H7_0_2⟩;clear ho_H7_0_2;obtain ⟨A_H7_0_2,c_H7_0_2,rfl,l_⟩:=hx_.form;have H7_0_2L:=aK l_;have H7_0_2:=aK hx_;clear hx_ l_ hlo_ hhi_;replace LB0:=aK (blk_lt HS0.out);replace LB1:=aK (blk_lt HS1.out);replace LB2:=aK (blk_lt HS2.out);replace LB3:=aK (blk_lt HS3.out);have HK7:=aK (show Below w6.heap.size w6 w7 from D_);clear D_ hb;have PS_H3_0_2:=aK (show hi_H3_0_2≤w7.heap.size from And.right H3_0_2.out);have PS_H4_0_2:=aK (show hi_H4_0_2≤w7.heap.size from And.right H4_0_2.out);have PS_H5_0_2:=aK (show hi_H5_0_2≤w7.heap.size from And.right H5_0_2.out))|(go_at_call 33;(with_reducible refine (qb2_.calls k y4_0_0 y4_0_1 _ _ y4_0_2 y7_0_0 y7_0_1 _ _ y7_0_2 true _ (Kd.qv1_ H4_0_2.out.C (by repeat (first|(with_reducible first|exact Below.refl _ _|apply qb_|apply qa_|apply qc_)|exact Below.refl _ _))) H4_0_2L.out (Kd.qv1_ H7_0_2.out.C (by repeat (first|(with_reducible first|exact Below.refl _ _|apply qb_|apply qa_|apply qc_)|exact Below.refl _ _))) H7_0_2L.out E8.out).mono ?_);rintro e w8 ⟨rfl,hb⟩;have D_:Below w7.heap.size w7 w8:=qj_ (by repeat (first|(with_reducible first|exact Below.refl _ _|apply qb_|apply qa_|apply qc_)|exact Below.refl _ _)) hb;replace HS0:=aK (qm_ HS0.out D_);replace HS1:=aK (SrAt.below HS1.out D_);replace HS2:=aK (SrAt.below HS2.out D_);replace HS3:=aK (SrAt.below HS3.out D_);replace H3_0_2:=aK (H3_0_2.out.below D_);replace H4_0_2:=aK (H4_0_2.out.below D_);replace H5_0_2:=aK (H5_0_2.out.below D_);replace H7_0_2:=aK (H7_0_2.out.below D_);have B8:=aK (qj_ B7.out D_);replace LB0:=aK (blk_lt HS0.out);replace LB1:=aK (blk_lt HS1.out);replace LB2:=aK (blk_lt HS2.out);replace LB3:=aK (blk_lt HS3.out);have HK8:=aK (show Below w6.heap.size w6 w8 from qj_ HK7.out D_);clear D_ hb;have PS_H3_0_2:=aK (show hi_H3_0_2≤w8.heap.size from And.right H3_0_2.out);have PS_H4_0_2:=aK (show hi_H4_0_2≤w8.heap.size from And.right H4_0_2.out);have PS_H5_0_2:=aK (show hi_H5_0_2≤w8.heap.size from And.right H5_0_2.out);have z8_2_0:w8.cell? ⟨w4.heap.size,0,none⟩=some (.int .i64 y4_0_0):=SrAt.c0 HS2.out;have z8_2_1:w8.cell? ⟨w4.heap.size,1,none⟩=some (.int .i64 y4_0_1):=SrAt.c1 HS2.out;have z8_2_2:w8.cell? ⟨w4.heap.size,2,none⟩=some (.slice A_H4_0_2 y4_0_2.length c_H4_0_2):=SrAt.c2 HS2.out))
  clear z6_0_0 z6_0_1 z6_0_2 z6_2_0 z6_2_1 z6_2_2 HK7 HK8
  go_wp2_with (go_at_call 34;(with_reducible refine (qz1_.calls k y4_0_0 y4_0_1 (fun k_=>lo_H4_0_2≤k_∧k_ < hi_H4_0_2) _ y4_0_2 1 y9_0 z9 w _ B8.out (Kd.qm2_ (Go.Proofs.YtaiefdhenikiiaaA.AtR.mark H4_0_2.out LO_H4_0_2.out) (Below.refl _ _)) E9.out).mono ?_);rintro e w9 ⟨rfl,ho,hb,hk⟩;have B9:=aK hb;have KP:=aK (show Kept w8 w9 (fun k_=>lo_H4_0_2≤k_∧k_ < hi_H4_0_2) from Kept.then_ (Kept.of_below (Below.refl _ _) _) hk (fun _ h_=>.inl h_));have HN:=aK (Go.Proofs.YtaiefdhenikiiaaA.AtR.of ho);clear ho hb hk;replace H3_0_2:=aK (Go.Proofs.YtaiefdhenikiiaaA.AtR.kept H3_0_2.out KP.out (by have:=OR_H4_0_2.out;have:=OR_H3_0_2.out;omega));replace H5_0_2:=aK (Go.Proofs.YtaiefdhenikiiaaA.AtR.kept H5_0_2.out KP.out (by have:=OR_H4_0_2.out;have:=OR_H5_0_2.out;omega));replace HS0:=aK (show w9.heap[w.heap.size]?=some (.cells #[.int .i64 a0_0,.int .i64 a0_1,.slice A0_2 l0_2.length c0_2] 32 (0,0)) from (KP.out.2 _ (blk_lt HS0.out) (by have:=OR_H4_0_2.out;have:=OB0.out;omega)).trans HS0.out);replace HS1:=aK (show SrAt w9 (w3.heap.size) (y3_0_0) (y3_0_1) (.slice A_H3_0_2 y3_0_2.length c_H3_0_2) from (KP.out.2 _ (blk_lt HS1.out) (by have:=OR_H4_0_2.out;have:=OB1.out;omega)).trans HS1.out);replace HS3:=aK (show SrAt w9 (w5.heap.size) (y5_0_0) (y5_0_1) (.slice A_H5_0_2 y5_0_2.length c_H5_0_2) from (KP.out.2 _ (blk_lt HS3.out) (by have:=OR_H4_0_2.out;have:=OB3.out;omega)).trans HS3.out);replace H4_0_2:=HN;clear HN KP;obtain ⟨A_,c_,e_,l_⟩:=H4_0_2.out.form;injection e_ with e1_ e2_ e3_;replace H4_0_2L:=aK (e3_ ▸ l_);clear l_ e1_ e3_;(first|rw [e2_]|skip);replace H4_0_2:=aK (e2_ ▸ H4_0_2.out);clear e2_;replace LB0:=aK (blk_lt HS0.out);replace LB1:=aK (blk_lt HS1.out);replace LB2:=aK (blk_lt HS2.out);replace LB3:=aK (blk_lt HS3.out);have PS_H3_0_2:=aK (show hi_H3_0_2≤w9.heap.size from And.right H3_0_2.out);have PS_H5_0_2:=aK (show hi_H5_0_2≤w9.heap.size from And.right H5_0_2.out);clear z8_2_0 z8_2_1 z8_2_2;have z9_1_0:w9.cell? ⟨w3.heap.size,0,none⟩=some (.int .i64 y3_0_0):=SrAt.c0 HS1.out;have z9_1_1:w9.cell? ⟨w3.heap.size,1,none⟩=some (.int .i64 y3_0_1):=SrAt.c1 HS1.out;have z9_1_2:w9.cell? ⟨w3.heap.size,2,none⟩=some (.slice A_H3_0_2 y3_0_2.length c_H3_0_2):=SrAt.c2 HS1.out;have z9_3_0:w9.cell? ⟨w5.heap.size,0,none⟩=some (.int .i64 y5_0_0):=SrAt.c0 HS3.out;have z9_3_1:w9.cell? ⟨w5.heap.size,1,none⟩=some (.int .i64 y5_0_1):=SrAt.c1 HS3.out;have z9_3_2:w9.cell? ⟨w5.heap.size,2,none⟩=some (.slice A_H5_0_2 y5_0_2.length c_H5_0_2):=SrAt.c2 HS3.out)
  go_wp2_with (go_at_call 33;(with_reducible refine (qb2_.calls k y5_0_0 y5_0_1 _ _ y5_0_2 y3_0_0 y3_0_1 _ _ y3_0_2 true _ (Kd.qv1_ H5_0_2.out.C (Below.refl _ _)) H5_0_2L.out (Kd.qv1_ H3_0_2.out.C (Below.refl _ _)) H3_0_2L.out E10.out).mono ?_);rintro e w10 ⟨rfl,hb⟩;have D_:Below w9.heap.size w9 w10:=qj_ (Below.refl _ _) hb;replace HS0:=aK (qm_ HS0.out D_);replace HS1:=aK (SrAt.below HS1.out D_);replace HS3:=aK (SrAt.below HS3.out D_);replace H3_0_2:=aK (H3_0_2.out.below D_);replace H5_0_2:=aK (H5_0_2.out.below D_);have B10:=aK (qj_ B9.out D_);replace LB0:=aK (blk_lt HS0.out);replace LB1:=aK (blk_lt HS1.out);replace LB3:=aK (blk_lt HS3.out);clear D_ hb;have PS_H3_0_2:=aK (show hi_H3_0_2≤w10.heap.size from And.right H3_0_2.out);have PS_H5_0_2:=aK (show hi_H5_0_2≤w10.heap.size from And.right H5_0_2.out);clear z9_1_0 z9_1_1 z9_1_2 z9_3_0 z9_3_1 z9_3_2;have z10_3_0:w10.cell? ⟨w5.heap.size,0,none⟩=some (.int .i64 y5_0_0):=SrAt.c0 HS3.out;have z10_3_1:w10.cell? ⟨w5.heap.size,1,none⟩=some (.int .i64 y5_0_1):=SrAt.c1 HS3.out;have z10_3_2:w10.cell? ⟨w5.heap.size,2,none⟩=some (.slice A_H5_0_2 y5_0_2.length c_H5_0_2):=SrAt.c2 HS3.out)
  go_wp2_with (go_at_call 34;(with_reducible refine (qz1_.calls k y5_0_0 y5_0_1 (fun k_=>lo_H5_0_2≤k_∧k_ < hi_H5_0_2) _ y5_0_2 1 y11_0 z11 w _ B10.out (Kd.qm2_ (Go.Proofs.YtaiefdhenikiiaaA.AtR.mark H5_0_2.out LO_H5_0_2.out) (Below.refl _ _)) E11.out).mono ?_);rintro e w11 ⟨rfl,ho,hb,hk⟩;have B11:=aK hb;have KP:=aK (show Kept w10 w11 (fun k_=>lo_H5_0_2≤k_∧k_ < hi_H5_0_2) from Kept.then_ (Kept.of_below (Below.refl _ _) _) hk (fun _ h_=>.inl h_));have HN:=aK (Go.Proofs.YtaiefdhenikiiaaA.AtR.of ho);clear ho hb hk;replace H3_0_2:=aK (Go.Proofs.YtaiefdhenikiiaaA.AtR.kept H3_0_2.out KP.out (by have:=OR_H5_0_2.out;have:=OR_H3_0_2.out;omega));replace HS0:=aK (show w11.heap[w.heap.size]?=some (.cells #[.int .i64 a0_0,.int .i64 a0_1,.slice A0_2 l0_2.length c0_2] 32 (0,0)) from (KP.out.2 _ (blk_lt HS0.out) (by have:=OR_H5_0_2.out;have:=OB0.out;omega)).trans HS0.out);replace HS1:=aK (show SrAt w11 (w3.heap.size) (y3_0_0) (y3_0_1) (.slice A_H3_0_2 y3_0_2.length c_H3_0_2) from (KP.out.2 _ (blk_lt HS1.out) (by have:=OR_H5_0_2.out;have:=OB1.out;omega)).trans HS1.out);replace HS3:=aK (show SrAt w11 (w5.heap.size) (y5_0_0) (y5_0_1) (.slice A_H5_0_2 y5_0_2.length c_H5_0_2) from (KP.out.2 _ (blk_lt HS3.out) (by have:=OR_H5_0_2.out;have:=OB3.out;omega)).trans HS3.out);replace H5_0_2:=HN;clear HN KP;obtain ⟨A_,c_,e_,l_⟩:=H5_0_2.out.form;injection e_ with e1_ e2_ e3_;replace H5_0_2L:=aK (e3_ ▸ l_);clear l_ e1_ e3_;(first|rw [e2_]|skip);replace H5_0_2:=aK (e2_ ▸ H5_0_2.out);replace HS3:=aK (show SrAt w11 (w5.heap.size) (y5_0_0) (y5_0_1) (.slice A_H5_0_2 z11.length c_H5_0_2) from by rw [← e2_];exact HS3.out);clear e2_;replace LB0:=aK (blk_lt HS0.out);replace LB1:=aK (blk_lt HS1.out);replace LB3:=aK (blk_lt HS3.out);have PS_H3_0_2:=aK (show hi_H3_0_2≤w11.heap.size from And.right H3_0_2.out);clear z10_3_0 z10_3_1 z10_3_2;have z11_3_0:w11.cell? ⟨w5.heap.size,0,none⟩=some (.int .i64 y5_0_0):=SrAt.c0 HS3.out;have z11_3_1:w11.cell? ⟨w5.heap.size,1,none⟩=some (.int .i64 y5_0_1):=SrAt.c1 HS3.out;have z11_3_2:w11.cell? ⟨w5.heap.size,2,none⟩=some (.slice A_H5_0_2 z11.length c_H5_0_2):=SrAt.c2 HS3.out)
  go_wp2_with (go_at_call 39;(with_reducible refine (qe2_.calls k y5_0_0 y5_0_1 _ _ z11 1 y12_0 _ (Kd.qv1_ H5_0_2.out.C (Below.refl _ _)) H5_0_2L.out E12.out).mono ?_);rintro e w12 ⟨rfl,hb⟩;have D_:Below w11.heap.size w11 w12:=qj_ (Below.refl _ _) hb;replace HS0:=aK (qm_ HS0.out D_);replace HS1:=aK (SrAt.below HS1.out D_);replace HS3:=aK (SrAt.below HS3.out D_);replace H3_0_2:=aK (H3_0_2.out.below D_);replace H5_0_2:=aK (H5_0_2.out.below D_);have B12:=aK (qj_ B11.out D_);replace LB0:=aK (blk_lt HS0.out);replace LB1:=aK (blk_lt HS1.out);replace LB3:=aK (blk_lt HS3.out);clear D_ hb;have PS_H3_0_2:=aK (show hi_H3_0_2≤w12.heap.size from And.right H3_0_2.out);clear z11_3_0 z11_3_1 z11_3_2;have z12_0_0:w12.cell? ⟨w.heap.size,0,none⟩=some (.int .i64 a0_0):=qg_ HS0.out 0;have z12_0_1:w12.cell? ⟨w.heap.size,1,none⟩=some (.int .i64 a0_1):=qg_ HS0.out 1;have z12_0_2:w12.cell? ⟨w.heap.size,2,none⟩=some (.slice A0_2 l0_2.length c0_2):=qg_ HS0.out 2)
  go_wp2_with (go_at_call 30;(with_reducible refine (qd2_.calls k a0_0 a0_1 A0_2 c0_2 l0_2 y13_0_0 y13_0_1 y13_0_2 _ (Kd.qv1_ HR0_2.out B12.out) HC0_2.out E13.out).mono ?_);rintro e w13 ⟨v_H13_0_2,rfl,ho_H13_0_2,hb⟩;have D_:Below w12.heap.size w12 w13:=qj_ (Below.refl _ _) hb;replace HS0:=aK (qm_ HS0.out D_);replace HS1:=aK (SrAt.below HS1.out D_);replace HS3:=aK (SrAt.below HS3.out D_);replace H3_0_2:=aK (H3_0_2.out.below D_);replace H5_0_2:=aK (H5_0_2.out.below D_);have B13:=aK (qj_ B12.out D_);obtain ⟨lo_H13_0_2,hi_H13_0_2,hlo_,hhi_,hx_⟩:∃ lo hi,w12.heap.size≤lo∧lo≤hi∧Go.Proofs.YtaiefdhenikiiaaA.AtR k79 79 lo hi w13 v_H13_0_2 y13_0_2:=⟨_,_,by simp,by have:=hb.size;simpa using this,Go.Proofs.YtaiefdhenikiiaaA.AtR.of ho_H13_0_2⟩;clear ho_H13_0_2;obtain ⟨A_H13_0_2,c_H13_0_2,rfl,l_⟩:=hx_.form;have H13_0_2L:=aK l_;have H13_0_2:=aK hx_;clear hx_ l_ hlo_ hhi_;replace LB0:=aK (blk_lt HS0.out);replace LB1:=aK (blk_lt HS1.out);replace LB3:=aK (blk_lt HS3.out);clear D_ hb;have PS_H3_0_2:=aK (show hi_H3_0_2≤w13.heap.size from And.right H3_0_2.out);clear z12_0_0 z12_0_1 z12_0_2)
  go_wp2_with (go_at_call 62;(with_reducible refine (qs2_.calls y13_0_0 y13_0_1 _ _ y13_0_2 y14_0_0 y14_0_1 y14_0_2 y14_1 _ (Kd.qv1_ H13_0_2.out.C (Below.refl _ _)) H13_0_2L.out E14.out).mono ?_);rintro e w14 ⟨v_H14_0_2,rfl,ho_H14_0_2,hb⟩;have D_:Below w13.heap.size w13 w14:=qj_ (Below.refl _ _) hb;replace HS1:=aK (SrAt.below HS1.out D_);replace HS3:=aK (SrAt.below HS3.out D_);replace H3_0_2:=aK (H3_0_2.out.below D_);replace H5_0_2:=aK (H5_0_2.out.below D_);replace H13_0_2:=aK (H13_0_2.out.below D_);have B14:=aK (qj_ B13.out D_);obtain ⟨lo_H14_0_2,hi_H14_0_2,hlo_,hhi_,hx_⟩:∃ lo hi,w13.heap.size≤lo∧lo≤hi∧Go.Proofs.YtaiefdhenikiiaaA.AtR k79 79 lo hi w14 v_H14_0_2 y14_0_2:=⟨_,_,by simp,by have:=hb.size;simpa using this,Go.Proofs.YtaiefdhenikiiaaA.AtR.of ho_H14_0_2⟩;clear ho_H14_0_2;obtain ⟨A_H14_0_2,c_H14_0_2,rfl,l_⟩:=hx_.form;have H14_0_2L:=aK l_;have H14_0_2:=aK hx_;clear hx_ l_ hlo_ hhi_;replace LB1:=aK (blk_lt HS1.out);replace LB3:=aK (blk_lt HS3.out);clear D_ hb;have PS_H3_0_2:=aK (show hi_H3_0_2≤w14.heap.size from And.right H3_0_2.out);have z14_1_0:(w14.alloc (.cells #[.int .i64 y14_0_0,.int .i64 y14_0_1,.slice A_H14_0_2 y14_0_2.length c_H14_0_2] 38)).cell? ⟨w3.heap.size,0,none⟩=some (.int .i64 y3_0_0):=SrAt.c0 (SrAt.alloc HS1.out _);have z14_1_1:(w14.alloc (.cells #[.int .i64 y14_0_0,.int .i64 y14_0_1,.slice A_H14_0_2 y14_0_2.length c_H14_0_2] 38)).cell? ⟨w3.heap.size,1,none⟩=some (.int .i64 y3_0_1):=SrAt.c1 (SrAt.alloc HS1.out _);have z14_1_2:(w14.alloc (.cells #[.int .i64 y14_0_0,.int .i64 y14_0_1,.slice A_H14_0_2 y14_0_2.length c_H14_0_2] 38)).cell? ⟨w3.heap.size,2,none⟩=some (.slice A_H3_0_2 y3_0_2.length c_H3_0_2):=SrAt.c2 (SrAt.alloc HS1.out _))
  go_wp2_with (go_at_call 33;(with_reducible refine (qb2_.calls k y14_0_0 y14_0_1 _ _ y14_0_2 y3_0_0 y3_0_1 _ _ y3_0_2 true _ (Kd.qv1_ H14_0_2.out.C (qb_ (Below.refl _ _) _)) H14_0_2L.out (Kd.qv1_ H3_0_2.out.C (qb_ (Below.refl _ _) _)) H3_0_2L.out E15.out).mono ?_);rintro e w15 ⟨rfl,hb⟩;have D_:Below w14.heap.size w14 w15:=qj_ (qb_ (Below.refl _ _) _) hb;have HS4:=aK (show SrAt w15 (w14.heap.size) (y14_0_0) (y14_0_1) (.slice A_H14_0_2 y14_0_2.length c_H14_0_2) from qm_ (new_at rfl) hb);replace HS1:=aK (SrAt.below HS1.out D_);replace HS3:=aK (SrAt.below HS3.out D_);replace H3_0_2:=aK (H3_0_2.out.below D_);replace H5_0_2:=aK (H5_0_2.out.below D_);replace H14_0_2:=aK (H14_0_2.out.below D_);have B15:=aK (qj_ B14.out D_);replace LB1:=aK (blk_lt HS1.out);replace LB3:=aK (blk_lt HS3.out);clear D_ hb;have PS_H3_0_2:=aK (show hi_H3_0_2≤w15.heap.size from And.right H3_0_2.out);clear z14_1_0 z14_1_1 z14_1_2;have z15_3_0:w15.cell? ⟨w5.heap.size,0,none⟩=some (.int .i64 y5_0_0):=SrAt.c0 HS3.out;have z15_3_1:w15.cell? ⟨w5.heap.size,1,none⟩=some (.int .i64 y5_0_1):=SrAt.c1 HS3.out;have z15_3_2:w15.cell? ⟨w5.heap.size,2,none⟩=some (.slice A_H5_0_2 z11.length c_H5_0_2):=SrAt.c2 HS3.out)
  go_wp2_with (go_at_call 39;(with_reducible refine (qe2_.calls k y5_0_0 y5_0_1 _ _ z11 1 y16_0 _ (Kd.qv1_ H5_0_2.out.C (Below.refl _ _)) H5_0_2L.out E16.out).mono ?_);rintro e w16 ⟨rfl,hb⟩;have D_:Below w15.heap.size w15 w16:=qj_ (Below.refl _ _) hb;replace HS3:=aK (SrAt.below HS3.out D_);replace H5_0_2:=aK (H5_0_2.out.below D_);have B16:=aK (qj_ B15.out D_);replace LB3:=aK (blk_lt HS3.out);clear D_ hb;clear z15_3_0 z15_3_1 z15_3_2)
  go_ret
  exact ⟨rfl,B16.out⟩
end Go.Proofs.Ytaiefdhenikiiaa.Base
namespace Go.Proofs.Ytaiefdhenikiiaa.PFnExactDynkinMap
open Go.RowKit Go.Proofs.YtaiefdhenikiiaaW.PrintWords Go.Proofs.YtaiefdhenikiiaaO Go.Proofs.Ytaiefdhenikiiaa.Base
set_option linter.unusedVariables false
/-- What is known of such a value that came in. -/
def ok73 (x:S73):Prop:=(Lit.int .i64 x.f0).wf=true∧(Lit.int .i64 x.f1).wf=true
theorem opens73:Opens Try.prog 73 k73 ok73:=opens_iso (fun x:S73=>(x.f0,x.f1)) (fun p=>⟨p.1,p.2⟩) (fun _=>rfl) (opens_two Try.underlying73 rfl rfl (by kernel_rfl) (opens_int Try.underlying2 (by kernel_rfl)) (opens_int Try.underlying2 (by kernel_rfl)))
/-- What is known of such a value that came in. -/
def ok75 (x:S75):Prop:=x.f0.size≤9223372036854775807∧ok73 x.f1
theorem opens75:Opens Try.prog 75 k75 ok75:=opens_iso (fun x:S75=>(x.f0,x.f1)) (fun p=>⟨p.1,p.2⟩) (fun _=>rfl) (opens_two Try.underlying75 rfl rfl (by kernel_rfl) (opens_string Try.underlying9 (by kernel_rfl)) opens73)
structure S32 where
  f0:Int
  f1:Int
  f2:(List S75)
def k32:Kd S32:=Kd.iso (Kd.pair (Kd.int .i64) (Kd.pair (Kd.int .i64) (Kd.slice 75 k75))) (fun x:S32=>(x.f0,x.f1,x.f2))
/-- What is known of such a value that came in. -/
def ok32 (x:S32):Prop:=(Lit.int .i64 x.f0).wf=true∧(Lit.int .i64 x.f1).wf=true∧(x.f2.length≤9223372036854775807∧∀ a_ ∈ x.f2,ok75 a_)
theorem opens32:Opens Try.prog 32 k32 ok32:=opens_iso (fun x:S32=>(x.f0,x.f1,x.f2)) (fun p=>⟨p.1,p.2.1,p.2.2⟩) (fun _=>rfl) (opens_three Try.underlying32 rfl rfl rfl (by kernel_rfl) (opens_int Try.underlying2 (by kernel_rfl)) (opens_int Try.underlying2 (by kernel_rfl)) (opens_slice Try.underlying22 (by kernel_rfl) opens75))
def qs1_.Pure:Prop:=∀ (s0:S32),ok32 s0→∃ k,qs1_.f k s0.f0 s0.f1 s0.f2=some true
end Go.Proofs.Ytaiefdhenikiiaa.PFnExactDynkinMap
namespace Go.Proofs.Ytaiefdhenikiiaa.Pure
open Go.RowKit Go.Proofs.Ytaiefdhenikiiaa.Base Go.Proofs.Ytaiefdhenikiiaa.PFnExactDynkinMap Go.Proofs.YtaiefdhenikiiaaW.PrintWords Go.Proofs.YtaiefdhenikiiaaW.PrintLast
set_option linter.unusedSimpArgs false
set_option linter.unusedVariables false
theorem markSer_from (d n:Int) (l:List S79) (hl:l.length≤2000000) (k0:Nat) (h:k0+3 * l.length≤100000000):∃ l',Ev (fun q=>qz1_.f q d n l (k0:Int)) (((k0+3 * l.length:Nat):Int),l'):=by
  obtain ⟨l',_,_,h3,_⟩:=marksT_ends l.length l.length 0 k0 l (by omega) rfl hl h
  refine ⟨l',?_⟩
  unfold qz1_.f
  exact Ev.bind (h:=(show Ev (fun q=>qj1_.f q l (k0:Int)) _ from h3)) (Ev.now _)
theorem FnExactDynkinMap:qs1_.Pure:=by
  intro s0 hok0
  obtain ⟨D0,N0,l0⟩:=s0
  obtain ⟨_,_,hn0,hw0⟩:=hok0
  simp only at hn0 hw0 ⊢
  unfold qs1_.f
  obtain ⟨v0,hs0,hv0,hz0⟩:=szS_is D0 N0 l0 hn0 (fun x hx=>(hw0 x hx).1) 1048576 (by omega) (by omega)
  refine Ev.rounds (Ev.bind hs0 ?_)
  by_cases c0:v0 < 0
  · simp only [c0,if_true];exact Ev.now _
  · simp only [c0,if_false]
    have hm0:=hz0 (by omega)
    have hc0:=toSer_is D0 N0 l0 (by omega)
    have hX0:=arg_small l0 hm0
    obtain ⟨X0,hXe0⟩:∃ X,X=l0.map toX:=⟨_,rfl⟩
    rw [← hXe0] at hc0 hX0
    have hXl0:=hX0.1
    have hq0:=eqSer_id D0 N0 X0 (by omega)
    have hlen:=dynR_len D0 N0 X0
    obtain ⟨⟨R1,R2,R,C⟩,hR⟩:∃ q,q=dynR D0 N0 X0:=⟨_,rfl⟩
    rw [← hR] at hlen
    have hI:qs2_.f D0 N0 X0=some (R1,R2,R,C):=by unfold qs2_.f;rw [if_pos (show X0.length≤1048576∧∀ x ∈ X0,x.f0.size≤1048576 from hX0),hR]
    have hS:qy2_.f D0 N0 X0=some (R1,R2,R,C):=by unfold qy2_.f;rw [if_pos (show X0.length≤1048576∧∀ x ∈ X0,x.f0.size≤1048576 from hX0),hR]
    have eR:=eqSer_id R1 R2 R hlen
    obtain ⟨R',mR,dR⟩:=marksSer_id R1 R2 R hlen
    obtain ⟨Y0,mX0⟩:=markSer_from D0 N0 X0 (by omega) (1) (by omega)
    refine Ev.bind hc0 ?_
    simp only [hS,Option.bind_some]
    refine Ev.bind hc0 ?_
    simp only [hI,Option.bind_some,if_true]
    refine Ev.bind eR ?_
    refine Ev.congr (fun _=>if_pos rfl) ?_
    refine Ev.bind hc0 (Ev.bind hq0 ?_)
    refine Ev.congr (fun _=>if_pos rfl) ?_
    refine Ev.bind mX0 ?_
    dsimp only
    refine Ev.congr (fun _=>if_pos (by omega)) ?_
    refine Ev.bind eR ?_
    refine Ev.congr (fun _=>if_pos rfl) ?_
    refine Ev.bind mR ?_
    dsimp only
    refine Ev.congr (fun _=>if_pos (by omega)) ?_
    refine Ev.bind dR ?_
    refine Ev.congr (fun _=>if_pos ⟨by omega,rfl⟩) ?_
    refine Ev.bind hc0 ?_
    simp only [hI,Option.bind_some,if_true]
    refine Ev.bind eR ?_
    refine Ev.congr (fun _=>if_pos rfl) ?_
    refine Ev.bind dR ?_
    refine Ev.congr (fun _=>if_pos ⟨by omega,rfl⟩) ?_
    exact Ev.now _
end Go.Proofs.Ytaiefdhenikiiaa.Pure
