/- Texts that the proof of FnExactSignatureOfCoordinates needs, part 11. No condition. -/
import Derived.Test.YtaiefdhenikiiaaMFnExactSignatureOfCoordinates10
namespace Go.Proofs.Ytaiefdhenikiiaa.Base
open Go.RowKit Go.Proofs.YtaiefdhenikiiaaW.PrintWords Go.Proofs.YtaiefdhenikiiaaW.PrintLast Go.Proofs.YtaiefdhenikiiaaW.PrintMore
set_option linter.unusedVariables false
set_option linter.unusedSimpArgs false
theorem keepE8 {w W:World} {a1 a2 a3 a4 a5 a6 a7 a8:Addr} {v1 v2 v3 v4 v5 v6 v7 v8:Value} (p1:w.cell? a1=some v1) (p2:w.cell? a2=some v2) (p3:w.cell? a3=some v3) (p4:w.cell? a4=some v4) (p5:w.cell? a5=some v5) (p6:w.cell? a6=some v6) (p7:w.cell? a7=some v7) (p8:w.cell? a8=some v8) (hb:Below w.heap.size w W) :
    W.cell? a1=some v1∧W.cell? a2=some v2∧W.cell? a3=some v3∧W.cell? a4=some v4∧W.cell? a5=some v5∧W.cell? a6=some v6∧W.cell? a7=some v7∧W.cell? a8=some v8 :=
  ⟨qr_ hb p1,qr_ hb p2,qr_ hb p3,qr_ hb p4,qr_ hb p5,qr_ hb p6,qr_ hb p7,qr_ hb p8⟩
theorem R_box3 {W:World} {b base:Nat} {v:Value} {l:List S79} (h:TermsR W base v l) {cs:Array Value} (hz:W.heap[b]?=some (.cells cs 38 (0,0))) (x0 x1 x2:Value):TermsR (((W.setCell ⟨b,0,none⟩ x0).setCell ⟨b,1,none⟩ x1).setCell ⟨b,2,none⟩ x2) base v l :=
  Kd.R_set (Kd.R_set (Kd.R_set h hz (by decide) 0 _) (qp_ hz 0 _) (by decide) 1 _) (qp_ (qp_ hz 0 _) 1 _) (by decide) 2 _
theorem blk_box3 {W:World} {b:Nat} {cs:Array Value} (hz:W.heap[b]?=some (.cells cs 38 (0,0))) (x0 x1 x2:Value):(((W.setCell ⟨b,0,none⟩ x0).setCell ⟨b,1,none⟩ x1).setCell ⟨b,2,none⟩ x2).heap[b]?=some (.cells (((cs.setIfInBounds 0 x0).setIfInBounds 1 x1).setIfInBounds 2 x2) 38 (0,0)):=qp_ (qp_ (qp_ hz 0 _) 1 _) 2 _
theorem blk_far3 {W:World} {b c:Nat} {cs:Array Value} {t:TypeId} (hz:W.heap[b]?=some (.cells cs t (0,0))) (hne:b ≠ c) (x0 x1 x2:Value):(((W.setCell ⟨c,0,none⟩ x0).setCell ⟨c,1,none⟩ x1).setCell ⟨c,2,none⟩ x2).heap[b]?=some (.cells cs t (0,0)):=qy1_ (qy1_ (qy1_ hz hne _) hne _) hne _
theorem SrAt.far3 {W:World} {b c:Nat} {D N:Int} {v:Value} (hz:SrAt W b D N v) (hne:b ≠ c) (x0 x1 x2:Value):SrAt (((W.setCell ⟨c,0,none⟩ x0).setCell ⟨c,1,none⟩ x1).setCell ⟨c,2,none⟩ x2) b D N v:=blk_far3 hz hne _ _ _
theorem SrAt.box3 {W:World} {b:Nat} {D N D2 N2:Int} {v v2:Value} (hz:SrAt W b D N v):SrAt (((W.setCell ⟨b,0,none⟩ (.int .i64 D2)).setCell ⟨b,1,none⟩ (.int .i64 N2)).setCell ⟨b,2,none⟩ v2) b D2 N2 v2:=qp_ (qp_ (qp_ hz 0 _) 1 _) 2 _
theorem below_box3 {w W:World} {B b:Nat} (h:Below B w W) (hb:B≤b) (x0 x1 x2:Value):Below B w (((W.setCell ⟨b,0,none⟩ x0).setCell ⟨b,1,none⟩ x1).setCell ⟨b,2,none⟩ x2):=((h.setCell hb _).setCell hb _).setCell hb _
theorem unitS (W:World) {d n:Nat} (hs:Sz d n) {A:Option Addr} {c:Nat} {l:List S79} (H:TmsC W A c l):Calls Try.prog 132 #[.agg #[.int .i64 (d:Int),.int .i64 (n:Int),.slice A l.length c]] W fun e w'=>∃ (A6:Option Addr) (c6:Nat),e=.returned (.agg #[.int .i64 (d:Int),.int .i64 (n:Int),.slice A6 (termsT (unitT d n)).length c6])∧TermsR w' W.heap.size (.slice A6 (termsT (unitT d n)).length c6) (termsT (unitT d n))∧Below W.heap.size W w':=by
  refine (qu2_.calls _ _ _ _ _ (d:Int) (n:Int) (termsT (unitT d n)) _ H.row H.cap (by rw [unit_terms hs];rfl)).mono ?_
  rintro e w' ⟨v,rfl,hv,hb⟩
  obtain ⟨A6,c6,rfl⟩:=Kd.qa2_ hv
  exact ⟨A6,c6,rfl,hv,hb⟩
theorem emptyZ (W:World) (d n:Nat) {A:Option Addr} {c:Nat} {l:List S79} (H:TmsC W A c l):Calls Try.prog 108 #[.agg #[.int .i64 (d:Int),.int .i64 (n:Int),.slice A l.length c]] W fun e w'=>∃ (A6:Option Addr) (c6:Nat),e=.returned (.agg #[.int .i64 (d:Int),.int .i64 (n:Int),.slice A6 (termsT (zeroT d n)).length c6])∧TermsR w' W.heap.size (.slice A6 (termsT (zeroT d n)).length c6) (termsT (zeroT d n))∧Below W.heap.size W w':=by
  refine (emptyS W d n H).mono ?_
  rintro e w' ⟨v,rfl,hv,hb⟩
  obtain ⟨A6,c6,rfl⟩:=Kd.qa2_ hv
  rw [zero_terms]
  exact ⟨A6,c6,rfl,hv,hb⟩
theorem frow_at {w:World} {A:Option Addr} {m:Nat} {xs:List S77} (h:Kd.C k77 w A m xs) (i:Nat) (h1:i < m) (h2:i < xs.length):∃ ad,A=some ad∧w.cell? (ad.add (i * 2))=some (.int .i64 xs[i].f0)∧w.cell? ⟨(ad.add (i * 2)).block,(ad.add (i * 2)).off+1,none⟩=some (.int .i64 xs[i].f1):=by
  obtain ⟨ad,e,t0,t1⟩:=at_T77 h (i:Int) (by omega) (by omega)
  have e1:rd_T77 xs (i:Int)=xs[i]:=by simp [rd_T77,List.getD_eq_getElem?_getD,List.getElem?_eq_getElem h2]
  rw [e1,Int.toNat_natCast] at t0 t1
  exact ⟨ad,e,t0,t1⟩
set_option maxHeartbeats 32000000 in
set_option maxRecDepth 100000 in
theorem sumSp (w:World) (d n:Nat) (hs:Sz d n) {t:Tb} (ht:Like t (zeroT d n)) (hbt:t.bad=false) {A B:Option Addr} {ca cb:Nat} (hA:TmsC w A ca (termsT t)) {nums:List S77} (hB:Kd.C k77 w B nums.length nums) (first:Nat) (F:Nat→S77) (hf1:first≤1) (hlen:nums.length=n+1)
    (hnum:∀ k (h:k < nums.length),nums[k]=if first≤k then F k else zeroF) (hF:∀ k,k≤n→first≤k→okF (F k)∧(F k).f0 ≠ 0) :
    Calls Try.prog 169 #[.agg #[.int .i64 (d:Int),.int .i64 (n:Int),.slice A (termsT t).length ca],.slice B nums.length cb] w (OutR w d n (outT (powersT t (zeroT d n) first F))):=by
  have hu2:=Try.underlying38
  have hu3:=Try.underlying77
  have HA:=Aside0.mk hA
  have HBR:=Aside0.mk hB
  have HS:=Aside0.mk hs
  have HTL:=Aside0.mk ht
  have HTB:=Aside0.mk hbt
  have HN:=Aside0.mk hnum
  have HF:=Aside0.mk hF
  have HF1:=Aside0.mk hf1
  obtain ⟨R,hR⟩:∃ R,R=outT (powersT t (zeroT d n) first F):=⟨_,rfl⟩
  rw [← hR]
  have HBad1:=Aside0.mk (show ∀ k,k≤n+1→(powersS t (zeroT d n) first F k).1.bad=true→R=none from fun k hk h=>by rw [hR];exact outT_bad (powers_bad (p:=zeroT d n) hk h))
  have HBad2:=Aside0.mk (show ∀ k,k < n+1→0 < k→(timesT (powersS t (zeroT d n) first F k).2 t).bad=true→R=none from fun k hk h0 h=>by rw [hR];exact outT_bad (powers_bad2 (p:=zeroT d n) hk h0 (by omega) h))
  have HEnd:=Aside0.mk (show (powersT t (zeroT d n) first F).bad=false→R=some (termsT (powersT t (zeroT d n) first F)) from fun h=>by rw [hR];exact outT_good h)
  have HLen:=Aside0.mk hlen
  obtain ⟨lt,hlt0⟩:∃ x,x=termsT t:=⟨_,rfl⟩
  have HLT:=Aside0.mk hlt0
  rw [← hlt0] at HA ⊢
  clear hA hB hs ht hbt hnum hF hR hlt0 hf1 hlen
  go_enter Try.func169,Try.ntmps169
  go_wp2
  generalize hW:World.alloc _ _=W0
  have HX0:=Aside0.mk (show SrAt W0 w.heap.size d n (.slice A lt.length ca) from by rw [← hW];exact old_at (new_at rfl))
  have HR0:=Aside0.mk (show SrAt W0 (w.heap.size+1) 0 0 (.slice none 0 0) from by rw [← hW];exact new_at (by simp))
  have HB0:=Aside0.mk (show Below w.heap.size w W0 from by rw [← hW];exact qb_ (qb_ (Below.refl _ _) _) _)
  have HA0:=Aside0.mk (HA.out.below HB0.out)
  have p0:=HX0.out.c0
  have p1:=HX0.out.c1
  have p2:=HX0.out.c2
  clear hW
  go_cut [6,7] (fun v6 v7 wx=>∃ (b6 b7:Nat) (A6 A7:Option Addr) (c6 c7:Nat),v6=.pointer (some ⟨b6,0,none⟩)∧v7=.pointer (some ⟨b7,0,none⟩)∧Aside0 (SrAt wx b6 d n (.slice A6 (termsT (unitT d n)).length c6))∧Aside0 (SrAt wx b7 d n (.slice A7 (termsT (zeroT d n)).length c7))∧Aside0 (TermsR wx w.heap.size (.slice A6 (termsT (unitT d n)).length c6) (termsT (unitT d n)))∧Aside0 (TermsR wx w.heap.size (.slice A7 (termsT (zeroT d n)).length c7) (termsT (zeroT d n)))∧Aside0 (b6 ≠ b7∧W0.heap.size≤b6∧W0.heap.size≤b7)∧Aside0 (Below W0.heap.size W0 wx))
  case first =>
    go_region_held3 (fun w'=>w'.cell? ⟨w.heap.size,0,none⟩=some (.int .i64 (d:Int))∧w'.cell? ⟨w.heap.size,1,none⟩=some (.int .i64 (n:Int))∧w'.cell? ⟨w.heap.size,2,none⟩=some (.slice A lt.length ca)) (exact keep3 p0 p1 p2 (by (repeat' (first|(with_reducible exact Below.refl _ _)|(with_reducible exact HB7.out)|(with_reducible exact HB6.out)|(with_reducible refine Below.setCell ?_ ?_ _)|(with_reducible refine qc_ ?_)|(with_reducible refine qa_ ?_ _)|(with_reducible refine qb_ ?_ _)|(simp;done)|(simp;omega)|(have h6_:=HB6.out.size;simp;omega)|(have h7_:=HB7.out.size;simp;omega))))) (first
      | (go_at_call 132;refine (unitS _ HS.out (HA0.out.below (by repeat (first|(with_reducible exact Below.refl _ _)|(with_reducible refine qc_ ?_)|(with_reducible refine qa_ ?_ _)|(with_reducible refine qb_ ?_ _))))).mono ?_;rintro e w6 ⟨A6,c6,rfl,hv,hb⟩;have HX6:=Aside0.mk hb;have HB6:=Aside0.mk (show Below W0.heap.size W0 w6 from qf_ (by repeat (first|(with_reducible exact Below.refl _ _)|(with_reducible refine qc_ ?_)|(with_reducible refine qa_ ?_ _)|(with_reducible refine qb_ ?_ _))) hb);have HV6:=Aside0.mk (show TermsR w6 w.heap.size (.slice A6 (termsT (unitT d n)).length c6) (termsT (unitT d n)) from Kd.qj2_ hv (Nat.le_trans HB0.out.size (qk_ (show Below W0.heap.size W0 _ from (by repeat (first|(with_reducible exact Below.refl _ _)|(with_reducible refine qc_ ?_)|(with_reducible refine qa_ ?_ _)|(with_reducible refine qb_ ?_ _)))))));(first|(refine (fun (Za:w6.heap[W0.heap.size]?=some (.cells #[.int .i64 0,.int .i64 0,.slice none 0 0] 38 (0,0)))=>?_) (ql_ ?_ hb);rotate_left;(first|exact drew_at (old_at (new_at rfl))|exact old_at (new_at rfl)|exact drew_at (new_at rfl)|exact new_at rfl);have HZa:=Aside0.mk Za;have lZa:=blk_lt Za;have nZa:=Nat.ne_of_lt lZa;have mZa:=Nat.ne_of_gt lZa;have c0Za:=qj_ Za 0;have c1Za:=qj_ Za 1;have c2Za:=qj_ Za 2;have f0Za:=qd_ Za 0;have f1Za:=qd_ Za 1;have f2Za:=qd_ Za 2;clear Za)|skip);(first|(refine (fun (Zb:w6.heap[W0.heap.size+1]?=some (.cells #[.int .i64 0,.int .i64 0,.slice none 0 0] 38 (0,0)))=>?_) (ql_ ?_ hb);rotate_left;(first|(focus (refine drew_at (new_at ?_);simp;done))|(focus (refine new_at ?_;simp;done)));have HZb:=Aside0.mk Zb;have lZb:=blk_lt Zb;have nZb:=Nat.ne_of_lt lZb;have mZb:=Nat.ne_of_gt lZb;have c0Zb:=qj_ Zb 0;have c1Zb:=qj_ Zb 1;have c2Zb:=qj_ Zb 2;have f0Zb:=qd_ Zb 0;have f1Zb:=qd_ Zb 1;have f2Zb:=qd_ Zb 2;clear Zb)|skip);clear hv hb)
      | (go_at_call 108;refine (emptyZ _ d n (HA0.out.below (by repeat (first|(with_reducible exact Below.refl _ _)|(with_reducible exact HB6.out)|(with_reducible refine qc_ ?_)|(with_reducible refine qa_ ?_ _)|(with_reducible refine qb_ ?_ _))))).mono ?_;rintro e w7 ⟨A7,c7,rfl,hv,hb⟩;have HX7:=Aside0.mk hb;have HB7:=Aside0.mk (show Below W0.heap.size W0 w7 from qf_ (by repeat (first|(with_reducible exact Below.refl _ _)|(with_reducible exact HB6.out)|(with_reducible refine qc_ ?_)|(with_reducible refine qa_ ?_ _)|(with_reducible refine qb_ ?_ _))) hb);have HV67:=Aside0.mk (show TermsR w7 w.heap.size (.slice A6 (termsT (unitT d n)).length c6) (termsT (unitT d n)) from Kd.ql2_ (by repeat' (first|(with_reducible exact HV6.out)|(with_reducible refine Kd.qi1_ ?_ _)|(with_reducible refine Kd.R_drew ?_))) hb);have HV7:=Aside0.mk (show TermsR w7 w.heap.size (.slice A7 (termsT (zeroT d n)).length c7) (termsT (zeroT d n)) from Kd.qj2_ hv (Nat.le_trans HB0.out.size (qk_ (show Below W0.heap.size W0 _ from (by repeat (first|(with_reducible exact Below.refl _ _)|(with_reducible exact HB6.out)|(with_reducible refine qc_ ?_)|(with_reducible refine qa_ ?_ _)|(with_reducible refine qb_ ?_ _)))))));(first|(refine (fun (Za7:w7.heap[W0.heap.size]?=some (.cells #[.int .i64 0,.int .i64 0,.slice none 0 0] 38 (0,0)))=>?_) (ql_ ?_ hb);rotate_left;(first|exact HZa.out|exact drew_at HZa.out|exact old_at HZa.out|exact old_at (old_at HZa.out)|exact drew_at (old_at HZa.out)|exact drew_at (old_at (old_at HZa.out)));have HZa7:=Aside0.mk Za7;have lZa7:=blk_lt Za7;have nZa7:=Nat.ne_of_lt lZa7;have mZa7:=Nat.ne_of_gt lZa7;have c0Za7:=qj_ Za7 0;have c1Za7:=qj_ Za7 1;have c2Za7:=qj_ Za7 2;have f0Za7:=qd_ Za7 0;have f1Za7:=qd_ Za7 1;have f2Za7:=qd_ Za7 2;clear Za7)|skip);(first|(refine (fun (Zb7:w7.heap[W0.heap.size+1]?=some (.cells #[.int .i64 0,.int .i64 0,.slice none 0 0] 38 (0,0)))=>?_) (ql_ ?_ hb);rotate_left;(first|exact HZb.out|exact drew_at HZb.out|exact old_at HZb.out|exact old_at (old_at HZb.out)|exact drew_at (old_at HZb.out)|exact drew_at (old_at (old_at HZb.out)));have HZb7:=Aside0.mk Zb7;have lZb7:=blk_lt Zb7;have nZb7:=Nat.ne_of_lt lZb7;have mZb7:=Nat.ne_of_gt lZb7;have c0Zb7:=qj_ Zb7 0;have c1Zb7:=qj_ Zb7 1;have c2Zb7:=qj_ Zb7 2;have f0Zb7:=qd_ Zb7 0;have f1Zb7:=qd_ Zb7 1;have f2Zb7:=qd_ Zb7 2;clear Zb7)|skip);(first|(refine (fun (Zc:w7.heap[w6.heap.size]?=some (.cells #[.int .i64 0,.int .i64 0,.slice none 0 0] 38 (0,0)))=>?_) (ql_ ?_ hb);rotate_left;(first|exact drew_at (old_at (new_at rfl))|exact old_at (new_at rfl)|exact drew_at (new_at rfl)|exact new_at rfl);have HZc:=Aside0.mk Zc;have lZc:=blk_lt Zc;have nZc:=Nat.ne_of_lt lZc;have mZc:=Nat.ne_of_gt lZc;have c0Zc:=qj_ Zc 0;have c1Zc:=qj_ Zc 1;have c2Zc:=qj_ Zc 2;have f0Zc:=qd_ Zc 0;have f1Zc:=qd_ Zc 1;have f2Zc:=qd_ Zc 2;clear Zc)|skip);(first|(refine (fun (Zd:w7.heap[w6.heap.size+1]?=some (.cells #[.int .i64 0,.int .i64 0,.slice none 0 0] 38 (0,0)))=>?_) (ql_ ?_ hb);rotate_left;(first|(focus (refine drew_at (new_at ?_);simp;done))|(focus (refine new_at ?_;simp;done)));have HZd:=Aside0.mk Zd;have lZd:=blk_lt Zd;have nZd:=Nat.ne_of_lt lZd;have mZd:=Nat.ne_of_gt lZd;have c0Zd:=qj_ Zd 0;have c1Zd:=qj_ Zd 1;have c2Zd:=qj_ Zd 2;have f0Zd:=qd_ Zd 0;have f1Zd:=qd_ Zd 1;have f2Zd:=qd_ Zd 2;clear Zd)|skip);clear hv hb))
    all_goals
      go_wp2_with fail
      go_meet
      case rel =>
        refine ⟨_,_,A6,A7,c6,c7,rfl,rfl,⟨?_⟩,⟨?_⟩,⟨?_⟩,⟨?_⟩,⟨?_,?_,?_⟩,⟨?_⟩⟩
        · (repeat' (first|((with_reducible refine SrAt.new ?_);simp;done)|(with_reducible refine SrAt.put3 ?_ _ _ _)|((with_reducible refine SrAt.far3 ?_ ?_ _ _ _);rotate_left;(focus (first|(simp;done)|(simp;omega)|(have h6_:=HX6.out.size;simp at h6_;simp;omega)|(have h6_:=HX6.out.size;have h7_:=HX7.out.size;simp at h6_ h7_;simp;omega))))|(with_reducible refine SrAt.alloc ?_ _)|(with_reducible refine SrAt.drew ?_)|(with_reducible exact HZa7.out)|(with_reducible exact HZb7.out)|(with_reducible exact HZc.out)|(with_reducible exact HZd.out)|((with_reducible refine new_at ?_);simp;done)|(with_reducible refine old_at ?_)|(with_reducible refine drew_at ?_)|((with_reducible refine blk_far3 ?_ ?_ _ _ _);rotate_left;(focus (first|(simp;done)|(simp;omega)|(have h6_:=HX6.out.size;simp at h6_;simp;omega)|(have h6_:=HX6.out.size;have h7_:=HX7.out.size;simp at h6_ h7_;simp;omega))))|(with_reducible refine blk_box3 ?_ _ _ _)))
        · (repeat' (first|((with_reducible refine SrAt.new ?_);simp;done)|(with_reducible refine SrAt.put3 ?_ _ _ _)|((with_reducible refine SrAt.far3 ?_ ?_ _ _ _);rotate_left;(focus (first|(simp;done)|(simp;omega)|(have h6_:=HX6.out.size;simp at h6_;simp;omega)|(have h6_:=HX6.out.size;have h7_:=HX7.out.size;simp at h6_ h7_;simp;omega))))|(with_reducible refine SrAt.alloc ?_ _)|(with_reducible refine SrAt.drew ?_)|(with_reducible exact HZa7.out)|(with_reducible exact HZb7.out)|(with_reducible exact HZc.out)|(with_reducible exact HZd.out)|((with_reducible refine new_at ?_);simp;done)|(with_reducible refine old_at ?_)|(with_reducible refine drew_at ?_)|((with_reducible refine blk_far3 ?_ ?_ _ _ _);rotate_left;(focus (first|(simp;done)|(simp;omega)|(have h6_:=HX6.out.size;simp at h6_;simp;omega)|(have h6_:=HX6.out.size;have h7_:=HX7.out.size;simp at h6_ h7_;simp;omega))))|(with_reducible refine blk_box3 ?_ _ _ _)))
        · (repeat' (first|(with_reducible exact HV67.out)|(with_reducible refine R_box3 (cs:=?_) ?_ ?_ _ _ _)|(with_reducible refine Kd.qi1_ ?_ _)|(with_reducible refine Kd.R_drew ?_)|(with_reducible exact HZa7.out)|(with_reducible exact HZb7.out)|(with_reducible exact HZc.out)|(with_reducible exact HZd.out)|((with_reducible refine new_at ?_);simp;done)|(with_reducible refine old_at ?_)|(with_reducible refine drew_at ?_)|((with_reducible refine blk_far3 ?_ ?_ _ _ _);rotate_left;(focus (first|(simp;done)|(simp;omega)|(have h6_:=HX6.out.size;simp at h6_;simp;omega)|(have h6_:=HX6.out.size;have h7_:=HX7.out.size;simp at h6_ h7_;simp;omega))))|(with_reducible refine blk_box3 ?_ _ _ _)))
        · (repeat' (first|(with_reducible exact HV7.out)|(with_reducible refine R_box3 (cs:=?_) ?_ ?_ _ _ _)|(with_reducible refine Kd.qi1_ ?_ _)|(with_reducible refine Kd.R_drew ?_)|(with_reducible exact HZa7.out)|(with_reducible exact HZb7.out)|(with_reducible exact HZc.out)|(with_reducible exact HZd.out)|((with_reducible refine new_at ?_);simp;done)|(with_reducible refine old_at ?_)|(with_reducible refine drew_at ?_)|((with_reducible refine blk_far3 ?_ ?_ _ _ _);rotate_left;(focus (first|(simp;done)|(simp;omega)|(have h6_:=HX6.out.size;simp at h6_;simp;omega)|(have h6_:=HX6.out.size;have h7_:=HX7.out.size;simp at h6_ h7_;simp;omega))))|(with_reducible refine blk_box3 ?_ _ _ _)))
        · (first|(simp;done)|(simp;omega)|(have h6_:=HX6.out.size;simp at h6_;simp;omega)|(have h6_:=HX6.out.size;have h7_:=HX7.out.size;simp at h6_ h7_;simp;omega))
        · (have h6_:=HB6.out.size;have h7_:=HB7.out.size;first|(simp;done)|(simp;omega)|omega)
        · (have h6_:=HB6.out.size;have h7_:=HB7.out.size;first|(simp;done)|(simp;omega)|omega)
        · (repeat' (first|(with_reducible exact Below.refl _ _)|(with_reducible exact HB7.out)|(with_reducible exact HB6.out)|(with_reducible refine Below.setCell ?_ ?_ _)|(with_reducible refine qc_ ?_)|(with_reducible refine qa_ ?_ _)|(with_reducible refine qb_ ?_ _)|(simp;done)|(simp;omega)|(have h6_:=HB6.out.size;simp;omega)|(have h7_:=HB7.out.size;simp;omega)))
  case rest =>
    obtain ⟨b6,b7,A6,A7,c6,c7,rfl,rfl,HS6,HS7,HV6,HV7,HNE,HM⟩:=hcut
    clear p0 p1 p2
    have HW0:=Aside0.mk (show w.heap.size+1 < b6∧w.heap.size+1 < b7 from by have h1:=HR0.out.lt;have h2:=HNE.out;omega)
    have HP0:=Aside0.mk (show (powersS t (zeroT d n) first F 0).1=zeroT d n∧(powersS t (zeroT d n) first F 0).2=unitT d n from ⟨rfl,rfl⟩)
    go_wp2
    go_loopg [8] (n+1) (fun gg v8 wr=>∃ (k:Nat) (A6 A7:Option Addr) (c6 c7:Nat),k≤n+1∧n+1 - k≤gg∧v8=.int .i64 k∧Aside0 ((powersS t (zeroT d n) first F k).1.bad=false∧(powersS t (zeroT d n) first F k).2.bad=false)∧Aside0 (SrAt wr b6 d n (.slice A6 (termsT (powersS t (zeroT d n) first F k).2).length c6))∧Aside0 (SrAt wr b7 d n (.slice A7 (termsT (powersS t (zeroT d n) first F k).1).length c7))∧Aside0 (TermsR wr w.heap.size (.slice A6 (termsT (powersS t (zeroT d n) first F k).2).length c6) (termsT (powersS t (zeroT d n) first F k).2))∧Aside0 (TermsR wr w.heap.size (.slice A7 (termsT (powersS t (zeroT d n) first F k).1).length c7) (termsT (powersS t (zeroT d n) first F k).1))∧Aside0 (SrAt wr w.heap.size d n (.slice A lt.length ca))∧Aside0 (SrAt wr (w.heap.size+1) 0 0 (.slice none 0 0))∧Aside0 (Below w.heap.size w wr))
    case atStart=>exact ⟨0,A6,A7,c6,c7,Nat.zero_le _,by omega,rfl,⟨rfl,rfl⟩,HS6,HS7,HV6,HV7,⟨HX0.out.below HM.out⟩,⟨HR0.out.below HM.out⟩,⟨qf_ HB0.out HM.out⟩⟩
    case round =>
      clear HS6 HS7 HV6 HV7 HX0 HR0 HB0 HM HA0
      obtain ⟨k,A6,A7,c6,c7,hk,hg,rfl,HG,HS6,HS7,HV6,HV7,HSX,HSR,HB⟩:=hrel
      obtain ⟨O,hO⟩:∃ x,x=(powersS t (zeroT d n) first F k).1:=⟨_,rfl⟩
      obtain ⟨P,hP⟩:∃ x,x=(powersS t (zeroT d n) first F k).2:=⟨_,rfl⟩
      have hlk:=powersS_like (t:=t) (p:=zeroT d n) first F HS.out k
      rw [← hO,← hP] at hlk HG
      rw [← hP] at HS6 HV6
      rw [← hO] at HS7 HV7
      have HOL:=Aside0.mk hlk.1
      have HPL:=Aside0.mk hlk.2
      have HOE:=Aside0.mk hO
      obtain ⟨Pn,hPn⟩:∃ x,x=(if 0 < k then timesT P t else P):=⟨_,rfl⟩
      have HPnL:=Aside0.mk (show Like Pn (zeroT d n) from by rw [hPn];split;exact timesT_like' hlk.2;exact hlk.2)
      have HNX:=Aside0.mk (show powersS t (zeroT d n) first F (k+1)=(if first≤k then sumT O (scaleT Pn (F k)) else O,Pn) from by
        rw [powersS_succ]
        show powersStep t first F _ k=_
        rw [hPn,hO,hP];rfl)
      have HB2:=Aside0.mk (show k < n+1→0 < k→(timesT P t).bad=true→R=none from fun h1 h2 h3=>HBad2.out k h1 h2 (by rw [← hP];exact h3))
      have HPN:=Aside0.mk hPn
      clear hO hP hlk hPn
      by_cases hlt:k < n+1
      · have hltz:(k:Int) < (nums.length:Int):=by rw [HLen.out];omega
        have hkl:k < nums.length:=by rw [HLen.out];exact hlt
        obtain ⟨ad,hB1,t0,t1⟩:=frow_at (Kd.qt1_ HBR.out HB.out) k hkl hkl
        subst hB1
        have HROW:=Aside0.mk (show ∀ W,Below w.heap.size w W→W.cell? (ad.add (k * 2))=some (.int .i64 nums[k].f0)∧W.cell? ⟨(ad.add (k * 2)).block,(ad.add (k * 2)).off+1,none⟩=some (.int .i64 nums[k].f1) from fun W hW=>by
          obtain ⟨ad2,e2,u0,u1⟩:=frow_at (Kd.qt1_ HBR.out hW) k hkl hkl
          obtain rfl:=Option.some.inj e2
          exact ⟨u0,u1⟩)
        have HNK:=Aside0.mk (HN.out k hkl)
        obtain ⟨z,hz⟩:∃ z,z=nums[k]:=⟨_,rfl⟩
        rw [← hz] at HROW HNK
        clear t0 t1 hz
        go_upto_if 24 with fail
        go_cut [] (fun wx=>∃ (A6:Option Addr) (c6:Nat),Aside0 (SrAt wx b6 d n (.slice A6 (termsT Pn).length c6))∧Aside0 (TermsR wx w.heap.size (.slice A6 (termsT Pn).length c6) (termsT Pn))∧Aside0 (SrAt wx b7 d n (.slice A7 (termsT O).length c7))∧Aside0 (TermsR wx w.heap.size (.slice A7 (termsT O).length c7) (termsT O))∧Aside0 (SrAt wx w.heap.size d n (.slice A lt.length ca))∧Aside0 (SrAt wx (w.heap.size+1) 0 0 (.slice none 0 0))∧Aside0 (Below w.heap.size w wx)∧Aside0 (Pn.bad=false))
        case first =>
          by_cases hk0:k=0
          · have hkz:¬ ((k:Int) > 0):=by omega
            have hpe:Pn=P:=by rw [HPN.out,if_neg (by omega)]
            clear hk0
            go_wp2
            go_meet
            case rel=>rw [hpe];exact ⟨A6,c6,HS6,HV6,HS7,HV7,HSX,HSR,HB,⟨HG.out.2⟩⟩
          · have hkz:(k:Int) > 0:=by omega
            have hpe:Pn=timesT P t:=by rw [HPN.out,if_pos (by omega)]
            have HTA:=Aside0.mk (show TmsC wr A6 c6 (termsT P) from (TmsC.of HV6.out (by have:=terms_len HPL.out HS.out;omega)).1)
            have HXR:=Aside0.mk (HA.out.below HB.out)
            have p0:=HS6.out.c0
            have p1:=HS6.out.c1
            have p2:=HS6.out.c2
            have q0:=HSX.out.c0
            have q1:=HSX.out.c1
            have q2:=HSX.out.c2
            by_cases hbad:(timesT P t).bad=true
            · have HRN:=Aside0.mk (HB2.out hlt (by omega) hbad)
              have HTM:=Aside0.mk (show ∀ W,TmsC W A6 c6 (termsT P)→TmsC W A ca lt→Calls Try.prog 133 #[.agg #[.int .i64 (d:Int),.int .i64 (n:Int),.slice A6 (termsT P).length c6],.agg #[.int .i64 (d:Int),.int .i64 (n:Int),.slice A lt.length ca]] W (OkRes W 0 0 [] false) from fun W h1 h2=>by
                rw [HLT.out] at h2 ⊢
                have:=timesS W d n HS.out HPL.out HTL.out HG.out.2 HTB.out h1 h2
                rwa [outT_bad hbad] at this)
              clear hbad hk0 hpe
              go_wp2_with (go_at_call 133;refine (HTM.out _ HTA.out HXR.out).mono ?_;rintro e w2 ⟨v,rfl,hv,hb⟩;obtain ⟨A2,c2,rfl⟩:=Kd.qa2_ hv;have HBn:=Aside0.mk (qf_ HB.out hb);have S:=HSR.out.below hb;have x0:(w2.alloc (.cells #[.int .i64 0,.int .i64 0,.slice A2 0 c2] 38)).cell? ⟨w.heap.size+1,0,none⟩=some (.int .i64 0):=(SrAt.alloc S _).c0;have xf0:(w2.alloc (.cells #[.int .i64 0,.int .i64 0,.slice A2 0 c2] 38)).frozen? ⟨w.heap.size+1,0,none⟩=false:=qd_ (SrAt.alloc S (.cells #[.int .i64 0,.int .i64 0,.slice A2 0 c2] 38)) 0;have x1:(w2.alloc (.cells #[.int .i64 0,.int .i64 0,.slice A2 0 c2] 38)).cell? ⟨w.heap.size+1,1,none⟩=some (.int .i64 0):=(SrAt.alloc S _).c1;have xf1:(w2.alloc (.cells #[.int .i64 0,.int .i64 0,.slice A2 0 c2] 38)).frozen? ⟨w.heap.size+1,1,none⟩=false:=qd_ (SrAt.alloc S (.cells #[.int .i64 0,.int .i64 0,.slice A2 0 c2] 38)) 1;have x2:(w2.alloc (.cells #[.int .i64 0,.int .i64 0,.slice A2 0 c2] 38)).cell? ⟨w.heap.size+1,2,none⟩=some (.slice none 0 0):=(SrAt.alloc S _).c2;have xf2:(w2.alloc (.cells #[.int .i64 0,.int .i64 0,.slice A2 0 c2] 38)).frozen? ⟨w.heap.size+1,2,none⟩=false:=qd_ (SrAt.alloc S (.cells #[.int .i64 0,.int .i64 0,.slice A2 0 c2] 38)) 2;have HS2:=Aside0.mk S;clear S hv hb)
              refine bodyPost_ret (results_ct rfl _ _ (w.heap.size+1) 38 _ (0,0) _ rfl (qp_ (qp_ (qp_ (HS2.out.alloc _) 0 _) 1 _) 2 _) hu2 rfl (by kernel_rfl)) rfl ?_
              rw [HRN.out]
              exact ⟨_,rfl,Kd.R_nil _ _ _ _ _,(((qb_ HBn.out _).setCell (Nat.le_add_right _ 1) _).setCell (Nat.le_add_right _ 1) _).setCell (Nat.le_add_right _ 1) _⟩
            · have hgood:(timesT P t).bad=false:=by simpa using hbad
              have HTM:=Aside0.mk (show ∀ W,TmsC W A6 c6 (termsT P)→TmsC W A ca lt→Calls Try.prog 133 #[.agg #[.int .i64 (d:Int),.int .i64 (n:Int),.slice A6 (termsT P).length c6],.agg #[.int .i64 (d:Int),.int .i64 (n:Int),.slice A lt.length ca]] W (OkRes W d n (termsT (timesT P t)) true) from fun W h1 h2=>by
                rw [HLT.out] at h2 ⊢
                have:=timesS W d n HS.out HPL.out HTL.out HG.out.2 HTB.out h1 h2
                rwa [outT_good hgood] at this)
              have HGD:=Aside0.mk (show Pn.bad=false from by rw [hpe];exact hgood)
              have HPE:=Aside0.mk hpe
              clear hbad hk0 hgood hpe
              go_wp2_with (go_at_call 133;refine (HTM.out _ HTA.out HXR.out).mono ?_;rintro e w2 ⟨v,rfl,hv,hb⟩;obtain ⟨A2,c2,rfl⟩:=Kd.qa2_ hv;have HBn:=Aside0.mk (qf_ HB.out hb);have HV2:=Aside0.mk (show TermsR w2 w.heap.size (.slice A2 (termsT (timesT P t)).length c2) (termsT (timesT P t)) from Kd.qj2_ hv HB.out.size);have S:=HS6.out.below hb;have x0:(w2.alloc (.cells #[.int .i64 (d:Int),.int .i64 (n:Int),.slice A2 (termsT (timesT P t)).length c2] 38)).cell? ⟨b6,0,none⟩=some (.int .i64 (d:Int)):=(SrAt.alloc S _).c0;have xf0:(w2.alloc (.cells #[.int .i64 (d:Int),.int .i64 (n:Int),.slice A2 (termsT (timesT P t)).length c2] 38)).frozen? ⟨b6,0,none⟩=false:=qd_ (SrAt.alloc S (.cells #[.int .i64 (d:Int),.int .i64 (n:Int),.slice A2 (termsT (timesT P t)).length c2] 38)) 0;have x1:(w2.alloc (.cells #[.int .i64 (d:Int),.int .i64 (n:Int),.slice A2 (termsT (timesT P t)).length c2] 38)).cell? ⟨b6,1,none⟩=some (.int .i64 (n:Int)):=(SrAt.alloc S _).c1;have xf1:(w2.alloc (.cells #[.int .i64 (d:Int),.int .i64 (n:Int),.slice A2 (termsT (timesT P t)).length c2] 38)).frozen? ⟨b6,1,none⟩=false:=qd_ (SrAt.alloc S (.cells #[.int .i64 (d:Int),.int .i64 (n:Int),.slice A2 (termsT (timesT P t)).length c2] 38)) 1;have x2:(w2.alloc (.cells #[.int .i64 (d:Int),.int .i64 (n:Int),.slice A2 (termsT (timesT P t)).length c2] 38)).cell? ⟨b6,2,none⟩=some (.slice A6 (termsT P).length c6):=(SrAt.alloc S _).c2;have xf2:(w2.alloc (.cells #[.int .i64 (d:Int),.int .i64 (n:Int),.slice A2 (termsT (timesT P t)).length c2] 38)).frozen? ⟨b6,2,none⟩=false:=qd_ (SrAt.alloc S (.cells #[.int .i64 (d:Int),.int .i64 (n:Int),.slice A2 (termsT (timesT P t)).length c2] 38)) 2;have HS2:=Aside0.mk S;have HS72:=Aside0.mk (HS7.out.below hb);have HV72:=Aside0.mk (Kd.ql2_ HV7.out hb);have HSX2:=Aside0.mk (HSX.out.below hb);have HSR2:=Aside0.mk (HSR.out.below hb);clear S hv hb)
              go_meet
              case rel =>
                have hne:=HNE.out
                have hlo:=HW0.out
                refine ⟨A2,c2,⟨?_⟩,⟨?_⟩,⟨?_⟩,⟨?_⟩,⟨?_⟩,⟨?_⟩,⟨?_⟩,HGD⟩
                · rw [HPE.out];exact SrAt.box3 (HS2.out.alloc _)
                · rw [HPE.out];exact R_box3 (Kd.qi1_ HV2.out _) (HS2.out.alloc _) _ _ _
                · exact (HS72.out.alloc _).far3 (fun e=>hne.1 e.symm) _ _ _
                · exact R_box3 (Kd.qi1_ HV72.out _) (HS2.out.alloc _) _ _ _
                · exact (HSX2.out.alloc _).far3 (by omega) _ _ _
                · exact (HSR2.out.alloc _).far3 (by omega) _ _ _
                · exact below_box3 (qb_ HBn.out _) (by omega) _ _ _
        case rest =>
          obtain ⟨A6,c6,HS6,HV6,HS7,HV7,HSX,HSR,HB,HPB⟩:=hcut
          obtain ⟨w2,hw2⟩:∃ x,x=wc:=⟨_,rfl⟩
          rw [← hw2] at HS6 HV6 HS7 HV7 HSX HSR HB ⊢
          clear hw2
          obtain ⟨t0,t1⟩:=HROW.out _ HB.out
          by_cases hf:first≤k
          · have hzf:z=F k:=by have:=HNK.out;rwa [if_pos hf] at this
            have HFK:=Aside0.mk (show okF z∧z.f0 ≠ 0 from by rw [hzf];exact HF.out k (by omega) hf)
            have HN1:=Aside0.mk (show powersS t (zeroT d n) first F (k+1)=(sumT O (scaleT Pn z),Pn) from by rw [HNX.out,if_pos hf,hzf])
            have HZ:=Aside0.mk (show ∀ W,Calls Try.prog 141 #[.agg #[.int .i64 z.f0,.int .i64 z.f1]] W fun e w'=>e=.returned (.bool false)∧Below W.heap.size W w' from fun W=>by have:=zeroS W z;rwa [show (z.f0 == 0)=false from by simpa using HFK.out.2] at this)
            have HAD:=Aside0.mk (show ∀ W A1 c1 A2 c2,TmsC W A1 c1 (termsT O)→TmsC W A2 c2 (termsT Pn)→Calls Try.prog 125 #[.agg #[.int .i64 (d:Int),.int .i64 (n:Int),.slice A1 (termsT O).length c1],.agg #[.int .i64 (d:Int),.int .i64 (n:Int),.slice A2 (termsT Pn).length c2],.agg #[.int .i64 z.f0,.int .i64 z.f1]] W (OutR W d n (outT (sumT O (scaleT Pn z)))) from fun W A1 c1 A2 c2 h1 h2=>by
              have z1:=terms_len HOL.out HS.out
              have z2:=terms_len HPnL.out HS.out
              have:=addFS W d n d n h1 h2 (terms_okL HOL.out.2.2) (terms_okL HPnL.out.2.2) (by omega) z HFK.out.1
              rwa [addS_terms O Pn (zeroT d n) HS.out HOL.out HPnL.out HG.out.1 HPB.out z HFK.out.1 HFK.out.2] at this)
            clear hf hzf
            go_wp2_with (go_at_call 141;refine (HZ.out _).mono ?_;rintro e w3 ⟨rfl,hb⟩;have HB3:=Aside0.mk hb;clear hb)
            have HS63:=Aside0.mk (HS6.out.below HB3.out)
            have HS73:=Aside0.mk (HS7.out.below HB3.out)
            have HBW:=Aside0.mk (qf_ HB.out HB3.out)
            have HC1:=Aside0.mk (show TmsC w3 A7 c7 (termsT O) from (TmsC.of (Kd.ql2_ HV7.out HB3.out) (by have:=terms_len HOL.out HS.out;omega)).1)
            have HC2:=Aside0.mk (show TmsC w3 A6 c6 (termsT Pn) from (TmsC.of (Kd.ql2_ HV6.out HB3.out) (by have:=terms_len HPnL.out HS.out;omega)).1)
            have p0:=HS73.out.c0
            have p1:=HS73.out.c1
            have p2:=HS73.out.c2
            have q0:=HS63.out.c0
            have q1:=HS63.out.c1
            have q2:=HS63.out.c2
            obtain ⟨u0,u1⟩:=HROW.out _ HBW.out
            clear t0 t1
            go_cut [11,12] (fun v11 v12 wx=>∃ (b9:Nat) (D N:Int) (Ax:Option Addr) (cx:Nat) (l9:List S79) (ok:Bool),v11=.pointer (some ⟨b9,0,none⟩)∧v12=.bool ok∧Aside0 (SrAt wx b9 D N (.slice Ax l9.length cx))∧Aside0 (TermsR wx w.heap.size (.slice Ax l9.length cx) l9)∧Aside0 (OutV d n (outT (sumT O (scaleT Pn z))) D N l9 ok)∧Aside0 (Below w3.heap.size w3 wx))
            case first =>
              go_region_held3 (fun w'=>w'.cell? ⟨b7,0,none⟩=some (.int .i64 (d:Int))∧w'.cell? ⟨b7,1,none⟩=some (.int .i64 (n:Int))∧w'.cell? ⟨b7,2,none⟩=some (.slice A7 (termsT O).length c7)∧w'.cell? ⟨b6,0,none⟩=some (.int .i64 (d:Int))∧w'.cell? ⟨b6,1,none⟩=some (.int .i64 (n:Int))∧w'.cell? ⟨b6,2,none⟩=some (.slice A6 (termsT Pn).length c6)∧w'.cell? (ad.add (k * 2))=some (.int .i64 z.f0)∧w'.cell? ⟨(ad.add (k * 2)).block,(ad.add (k * 2)).off+1,none⟩=some (.int .i64 z.f1)) (exact keepE8 p0 p1 p2 q0 q1 q2 u0 u1 (by (repeat' (first|(with_reducible exact Below.refl _ _)|(with_reducible exact HB6.out)|(with_reducible refine Below.setCell ?_ ?_ _)|(with_reducible refine qc_ ?_)|(with_reducible refine qa_ ?_ _)|(with_reducible refine qb_ ?_ _)|(simp;done)|(simp;omega)|(have h6_:=HB6.out.size;simp;omega))))) (first
                | (go_at_call 125;refine (HAD.out _ _ _ _ _ (HC1.out.below (by repeat (first|(with_reducible exact Below.refl _ _)|(with_reducible refine qc_ ?_)|(with_reducible refine qa_ ?_ _)|(with_reducible refine qb_ ?_ _)))) (HC2.out.below (by repeat (first|(with_reducible exact Below.refl _ _)|(with_reducible refine qc_ ?_)|(with_reducible refine qa_ ?_ _)|(with_reducible refine qb_ ?_ _))))).mono ?_;rintro e w6 h6;obtain ⟨D9,N9,A9,c9,l9,ok9,rfl,ho9,hv9,hb⟩:=h6.val;have HB6:=Aside0.mk (show Below w3.heap.size w3 w6 from qf_ (by repeat (first|(with_reducible exact Below.refl _ _)|(with_reducible refine qc_ ?_)|(with_reducible refine qa_ ?_ _)|(with_reducible refine qb_ ?_ _))) hb);have HO9:=Aside0.mk ho9;have HV9:=Aside0.mk (show TermsR w6 w.heap.size (.slice A9 l9.length c9) l9 from Kd.qj2_ hv9 (Nat.le_trans HBW.out.size (qk_ (show Below w3.heap.size w3 _ from (by repeat (first|(with_reducible exact Below.refl _ _)|(with_reducible refine qc_ ?_)|(with_reducible refine qa_ ?_ _)|(with_reducible refine qb_ ?_ _)))))));first|(refine (fun (Z:w6.heap[w3.heap.size]?=some (.cells #[.int .i64 0,.int .i64 0,.slice none 0 0] 38 (0,0)))=>?_) (ql_ ?_ hb);rotate_left;(first|exact drew_at (new_at rfl)|exact new_at rfl);have HZZ:=Aside0.mk Z;have z0:=qj_ Z 0;have z1:=qj_ Z 1;have z2:=qj_ Z 2;have zf0:=qd_ Z 0;have zf1:=qd_ Z 1;have zf2:=qd_ Z 2;clear Z)|skip;clear h6 ho9 hv9 hb))
              all_goals
                go_wp2_with fail
                go_meet
                case rel =>
                  refine ⟨_,D9,N9,A9,c9,l9,ok9,rfl,rfl,⟨?_⟩,⟨?_⟩,HO9,⟨?_⟩⟩
                  · (repeat' (first|((with_reducible refine SrAt.new ?_);simp;done)|(with_reducible refine SrAt.put3 ?_ _ _ _)|(with_reducible exact HZZ.out)|(with_reducible refine SrAt.alloc ?_ _)|(with_reducible refine SrAt.drew ?_)|(with_reducible refine drewN_at ?_)|(with_reducible refine drew_at ?_)|((with_reducible refine new_at ?_);simp;done)|(with_reducible refine old_at ?_)))
                  · (repeat' (first|(with_reducible exact HV9.out)|(with_reducible exact Kd.qi1_ HV9.out _)|(with_reducible refine Kd.qi1_ ?_ _)|(with_reducible refine Kd.R_drew ?_)|exact Kd.R_set (Kd.R_set (Kd.R_set HV9.out HZZ.out (by decide) 0 _) (qp_ HZZ.out 0 _) (by decide) 1 _) (qp_ (qp_ HZZ.out 0 _) 1 _) (by decide) 2 _))
                  · (repeat' (first|(with_reducible exact Below.refl _ _)|(with_reducible exact HB6.out)|(with_reducible refine Below.setCell ?_ ?_ _)|(with_reducible refine qc_ ?_)|(with_reducible refine qa_ ?_ _)|(with_reducible refine qb_ ?_ _)|(simp;done)|(simp;omega)|(have h6_:=HB6.out.size;simp;omega)))
            case rest =>
              obtain ⟨b9,D9,N9,A9,c9,l9,ok9,rfl,rfl,HS9,HV9,HO9,HM9⟩:=hcut
              have HB9:=Aside0.mk (qf_ HBW.out HM9.out)
              have HM3:=Aside0.mk (qf_ HB3.out HM9.out)
              clear p0 p1 p2 q0 q1 q2 u0 u1
              by_cases hsb:(sumT O (scaleT Pn z)).bad=true
              · have ho:=HO9.out
                rw [outT_bad hsb] at ho
                obtain ⟨rfl,rfl,rfl,rfl⟩:=ho
                have HRN:=Aside0.mk (HBad1.out (k+1) (by omega) (by rw [HN1.out];exact hsb))
                clear hsb
                have SR:=HSR.out.below HM3.out
                have x0:wc.cell? ⟨w.heap.size+1,0,none⟩=some (.int .i64 0):=SR.c0
                have f0:wc.frozen? ⟨w.heap.size+1,0,none⟩=false:=qd_ SR 0
                have x1:wc.cell? ⟨w.heap.size+1,1,none⟩=some (.int .i64 0):=SR.c1
                have f1:wc.frozen? ⟨w.heap.size+1,1,none⟩=false:=qd_ SR 1
                have x2:wc.cell? ⟨w.heap.size+1,2,none⟩=some (.slice none 0 0):=SR.c2
                have f2:wc.frozen? ⟨w.heap.size+1,2,none⟩=false:=qd_ SR 2
                have HSRX:=Aside0.mk SR
                clear SR
                go_wp2
                refine bodyPost_ret (results_ct rfl _ _ (w.heap.size+1) 38 _ (0,0) _ rfl (qp_ (qp_ (qp_ HSRX.out 0 _) 1 _) 2 _) hu2 rfl (by kernel_rfl)) rfl ?_
                rw [HRN.out]
                exact ⟨_,rfl,Kd.R_nil _ _ _ _ _,((HB9.out.setCell (Nat.le_add_right _ 1) _).setCell (Nat.le_add_right _ 1) _).setCell (Nat.le_add_right _ 1) _⟩
              · have hsg:(sumT O (scaleT Pn z)).bad=false:=by simpa using hsb
                have ho:=HO9.out
                rw [outT_good hsg] at ho
                obtain ⟨rfl,rfl,rfl,rfl⟩:=ho
                have HGN:=Aside0.mk hsg
                have y0:=HS9.out.c0
                have y1:=HS9.out.c1
                have y2:=HS9.out.c2
                have S7:=HS7.out.below HM3.out
                have k0:=S7.c0
                have k1:=S7.c1
                have k2:=S7.c2
                have kf0:=qd_ S7 0
                have kf1:=qd_ S7 1
                have kf2:=qd_ S7 2
                have HS79:=Aside0.mk S7
                have HS69:=Aside0.mk (HS6.out.below HM3.out)
                have HV69:=Aside0.mk (Kd.ql2_ HV6.out HM3.out)
                have HSX9:=Aside0.mk (HSX.out.below HM3.out)
                have HSR9:=Aside0.mk (HSR.out.below HM3.out)
                clear S7 hsb hsg
                go_wp2
                go_roundg (n+1 - (k+1))
                case measure=>omega
                case rel =>
                  have hne:=HNE.out
                  have hlo:=HW0.out
                  have h8:=HS.out.n8
                  refine ⟨k+1,A6,A9,c6,c9,by omega,by omega,by first|rfl|(rw [w64 (by omega) (by omega)];rfl),⟨?_⟩,⟨?_⟩,⟨?_⟩,⟨?_⟩,⟨?_⟩,⟨?_⟩,⟨?_⟩,⟨?_⟩⟩
                  · rw [HN1.out];exact ⟨HGN.out,HPB.out⟩
                  · rw [HN1.out];exact HS69.out.far3 hne.1 _ _ _
                  · rw [HN1.out];exact SrAt.box3 HS79.out
                  · rw [HN1.out];exact R_box3 HV69.out HS79.out _ _ _
                  · rw [HN1.out];exact R_box3 HV9.out HS79.out _ _ _
                  · exact HSX9.out.far3 (by omega) _ _ _
                  · exact HSR9.out.far3 (by omega) _ _ _
                  · exact below_box3 HB9.out (by omega) _ _ _
          · have hzf:z=zeroF:=by have:=HNK.out;rwa [if_neg hf] at this
            have HN1:=Aside0.mk (show powersS t (zeroT d n) first F (k+1)=(O,Pn) from by rw [HNX.out,if_neg hf])
            have HZ:=Aside0.mk (show ∀ W,Calls Try.prog 141 #[.agg #[.int .i64 z.f0,.int .i64 z.f1]] W fun e w'=>e=.returned (.bool true)∧Below W.heap.size W w' from fun W=>by have:=zeroS W z;rwa [show (z.f0 == 0)=true from by rw [hzf];rfl] at this)
            clear hf hzf
            go_wp2_with (go_at_call 141;refine (HZ.out _).mono ?_;rintro e w3 ⟨rfl,hb⟩;have HB3:=Aside0.mk hb;clear hb)
            go_roundg (n+1 - (k+1))
            case measure=>omega
            case rel =>
              have h8:=HS.out.n8
              refine ⟨k+1,A6,A7,c6,c7,by omega,by omega,by first|rfl|(rw [w64 (by omega) (by omega)];rfl),⟨?_⟩,⟨?_⟩,⟨?_⟩,⟨?_⟩,⟨?_⟩,⟨HSX.out.below HB3.out⟩,⟨HSR.out.below HB3.out⟩,⟨qf_ HB.out HB3.out⟩⟩
              · rw [HN1.out];exact ⟨HG.out.1,HPB.out⟩
              · rw [HN1.out];exact HS6.out.below HB3.out
              · rw [HN1.out];exact HS7.out.below HB3.out
              · rw [HN1.out];exact Kd.ql2_ HV6.out HB3.out
              · rw [HN1.out];exact Kd.ql2_ HV7.out HB3.out
      · have hltz:¬ (k:Int) < (nums.length:Int):=by rw [HLen.out];omega
        obtain rfl:k=n+1:=by omega
        have HRS:=Aside0.mk (show R=some (termsT O) from by
          have:=HEnd.out (by have h2:=HG.out.1;rw [HOE.out] at h2;exact h2)
          rw [this,HOE.out];rfl)
        have y0:=HS7.out.c0
        have y1:=HS7.out.c1
        have y2:=HS7.out.c2
        have SR:=HSR.out
        have x0:wr.cell? ⟨w.heap.size+1,0,none⟩=some (.int .i64 0):=SR.c0
        have f0:wr.frozen? ⟨w.heap.size+1,0,none⟩=false:=qd_ SR 0
        have x1:wr.cell? ⟨w.heap.size+1,1,none⟩=some (.int .i64 0):=SR.c1
        have f1:wr.frozen? ⟨w.heap.size+1,1,none⟩=false:=qd_ SR 1
        have x2:wr.cell? ⟨w.heap.size+1,2,none⟩=some (.slice none 0 0):=SR.c2
        have f2:wr.frozen? ⟨w.heap.size+1,2,none⟩=false:=qd_ SR 2
        have HSRX:=Aside0.mk SR
        clear SR
        go_wp2
        refine bodyPost_ret (results_ct rfl _ _ (w.heap.size+1) 38 _ (0,0) _ rfl (qp_ (qp_ (qp_ HSRX.out 0 _) 1 _) 2 _) hu2 rfl (by kernel_rfl)) rfl ?_
        rw [HRS.out]
        refine ⟨_,rfl,?_,((HB.out.setCell (Nat.le_add_right _ 1) _).setCell (Nat.le_add_right _ 1) _).setCell (Nat.le_add_right _ 1) _⟩
        exact R_box3 HV7.out HSRX.out _ _ _
end Go.Proofs.Ytaiefdhenikiiaa.Base
namespace Go.Proofs.Ytaiefdhenikiiaa.Base
open Go.RowKit Go.Proofs.YtaiefdhenikiiaaW.PrintWords Go.Proofs.YtaiefdhenikiiaaW.PrintLast Go.Proofs.YtaiefdhenikiiaaW.PrintMore
attribute [local go_sem] max2_int max_two
set_option linter.unusedVariables false
set_option linter.unusedSimpArgs false
abbrev FracsR (W:World) (base:Nat) (v:Value) (l:List S77):Prop:=Kd.R k77 77 W base (fun _=>True) v l
def expL (i:Nat):List S77:=(List.range i).map expF
theorem expL_succ (i:Nat):expL (i+1)=expL i ++ [expF i]:=by unfold expL;rw [List.range_succ,List.map_append];rfl
theorem expL_len (i:Nat):(expL i).length=i:=by unfold expL;simp
theorem expL_at (m k:Nat) (h:k < (expL m).length):(expL m)[k]=expF k:=by simp only [expL,List.getElem_map,List.getElem_range]
def facB (i:Nat):Nat:=if i=0 then 1 else factN (i - 1)
set_option maxHeartbeats 32000000 in
set_option maxRecDepth 100000 in
theorem expSp (w:World) (d n:Nat) (hs:Sz d n) {t:Tb} (ht:Like t (zeroT d n)) (hbt:t.bad=false) {A:Option Addr} {ca:Nat} (hA:TmsC w A ca (termsT t)) :
    Calls Try.prog 102 #[.agg #[.int .i64 (d:Int),.int .i64 (n:Int),.slice A (termsT t).length ca]] w (OutR w d n (outT (expT t (zeroT d n)))):=by
  have hu2:=Try.underlying38
  have hu3:=Try.underlying77
  have HSM:=Aside0.mk (show ∀ W B cb,TmsC W A ca (termsT t)→Kd.C k77 W B (expL (n+1)).length (expL (n+1))→Calls Try.prog 169 #[.agg #[.int .i64 (d:Int),.int .i64 (n:Int),.slice A (termsT t).length ca],.slice B (expL (n+1)).length cb] W (OutR W d n (outT (expT t (zeroT d n)))) from fun W B cb h1 h2=>by
    refine sumSp W d n hs ht hbt h1 h2 0 expF (Nat.zero_le _) (expL_len _) (fun k h=>?_) (fun k hk _=>⟨expF_ok k (by have:=hs.n8;omega),by show (1:Int) ≠ 0;decide⟩)
    rw [if_pos (Nat.zero_le _)];exact expL_at _ _ h)
  have H8:=Aside0.mk hs.n8
  generalize outT (expT t (zeroT d n))=R at HSM ⊢
  generalize termsT t=lt at hA HSM ⊢
  have HA:=Aside0.mk hA
  clear hA hs ht hbt
  go_enter Try.func102,Try.ntmps102
  go_wp2_with ((with_reducible refine qa1_ (N:=9) rfl ?_);refine Kd.R_lit k77 _ 77 ?hg (N:=9) ?hd (xs:=([]:List S77)) (inner:=[]) (ok:=fun _=>True) (okp:=fun _=>True) ?hr ?hp (fun _ hk=>hk) trivial (Below.refl _ _) (Nat.le_refl _) (by simp) ?_;(case hd=>rfl);(case hg=>rfl);(case hr=>first|(go_simp;done)|(go_simp;rfl));(case hp=>exact (Reps.none _ _));intro v3 w3 ho hb hg hnew;clear hg hnew;have HX3:=Aside0.mk (show SrAt w3 w.heap.size d n (.slice A lt.length ca) from ql_ (old_at (new_at rfl)) hb);have HR3:=Aside0.mk (show SrAt w3 (w.heap.size+1) 0 0 (.slice none 0 0) from ql_ (new_at (by simp)) hb);have HB3:=Aside0.mk (show Below w.heap.size w w3 from qf_ (qb_ (qb_ (Below.refl _ _) _) _) hb);have HV3:=Aside0.mk (show FracsR w3 w.heap.size v3 [] from Kd.qj2_ ho (qk_ (qb_ (qb_ (Below.refl w.heap.size w) _) _)));clear ho hb)
  go_loopg [4,5,6] (n+1) (fun gg v4 v5 v6 wr=>∃ (i:Nat) (vs:Value),i≤n+1∧n+1 - i≤gg∧v4=vs∧v5=.int .i64 (facB i:Int)∧v6=.int .i64 i∧Aside0 (FracsR wr w.heap.size vs (expL i))∧Aside0 (SrAt wr w.heap.size d n (.slice A lt.length ca))∧Aside0 (SrAt wr (w.heap.size+1) 0 0 (.slice none 0 0))∧Aside0 (Below w.heap.size w wr))
  case atStart=>exact ⟨0,_,Nat.zero_le _,by omega,rfl,rfl,rfl,HV3,HX3,HR3,HB3⟩
  case round =>
    clear HV3 HX3 HR3 HB3
    obtain ⟨i,vs,hi,hg,he4,rfl,rfl,HV,HX,HR,HB⟩:=hrel
    have he4':=he4.symm
    subst he4'
    have z1:=HX.out.c1
    by_cases hlt:i≤n
    · have hltz:(i:Int)≤(n:Int):=by omega
      have h8:i≤8:=by have:=H8.out;omega
      obtain ⟨f,hf⟩:∃ f:Int,f=(facB i:Int):=⟨_,rfl⟩
      obtain ⟨g,hgf⟩:∃ g:Int,g=(factN i:Int):=⟨_,rfl⟩
      have hmul:wrap64 (f * (if (i:Int) < 1 then 1 else (i:Int)))=g:=by
        have hfl:=factN_le i h8
        have e:(facB i:Int) * (if (i:Int) < 1 then 1 else (i:Int))=(factN i:Int):=by
          cases i with
          | zero=>rfl
          | succ j =>
            rw [if_neg (by omega)]
            show ((factN j:Nat):Int) * (((j+1:Nat)):Int)=((factN j * (j+1):Nat):Int)
            rw [Int.natCast_mul]
        rw [hf,hgf,e,w64 (by omega) (by omega)]
      have hmul2:IntKind.i64.wrap (f * (if (i:Int) < 1 then 1 else (i:Int)))=g:=by rw [i64_w];exact hmul
      have HGE:=Aside0.mk (show (⟨1,g⟩:S77)=expF i from by rw [hgf];rfl)
      have HFB:=Aside0.mk (show g=(facB (i+1):Int) from by rw [hgf];unfold facB;rw [if_neg (by omega)];rfl)
      rw [← hf]
      clear hf hgf
      go_wp2_with ((with_reducible refine qh2_ (b:=.append) (xs:=#[.tmp 20,.tmp 23]) rfl ?_);at_builtin;refine Kd.R_append k77 (w0:=w) w.heap.size rfl (.tmp 20) (.tmp 23) 124 77 (.agg #[(.int .i64 0),(.int .i64 0)]) 16 rfl Try.underlying124 info77 rfl (by decide) (by omega) vs (expL i) ⟨1,g⟩ [.int .i64 1,.int .i64 g] (fun _=>True) (fun _=>False) rfl rfl ?aP (fun _ hk=>hk.elim) ?aF ?aO ?aB ?aS ?aL ?_;(case aP=>exact k77_mkM _ _ _ ⟨1,g⟩);(case aB=>exact HB.out);(case aF=>exact (fun _ _=>trivial));(case aO=>exact HV.out);(case aS=>exact (qk_ HB.out));(case aL=>have:=H8.out;rw [expL_len];omega);intro v7 w7 ho hb hg hat;have HX7:=Aside0.mk (HX.out.grown hg (Kd.R_ne HV.out HX.out (by decide)));have HR7:=Aside0.mk (HR.out.grown hg (Kd.R_ne HV.out HR.out (by decide)));have HB7:=Aside0.mk hb;have HV7:=Aside0.mk ho;clear ho hb hg hat)
      all_goals
        go_roundg (n+1 - (i+1))
        case measure=>omega
        case rel =>
          refine ⟨i+1,_,by omega,by omega,rfl,by rw [HFB.out],by have:=H8.out;first|rfl|(rw [w64 (by omega) (by omega)];rfl),⟨?_⟩,HX7,HR7,HB7⟩
          rw [expL_succ,← HGE.out];exact HV7.out
    · have hltz:¬ (i:Int)≤(n:Int):=by omega
      obtain rfl:i=n+1:=by omega
      obtain ⟨Av,cv,rfl⟩:=Kd.qa2_ HV.out
      have p0:=HX.out.c0
      have p2:=HX.out.c2
      have HRC:=Aside0.mk (Kd.qg3_ HV.out).2.2
      have HAW:=Aside0.mk (HA.out.below HB.out)
      go_wp2_with (go_at_call 169;refine (HSM.out _ _ _ HAW.out HRC.out).mono ?_;rintro e w8 h8;obtain ⟨D,N,Ax,cx,lr,ok,rfl,ho,hv,hb⟩:=h8.val;have HOX:=Aside0.mk ho;have HVX:=Aside0.mk (show TermsR w8 w.heap.size (.slice Ax lr.length cx) lr from Kd.qj2_ hv HB.out.size);have HBX:=Aside0.mk (qf_ HB.out hb);have SR:=HR.out.below hb;have x0:(w8.alloc (.cells #[.int .i64 D,.int .i64 N,.slice Ax lr.length cx] 38)).cell? ⟨w.heap.size+1,0,none⟩=some (.int .i64 0):=(SrAt.alloc SR _).c0;have f0:(w8.alloc (.cells #[.int .i64 D,.int .i64 N,.slice Ax lr.length cx] 38)).frozen? ⟨w.heap.size+1,0,none⟩=false:=qd_ (SrAt.alloc SR (.cells #[.int .i64 D,.int .i64 N,.slice Ax lr.length cx] 38)) 0;have x1:(w8.alloc (.cells #[.int .i64 D,.int .i64 N,.slice Ax lr.length cx] 38)).cell? ⟨w.heap.size+1,1,none⟩=some (.int .i64 0):=(SrAt.alloc SR _).c1;have f1:(w8.alloc (.cells #[.int .i64 D,.int .i64 N,.slice Ax lr.length cx] 38)).frozen? ⟨w.heap.size+1,1,none⟩=false:=qd_ (SrAt.alloc SR (.cells #[.int .i64 D,.int .i64 N,.slice Ax lr.length cx] 38)) 1;have x2:(w8.alloc (.cells #[.int .i64 D,.int .i64 N,.slice Ax lr.length cx] 38)).cell? ⟨w.heap.size+1,2,none⟩=some (.slice none 0 0):=(SrAt.alloc SR _).c2;have f2:(w8.alloc (.cells #[.int .i64 D,.int .i64 N,.slice Ax lr.length cx] 38)).frozen? ⟨w.heap.size+1,2,none⟩=false:=qd_ (SrAt.alloc SR (.cells #[.int .i64 D,.int .i64 N,.slice Ax lr.length cx] 38)) 2;have HSRX:=Aside0.mk SR;clear SR h8 ho hv hb)
      refine bodyPost_ret (results_ct rfl _ _ (w.heap.size+1) 38 _ (0,0) _ rfl (qp_ (qp_ (qp_ (HSRX.out.alloc _) 0 _) 1 _) 2 _) hu2 rfl (by kernel_rfl)) rfl ?_
      refine OutR.of HOX.out ?_ (((qb_ HBX.out _).setCell (Nat.le_add_right _ 1) _).setCell (Nat.le_add_right _ 1) _ |>.setCell (Nat.le_add_right _ 1) _)
      exact R_box3 (Kd.qi1_ HVX.out _) (HSRX.out.alloc _) _ _ _
end Go.Proofs.Ytaiefdhenikiiaa.Base
namespace Go.Proofs.Ytaiefdhenikiiaa.Base
open Go.RowKit Go.Proofs.YtaiefdhenikiiaaW.PrintWords Go.Proofs.YtaiefdhenikiiaaW.PrintLast Go.Proofs.YtaiefdhenikiiaaW.PrintMore
set_option linter.unusedVariables false
set_option linter.unusedSimpArgs false
theorem lynV_enc {l:List Nat} (hl:∀ i ∈ l,i < 100) (hs:l.length≤1000000):lynV (encW l)=lynN l :=
  ev_unique (lynV_both (encW l) (by rw [encW_size];omega)).1 (lyn_is l hl hs)
theorem cutFrom_stop (l:List Nat) (i:Nat):∀ m,lynN (l.drop i)=true→cutFrom l i m=i
  | 0,_=>rfl
  | m+1,h=>by unfold cutFrom;rw [if_pos h]
theorem cutFrom_next (l:List Nat) (i:Nat) (m:Nat) (h:lynN (l.drop i)=false):cutFrom l i (m+1)=cutFrom l (i+1) m:=by
  conv=>lhs;unfold cutFrom
  rw [if_neg (by rw [h];simp)]
theorem lynS (W:World) {l:List Nat} (hl:∀ i ∈ l,i < 100) (hs:l.length≤1000000):Calls Try.prog 97 #[.string (encW l)] W fun e w'=>e=.returned (.bool (lynN l))∧Below W.heap.size W w':=by
  obtain ⟨k,hk⟩:=(lynV_both (encW l) (by rw [encW_size];omega)).2.rounds
  rw [lynV_enc hl hs] at hk
  refine (qy_.calls k _ _ _ hk).mono ?_
  rintro e w' ⟨rfl,hd⟩
  exact ⟨rfl,hd.below⟩
set_option maxHeartbeats 32000000 in
set_option maxRecDepth 100000 in
theorem brackSp_one (w:World) (d n:Nat) (hs:Sz d n) (l:List Nat) (hl:isD d n l) (h1:l.length=1) {A:Option Addr} {ca:Nat} {lx:List S79} (hA:TmsC w A ca lx) :
    Calls Try.prog 98 #[.agg #[.int .i64 (d:Int),.int .i64 (n:Int),.slice A lx.length ca],.string (encW l)] w (OutR w d n (outT (letterT d n l))):=by
  have hu2:=Try.underlying38
  have HA:=Aside0.mk hA
  have hsz:(encW l).size=1:=by rw [encW_size,h1]
  have HRN:=Aside0.mk (show outT (letterT d n l)=some [⟨encW l,oneF⟩] from by rw [outT_good (letterT_good d n l),letter_terms hs hl])
  generalize outT (letterT d n l)=R at HRN ⊢
  clear hA hs hl
  go_enter Try.func98,Try.ntmps98
  go_wp2_with (go_at_call 162;refine (letterS _ d n (HA.out.below (qb_ (qb_ (Below.refl _ _) _) _)) _).mono ?_;rintro e w1 ⟨v,rfl,hv,hb⟩;obtain ⟨A1,c1,rfl⟩:=Kd.qa2_ hv;have HB1:=Aside0.mk (show Below w.heap.size w w1 from qf_ (qb_ (qb_ (Below.refl _ _) _) _) hb);have HV1:=Aside0.mk (Kd.qj2_ hv (qk_ (qb_ (qb_ (Below.refl w.heap.size w) _) _)));have SR:SrAt w1 (w.heap.size+1) 0 0 (.slice none 0 0):=ql_ (new_at (by simp)) hb;have x0:=SR.c0;have x1:=SR.c1;have x2:=SR.c2;have f0:=qd_ SR 0;have f1:=qd_ SR 1;have f2:=qd_ SR 2;have HSRX:=Aside0.mk SR;clear SR hv hb)
  refine bodyPost_ret (results_ct rfl _ _ (w.heap.size+1) 38 _ (0,0) _ rfl (qp_ (qp_ (qp_ HSRX.out 0 _) 1 _) 2 _) hu2 rfl (by kernel_rfl)) rfl ?_
  rw [HRN.out]
  refine ⟨_,rfl,?_,((HB1.out.setCell (Nat.le_add_right _ 1) _).setCell (Nat.le_add_right _ 1) _).setCell (Nat.le_add_right _ 1) _⟩
  exact Kd.R_set (Kd.R_set (Kd.R_set HV1.out HSRX.out (by decide) 0 _) (qp_ HSRX.out 0 _) (by decide) 1 _) (qp_ (qp_ HSRX.out 0 _) 1 _) (by decide) 2 _
theorem bracketN_bad1 {d n m:Nat} {l:List Nat} (h1:¬ l.length=1) (h:(bracketN d n m (l.take (cutI l))).bad=true):(bracketN d n (m+1) l).bad=true:=by
  show (if l.length=1 then letterT d n l else commT (bracketN d n m (l.take (cutI l))) (bracketN d n m (l.drop (cutI l)))).bad=true
  rw [if_neg h1];exact commT_bad (Or.inl (timesT_bad (Or.inl h)))
theorem bracketN_bad2 {d n m:Nat} {l:List Nat} (h1:¬ l.length=1) (h:(bracketN d n m (l.drop (cutI l))).bad=true):(bracketN d n (m+1) l).bad=true:=by
  show (if l.length=1 then letterT d n l else commT (bracketN d n m (l.take (cutI l))) (bracketN d n m (l.drop (cutI l)))).bad=true
  rw [if_neg h1];exact commT_bad (Or.inl (timesT_bad (Or.inr h)))
set_option maxHeartbeats 32000000 in
set_option maxRecDepth 100000 in
theorem brackSp (d n:Nat) (hs:Sz d n) (m:Nat):∀ (l:List Nat) (w:World) (A:Option Addr) (ca:Nat) (lx:List S79),isD d n l→1≤l.length→l.length≤m+1→TmsC w A ca lx →
    Calls Try.prog 98 #[.agg #[.int .i64 (d:Int),.int .i64 (n:Int),.slice A lx.length ca],.string (encW l)] w (OutR w d n (outT (bracketN d n m l))):=by
  induction m with
  | zero=>intro l w A ca lx hl h1 h2 hA;exact brackSp_one w d n hs l hl (by omega) hA
  | succ m ih =>
    intro l w A ca lx hl h1 h2 hA
    by_cases c1:l.length=1
    · unfold bracketN;rw [if_pos c1];exact brackSp_one w d n hs l hl c1 hA
    · have hu2:=Try.underlying38
      have hc:=cutI_lt (l:=l) (by omega)
      have hsz:(encW l).size=l.length:=encW_size l
      have hz1:¬ ((l.length:Int)=1):=by omega
      have hzb:((l.length:Int) == 1)=false:=by rw [beq_eq_false_iff_ne];exact hz1
      obtain ⟨T1,hT1⟩:∃ T,T=bracketN d n m (l.take (cutI l)):=⟨_,rfl⟩
      obtain ⟨T2,hT2⟩:∃ T,T=bracketN d n m (l.drop (cutI l)):=⟨_,rfl⟩
      have HK1:=Aside0.mk (show Like T1 (zeroT d n) from by rw [hT1];exact bracketN_like hs m _)
      have HK2:=Aside0.mk (show Like T2 (zeroT d n) from by rw [hT2];exact bracketN_like hs m _)
      obtain ⟨R,hR⟩:∃ R,R=outT (bracketN d n (m+1) l):=⟨_,rfl⟩
      have HR1:=Aside0.mk (show T1.bad=true→R=none from fun h=>by rw [hR];exact outT_bad (bracketN_bad1 c1 (by rw [← hT1];exact h)))
      have HR2:=Aside0.mk (show T2.bad=true→R=none from fun h=>by rw [hR];exact outT_bad (bracketN_bad2 c1 (by rw [← hT2];exact h)))
      have HR3:=Aside0.mk (show R=outT (commT T1 T2) from by
        rw [hR]
        show outT (if l.length=1 then letterT d n l else commT (bracketN d n m (l.take (cutI l))) (bracketN d n m (l.drop (cutI l))))=_
        rw [if_neg c1,hT1,hT2])
      rw [← hR]
      obtain ⟨q,hq⟩:∃ q,q=cutI l:=⟨_,rfl⟩
      rw [← hq] at hT1 hT2 hc
      have HS:=Aside0.mk hs
      have HL:=Aside0.mk hl
      have HA:=Aside0.mk hA
      have H8:=Aside0.mk (show l.length≤8 by have:=hl.1;have:=hs.n8;omega)
      have HI1:=Aside0.mk (show ∀ W A ca lx,TmsC W A ca lx→Calls Try.prog 98 #[.agg #[.int .i64 (d:Int),.int .i64 (n:Int),.slice A lx.length ca],.string ((encW l).extract 0 q)] W (OutR W d n (outT T1)) from fun W A ca lx H=>by
        rw [extract_enc l 0 q (Nat.zero_le _),List.drop_zero,hT1]
        exact ih (l.take q) W A ca lx (isD_take hl _) (by rw [List.length_take];omega) (by rw [List.length_take];omega) H)
      have HI2:=Aside0.mk (show ∀ W A ca lx,TmsC W A ca lx→Calls Try.prog 98 #[.agg #[.int .i64 (d:Int),.int .i64 (n:Int),.slice A lx.length ca],.string ((encW l).extract q l.length)] W (OutR W d n (outT T2)) from fun W A ca lx H=>by
        rw [extract_enc l q _ (by omega),List.take_length,hT2]
        exact ih (l.drop q) W A ca lx (isD_drop hl _) (by rw [List.length_drop];omega) (by rw [List.length_drop];omega) H)
      have HLY:=Aside0.mk (show ∀ W i,i < l.length→Calls Try.prog 97 #[.string ((encW l).extract i l.length)] W (fun e w'=>e=.returned (.bool (lynN (l.drop i)))∧Below W.heap.size W w') from fun W i hi=>by
        rw [extract_enc l i _ (by omega),List.take_length]
        exact lynS W (fun x hx=>isD_100 hl hs.d3 x (List.mem_of_mem_drop hx)) (by rw [List.length_drop];have:=hl.1;have:=hs.n8;omega))
      have HQ:=Aside0.mk (show cutFrom l 1 (l.length - 2)=q from by rw [hq];rfl)
      have HQC:=Aside0.mk hc
      have H2:=Aside0.mk (show 2≤l.length by omega)
      clear ih hR hT1 hT2 hq hl hs hA c1 hc h1 h2
      go_enter Try.func98,Try.ntmps98
      go_wp2
      generalize hW:World.alloc _ _=W0
      have HS0:=Aside0.mk (show SrAt W0 w.heap.size d n (.slice A lx.length ca) from by rw [← hW];exact old_at (new_at rfl))
      have HSR:=Aside0.mk (show SrAt W0 (w.heap.size+1) 0 0 (.slice none 0 0) from by rw [← hW];exact new_at (by simp))
      have HB0:=Aside0.mk (show Below w.heap.size w W0 from by rw [← hW];exact qb_ (qb_ (Below.refl _ _) _) _)
      clear hW
      go_loopg [6] l.length (fun gg v6 wr=>∃ j:Nat,1≤j∧j < l.length∧l.length - j≤gg∧v6=.int .i64 j∧Aside0 (cutFrom l j (l.length - 1 - j)=q)∧Aside0 (Below W0.heap.size W0 wr))
      case atStart=>exact ⟨1,Nat.le_refl _,by have:=H2.out;omega,by omega,rfl,⟨by rw [show l.length - 1 - 1=l.length - 2 by omega];exact HQ.out⟩,⟨Below.refl _ _⟩⟩
      case round =>
        obtain ⟨j,hj1,hj2,hg,rfl,HC,HB⟩:=hrel
        have hjz:(j:Int)≤(l.length:Int):=by omega
        have hjz2:(j:Int) < (l.length:Int):=by omega
        cases hly:lynN (l.drop j) with
        | false =>
          have HLF:=Aside0.mk (show ∀ W,_ from fun W=>hly ▸ HLY.out W j hj2)
          have HCN:=Aside0.mk (show cutFrom l (j+1) (l.length - 1 - (j+1))=q∧j+1 < l.length from by
            have h1:1≤l.length - 1 - j:=by
              rcases Nat.lt_or_ge 0 (l.length - 1 - j) with h|h
              · exact h
              · exfalso
                rw [lyn_one (l.drop j) (by rw [List.length_drop];omega)] at hly;cases hly
            have h2:=HC.out
            rw [show l.length - 1 - j=(l.length - 1 - (j+1))+1 by omega,cutFrom_next l j _ hly] at h2
            exact ⟨h2,by omega⟩)
          clear hly
          go_wp2_with (go_at_call 97;refine (HLF.out _).mono ?_;rintro e w1 ⟨rfl,hb⟩;have HB1:=Aside0.mk (qf_ HB.out hb);clear hb)
          go_roundg (l.length - (j+1))
          case measure=>omega
          case rel=>exact ⟨j+1,by omega,HCN.out.2,by omega,by have:=H8.out;first|rfl|(rw [w64 (by omega) (by omega)];rfl),⟨HCN.out.1⟩,HB1⟩
        | true =>
          have HLF:=Aside0.mk (show ∀ W,_ from fun W=>hly ▸ HLY.out W j hj2)
          have hjq:j=q:=by have:=HC.out;rw [cutFrom_stop l j _ hly] at this;exact this
          clear hly
          subst hjq
          go_wp2_with (go_at_call 97;refine (HLF.out _).mono ?_;rintro e w1 ⟨rfl,hb⟩;have HB1:=Aside0.mk (qf_ HB.out hb);clear hb)
          have p0:=(HS0.out.below HB1.out).c0
          have p1:=(HS0.out.below HB1.out).c1
          have p2:=(HS0.out.below HB1.out).c2
          have HTX:=Aside0.mk (HA.out.below (qf_ HB0.out HB1.out))
          go_cut [7,8] (fun v7 v8 wx=>∃ (b7:Nat) (D N:Int) (Ax:Option Addr) (cx:Nat) (l7:List S79) (ok:Bool),v7=.pointer (some ⟨b7,0,none⟩)∧v8=.bool ok∧Aside0 (SrAt wx b7 D N (.slice Ax l7.length cx))∧Aside0 (TermsR wx w.heap.size (.slice Ax l7.length cx) l7)∧Aside0 (OutV d n (outT T1) D N l7 ok)∧Aside0 (Below w1.heap.size w1 wx))
          case first =>
            go_region_held3 (fun w'=>w'.cell? ⟨w.heap.size,0,none⟩=some (.int .i64 (d:Int))∧w'.cell? ⟨w.heap.size,1,none⟩=some (.int .i64 (n:Int))∧w'.cell? ⟨w.heap.size,2,none⟩=some (.slice A lx.length ca)) (exact keep3 p0 p1 p2 (by (repeat' (first|(with_reducible exact Below.refl _ _)|(with_reducible exact HB6.out)|(with_reducible refine Below.setCell ?_ ?_ _)|(with_reducible refine qc_ ?_)|(with_reducible refine qa_ ?_ _)|(with_reducible refine qb_ ?_ _)|(simp;done)|(simp;omega)|(have h6_:=HB6.out.size;simp;omega))))) (first
              | (go_at_call 98;refine (HI1.out _ _ _ _ (HTX.out.below (by repeat (first|(with_reducible exact Below.refl _ _)|(with_reducible refine qc_ ?_)|(with_reducible refine qa_ ?_ _)|(with_reducible refine qb_ ?_ _))))).mono ?_;rintro e w6 h6;obtain ⟨D7,N7,A7,c7,l7,ok7,rfl,ho7,hv7,hb⟩:=h6.val;have HB6:=Aside0.mk (show Below w1.heap.size w1 w6 from qf_ (by repeat (first|(with_reducible exact Below.refl _ _)|(with_reducible refine qc_ ?_)|(with_reducible refine qa_ ?_ _)|(with_reducible refine qb_ ?_ _))) hb);have HO7:=Aside0.mk ho7;have HV7:=Aside0.mk (show TermsR w6 w.heap.size (.slice A7 l7.length c7) l7 from Kd.qj2_ hv7 (Nat.le_trans (qf_ HB0.out HB1.out).size (qk_ (show Below w1.heap.size w1 _ from (by repeat (first|(with_reducible exact Below.refl _ _)|(with_reducible refine qc_ ?_)|(with_reducible refine qa_ ?_ _)|(with_reducible refine qb_ ?_ _)))))));first|(refine (fun (Z:w6.heap[w1.heap.size]?=some (.cells #[.int .i64 0,.int .i64 0,.slice none 0 0] 38 (0,0)))=>?_) (ql_ ?_ hb);rotate_left;(first|exact drew_at (new_at rfl)|exact new_at rfl);have HZZ:=Aside0.mk Z;have z0:=qj_ Z 0;have z1:=qj_ Z 1;have z2:=qj_ Z 2;have zf0:=qd_ Z 0;have zf1:=qd_ Z 1;have zf2:=qd_ Z 2;clear Z)|skip;clear h6 ho7 hv7 hb))
            all_goals
              go_wp2_with fail
              go_meet
              case rel =>
                refine ⟨_,D7,N7,A7,c7,l7,ok7,rfl,rfl,⟨?_⟩,⟨?_⟩,HO7,⟨?_⟩⟩
                · (repeat' (first|((with_reducible refine SrAt.new ?_);simp;done)|(with_reducible refine SrAt.put3 ?_ _ _ _)|(with_reducible exact HZZ.out)|(with_reducible refine SrAt.alloc ?_ _)|(with_reducible refine SrAt.drew ?_)|(with_reducible refine drewN_at ?_)|(with_reducible refine drew_at ?_)|((with_reducible refine new_at ?_);simp;done)|(with_reducible refine old_at ?_)))
                · (repeat' (first|(with_reducible exact HV7.out)|(with_reducible exact Kd.qi1_ HV7.out _)|(with_reducible refine Kd.qi1_ ?_ _)|(with_reducible refine Kd.R_drew ?_)|exact Kd.R_set (Kd.R_set (Kd.R_set HV7.out HZZ.out (by decide) 0 _) (qp_ HZZ.out 0 _) (by decide) 1 _) (qp_ (qp_ HZZ.out 0 _) 1 _) (by decide) 2 _))
                · (repeat' (first|(with_reducible exact Below.refl _ _)|(with_reducible exact HB6.out)|(with_reducible refine Below.setCell ?_ ?_ _)|(with_reducible refine qc_ ?_)|(with_reducible refine qa_ ?_ _)|(with_reducible refine qb_ ?_ _)|(simp;done)|(simp;omega)|(have h6_:=HB6.out.size;simp;omega)))
          case rest =>
            obtain ⟨b7,D7,N7,A7,c7,l7,ok7,rfl,rfl,HS7,HV7,HO7,HM7⟩:=hcut
            have HB7:=Aside0.mk (qf_ HB1.out HM7.out)
            have HTY:=Aside0.mk (HTX.out.below HM7.out)
            have p0:=(HS0.out.below HB7.out).c0
            have p1:=(HS0.out.below HB7.out).c1
            have p2:=(HS0.out.below HB7.out).c2
            obtain ⟨w2,hw2⟩:∃ x,x=wc:=⟨_,rfl⟩
            rw [← hw2] at HS7 HV7 HM7 HB7 HTY p0 p1 p2 ⊢
            clear hw2
            go_wp2
            go_cut [9,10] (fun v9 v10 wx=>∃ (b9:Nat) (D N:Int) (Ax:Option Addr) (cx:Nat) (l9:List S79) (ok:Bool),v9=.pointer (some ⟨b9,0,none⟩)∧v10=.bool ok∧Aside0 (SrAt wx b9 D N (.slice Ax l9.length cx))∧Aside0 (TermsR wx w.heap.size (.slice Ax l9.length cx) l9)∧Aside0 (OutV d n (outT T2) D N l9 ok)∧Aside0 (Below w2.heap.size w2 wx))
            case first =>
              go_region_held3 (fun w'=>w'.cell? ⟨w.heap.size,0,none⟩=some (.int .i64 (d:Int))∧w'.cell? ⟨w.heap.size,1,none⟩=some (.int .i64 (n:Int))∧w'.cell? ⟨w.heap.size,2,none⟩=some (.slice A lx.length ca)) (exact keep3 p0 p1 p2 (by (repeat' (first|(with_reducible exact Below.refl _ _)|(with_reducible exact HB6.out)|(with_reducible refine Below.setCell ?_ ?_ _)|(with_reducible refine qc_ ?_)|(with_reducible refine qa_ ?_ _)|(with_reducible refine qb_ ?_ _)|(simp;done)|(simp;omega)|(have h6_:=HB6.out.size;simp;omega))))) (first
                | (go_at_call 98;refine (HI2.out _ _ _ _ (HTY.out.below (by repeat (first|(with_reducible exact Below.refl _ _)|(with_reducible refine qc_ ?_)|(with_reducible refine qa_ ?_ _)|(with_reducible refine qb_ ?_ _))))).mono ?_;rintro e w6 h6;obtain ⟨D9,N9,A9,c9,l9,ok9,rfl,ho9,hv9,hb⟩:=h6.val;have HB6:=Aside0.mk (show Below w2.heap.size w2 w6 from qf_ (by repeat (first|(with_reducible exact Below.refl _ _)|(with_reducible refine qc_ ?_)|(with_reducible refine qa_ ?_ _)|(with_reducible refine qb_ ?_ _))) hb);have HO9:=Aside0.mk ho9;have HV9:=Aside0.mk (show TermsR w6 w.heap.size (.slice A9 l9.length c9) l9 from Kd.qj2_ hv9 (Nat.le_trans (qf_ HB0.out HB7.out).size (qk_ (show Below w2.heap.size w2 _ from (by repeat (first|(with_reducible exact Below.refl _ _)|(with_reducible refine qc_ ?_)|(with_reducible refine qa_ ?_ _)|(with_reducible refine qb_ ?_ _)))))));first|(refine (fun (Z:w6.heap[w2.heap.size]?=some (.cells #[.int .i64 0,.int .i64 0,.slice none 0 0] 38 (0,0)))=>?_) (ql_ ?_ hb);rotate_left;(first|exact drew_at (new_at rfl)|exact new_at rfl);have HZZ:=Aside0.mk Z;have z0:=qj_ Z 0;have z1:=qj_ Z 1;have z2:=qj_ Z 2;have zf0:=qd_ Z 0;have zf1:=qd_ Z 1;have zf2:=qd_ Z 2;clear Z)|skip;clear h6 ho9 hv9 hb))
              all_goals
                go_wp2_with fail
                go_meet
                case rel =>
                  refine ⟨_,D9,N9,A9,c9,l9,ok9,rfl,rfl,⟨?_⟩,⟨?_⟩,HO9,⟨?_⟩⟩
                  · (repeat' (first|((with_reducible refine SrAt.new ?_);simp;done)|(with_reducible refine SrAt.put3 ?_ _ _ _)|(with_reducible exact HZZ.out)|(with_reducible refine SrAt.alloc ?_ _)|(with_reducible refine SrAt.drew ?_)|(with_reducible refine drewN_at ?_)|(with_reducible refine drew_at ?_)|((with_reducible refine new_at ?_);simp;done)|(with_reducible refine old_at ?_)))
                  · (repeat' (first|(with_reducible exact HV9.out)|(with_reducible exact Kd.qi1_ HV9.out _)|(with_reducible refine Kd.qi1_ ?_ _)|(with_reducible refine Kd.R_drew ?_)|exact Kd.R_set (Kd.R_set (Kd.R_set HV9.out HZZ.out (by decide) 0 _) (qp_ HZZ.out 0 _) (by decide) 1 _) (qp_ (qp_ HZZ.out 0 _) 1 _) (by decide) 2 _))
                  · (repeat' (first|(with_reducible exact Below.refl _ _)|(with_reducible exact HB6.out)|(with_reducible refine Below.setCell ?_ ?_ _)|(with_reducible refine qc_ ?_)|(with_reducible refine qa_ ?_ _)|(with_reducible refine qb_ ?_ _)|(simp;done)|(simp;omega)|(have h6_:=HB6.out.size;simp;omega)))
            case rest =>
              obtain ⟨b9,D9,N9,A9,c9,l9,ok9,rfl,rfl,HS9,HV9,HO9,HM9⟩:=hcut
              have HB9:=Aside0.mk (qf_ HB7.out HM9.out)
              have HBW:=Aside0.mk (qf_ HB0.out HB9.out)
              clear p0 p1 p2
              by_cases hb1:T1.bad=true
              · have ho:=HO7.out
                rw [outT_bad hb1] at ho
                obtain ⟨rfl,rfl,rfl,rfl⟩:=ho
                have HRN:=Aside0.mk (HR1.out hb1)
                clear hb1
                have SR:=HSR.out.below HB9.out
                have x0:wc.cell? ⟨w.heap.size+1,0,none⟩=some (.int .i64 0):=SR.c0
                have f0:wc.frozen? ⟨w.heap.size+1,0,none⟩=false:=qd_ SR 0
                have x1:wc.cell? ⟨w.heap.size+1,1,none⟩=some (.int .i64 0):=SR.c1
                have f1:wc.frozen? ⟨w.heap.size+1,1,none⟩=false:=qd_ SR 1
                have x2:wc.cell? ⟨w.heap.size+1,2,none⟩=some (.slice none 0 0):=SR.c2
                have f2:wc.frozen? ⟨w.heap.size+1,2,none⟩=false:=qd_ SR 2
                have HSRX:=Aside0.mk SR
                clear SR
                go_wp2
                refine bodyPost_ret (results_ct rfl _ _ (w.heap.size+1) 38 _ (0,0) _ rfl (qp_ (qp_ (qp_ HSRX.out 0 _) 1 _) 2 _) hu2 rfl (by kernel_rfl)) rfl ?_
                rw [HRN.out]
                exact ⟨_,rfl,Kd.R_nil _ _ _ _ _,((HBW.out.setCell (Nat.le_add_right _ 1) _).setCell (Nat.le_add_right _ 1) _).setCell (Nat.le_add_right _ 1) _⟩
              · have hg1:T1.bad=false:=by simpa using hb1
                have ho:=HO7.out
                rw [outT_good hg1] at ho
                obtain ⟨rfl,rfl,rfl,rfl⟩:=ho
                by_cases hb2:T2.bad=true
                · have ho:=HO9.out
                  rw [outT_bad hb2] at ho
                  obtain ⟨rfl,rfl,rfl,rfl⟩:=ho
                  have HRN:=Aside0.mk (HR2.out hb2)
                  clear hb1 hb2 hg1
                  have SR:=HSR.out.below HB9.out
                  have x0:wc.cell? ⟨w.heap.size+1,0,none⟩=some (.int .i64 0):=SR.c0
                  have f0:wc.frozen? ⟨w.heap.size+1,0,none⟩=false:=qd_ SR 0
                  have x1:wc.cell? ⟨w.heap.size+1,1,none⟩=some (.int .i64 0):=SR.c1
                  have f1:wc.frozen? ⟨w.heap.size+1,1,none⟩=false:=qd_ SR 1
                  have x2:wc.cell? ⟨w.heap.size+1,2,none⟩=some (.slice none 0 0):=SR.c2
                  have f2:wc.frozen? ⟨w.heap.size+1,2,none⟩=false:=qd_ SR 2
                  have HSRX:=Aside0.mk SR
                  clear SR
                  go_wp2
                  refine bodyPost_ret (results_ct rfl _ _ (w.heap.size+1) 38 _ (0,0) _ rfl (qp_ (qp_ (qp_ HSRX.out 0 _) 1 _) 2 _) hu2 rfl (by kernel_rfl)) rfl ?_
                  rw [HRN.out]
                  exact ⟨_,rfl,Kd.R_nil _ _ _ _ _,((HBW.out.setCell (Nat.le_add_right _ 1) _).setCell (Nat.le_add_right _ 1) _).setCell (Nat.le_add_right _ 1) _⟩
                · have hg2:T2.bad=false:=by simpa using hb2
                  have ho:=HO9.out
                  rw [outT_good hg2] at ho
                  obtain ⟨rfl,rfl,rfl,rfl⟩:=ho
                  have HC1:=Aside0.mk (show TmsC wc A7 c7 (termsT T1) from (TmsC.of (Kd.ql2_ HV7.out HM9.out) (by have:=terms_len HK1.out HS.out;omega)).1)
                  have HC2:=Aside0.mk (show TmsC wc A9 c9 (termsT T2) from (TmsC.of HV9.out (by have:=terms_len HK2.out HS.out;omega)).1)
                  have HCM:=Aside0.mk (show ∀ W,TmsC W A7 c7 (termsT T1)→TmsC W A9 c9 (termsT T2)→Calls Try.prog 109 #[.agg #[.int .i64 (d:Int),.int .i64 (n:Int),.slice A7 (termsT T1).length c7],.agg #[.int .i64 (d:Int),.int .i64 (n:Int),.slice A9 (termsT T2).length c9]] W (OutR W d n R) from fun W h1 h2=>by rw [HR3.out];exact commS W d n HS.out HK1.out HK2.out hg1 hg2 h1 h2)
                  have S7:=HS7.out.below HM9.out
                  have k0:=S7.c0
                  have k1:=S7.c1
                  have k2:=S7.c2
                  have y0:=HS9.out.c0
                  have y1:=HS9.out.c1
                  have y2:=HS9.out.c2
                  have HSRB:=Aside0.mk (HSR.out.below HB9.out)
                  clear hb1 hb2 hg1 hg2 S7
                  go_wp2_with (go_at_call 109;refine (HCM.out _ HC1.out HC2.out).mono ?_;rintro e w8 h8;obtain ⟨D,N,Ax,cx,lr,ok,rfl,ho,hv,hb⟩:=h8.val;have HOX:=Aside0.mk ho;have HVX:=Aside0.mk (show TermsR w8 w.heap.size (.slice Ax lr.length cx) lr from Kd.qj2_ hv HBW.out.size);have HBX:=Aside0.mk (qf_ HBW.out hb);have SR:=HSRB.out.below hb;have x0:(w8.alloc (.cells #[.int .i64 D,.int .i64 N,.slice Ax lr.length cx] 38)).cell? ⟨w.heap.size+1,0,none⟩=some (.int .i64 0):=(SrAt.alloc SR _).c0;have f0:(w8.alloc (.cells #[.int .i64 D,.int .i64 N,.slice Ax lr.length cx] 38)).frozen? ⟨w.heap.size+1,0,none⟩=false:=qd_ (SrAt.alloc SR (.cells #[.int .i64 D,.int .i64 N,.slice Ax lr.length cx] 38)) 0;have x1:(w8.alloc (.cells #[.int .i64 D,.int .i64 N,.slice Ax lr.length cx] 38)).cell? ⟨w.heap.size+1,1,none⟩=some (.int .i64 0):=(SrAt.alloc SR _).c1;have f1:(w8.alloc (.cells #[.int .i64 D,.int .i64 N,.slice Ax lr.length cx] 38)).frozen? ⟨w.heap.size+1,1,none⟩=false:=qd_ (SrAt.alloc SR (.cells #[.int .i64 D,.int .i64 N,.slice Ax lr.length cx] 38)) 1;have x2:(w8.alloc (.cells #[.int .i64 D,.int .i64 N,.slice Ax lr.length cx] 38)).cell? ⟨w.heap.size+1,2,none⟩=some (.slice none 0 0):=(SrAt.alloc SR _).c2;have f2:(w8.alloc (.cells #[.int .i64 D,.int .i64 N,.slice Ax lr.length cx] 38)).frozen? ⟨w.heap.size+1,2,none⟩=false:=qd_ (SrAt.alloc SR (.cells #[.int .i64 D,.int .i64 N,.slice Ax lr.length cx] 38)) 2;have HSRX:=Aside0.mk SR;clear SR h8 ho hv hb)
                  refine bodyPost_ret (results_ct rfl _ _ (w.heap.size+1) 38 _ (0,0) _ rfl (qp_ (qp_ (qp_ (HSRX.out.alloc _) 0 _) 1 _) 2 _) hu2 rfl (by kernel_rfl)) rfl ?_
                  refine OutR.of HOX.out ?_ (((qb_ HBX.out _).setCell (Nat.le_add_right _ 1) _).setCell (Nat.le_add_right _ 1) _ |>.setCell (Nat.le_add_right _ 1) _)
                  exact Kd.R_set (Kd.R_set (Kd.R_set (Kd.qi1_ HVX.out _) (HSRX.out.alloc _) (by decide) 0 _) (qp_ (HSRX.out.alloc _) 0 _) (by decide) 1 _) (qp_ (qp_ (HSRX.out.alloc _) 0 _) 1 _) (by decide) 2 _
theorem brackSp' (w:World) (d n:Nat) (hs:Sz d n) (l:List Nat) (hl:isD d n l) (h1:1≤l.length) {A:Option Addr} {ca:Nat} {lx:List S79} (hA:TmsC w A ca lx) :
    Calls Try.prog 98 #[.agg #[.int .i64 (d:Int),.int .i64 (n:Int),.slice A lx.length ca],.string (encW l)] w (OutR w d n (outT (bracketT d n l))) :=
  brackSp d n hs 8 l w A ca lx hl h1 (by have:=hl.1;have:=hs.n8;omega) hA
end Go.Proofs.Ytaiefdhenikiiaa.Base
namespace Go.Proofs.Ytaiefdhenikiiaa.Base
open Go.RowKit Go.Proofs.YtaiefdhenikiiaaW.PrintWords Go.Proofs.YtaiefdhenikiiaaW.PrintLast Go.Proofs.YtaiefdhenikiiaaW.PrintMore
set_option linter.unusedVariables false
set_option linter.unusedSimpArgs false
theorem coord_succ {d n:Nat} {l:List S79} {i:Nat} (h:i < l.length):coordT d n (l.take (i+1))=sumT (coordT d n (l.take i)) (scaleT (bracketT d n (decW l[i].f0)) l[i].f1):=by
  unfold coordT
  rw [List.take_succ_eq_append_getElem h,List.foldl_append];rfl
theorem coord_bad {d n:Nat} {l:List S79} {i:Nat} (h:(coordT d n (l.take i)).bad=true):(coordT d n l).bad=true:=by
  have key:∀ (r:List S79) (o:Tb),o.bad=true→(r.foldl (coordStep d n) o).bad=true:=by
    intro r
    induction r with
    | nil=>intro o ho;exact ho
    | cons x r ih=>intro o ho;exact ih _ (sumT_bad (Or.inl ho))
  conv=>lhs;rw [← List.take_append_drop i l]
  unfold coordT at h ⊢
  rw [List.foldl_append]
  exact key _ _ h
theorem keep4' {w W:World} {a1 a2 a3 a4:Addr} {v1 v2 v3 v4:Value} (p1:w.cell? a1=some v1) (p2:w.cell? a2=some v2) (p3:w.cell? a3=some v3) (p4:w.cell? a4=some v4) (hb:Below w.heap.size w W) :
    W.cell? a1=some v1∧W.cell? a2=some v2∧W.cell? a3=some v3∧W.cell? a4=some v4 :=
  ⟨qr_ hb p1,qr_ hb p2,qr_ hb p3,qr_ hb p4⟩
theorem keep8 {w W:World} {a1 a2 a3 a4 a5 a6 a7 a8:Addr} {v1 v2 v3 v4 v5 v6 v7 v8:Value} (p1:w.cell? a1=some v1) (p2:w.cell? a2=some v2) (p3:w.cell? a3=some v3) (p4:w.cell? a4=some v4) (p5:w.cell? a5=some v5) (p6:w.cell? a6=some v6) (p7:w.cell? a7=some v7) (p8:w.cell? a8=some v8) (hb:Below w.heap.size w W) :
    W.cell? a1=some v1∧W.cell? a2=some v2∧W.cell? a3=some v3∧W.cell? a4=some v4∧W.cell? a5=some v5∧W.cell? a6=some v6∧W.cell? a7=some v7∧W.cell? a8=some v8 :=
  ⟨qr_ hb p1,qr_ hb p2,qr_ hb p3,qr_ hb p4,qr_ hb p5,qr_ hb p6,qr_ hb p7,qr_ hb p8⟩
set_option maxHeartbeats 32000000 in
set_option maxRecDepth 100000 in
theorem seriesSp (w:World) (d n:Nat) (hs:Sz d n) {A:Option Addr} {c:Nat} {l:List S79} (hA:TmsC w A c l) (hl:okCs d n l) (hz:∀ x ∈ l,x.f1.f0 ≠ 0) :
    Calls Try.prog 119 #[.int .i64 (d:Int),.int .i64 (n:Int),.slice A l.length c] w (OutR w d n (outT (coordT d n l))):=by
  have hu2:=Try.underlying38
  have hu3:=Try.underlying79
  have hu4:=Try.underlying77
  have HA:=Aside0.mk hA
  have HS:=Aside0.mk hs
  have HL:=Aside0.mk hl
  have HZ:=Aside0.mk hz
  obtain ⟨R,hR⟩:∃ R,R=outT (coordT d n l):=⟨_,rfl⟩
  rw [← hR]
  have HBad:=Aside0.mk (show ∀ i,(coordT d n (l.take i)).bad=true→R=none from fun i h=>by rw [hR];exact outT_bad (coord_bad h))
  have HEnd:=Aside0.mk (show (coordT d n l).bad=false→R=some (termsT (coordT d n l)) from fun h=>by rw [hR];exact outT_good h)
  clear hA hs hl hz hR
  go_enter Try.func119,Try.ntmps119
  go_wp2_with (go_at_call 108;refine (emptyS _ d n (nil_tms _)).mono ?_;rintro e w1 ⟨v,rfl,hv,hb⟩;obtain ⟨A1,c1,rfl⟩:=Kd.qa2_ hv;have HB1:=Aside0.mk (show Below w.heap.size w w1 from qf_ (qb_ (Below.refl _ _) _) hb);have HSR:=Aside0.mk (show SrAt w1 w.heap.size 0 0 (.slice none 0 0) from ql_ (new_at rfl) hb);have HV1:=Aside0.mk (show TermsR w1 w.heap.size (.slice A1 ([]:List S79).length c1) [] from Kd.qj2_ hv (qk_ (qb_ (Below.refl w.heap.size w) _)));clear hv hb)
  generalize hW:World.alloc w1 _=W1
  have HS6:=Aside0.mk (show SrAt W1 w1.heap.size d n (.slice A1 (termsT (coordT d n (l.take 0))).length c1) from by rw [← hW,List.take_zero,show coordT d n []=zeroT d n from rfl,zero_terms];exact new_at rfl)
  have HV6:=Aside0.mk (show TermsR W1 w.heap.size (.slice A1 (termsT (coordT d n (l.take 0))).length c1) (termsT (coordT d n (l.take 0))) from by rw [← hW,List.take_zero,show coordT d n []=zeroT d n from rfl,zero_terms];exact Kd.qi1_ HV1.out _)
  have HSR1:=Aside0.mk (show SrAt W1 w.heap.size 0 0 (.slice none 0 0) from by rw [← hW];exact HSR.out.alloc _)
  have HB2:=Aside0.mk (show Below w.heap.size w W1 from by rw [← hW];exact qb_ HB1.out _)
  have HLO:=Aside0.mk (show w.heap.size < w1.heap.size from HSR.out.lt)
  have HG0:=Aside0.mk (show (coordT d n (l.take 0)).bad=false from by rw [List.take_zero];rfl)
  obtain ⟨b6,hb6⟩:∃ b,b=w1.heap.size:=⟨_,rfl⟩
  rw [← hb6] at HS6 HLO ⊢
  clear hW HV1 HSR HB1 hb6
  go_loopg [9] l.length (fun gg v9 wr=>∃ (i:Nat) (A6:Option Addr) (c6:Nat),i≤l.length∧l.length - i≤gg∧v9=.int .i64 i∧Aside0 ((coordT d n (l.take i)).bad=false)∧Aside0 (SrAt wr b6 d n (.slice A6 (termsT (coordT d n (l.take i))).length c6))∧Aside0 (TermsR wr w.heap.size (.slice A6 (termsT (coordT d n (l.take i))).length c6) (termsT (coordT d n (l.take i))))∧Aside0 (SrAt wr w.heap.size 0 0 (.slice none 0 0))∧Aside0 (Below w.heap.size w wr))
  case atStart=>exact ⟨0,A1,c1,Nat.zero_le _,by omega,rfl,HG0,HS6,HV6,HSR1,HB2⟩
  case round =>
    clear HS6 HV6 HSR1 HB2 HG0
    obtain ⟨i,A6,c6,hi,hg,rfl,HG,HS6,HV6,HSR,HB⟩:=hrel
    have HLEN:=Aside0.mk HA.out.len
    by_cases hlt:i < l.length
    · have hltz:(i:Int) < (l.length:Int):=by omega
      obtain ⟨ad,rfl,t0,t1,t2⟩:=at_T79 (Kd.qt1_ HA.out.row HB.out) (i:Int) (by omega) (by omega)
      have e1:rd_T79 l (i:Int)=l[i]:=by simp [rd_T79,List.getD_eq_getElem?_getD,List.getElem?_eq_getElem hlt]
      obtain ⟨x,hx⟩:∃ x,x=l[i]:=⟨_,rfl⟩
      rw [e1,← hx,Int.toNat_natCast] at t0 t1 t2
      have hmem:x ∈ l:=by rw [hx];exact List.getElem_mem hlt
      have HW:=Aside0.mk (HL.out.1 x hmem).1
      have HF:=Aside0.mk (HL.out.1 x hmem).2
      have H1:=Aside0.mk (HL.out.2 x hmem)
      have HZX:=Aside0.mk (HZ.out x hmem)
      obtain ⟨T,hT⟩:∃ T,T=coordT d n (l.take i):=⟨_,rfl⟩
      obtain ⟨U,hU⟩:∃ U,U=bracketT d n (decW x.f0):=⟨_,rfl⟩
      have HN:=Aside0.mk (show coordT d n (l.take (i+1))=sumT T (scaleT U x.f1) from by rw [coord_succ hlt,← hx,hT,hU])
      have HTL:=Aside0.mk (show Like T (zeroT d n) from by rw [hT];exact coordT_like HS.out _)
      have HUL:=Aside0.mk (show Like U (zeroT d n) from by rw [hU];exact bracketT_like HS.out _)
      rw [← hT] at HG HS6 HV6
      have HBR:=Aside0.mk (show ∀ W A c lx,TmsC W A c lx→Calls Try.prog 98 #[.agg #[.int .i64 (d:Int),.int .i64 (n:Int),.slice A lx.length c],.string x.f0] W (OutR W d n (outT U)) from fun W A c lx H=>by
        have:=brackSp' W d n HS.out (decW x.f0) HW.out.2 H1.out H
        rwa [HW.out.1,← hU] at this)
      have HTC:=Aside0.mk (show TmsC wr A6 c6 (termsT T) from (TmsC.of HV6.out (by have:=terms_len HTL.out HS.out;omega)).1)
      have p0:=HS6.out.c0
      have p1:=HS6.out.c1
      have p2:=HS6.out.c2
      have HT1:=Aside0.mk t1
      have HT2:=Aside0.mk t2
      clear hx hmem e1 hT hU t1 t2
      go_wp2
      go_cut [10,11] (fun v10 v11 wx=>∃ (b7:Nat) (D N:Int) (Ax:Option Addr) (cx:Nat) (l7:List S79) (ok:Bool),v10=.pointer (some ⟨b7,0,none⟩)∧v11=.bool ok∧Aside0 (SrAt wx b7 D N (.slice Ax l7.length cx))∧Aside0 (TermsR wx w.heap.size (.slice Ax l7.length cx) l7)∧Aside0 (OutV d n (outT U) D N l7 ok)∧Aside0 (Below wr.heap.size wr wx))
      case first =>
        go_region_held3 (fun w'=>w'.cell? ⟨b6,0,none⟩=some (.int .i64 (d:Int))∧w'.cell? ⟨b6,1,none⟩=some (.int .i64 (n:Int))∧w'.cell? ⟨b6,2,none⟩=some (.slice A6 (termsT T).length c6)∧w'.cell? (ad.add (i * 3))=some (.string x.f0)) (exact keep4' p0 p1 p2 t0 (by (repeat' (first|(with_reducible exact Below.refl _ _)|(with_reducible exact HB6.out)|(with_reducible refine Below.setCell ?_ ?_ _)|(with_reducible refine qc_ ?_)|(with_reducible refine qa_ ?_ _)|(with_reducible refine qb_ ?_ _)|(simp;done)|(simp;omega)|(have h6_:=HB6.out.size;simp;omega))))) (first
          | (go_at_call 98;refine (HBR.out _ _ _ _ (HTC.out.below (by repeat (first|(with_reducible exact Below.refl _ _)|(with_reducible refine qc_ ?_)|(with_reducible refine qa_ ?_ _)|(with_reducible refine qb_ ?_ _))))).mono ?_;rintro e w6 h6;obtain ⟨D7,N7,A7,c7,l7,ok7,rfl,ho7,hv7,hb⟩:=h6.val;have HB6:=Aside0.mk (show Below wr.heap.size wr w6 from qf_ (by repeat (first|(with_reducible exact Below.refl _ _)|(with_reducible refine qc_ ?_)|(with_reducible refine qa_ ?_ _)|(with_reducible refine qb_ ?_ _))) hb);have HO7:=Aside0.mk ho7;have HV7:=Aside0.mk (show TermsR w6 w.heap.size (.slice A7 l7.length c7) l7 from Kd.qj2_ hv7 (Nat.le_trans HB.out.size (qk_ (show Below wr.heap.size wr _ from (by repeat (first|(with_reducible exact Below.refl _ _)|(with_reducible refine qc_ ?_)|(with_reducible refine qa_ ?_ _)|(with_reducible refine qb_ ?_ _)))))));first|(refine (fun (Z:w6.heap[wr.heap.size]?=some (.cells #[.int .i64 0,.int .i64 0,.slice none 0 0] 38 (0,0)))=>?_) (ql_ ?_ hb);rotate_left;(first|exact drew_at (new_at rfl)|exact new_at rfl);have HZZ:=Aside0.mk Z;have z0:=qj_ Z 0;have z1:=qj_ Z 1;have z2:=qj_ Z 2;have zf0:=qd_ Z 0;have zf1:=qd_ Z 1;have zf2:=qd_ Z 2;clear Z)|skip;clear h6 ho7 hv7 hb))
        all_goals
          go_wp2_with fail
          go_meet
          case rel =>
            refine ⟨_,D7,N7,A7,c7,l7,ok7,rfl,rfl,⟨?_⟩,⟨?_⟩,HO7,⟨?_⟩⟩
            · (repeat' (first|((with_reducible refine SrAt.new ?_);simp;done)|(with_reducible refine SrAt.put3 ?_ _ _ _)|(with_reducible exact HZZ.out)|(with_reducible refine SrAt.alloc ?_ _)|(with_reducible refine SrAt.drew ?_)|(with_reducible refine drewN_at ?_)|(with_reducible refine drew_at ?_)|((with_reducible refine new_at ?_);simp;done)|(with_reducible refine old_at ?_)))
            · (repeat' (first|(with_reducible exact HV7.out)|(with_reducible exact Kd.qi1_ HV7.out _)|(with_reducible refine Kd.qi1_ ?_ _)|(with_reducible refine Kd.R_drew ?_)|exact Kd.R_set (Kd.R_set (Kd.R_set HV7.out HZZ.out (by decide) 0 _) (qp_ HZZ.out 0 _) (by decide) 1 _) (qp_ (qp_ HZZ.out 0 _) 1 _) (by decide) 2 _))
            · (repeat' (first|(with_reducible exact Below.refl _ _)|(with_reducible exact HB6.out)|(with_reducible refine Below.setCell ?_ ?_ _)|(with_reducible refine qc_ ?_)|(with_reducible refine qa_ ?_ _)|(with_reducible refine qb_ ?_ _)|(simp;done)|(simp;omega)|(have h6_:=HB6.out.size;simp;omega)))
      case rest =>
        obtain ⟨b7,D7,N7,A7,c7,l7,ok7,rfl,rfl,HS7,HV7,HO7,HM7⟩:=hcut
        have HB7:=Aside0.mk (qf_ HB.out HM7.out)
        clear p0 p1 p2 t0
        by_cases hub:U.bad=true
        · have ho:=HO7.out
          rw [outT_bad hub] at ho
          obtain ⟨rfl,rfl,rfl,rfl⟩:=ho
          have HRN:=Aside0.mk (HBad.out (i+1) (by rw [HN.out];exact sumT_bad (Or.inr (scaleT_bad _ hub))))
          clear hub
          have SR:=HSR.out.below HM7.out
          have x0:wc.cell? ⟨w.heap.size,0,none⟩=some (.int .i64 0):=SR.c0
          have f0:wc.frozen? ⟨w.heap.size,0,none⟩=false:=qd_ SR 0
          have x1:wc.cell? ⟨w.heap.size,1,none⟩=some (.int .i64 0):=SR.c1
          have f1:wc.frozen? ⟨w.heap.size,1,none⟩=false:=qd_ SR 1
          have x2:wc.cell? ⟨w.heap.size,2,none⟩=some (.slice none 0 0):=SR.c2
          have f2:wc.frozen? ⟨w.heap.size,2,none⟩=false:=qd_ SR 2
          have HSRX:=Aside0.mk SR
          clear SR
          go_wp2
          refine bodyPost_ret (results_ct rfl _ _ w.heap.size 38 _ (0,0) _ rfl (qp_ (qp_ (qp_ HSRX.out 0 _) 1 _) 2 _) hu2 rfl (by kernel_rfl)) rfl ?_
          rw [HRN.out]
          exact ⟨_,rfl,Kd.R_nil _ _ _ _ _,((HB7.out.setCell (Nat.le_refl _) _).setCell (Nat.le_refl _) _).setCell (Nat.le_refl _) _⟩
        · have hug:U.bad=false:=by simpa using hub
          have ho:=HO7.out
          rw [outT_good hug] at ho
          obtain ⟨rfl,rfl,rfl,rfl⟩:=ho
          have HAD:=Aside0.mk (show ∀ W A1 c1 A2 c2,TmsC W A1 c1 (termsT T)→TmsC W A2 c2 (termsT U)→Calls Try.prog 125 #[.agg #[.int .i64 (d:Int),.int .i64 (n:Int),.slice A1 (termsT T).length c1],.agg #[.int .i64 (d:Int),.int .i64 (n:Int),.slice A2 (termsT U).length c2],.agg #[.int .i64 x.f1.f0,.int .i64 x.f1.f1]] W (OutR W d n (outT (sumT T (scaleT U x.f1)))) from fun W A1 c1 A2 c2 h1 h2=>by
            have z1:=terms_len HTL.out HS.out
            have z2:=terms_len HUL.out HS.out
            have:=addFS W d n d n h1 h2 (terms_okL HTL.out.2.2) (terms_okL HUL.out.2.2) (by omega) x.f1 HF.out
            rwa [addS_terms T U (zeroT d n) HS.out HTL.out HUL.out HG.out hug x.f1 HF.out HZX.out] at this)
          clear hub hug
          obtain ⟨w2,hw2⟩:∃ x,x=wc:=⟨_,rfl⟩
          rw [← hw2] at HS7 HV7 HM7 HB7 ⊢
          clear hw2
          have HS62:=Aside0.mk (HS6.out.below HM7.out)
          have HC1:=Aside0.mk (HTC.out.below HM7.out)
          have HC2:=Aside0.mk (show TmsC w2 A7 c7 (termsT U) from (TmsC.of HV7.out (by have:=terms_len HUL.out HS.out;omega)).1)
          have p0:=HS62.out.c0
          have p1:=HS62.out.c1
          have p2:=HS62.out.c2
          have q0:=HS7.out.c0
          have q1:=HS7.out.c1
          have q2:=HS7.out.c2
          have t1:=qr_ HM7.out HT1.out
          have t2:=qr_ HM7.out HT2.out
          go_wp2
          go_cut [12,13] (fun v12 v13 wx=>∃ (b9:Nat) (D N:Int) (Ax:Option Addr) (cx:Nat) (l9:List S79) (ok:Bool),v12=.pointer (some ⟨b9,0,none⟩)∧v13=.bool ok∧Aside0 (SrAt wx b9 D N (.slice Ax l9.length cx))∧Aside0 (TermsR wx w.heap.size (.slice Ax l9.length cx) l9)∧Aside0 (OutV d n (outT (sumT T (scaleT U x.f1))) D N l9 ok)∧Aside0 (Below w2.heap.size w2 wx))
          case first =>
            go_region_held3 (fun w'=>w'.cell? ⟨b6,0,none⟩=some (.int .i64 (d:Int))∧w'.cell? ⟨b6,1,none⟩=some (.int .i64 (n:Int))∧w'.cell? ⟨b6,2,none⟩=some (.slice A6 (termsT T).length c6)∧w'.cell? ⟨b7,0,none⟩=some (.int .i64 (d:Int))∧w'.cell? ⟨b7,1,none⟩=some (.int .i64 (n:Int))∧w'.cell? ⟨b7,2,none⟩=some (.slice A7 (termsT U).length c7)∧w'.cell? ⟨(ad.add (i * 3)).block,(ad.add (i * 3)).off+1,none⟩=some (.int .i64 x.f1.f0)∧w'.cell? ⟨(ad.add (i * 3)).block,(ad.add (i * 3)).off+2,none⟩=some (.int .i64 x.f1.f1)) (exact keep8 p0 p1 p2 q0 q1 q2 t1 t2 (by (repeat' (first|(with_reducible exact Below.refl _ _)|(with_reducible exact HB6.out)|(with_reducible refine Below.setCell ?_ ?_ _)|(with_reducible refine qc_ ?_)|(with_reducible refine qa_ ?_ _)|(with_reducible refine qb_ ?_ _)|(simp;done)|(simp;omega)|(have h6_:=HB6.out.size;simp;omega))))) (first
              | (go_at_call 125;refine (HAD.out _ _ _ _ _ (HC1.out.below (by repeat (first|(with_reducible exact Below.refl _ _)|(with_reducible refine qc_ ?_)|(with_reducible refine qa_ ?_ _)|(with_reducible refine qb_ ?_ _)))) (HC2.out.below (by repeat (first|(with_reducible exact Below.refl _ _)|(with_reducible refine qc_ ?_)|(with_reducible refine qa_ ?_ _)|(with_reducible refine qb_ ?_ _))))).mono ?_;rintro e w6 h6;obtain ⟨D9,N9,A9,c9,l9,ok9,rfl,ho9,hv9,hb⟩:=h6.val;have HB6:=Aside0.mk (show Below w2.heap.size w2 w6 from qf_ (by repeat (first|(with_reducible exact Below.refl _ _)|(with_reducible refine qc_ ?_)|(with_reducible refine qa_ ?_ _)|(with_reducible refine qb_ ?_ _))) hb);have HO9:=Aside0.mk ho9;have HV9:=Aside0.mk (show TermsR w6 w.heap.size (.slice A9 l9.length c9) l9 from Kd.qj2_ hv9 (Nat.le_trans HB7.out.size (qk_ (show Below w2.heap.size w2 _ from (by repeat (first|(with_reducible exact Below.refl _ _)|(with_reducible refine qc_ ?_)|(with_reducible refine qa_ ?_ _)|(with_reducible refine qb_ ?_ _)))))));first|(refine (fun (Z:w6.heap[w2.heap.size]?=some (.cells #[.int .i64 0,.int .i64 0,.slice none 0 0] 38 (0,0)))=>?_) (ql_ ?_ hb);rotate_left;(first|exact drew_at (new_at rfl)|exact new_at rfl);have HZZ:=Aside0.mk Z;have z0:=qj_ Z 0;have z1:=qj_ Z 1;have z2:=qj_ Z 2;have zf0:=qd_ Z 0;have zf1:=qd_ Z 1;have zf2:=qd_ Z 2;clear Z)|skip;clear h6 ho9 hv9 hb))
            all_goals
              go_wp2_with fail
              go_meet
              case rel =>
                refine ⟨_,D9,N9,A9,c9,l9,ok9,rfl,rfl,⟨?_⟩,⟨?_⟩,HO9,⟨?_⟩⟩
                · (repeat' (first|((with_reducible refine SrAt.new ?_);simp;done)|(with_reducible refine SrAt.put3 ?_ _ _ _)|(with_reducible exact HZZ.out)|(with_reducible refine SrAt.alloc ?_ _)|(with_reducible refine SrAt.drew ?_)|(with_reducible refine drewN_at ?_)|(with_reducible refine drew_at ?_)|((with_reducible refine new_at ?_);simp;done)|(with_reducible refine old_at ?_)))
                · (repeat' (first|(with_reducible exact HV9.out)|(with_reducible exact Kd.qi1_ HV9.out _)|(with_reducible refine Kd.qi1_ ?_ _)|(with_reducible refine Kd.R_drew ?_)|exact Kd.R_set (Kd.R_set (Kd.R_set HV9.out HZZ.out (by decide) 0 _) (qp_ HZZ.out 0 _) (by decide) 1 _) (qp_ (qp_ HZZ.out 0 _) 1 _) (by decide) 2 _))
                · (repeat' (first|(with_reducible exact Below.refl _ _)|(with_reducible exact HB6.out)|(with_reducible refine Below.setCell ?_ ?_ _)|(with_reducible refine qc_ ?_)|(with_reducible refine qa_ ?_ _)|(with_reducible refine qb_ ?_ _)|(simp;done)|(simp;omega)|(have h6_:=HB6.out.size;simp;omega)))
          case rest =>
            obtain ⟨b9,D9,N9,A9,c9,l9,ok9,rfl,rfl,HS9,HV9,HO9,HM9⟩:=hcut
            have HB9:=Aside0.mk (qf_ HB7.out HM9.out)
            clear p0 p1 p2 q0 q1 q2 t1 t2
            by_cases hsb:(sumT T (scaleT U x.f1)).bad=true
            · have ho:=HO9.out
              rw [outT_bad hsb] at ho
              obtain ⟨rfl,rfl,rfl,rfl⟩:=ho
              have HRN:=Aside0.mk (HBad.out (i+1) (by rw [HN.out];exact hsb))
              clear hsb
              have SR:=(HSR.out.below HM7.out).below HM9.out
              have x0:wc.cell? ⟨w.heap.size,0,none⟩=some (.int .i64 0):=SR.c0
              have f0:wc.frozen? ⟨w.heap.size,0,none⟩=false:=qd_ SR 0
              have x1:wc.cell? ⟨w.heap.size,1,none⟩=some (.int .i64 0):=SR.c1
              have f1:wc.frozen? ⟨w.heap.size,1,none⟩=false:=qd_ SR 1
              have x2:wc.cell? ⟨w.heap.size,2,none⟩=some (.slice none 0 0):=SR.c2
              have f2:wc.frozen? ⟨w.heap.size,2,none⟩=false:=qd_ SR 2
              have HSRX:=Aside0.mk SR
              clear SR
              go_wp2
              refine bodyPost_ret (results_ct rfl _ _ w.heap.size 38 _ (0,0) _ rfl (qp_ (qp_ (qp_ HSRX.out 0 _) 1 _) 2 _) hu2 rfl (by kernel_rfl)) rfl ?_
              rw [HRN.out]
              exact ⟨_,rfl,Kd.R_nil _ _ _ _ _,((HB9.out.setCell (Nat.le_refl _) _).setCell (Nat.le_refl _) _).setCell (Nat.le_refl _) _⟩
            · have hsg:(sumT T (scaleT U x.f1)).bad=false:=by simpa using hsb
              have ho:=HO9.out
              rw [outT_good hsg] at ho
              obtain ⟨rfl,rfl,rfl,rfl⟩:=ho
              have HGN:=Aside0.mk (show (coordT d n (l.take (i+1))).bad=false from by rw [HN.out];exact hsg)
              have y0:=HS9.out.c0
              have y1:=HS9.out.c1
              have y2:=HS9.out.c2
              have S6:=HS62.out.below HM9.out
              have k0:=S6.c0
              have k1:=S6.c1
              have k2:=S6.c2
              have kf0:=qd_ S6 0
              have kf1:=qd_ S6 1
              have kf2:=qd_ S6 2
              have HSK:=Aside0.mk S6
              have HSR9:=Aside0.mk ((HSR.out.below HM7.out).below HM9.out)
              clear S6 hsb hsg
              go_wp2
              go_roundg (l.length - (i+1))
              case measure=>omega
              case rel =>
                have hlo:=HLO.out
                refine ⟨i+1,A9,c9,by omega,by omega,by have:=HLEN.out;first|rfl|(rw [w64 (by omega) (by omega)];rfl),HGN,⟨?_⟩,⟨?_⟩,⟨?_⟩,⟨?_⟩⟩
                · rw [HN.out];exact qp_ (qp_ (qp_ HSK.out 0 _) 1 _) 2 _
                · rw [HN.out];exact Kd.R_set (Kd.R_set (Kd.R_set HV9.out HSK.out (by decide) 0 _) (qp_ HSK.out 0 _) (by decide) 1 _) (qp_ (qp_ HSK.out 0 _) 1 _) (by decide) 2 _
                · exact ((HSR9.out.far (by simp;omega) _).far (by simp;omega) _).far (by simp;omega) _
                · exact ((HB9.out.setCell (by simp;omega) _).setCell (by simp;omega) _).setCell (by simp;omega) _
    · have hltz:¬ (i:Int) < (l.length:Int):=by omega
      obtain rfl:i=l.length:=by omega
      have hg:=HG.out
      rw [List.take_length] at hg HS6 HV6
      have HRS:=Aside0.mk (HEnd.out hg)
      have y0:=HS6.out.c0
      have y1:=HS6.out.c1
      have y2:=HS6.out.c2
      clear hg
      have SR:=HSR.out
      have x0:wr.cell? ⟨w.heap.size,0,none⟩=some (.int .i64 0):=SR.c0
      have f0:wr.frozen? ⟨w.heap.size,0,none⟩=false:=qd_ SR 0
      have x1:wr.cell? ⟨w.heap.size,1,none⟩=some (.int .i64 0):=SR.c1
      have f1:wr.frozen? ⟨w.heap.size,1,none⟩=false:=qd_ SR 1
      have x2:wr.cell? ⟨w.heap.size,2,none⟩=some (.slice none 0 0):=SR.c2
      have f2:wr.frozen? ⟨w.heap.size,2,none⟩=false:=qd_ SR 2
      have HSRX:=Aside0.mk SR
      clear SR
      go_wp2
      refine bodyPost_ret (results_ct rfl _ _ w.heap.size 38 _ (0,0) _ rfl (qp_ (qp_ (qp_ HSRX.out 0 _) 1 _) 2 _) hu2 rfl (by kernel_rfl)) rfl ?_
      rw [HRS.out]
      refine ⟨_,rfl,?_,((HB.out.setCell (Nat.le_refl _) _).setCell (Nat.le_refl _) _).setCell (Nat.le_refl _) _⟩
      exact Kd.R_set (Kd.R_set (Kd.R_set HV6.out HSRX.out (by decide) 0 _) (qp_ HSRX.out 0 _) (by decide) 1 _) (qp_ (qp_ HSRX.out 0 _) 1 _) (by decide) 2 _
end Go.Proofs.Ytaiefdhenikiiaa.Base
namespace Go.Proofs.Ytaiefdhenikiiaa.Base
open Go.RowKit Go.Proofs.YtaiefdhenikiiaaW.PrintWords Go.Proofs.YtaiefdhenikiiaaW.PrintLast Go.Proofs.YtaiefdhenikiiaaW.PrintMore
attribute [local go_sem] max2_int qp1_ max_two min_two max_three min_three max_four min_four Go.Proofs.YtaiefdhenikiiaaZ.qv_   -- for this text's walks alone
set_option linter.unusedVariables false
set_option linter.unusedSimpArgs false
def qq2_.f (a0:Int) (a1:Int) (l2:List S79):Option (Int × Int × (List S79) × Int):=if l2.length≤1048576∧(∀ x ∈ l2,x.f0.size≤1048576) then some (serCo a0 a1 l2) else none
set_option maxHeartbeats 8000000 in
set_option maxRecDepth 100000 in
theorem qq2_.calls (a0:Int) (a1:Int) (A2:Option Addr) (c2:Nat) (l2:List (S79)) (r1:Int) (r2:Int) (r3:List (S79)) (r4:Int) (w:World) (hr2:Kd.C k79 w A2 l2.length l2) (hc2:l2.length≤c2) (h:qq2_.f a0 a1 l2=some (r1,r2,r3,r4)) :
  Calls Try.prog 57 #[.int .i64 a0,.int .i64 a1,.slice A2 l2.length c2] w fun e w'=>∃ v2_:Value,e=.returned (.tuple #[.agg #[.int .i64 r1,.int .i64 r2,v2_],.int .i64 r4])∧Kd.R k79 79 w' w.heap.size (fun _=>True) v2_ r3∧Below w.heap.size w w':=by
 unfold qq2_.f at h
 split at h
 rotate_left
 ·cases h
 rename_i hsm
 have h:=Option.some.inj h
 have hu:=Try.underlying38
 obtain ⟨k,hk⟩:=(co_spec a0 a1 l2 hsm).rounds
 have HR:=aK hr2
 have HC:=aK hc2
 have HLEN:=aK hsm.1
 clear hr2 hc2
 unfold serCo at h
 by_cases c:coB a0 a1 l2=true
 ·obtain ⟨d,n,rfl,rfl,hs,hok,hnz⟩:=coB_good c
  rw [if_pos c,Int.toNat_natCast,Int.toNat_natCast] at h
  rw [c] at hk
  have HK:=aK hk
  obtain ⟨T,hT⟩:∃ T,T=coordT d n l2:=⟨_,rfl⟩
  rw [← hT] at h
  have hlk:Like T (zeroT d n):=by rw [hT];exact coordT_like hs l2
  have hI:∀ W,Below w.heap.size w W→Calls Try.prog 119 #[.int .i64 (d:Int),.int .i64 (n:Int),.slice A2 l2.length c2] W (OutR W d n (outT T)):=fun W hW=>by
   rw [hT];exact seriesSp W d n hs ⟨Kd.qt1_ HR.out hW,HC.out,HLEN.out⟩ hok hnz
  unfold serR at h
  by_cases hb:T.bad=true
  ·rw [if_pos hb] at h
   rw [outT_bad hb] at hI
   simp only [Prod.mk.injEq] at h
   obtain ⟨rfl,rfl,rfl,rfl⟩:=h
   have HI:=aK hI
   clear hk c hs hok hnz hsm hT hlk hI hb
   go_enter Try.func57,Try.ntmps57
   go_wp2_with (first
    | (go_at_call 76;refine (qo_.calls k _ _ _ _ _ _ _ (Kd.qt1_ HR.out (qb_ (Below.refl _ _) _)) HC.out HK.out).mono ?_;rintro e w1 ⟨rfl,hd⟩;have HB1:=aK (show Below w.heap.size w w1 from qf_ (qb_ (Below.refl _ _) _) hd);have HS1:=aK (show SrAt w1 w.heap.size 0 0 (.slice none 0 0) from ql_ (new_at rfl) hd);clear hd)
    | (go_at_call 119;refine (HI.out _ HB1.out).mono ?_;rintro e w2 ⟨v,rfl,hv,hb⟩;obtain ⟨A1,c1,rfl⟩:=Kd.qa2_ hv;have HB2:=aK (qf_ HB1.out hb);have S:=HS1.out.below hb;have x0:(w2.alloc (.cells #[.int .i64 0,.int .i64 0,.slice A1 0 c1] 38)).cell? ⟨w.heap.size,0,none⟩=some (.int .i64 0):=(SrAt.alloc S _).c0;have f0:(w2.alloc (.cells #[.int .i64 0,.int .i64 0,.slice A1 0 c1] 38)).frozen? ⟨w.heap.size,0,none⟩=false:=qd_ (SrAt.alloc S (.cells #[.int .i64 0,.int .i64 0,.slice A1 0 c1] 38)) 0;have x1:(w2.alloc (.cells #[.int .i64 0,.int .i64 0,.slice A1 0 c1] 38)).cell? ⟨w.heap.size,1,none⟩=some (.int .i64 0):=(SrAt.alloc S _).c1;have f1:(w2.alloc (.cells #[.int .i64 0,.int .i64 0,.slice A1 0 c1] 38)).frozen? ⟨w.heap.size,1,none⟩=false:=qd_ (SrAt.alloc S (.cells #[.int .i64 0,.int .i64 0,.slice A1 0 c1] 38)) 1;have x2:(w2.alloc (.cells #[.int .i64 0,.int .i64 0,.slice A1 0 c1] 38)).cell? ⟨w.heap.size,2,none⟩=some (.slice none 0 0):=(SrAt.alloc S _).c2;have f2:(w2.alloc (.cells #[.int .i64 0,.int .i64 0,.slice A1 0 c1] 38)).frozen? ⟨w.heap.size,2,none⟩=false:=qd_ (SrAt.alloc S (.cells #[.int .i64 0,.int .i64 0,.slice A1 0 c1] 38)) 2;have HS2:=aK S;clear S hv hb))
   refine bodyPost_ret (results_ct rfl _ _ w.heap.size 38 _ (0,0) _ rfl (qp_ (qp_ (qp_ (HS2.out.alloc _) 0 _) 1 _) 2 _) hu rfl (by kernel_rfl)) rfl ?_
   exact ⟨_,rfl,Kd.R_nil _ _ _ _ _,(((qb_ HB2.out _).setCell (Nat.le_refl _) _).setCell (Nat.le_refl _) _).setCell (Nat.le_refl _) _⟩
  ·have hg:T.bad=false:=by simpa using hb
   rw [if_neg hb] at h
   rw [outT_good hg] at hI
   simp only [Prod.mk.injEq] at h
   obtain ⟨rfl,rfl,rfl,rfl⟩:=h
   have HI:=aK hI
   have HD:=aK hlk
   clear hk c hs hok hnz hsm hT hlk hI hb hg
   go_enter Try.func57,Try.ntmps57
   go_wp2_with (first
    | (go_at_call 76;refine (qo_.calls k _ _ _ _ _ _ _ (Kd.qt1_ HR.out (qb_ (Below.refl _ _) _)) HC.out HK.out).mono ?_;rintro e w1 ⟨rfl,hd⟩;have HB1:=aK (show Below w.heap.size w w1 from qf_ (qb_ (Below.refl _ _) _) hd);have HS1:=aK (show SrAt w1 w.heap.size 0 0 (.slice none 0 0) from ql_ (new_at rfl) hd);clear hd)
    | (go_at_call 119;refine (HI.out _ HB1.out).mono ?_;rintro e w2 ⟨v,rfl,hv,hb⟩;obtain ⟨A1,c1,rfl⟩:=Kd.qa2_ hv;have HB2:=aK (qf_ HB1.out hb);have HV:=aK (Kd.qj2_ hv HB1.out.size);have S:=HS1.out.below hb;have x0:(w2.alloc (.cells #[.int .i64 (d:Int),.int .i64 (n:Int),.slice A1 (termsT T).length c1] 38)).cell? ⟨w.heap.size,0,none⟩=some (.int .i64 0):=(SrAt.alloc S _).c0;have f0:(w2.alloc (.cells #[.int .i64 (d:Int),.int .i64 (n:Int),.slice A1 (termsT T).length c1] 38)).frozen? ⟨w.heap.size,0,none⟩=false:=qd_ (SrAt.alloc S (.cells #[.int .i64 (d:Int),.int .i64 (n:Int),.slice A1 (termsT T).length c1] 38)) 0;have x1:(w2.alloc (.cells #[.int .i64 (d:Int),.int .i64 (n:Int),.slice A1 (termsT T).length c1] 38)).cell? ⟨w.heap.size,1,none⟩=some (.int .i64 0):=(SrAt.alloc S _).c1;have f1:(w2.alloc (.cells #[.int .i64 (d:Int),.int .i64 (n:Int),.slice A1 (termsT T).length c1] 38)).frozen? ⟨w.heap.size,1,none⟩=false:=qd_ (SrAt.alloc S (.cells #[.int .i64 (d:Int),.int .i64 (n:Int),.slice A1 (termsT T).length c1] 38)) 1;have x2:(w2.alloc (.cells #[.int .i64 (d:Int),.int .i64 (n:Int),.slice A1 (termsT T).length c1] 38)).cell? ⟨w.heap.size,2,none⟩=some (.slice none 0 0):=(SrAt.alloc S _).c2;have f2:(w2.alloc (.cells #[.int .i64 (d:Int),.int .i64 (n:Int),.slice A1 (termsT T).length c1] 38)).frozen? ⟨w.heap.size,2,none⟩=false:=qd_ (SrAt.alloc S (.cells #[.int .i64 (d:Int),.int .i64 (n:Int),.slice A1 (termsT T).length c1] 38)) 2;have HS2:=aK S;clear S hv hb))
   refine bodyPost_ret (results_ct rfl _ _ w.heap.size 38 _ (0,0) _ rfl (qp_ (qp_ (qp_ (HS2.out.alloc _) 0 _) 1 _) 2 _) hu rfl (by kernel_rfl)) rfl ?_
   refine ⟨.slice A1 (termsT T).length c1,by rw [HD.out.1,HD.out.2.1];rfl,?_,(((qb_ HB2.out _).setCell (Nat.le_refl _) _).setCell (Nat.le_refl _) _).setCell (Nat.le_refl _) _⟩
   exact Kd.R_set (Kd.R_set (Kd.R_set (Kd.qi1_ HV.out _) (HS2.out.alloc _) (by decide) 0 _) (qp_ (HS2.out.alloc _) 0 _) (by decide) 1 _) (qp_ (qp_ (HS2.out.alloc _) 0 _) 1 _) (by decide) 2 _
 ·have cf:coB a0 a1 l2=false:=by simpa using c
  rw [if_neg c] at h
  rw [cf] at hk
  simp only [Prod.mk.injEq] at h
  obtain ⟨rfl,rfl,rfl,rfl⟩:=h
  have HK:=aK hk
  clear hk hsm c cf
  go_enter Try.func57,Try.ntmps57
  go_wp2_with (go_at_call 76;refine (qo_.calls k _ _ _ _ _ _ _ (Kd.qt1_ HR.out (qb_ (Below.refl _ _) _)) HC.out HK.out).mono ?_;rintro e w1 ⟨rfl,hd⟩;have HB1:=aK (show Below w.heap.size w w1 from qf_ (qb_ (Below.refl _ _) _) hd);have S:SrAt w1 w.heap.size 0 0 (.slice none 0 0):=ql_ (new_at rfl) hd;have x0:=S.c0;have x1:=S.c1;have x2:=S.c2;have f0:=qd_ S 0;have f1:=qd_ S 1;have f2:=qd_ S 2;have HS1:=aK S;clear S hd)
  refine bodyPost_ret (results_ct rfl _ _ w.heap.size 38 _ (0,0) _ rfl (qp_ (qp_ (qp_ HS1.out 0 _) 1 _) 2 _) hu rfl (by kernel_rfl)) rfl ?_
  exact ⟨_,rfl,Kd.R_nil _ _ _ _ _,((HB1.out.setCell (Nat.le_refl _) _).setCell (Nat.le_refl _) _).setCell (Nat.le_refl _) _⟩
end Go.Proofs.Ytaiefdhenikiiaa.Base
namespace Go.Proofs.Ytaiefdhenikiiaa.Base
open Go.RowKit Go.Proofs.YtaiefdhenikiiaaW.PrintWords Go.Proofs.YtaiefdhenikiiaaW.PrintLast Go.Proofs.YtaiefdhenikiiaaW.PrintMore
attribute [local go_sem] max2_int qp1_ max_two min_two max_three min_three max_four min_four Go.Proofs.YtaiefdhenikiiaaZ.qv_   -- for this text's walks alone
set_option linter.unusedVariables false
set_option linter.unusedSimpArgs false
def qb2_.f (a0:Int) (a1:Int) (l2:List S79):Option (Int × Int × (List S79) × Int):=if l2.length≤1048576∧(∀ x ∈ l2,x.f0.size≤1048576) then some (sigCo a0 a1 l2) else none
set_option maxHeartbeats 8000000 in
set_option maxRecDepth 100000 in
theorem qb2_.calls (a0:Int) (a1:Int) (A2:Option Addr) (c2:Nat) (l2:List (S79)) (r1:Int) (r2:Int) (r3:List (S79)) (r4:Int) (w:World) (hr2:Kd.C k79 w A2 l2.length l2) (hc2:l2.length≤c2) (h:qb2_.f a0 a1 l2=some (r1,r2,r3,r4)) :
  Calls Try.prog 73 #[.int .i64 a0,.int .i64 a1,.slice A2 l2.length c2] w fun e w'=>∃ v2_:Value,e=.returned (.tuple #[.agg #[.int .i64 r1,.int .i64 r2,v2_],.int .i64 r4])∧Kd.R k79 79 w' w.heap.size (fun _=>True) v2_ r3∧Below w.heap.size w w':=by
 unfold qb2_.f at h
 split at h
 rotate_left
 ·cases h
 rename_i hsm
 have h:=Option.some.inj h
 have hu:=Try.underlying38
 obtain ⟨⟨s1,s2,s3,s4⟩,hser⟩:∃ q,q=serCo a0 a1 l2:=⟨_,rfl⟩
 have HSP:=aK (show ∀ W,Below w.heap.size w W→Calls Try.prog 57 #[.int .i64 a0,.int .i64 a1,.slice A2 l2.length c2] W (SerRes W s1 s2 s3 s4) from fun W hW=>qq2_.calls a0 a1 A2 c2 l2 s1 s2 s3 s4 W (Kd.qt1_ hr2 hW) hc2 (by unfold qq2_.f;rw [if_pos hsm,hser]))
 clear hr2 hc2
 have bad:s4 ≠ 0→r1=0∧r2=0∧r3=[]∧r4=s4→Calls Try.prog 73 #[.int .i64 a0,.int .i64 a1,.slice A2 l2.length c2] w fun e w'=>∃ v2_:Value,e=.returned (.tuple #[.agg #[.int .i64 r1,.int .i64 r2,v2_],.int .i64 r4])∧Kd.R k79 79 w' w.heap.size (fun _=>True) v2_ r3∧Below w.heap.size w w':=by
  rintro hne ⟨rfl,rfl,rfl,rfl⟩
  clear h hser hsm
  go_enter Try.func73,Try.ntmps73
  go_wp2_with (go_at_call 57;refine (HSP.out _ (qb_ (Below.refl _ _) _)).mono ?_;rintro e w1 ⟨v,rfl,hv,hb⟩;obtain ⟨A1,c1,rfl⟩:=Kd.qa2_ hv;have HB1:=aK (show Below w.heap.size w w1 from qf_ (qb_ (Below.refl _ _) _) hb);have S:SrAt w1 w.heap.size 0 0 (.slice none 0 0):=ql_ (new_at rfl) hb;have x0:(w1.alloc (.cells #[.int .i64 s1,.int .i64 s2,.slice A1 s3.length c1] 38)).cell? ⟨w.heap.size,0,none⟩=some (.int .i64 0):=(SrAt.alloc S _).c0;have xf0:(w1.alloc (.cells #[.int .i64 s1,.int .i64 s2,.slice A1 s3.length c1] 38)).frozen? ⟨w.heap.size,0,none⟩=false:=qd_ (SrAt.alloc S (.cells #[.int .i64 s1,.int .i64 s2,.slice A1 s3.length c1] 38)) 0;have x1:(w1.alloc (.cells #[.int .i64 s1,.int .i64 s2,.slice A1 s3.length c1] 38)).cell? ⟨w.heap.size,1,none⟩=some (.int .i64 0):=(SrAt.alloc S _).c1;have xf1:(w1.alloc (.cells #[.int .i64 s1,.int .i64 s2,.slice A1 s3.length c1] 38)).frozen? ⟨w.heap.size,1,none⟩=false:=qd_ (SrAt.alloc S (.cells #[.int .i64 s1,.int .i64 s2,.slice A1 s3.length c1] 38)) 1;have x2:(w1.alloc (.cells #[.int .i64 s1,.int .i64 s2,.slice A1 s3.length c1] 38)).cell? ⟨w.heap.size,2,none⟩=some (.slice none 0 0):=(SrAt.alloc S _).c2;have xf2:(w1.alloc (.cells #[.int .i64 s1,.int .i64 s2,.slice A1 s3.length c1] 38)).frozen? ⟨w.heap.size,2,none⟩=false:=qd_ (SrAt.alloc S (.cells #[.int .i64 s1,.int .i64 s2,.slice A1 s3.length c1] 38)) 2;have HS1:=aK S;have HV1:=aK hv;clear S hv hb)
  refine bodyPost_ret (results_ct rfl _ _ w.heap.size 38 _ (0,0) _ rfl (qp_ (qp_ (qp_ (HS1.out.alloc _) 0 _) 1 _) 2 _) hu rfl (by kernel_rfl)) rfl ?_
  exact ⟨_,rfl,Kd.R_nil _ _ _ _ _,(((qb_ HB1.out _).setCell (Nat.le_refl _) _).setCell (Nat.le_refl _) _).setCell (Nat.le_refl _) _⟩
 unfold sigCo at h
 unfold serCo at hser
 by_cases c:coB a0 a1 l2=true
 ·have hn1:=coB_lvl c
  obtain ⟨d,n,rfl,rfl,hs,hok,hnz⟩:=coB_good c
  rw [if_pos c,Int.toNat_natCast,Int.toNat_natCast] at h hser
  obtain ⟨T,hT⟩:∃ T,T=coordT d n l2:=⟨_,rfl⟩
  rw [← hT] at h hser
  have hlk:Like T (zeroT d n):=by rw [hT];exact coordT_like hs l2
  obtain ⟨E,hE⟩:∃ E,E=expT T (zeroT d n):=⟨_,rfl⟩
  rw [← hE] at h
  have hle:Like E (zeroT d n):=by rw [hE];exact expT_like hs
  unfold serR at h hser
  by_cases hb:T.bad=true
  ·have hbe:E.bad=true:=by rw [hE];exact expT_bad (by omega) hb
   rw [if_pos hb] at hser
   rw [if_pos hbe] at h
   simp only [Prod.mk.injEq] at h hser
   exact bad (by rw [hser.2.2.2];decide) ⟨h.1.symm,h.2.1.symm,h.2.2.1.symm,by rw [← h.2.2.2,hser.2.2.2]⟩
  ·have hg:T.bad=false:=by simpa using hb
   rw [if_neg hb] at hser
   simp only [Prod.mk.injEq] at hser
   obtain ⟨rfl,rfl,rfl,rfl⟩:=hser
   clear bad
   have hdn:(T.d:Int)=(d:Int)∧(T.n:Int)=(n:Int):=⟨by rw [hlk.1];rfl,by rw [hlk.2.1];rfl⟩
   rw [hdn.1,hdn.2] at HSP
   have hI:∀ W A ca,TmsC W A ca (termsT T)→Calls Try.prog 102 #[.agg #[.int .i64 (d:Int),.int .i64 (n:Int),.slice A (termsT T).length ca]] W (OutR W d n (outT E)):=fun W A ca H=>by rw [hE];exact expSp W d n hs hlk hg H
   have HTL:=aK (terms_len hlk hs)
   by_cases hbe:E.bad=true
   ·rw [if_pos hbe] at h
    rw [outT_bad hbe] at hI
    simp only [Prod.mk.injEq] at h
    obtain ⟨rfl,rfl,rfl,rfl⟩:=h
    have HI:=aK hI
    clear c hs hok hnz hsm hT hlk hle hI hb hg hE hbe hdn
    generalize termsT T=lt at HSP HI HTL
    go_enter Try.func73,Try.ntmps73
    go_wp2_with (first
     | (go_at_call 57;refine (HSP.out _ (qb_ (Below.refl _ _) _)).mono ?_;rintro e w1 ⟨v,rfl,hv,hb⟩;obtain ⟨A1,c1,rfl⟩:=Kd.qa2_ hv;have HB1:=aK (show Below w.heap.size w w1 from qf_ (qb_ (Below.refl _ _) _) hb);have S:SrAt w1 w.heap.size 0 0 (.slice none 0 0):=ql_ (new_at rfl) hb;skip;have HS1:=aK S;have HV1:=aK hv;clear S hv hb)
     | (go_at_call 102;refine (HI.out _ _ _ (TmsC.of (Kd.qi1_ HV1.out _) (by have:=HTL.out;omega)).1).mono ?_;rintro e w5 ⟨v,rfl,hv,hb⟩;obtain ⟨A5,c5,rfl⟩:=Kd.qa2_ hv;have HB5:=aK (qf_ (qb_ HB1.out _) hb);have S:=(HS1.out.alloc (.cells #[.int .i64 (d:Int),.int .i64 (n:Int),.slice A1 lt.length c1] 38)).below hb;have x0:(w5.alloc (.cells #[.int .i64 0,.int .i64 0,.slice A5 0 c5] 38)).cell? ⟨w.heap.size,0,none⟩=some (.int .i64 0):=(SrAt.alloc S _).c0;have xf0:(w5.alloc (.cells #[.int .i64 0,.int .i64 0,.slice A5 0 c5] 38)).frozen? ⟨w.heap.size,0,none⟩=false:=qd_ (SrAt.alloc S (.cells #[.int .i64 0,.int .i64 0,.slice A5 0 c5] 38)) 0;have x1:(w5.alloc (.cells #[.int .i64 0,.int .i64 0,.slice A5 0 c5] 38)).cell? ⟨w.heap.size,1,none⟩=some (.int .i64 0):=(SrAt.alloc S _).c1;have xf1:(w5.alloc (.cells #[.int .i64 0,.int .i64 0,.slice A5 0 c5] 38)).frozen? ⟨w.heap.size,1,none⟩=false:=qd_ (SrAt.alloc S (.cells #[.int .i64 0,.int .i64 0,.slice A5 0 c5] 38)) 1;have x2:(w5.alloc (.cells #[.int .i64 0,.int .i64 0,.slice A5 0 c5] 38)).cell? ⟨w.heap.size,2,none⟩=some (.slice none 0 0):=(SrAt.alloc S _).c2;have xf2:(w5.alloc (.cells #[.int .i64 0,.int .i64 0,.slice A5 0 c5] 38)).frozen? ⟨w.heap.size,2,none⟩=false:=qd_ (SrAt.alloc S (.cells #[.int .i64 0,.int .i64 0,.slice A5 0 c5] 38)) 2;have HS5:=aK S;clear S hv hb))
    refine bodyPost_ret (results_ct rfl _ _ w.heap.size 38 _ (0,0) _ rfl (qp_ (qp_ (qp_ (HS5.out.alloc _) 0 _) 1 _) 2 _) hu rfl (by kernel_rfl)) rfl ?_
    exact ⟨_,rfl,Kd.R_nil _ _ _ _ _,(((qb_ HB5.out _).setCell (Nat.le_refl _) _).setCell (Nat.le_refl _) _).setCell (Nat.le_refl _) _⟩
   ·have hge:E.bad=false:=by simpa using hbe
    rw [if_neg hbe] at h
    rw [outT_good hge] at hI
    simp only [Prod.mk.injEq] at h
    obtain ⟨rfl,rfl,rfl,rfl⟩:=h
    have HI:=aK hI
    have HD:=aK hle
    clear c hs hok hnz hsm hT hlk hle hI hb hg hE hbe hge hdn
    generalize termsT T=lt at HSP HI HTL
    go_enter Try.func73,Try.ntmps73
    go_wp2_with (first
     | (go_at_call 57;refine (HSP.out _ (qb_ (Below.refl _ _) _)).mono ?_;rintro e w1 ⟨v,rfl,hv,hb⟩;obtain ⟨A1,c1,rfl⟩:=Kd.qa2_ hv;have HB1:=aK (show Below w.heap.size w w1 from qf_ (qb_ (Below.refl _ _) _) hb);have S:SrAt w1 w.heap.size 0 0 (.slice none 0 0):=ql_ (new_at rfl) hb;skip;have HS1:=aK S;have HV1:=aK hv;clear S hv hb)
     | (go_at_call 102;refine (HI.out _ _ _ (TmsC.of (Kd.qi1_ HV1.out _) (by have:=HTL.out;omega)).1).mono ?_;rintro e w5 ⟨v,rfl,hv,hb⟩;obtain ⟨A5,c5,rfl⟩:=Kd.qa2_ hv;have HB5:=aK (qf_ (qb_ HB1.out _) hb);have HV5:=aK (Kd.qj2_ hv (qk_ (qb_ HB1.out _)));have S:=(HS1.out.alloc (.cells #[.int .i64 (d:Int),.int .i64 (n:Int),.slice A1 lt.length c1] 38)).below hb;have x0:(w5.alloc (.cells #[.int .i64 (d:Int),.int .i64 (n:Int),.slice A5 (termsT E).length c5] 38)).cell? ⟨w.heap.size,0,none⟩=some (.int .i64 0):=(SrAt.alloc S _).c0;have xf0:(w5.alloc (.cells #[.int .i64 (d:Int),.int .i64 (n:Int),.slice A5 (termsT E).length c5] 38)).frozen? ⟨w.heap.size,0,none⟩=false:=qd_ (SrAt.alloc S (.cells #[.int .i64 (d:Int),.int .i64 (n:Int),.slice A5 (termsT E).length c5] 38)) 0;have x1:(w5.alloc (.cells #[.int .i64 (d:Int),.int .i64 (n:Int),.slice A5 (termsT E).length c5] 38)).cell? ⟨w.heap.size,1,none⟩=some (.int .i64 0):=(SrAt.alloc S _).c1;have xf1:(w5.alloc (.cells #[.int .i64 (d:Int),.int .i64 (n:Int),.slice A5 (termsT E).length c5] 38)).frozen? ⟨w.heap.size,1,none⟩=false:=qd_ (SrAt.alloc S (.cells #[.int .i64 (d:Int),.int .i64 (n:Int),.slice A5 (termsT E).length c5] 38)) 1;have x2:(w5.alloc (.cells #[.int .i64 (d:Int),.int .i64 (n:Int),.slice A5 (termsT E).length c5] 38)).cell? ⟨w.heap.size,2,none⟩=some (.slice none 0 0):=(SrAt.alloc S _).c2;have xf2:(w5.alloc (.cells #[.int .i64 (d:Int),.int .i64 (n:Int),.slice A5 (termsT E).length c5] 38)).frozen? ⟨w.heap.size,2,none⟩=false:=qd_ (SrAt.alloc S (.cells #[.int .i64 (d:Int),.int .i64 (n:Int),.slice A5 (termsT E).length c5] 38)) 2;have HS5:=aK S;clear S hv hb))
    refine bodyPost_ret (results_ct rfl _ _ w.heap.size 38 _ (0,0) _ rfl (qp_ (qp_ (qp_ (HS5.out.alloc _) 0 _) 1 _) 2 _) hu rfl (by kernel_rfl)) rfl ?_
    refine ⟨.slice A5 (termsT E).length c5,by rw [HD.out.1,HD.out.2.1];rfl,?_,(((qb_ HB5.out _).setCell (Nat.le_refl _) _).setCell (Nat.le_refl _) _).setCell (Nat.le_refl _) _⟩
    exact R_box3 (Kd.qi1_ HV5.out _) (HS5.out.alloc _) _ _ _
 ·rw [if_neg c] at h hser
  simp only [Prod.mk.injEq] at h hser
  exact bad (by rw [hser.2.2.2];decide) ⟨h.1.symm,h.2.1.symm,h.2.2.1.symm,by rw [← h.2.2.2,hser.2.2.2]⟩
end Go.Proofs.Ytaiefdhenikiiaa.Base
namespace Go.Proofs.Ytaiefdhenikiiaa.Base
open Go.RowKit Go.Proofs.YtaiefdhenikiiaaW.PrintWords Go.Proofs.YtaiefdhenikiiaaW.PrintLast Go.Proofs.YtaiefdhenikiiaaW.PrintMore
attribute [local go_sem] max2_int qp1_ max_two min_two max_three min_three max_four min_four Go.Proofs.YtaiefdhenikiiaaZ.qv_   -- for this text's walks alone
set_option linter.unusedVariables false
set_option linter.unusedSimpArgs false
def qw1_.f (a0:Int) (a1:Int) (l2:List S79):Option (Int × Int × (List S79) × Int):=if l2.length≤1048576∧(∀ x ∈ l2,x.f0.size≤1048576) then some (sigCo a0 a1 l2) else none
set_option maxHeartbeats 8000000 in
set_option maxRecDepth 100000 in
theorem qw1_.calls (a0:Int) (a1:Int) (A2:Option Addr) (c2:Nat) (l2:List (S79)) (r1:Int) (r2:Int) (r3:List (S79)) (r4:Int) (w:World) (hr2:Kd.C k79 w A2 l2.length l2) (hc2:l2.length≤c2) (h:qw1_.f a0 a1 l2=some (r1,r2,r3,r4)) :
  Calls Try.prog 74 #[.int .i64 a0,.int .i64 a1,.slice A2 l2.length c2] w fun e w'=>∃ v2_:Value,e=.returned (.tuple #[.agg #[.int .i64 r1,.int .i64 r2,v2_],.int .i64 r4])∧Kd.R k79 79 w' w.heap.size (fun _=>True) v2_ r3∧Below w.heap.size w w':=by
 unfold qw1_.f at h
 split at h
 rotate_left
 ·cases h
 rename_i hsm
 have h:=Option.some.inj h
 have hu:=Try.underlying38
 obtain ⟨k,hk⟩:=(co_impl a0 a1 l2 hsm).rounds
 have HR:=aK hr2
 have HC:=aK hc2
 have HLEN:=aK hsm.1
 clear hr2 hc2
 unfold sigCo at h
 by_cases c:coB a0 a1 l2=true
 ·obtain ⟨d,n,rfl,rfl,hs,hok,hnz⟩:=coB_good c
  rw [if_pos c,Int.toNat_natCast,Int.toNat_natCast] at h
  rw [c] at hk
  have HK:=aK hk
  have HT:=aK (told_all (expT_like hs) h)
  have HZ:=aK (zeroT_ok hs)
  have HL:=aK (show ∀ W,Below w.heap.size w W→Calls Try.prog 120 #[.int .i64 (d:Int),.int .i64 (n:Int),.slice A2 l2.length c2] W (NewT W (coordT d n l2) (zeroT d n)) from fun W hW=>seriesOf_ W d n A2 c2 l2 (Kd.qt1_ HR.out hW) hs hok (by have:=HLEN.out;omega))
  clear h hk c hs hok hnz hsm
  go_enter Try.func74,Try.ntmps74
  go_wp2_with (first
   | (go_at_call 78;refine (qc2_.calls k _ _ _ _ _ _ _ (Kd.qt1_ HR.out (qb_ (Below.refl _ _) _)) HC.out HK.out).mono ?_;rintro e w1 ⟨rfl,hd⟩;have HB1:=aK (show Below w.heap.size w w1 from qf_ (qb_ (Below.refl _ _) _) hd);have HS1:=aK (show SrAt w1 w.heap.size 0 0 (.slice none 0 0) from ql_ (new_at rfl) hd);clear hd)
   | (go_at_call 120;refine (HL.out _ HB1.out).mono ?_;rintro e w2 ⟨g2,k2,rfl,T,hg,hh,hb⟩;have HO2:=aK T;have HB2:=aK (show Below w.heap.size w w2 from qf_ HB1.out hb);have HS2:=aK (HS1.out.below hb);clear T hg hh hb)
   | (go_at_call 145;refine (exponential' _ HO2.out HZ.out).mono ?_;rintro e w4 ⟨g4,k4,rfl,T,hg,hh,hb⟩;have HO4:=aK T.tab;have HB4:=aK (show Below w.heap.size w w4 from qf_ HB2.out hb);have HS4:=aK (HS2.out.below hb);clear T hg hh hb)
   | (go_at_call 96;refine (HT.out _ _ _ HO4.out).mono ?_;rintro e w3 ⟨v,rfl,hv,hb⟩;obtain ⟨A1,c1,rfl⟩:=Kd.qa2_ hv;have HB3:=aK (show Below w.heap.size w w3 from qf_ HB4.out hb);have HV:=aK (Kd.qj2_ hv HB4.out.size);have S:=HS4.out.below hb;have x0:=S.c0;have x1:=S.c1;have x2:=S.c2;have f0:=qd_ S 0;have f1:=qd_ S 1;have f2:=qd_ S 2;have HS3:=aK S;clear S hv hb))
  refine bodyPost_ret (results_ct rfl _ _ w.heap.size 38 _ (0,0) _ rfl (qp_ (qp_ (qp_ HS3.out 0 _) 1 _) 2 _) hu rfl (by kernel_rfl)) rfl ?_
  refine ⟨_,rfl,?_,((HB3.out.setCell (Nat.le_refl _) _).setCell (Nat.le_refl _) _).setCell (Nat.le_refl _) _⟩
  exact Kd.R_set (Kd.R_set (Kd.R_set HV.out HS3.out (by decide) 0 _) (qp_ HS3.out 0 _) (by decide) 1 _) (qp_ (qp_ HS3.out 0 _) 1 _) (by decide) 2 _
 ·have cf:coB a0 a1 l2=false:=by simpa using c
  rw [if_neg c] at h
  rw [cf] at hk
  simp only [Prod.mk.injEq] at h
  obtain ⟨rfl,rfl,rfl,rfl⟩:=h
  have HK:=aK hk
  clear hk hsm c cf
  go_enter Try.func74,Try.ntmps74
  go_wp2_with (go_at_call 78;refine (qc2_.calls k _ _ _ _ _ _ _ (Kd.qt1_ HR.out (qb_ (Below.refl _ _) _)) HC.out HK.out).mono ?_;rintro e w1 ⟨rfl,hd⟩;have HB1:=aK (show Below w.heap.size w w1 from qf_ (qb_ (Below.refl _ _) _) hd);have S:SrAt w1 w.heap.size 0 0 (.slice none 0 0):=ql_ (new_at rfl) hd;have x0:=S.c0;have x1:=S.c1;have x2:=S.c2;have f0:=qd_ S 0;have f1:=qd_ S 1;have f2:=qd_ S 2;have HS1:=aK S;clear S hd)
  refine bodyPost_ret (results_ct rfl _ _ w.heap.size 38 _ (0,0) _ rfl (qp_ (qp_ (qp_ HS1.out 0 _) 1 _) 2 _) hu rfl (by kernel_rfl)) rfl ?_
  exact ⟨_,rfl,Kd.R_nil _ _ _ _ _,((HB1.out.setCell (Nat.le_refl _) _).setCell (Nat.le_refl _) _).setCell (Nat.le_refl _) _⟩
end Go.Proofs.Ytaiefdhenikiiaa.Base
namespace Go.Proofs.Ytaiefdhenikiiaa.Base
open Go.RowKit Go.Proofs.YtaiefdhenikiiaaW.PrintWords Go.Proofs.YtaiefdhenikiiaaW.PrintLast Go.Proofs.YtaiefdhenikiiaaW.PrintMore
attribute [local go_sem] max2_int qp1_ max_two min_two max_three min_three max_four min_four Go.Proofs.YtaiefdhenikiiaaZ.qv_   -- for this text's walks alone
set_option linter.unusedVariables false
set_option linter.unusedSimpArgs false
def qg1_.f (k:Nat) (a0:Int) (a1:Int) (l2:List (S75)):Option Bool:=(qr1_.f k l2 1048576).bind fun y1_0=>if y1_0 < 0 then some true else (ql1_.f k l2).bind fun y2_0=>(qb2_.f a0 a1 y2_0).bind fun p3=>(ql1_.f k l2).bind fun y4_0=>(qw1_.f a0 a1 y4_0).bind fun p5=>if p5.2.2.2=p3.2.2.2 then (qi2_.f k p5.1 p5.2.1 p5.2.2.1 p3.1 p3.2.1 p3.2.2.1).bind fun y6_0=>if y6_0=true then (ql1_.f k l2).bind fun y7_0=>(qd1_.f k y4_0 y7_0).bind fun y8_0=>if y8_0=true then (qj1_.f k y4_0 1).bind fun p9=>if 0≤p9.1 then (qi2_.f k p5.1 p5.2.1 p5.2.2.1 p3.1 p3.2.1 p3.2.2.1).bind fun y10_0=>if y10_0=true then (qm2_.f k p5.1 p5.2.1 p5.2.2.1 1).bind fun p11=>if 0≤p11.1 then (qg2_.f k p5.1 p5.2.1 p11.2 1).bind fun y12_0=>if 0≤y12_0∧y12_0=p11.1 then (ql1_.f k l2).bind fun y13_0=>(qw1_.f a0 a1 y13_0).bind fun p14=>if p14.2.2.2=p3.2.2.2 then (qi2_.f k p14.1 p14.2.1 p14.2.2.1 p3.1 p3.2.1 p3.2.2.1).bind fun y15_0=>if y15_0=true then (qg2_.f k p5.1 p5.2.1 p11.2 1).bind fun y16_0=>if 0≤y16_0∧y16_0=p11.1 then some true else none else none else none else none else none else none else none else none else none else none
theorem qg1_.mono:∀ a0 a1 l2 k,LeO (qg1_.f k a0 a1 l2) (qg1_.f (k+1) a0 a1 l2):=by
 intro a0 a1 l2 k
 unfold qg1_.f
 repeat' first
  | (with_reducible exact qi2_.mono _ _ _ _ _ _ _)
  | (with_reducible exact qd1_.mono _ _ _)
  | (with_reducible exact qg2_.mono _ _ _ _ _)
  | (with_reducible exact qm2_.mono _ _ _ _ _)
  | (with_reducible exact qj1_.mono _ _ _)
  | (with_reducible exact qr1_.mono _ _ _)
  | (with_reducible exact ql1_.mono _ _)
  | (with_reducible exact LeO.refl _)
  | (with_reducible refine LeO.ite ?_ ?_)
  | (with_reducible refine LeO.bind ?_ (fun _=>?_))
  | exact LeO.refl _
  | exact LeO.none _
set_option maxHeartbeats 16000000 in
set_option maxRecDepth 100000 in
theorem qg1_.calls (k:Nat) (a0:Int) (a1:Int) (A2:Option Addr) (c2:Nat) (l2:List (S75)) (r:Bool) (w:World) (hr2:Kd.C k75 w A2 l2.length l2) (hc2:l2.length≤c2) (h:qg1_.f k a0 a1 l2=some r) :
  Calls Try.prog 20 #[.int .i64 a0,.int .i64 a1,.slice A2 l2.length c2] w fun e w'=>e=.returned (.bool r)∧Below w.heap.size w w':=by
 have hu:=Try.underlying38
 unfold qg1_.f at h
 have HR2:=aK hr2
 have HC2:=aK hc2
 clear hr2 hc2
 have B0:=aK (Below.refl w.heap.size w)
 have h0:=h
 clear h
 replace h0:=Option.bind_eq_some_iff.mp h0
 obtain ⟨y1_0,E1,h0⟩:=h0
 replace E1:=aK E1
 by_cases c1:y1_0 < 0
 ·rw [if_pos c1] at h0
  obtain rfl:=Option.some.inj h0
  clear h0
  have d1:decide (y1_0 < 0)=true:=decide_eq_true c1
  clear c1
  go_enter Try.func20,Try.ntmps20
  go_wp2_with (go_at_call 21;(with_reducible refine (qr1_.calls k A2 c2 l2 1048576 y1_0 _ (Kd.qt1_ HR2.out (by repeat (first|(with_reducible first|exact B0.out|apply qb_|apply qa_|apply qc_)|exact B0.out))) HC2.out E1.out).mono ?_);rintro e w1 ⟨rfl,hb⟩;have D_:Below w.heap.size w w1:=qf_ (by repeat (first|(with_reducible first|exact Below.refl _ _|apply qb_|apply qa_|apply qc_)|exact Below.refl _ _)) hb;have B1:=aK (qf_ B0.out D_);clear D_ hb)
  go_ret
  exact ⟨rfl,B1.out⟩
 ·rw [if_neg c1] at h0
  have d1:decide (y1_0 < 0)=false:=decide_eq_false c1
  clear c1
  replace h0:=Option.bind_eq_some_iff.mp h0
  obtain ⟨y2_0,E2,h0⟩:=h0
  replace E2:=aK E2
  replace h0:=Option.bind_eq_some_iff.mp h0
  obtain ⟨⟨y3_0_0,y3_0_1,y3_0_2,y3_1⟩,E3,h0⟩:=h0
  dsimp only at h0
  replace E3:=aK E3
  replace h0:=Option.bind_eq_some_iff.mp h0
  obtain ⟨y4_0,E4,h0⟩:=h0
  replace E4:=aK E4
  replace h0:=Option.bind_eq_some_iff.mp h0
  obtain ⟨⟨y5_0_0,y5_0_1,y5_0_2,y5_1⟩,E5,h0⟩:=h0
  dsimp only at h0
  replace E5:=aK E5
  by_cases c5:y5_1=y3_1
  rotate_left
  ·rw [if_neg c5] at h0;cases h0
  rw [if_pos c5] at h0
  have f5_0:(y5_1 != y3_1)=false:=by rw [bne_eq_false_iff_eq];exact c5
  clear c5
  replace h0:=Option.bind_eq_some_iff.mp h0
  obtain ⟨y6_0,E6,h0⟩:=h0
  replace E6:=aK E6
  by_cases c6:y6_0=true
  rotate_left
  ·rw [if_neg c6] at h0;cases h0
  rw [if_pos c6] at h0
  subst c6
  replace h0:=Option.bind_eq_some_iff.mp h0
  obtain ⟨y7_0,E7,h0⟩:=h0
  replace E7:=aK E7
  replace h0:=Option.bind_eq_some_iff.mp h0
  obtain ⟨y8_0,E8,h0⟩:=h0
  replace E8:=aK E8
  by_cases c8:y8_0=true
  rotate_left
  ·rw [if_neg c8] at h0;cases h0
  rw [if_pos c8] at h0
  subst c8
  replace h0:=Option.bind_eq_some_iff.mp h0
  obtain ⟨⟨y9_0,z9⟩,E9,h0⟩:=h0
  dsimp only at h0
  replace E9:=aK E9
  by_cases c9:0≤y9_0
  rotate_left
  ·rw [if_neg c9] at h0;cases h0
  rw [if_pos c9] at h0
  have d9:decide (y9_0 < 0)=false:=decide_eq_false (by omega)
  clear c9
  replace h0:=Option.bind_eq_some_iff.mp h0
  obtain ⟨y10_0,E10,h0⟩:=h0
  replace E10:=aK E10
  by_cases c10:y10_0=true
  rotate_left
  ·rw [if_neg c10] at h0;cases h0
  rw [if_pos c10] at h0
  subst c10
  replace h0:=Option.bind_eq_some_iff.mp h0
  obtain ⟨⟨y11_0,z11⟩,E11,h0⟩:=h0
  dsimp only at h0
  replace E11:=aK E11
  by_cases c11:0≤y11_0
  rotate_left
  ·rw [if_neg c11] at h0;cases h0
  rw [if_pos c11] at h0
  have d11:decide (y11_0 < 0)=false:=decide_eq_false (by omega)
  clear c11
  replace h0:=Option.bind_eq_some_iff.mp h0
  obtain ⟨y12_0,E12,h0⟩:=h0
  replace E12:=aK E12
  by_cases c12:0≤y12_0∧y12_0=y11_0
  rotate_left
  ·rw [if_neg c12] at h0;cases h0
  rw [if_pos c12] at h0
  have d12:decide (y12_0 < 0)=false:=decide_eq_false (by omega)
  have f12:(y12_0 != y11_0)=false:=by rw [bne_eq_false_iff_eq];exact c12.2
  clear c12
  replace h0:=Option.bind_eq_some_iff.mp h0
  obtain ⟨y13_0,E13,h0⟩:=h0
  replace E13:=aK E13
  replace h0:=Option.bind_eq_some_iff.mp h0
  obtain ⟨⟨y14_0_0,y14_0_1,y14_0_2,y14_1⟩,E14,h0⟩:=h0
  dsimp only at h0
  replace E14:=aK E14
  by_cases c14:y14_1=y3_1
  rotate_left
  ·rw [if_neg c14] at h0;cases h0
  rw [if_pos c14] at h0
  have f14_0:(y14_1 != y3_1)=false:=by rw [bne_eq_false_iff_eq];exact c14
  clear c14
  replace h0:=Option.bind_eq_some_iff.mp h0
  obtain ⟨y15_0,E15,h0⟩:=h0
  replace E15:=aK E15
  by_cases c15:y15_0=true
  rotate_left
  ·rw [if_neg c15] at h0;cases h0
  rw [if_pos c15] at h0
  subst c15
  replace h0:=Option.bind_eq_some_iff.mp h0
  obtain ⟨y16_0,E16,h0⟩:=h0
  replace E16:=aK E16
  by_cases c16:0≤y16_0∧y16_0=y11_0
  rotate_left
  ·rw [if_neg c16] at h0;cases h0
  rw [if_pos c16] at h0
  have d16:decide (y16_0 < 0)=false:=decide_eq_false (by omega)
  have f16:(y16_0 != y11_0)=false:=by rw [bne_eq_false_iff_eq];exact c16.2
  clear c16
  obtain rfl:=Option.some.inj h0
  clear h0
  go_enter Try.func20,Try.ntmps20
  go_wp2_with (go_at_call 21;(with_reducible refine (qr1_.calls k A2 c2 l2 1048576 y1_0 _ (Kd.qt1_ HR2.out (by repeat (first|(with_reducible first|exact B0.out|apply qb_|apply qa_|apply qc_)|exact B0.out))) HC2.out E1.out).mono ?_);rintro e w1 ⟨rfl,hb⟩;have D_:Below w.heap.size w w1:=qf_ (by repeat (first|(with_reducible first|exact Below.refl _ _|apply qb_|apply qa_|apply qc_)|exact Below.refl _ _)) hb;have B1:=aK (qf_ B0.out D_);clear D_ hb)
  go_wp2_with (go_at_call 23;(with_reducible refine (ql1_.calls k A2 c2 l2 y2_0 _ (Kd.qt1_ HR2.out (by repeat (first|(with_reducible first|exact B1.out|apply qb_|apply qa_|apply qc_)|exact B1.out))) HC2.out E2.out).mono ?_);rintro e w2 ⟨v_H2_0,rfl,ho_H2_0,hb⟩;have D_:Below w1.heap.size w1 w2:=qf_ (by repeat (first|(with_reducible first|exact Below.refl _ _|apply qb_|apply qa_|apply qc_)|exact Below.refl _ _)) hb;have B2:=aK (qf_ B1.out D_);obtain ⟨lo_H2_0,hi_H2_0,hlo_,hhi_,hx_⟩:∃ lo hi,w1.heap.size≤lo∧lo≤hi∧Go.Proofs.YtaiefdhenikiiaaA.AtR k79 79 lo hi w2 v_H2_0 y2_0:=⟨_,_,by simp,by have:=hb.size;simpa using this,Go.Proofs.YtaiefdhenikiiaaA.AtR.of ho_H2_0⟩;clear ho_H2_0;obtain ⟨A_H2_0,c_H2_0,rfl,l_⟩:=hx_.form;have H2_0L:=aK l_;have LO_H2_0:=aK (show w.heap.size≤lo_H2_0 from by have:=B1.out.size;omega);have OR_H2_0:=aK (show lo_H2_0≤hi_H2_0 from hhi_);have H2_0:=aK hx_;clear hx_ l_ hlo_ hhi_;clear D_ hb;have PS_H2_0:=aK (show hi_H2_0≤w2.heap.size from And.right H2_0.out))
  go_wp2_with (go_at_call 73;(with_reducible refine (qb2_.calls a0 a1 _ _ y2_0 y3_0_0 y3_0_1 y3_0_2 y3_1 _ (Kd.qt1_ H2_0.out.C (by repeat (first|(with_reducible first|exact Below.refl _ _|apply qb_|apply qa_|apply qc_)|exact Below.refl _ _))) H2_0L.out E3.out).mono ?_);rintro e w3 ⟨v_H3_0_2,rfl,ho_H3_0_2,hb⟩;have D_:Below w2.heap.size w2 w3:=qf_ (by repeat (first|(with_reducible first|exact Below.refl _ _|apply qb_|apply qa_|apply qc_)|exact Below.refl _ _)) hb;replace H2_0:=aK (H2_0.out.below D_);have B3:=aK (qf_ B2.out D_);obtain ⟨lo_H3_0_2,hi_H3_0_2,hlo_,hhi_,hx_⟩:∃ lo hi,w2.heap.size≤lo∧lo≤hi∧Go.Proofs.YtaiefdhenikiiaaA.AtR k79 79 lo hi w3 v_H3_0_2 y3_0_2:=⟨_,_,by simp,by have:=hb.size;simpa using this,Go.Proofs.YtaiefdhenikiiaaA.AtR.of ho_H3_0_2⟩;clear ho_H3_0_2;obtain ⟨A_H3_0_2,c_H3_0_2,rfl,l_⟩:=hx_.form;have H3_0_2L:=aK l_;have LO_H3_0_2:=aK (show w.heap.size≤lo_H3_0_2 from by have:=B2.out.size;omega);have OR_H3_0_2:=aK (show lo_H3_0_2≤hi_H3_0_2∧hi_H2_0≤lo_H3_0_2 from ⟨hhi_,by have:=PS_H2_0.out;omega⟩);have H3_0_2:=aK hx_;clear hx_ l_ hlo_ hhi_;clear D_ hb;have PS_H2_0:=aK (show hi_H2_0≤w3.heap.size from And.right H2_0.out);have PS_H3_0_2:=aK (show hi_H3_0_2≤w3.heap.size from And.right H3_0_2.out))
  go_wp2_with (go_at_call 23;(with_reducible refine (ql1_.calls k A2 c2 l2 y4_0 _ (Kd.qt1_ HR2.out (by repeat (first|(with_reducible first|exact B3.out|apply qb_|apply qa_|apply qc_)|exact B3.out))) HC2.out E4.out).mono ?_);rintro e w4 ⟨v_H4_0,rfl,ho_H4_0,hb⟩;have D_:Below w3.heap.size w3 w4:=qf_ (by repeat (first|(with_reducible first|exact Below.refl _ _|apply qb_|apply qa_|apply qc_)|exact Below.refl _ _)) hb;have HS0:=aK (show SrAt w4 (w3.heap.size) (y3_0_0) (y3_0_1) (.slice A_H3_0_2 y3_0_2.length c_H3_0_2) from ql_ (new_at rfl) hb);have OB0:=aK (show True∧hi_H2_0≤w3.heap.size∧hi_H3_0_2≤w3.heap.size from ⟨trivial,Nat.le_trans (And.right H2_0.out) (by simp),Nat.le_trans (And.right H3_0_2.out) (by simp)⟩);replace H2_0:=aK (H2_0.out.below D_);replace H3_0_2:=aK (H3_0_2.out.below D_);have B4:=aK (qf_ B3.out D_);obtain ⟨lo_H4_0,hi_H4_0,hlo_,hhi_,hx_⟩:∃ lo hi,w3.heap.size+1≤lo∧lo≤hi∧Go.Proofs.YtaiefdhenikiiaaA.AtR k79 79 lo hi w4 v_H4_0 y4_0:=⟨_,_,by simp,by have:=hb.size;simpa using this,Go.Proofs.YtaiefdhenikiiaaA.AtR.of ho_H4_0⟩;clear ho_H4_0;obtain ⟨A_H4_0,c_H4_0,rfl,l_⟩:=hx_.form;have H4_0L:=aK l_;have LO_H4_0:=aK (show w.heap.size≤lo_H4_0 from by have:=B3.out.size;omega);have OR_H4_0:=aK (show lo_H4_0≤hi_H4_0∧hi_H2_0≤lo_H4_0∧hi_H3_0_2≤lo_H4_0∧w3.heap.size < lo_H4_0 from ⟨hhi_,by have:=PS_H2_0.out;omega,by have:=PS_H3_0_2.out;omega,by omega⟩);have H4_0:=aK hx_;clear hx_ l_ hlo_ hhi_;have LB0:=aK (show w3.heap.size < w4.heap.size from blk_lt HS0.out);clear D_ hb;have PS_H2_0:=aK (show hi_H2_0≤w4.heap.size from And.right H2_0.out);have PS_H3_0_2:=aK (show hi_H3_0_2≤w4.heap.size from And.right H3_0_2.out);have PS_H4_0:=aK (show hi_H4_0≤w4.heap.size from And.right H4_0.out);have z0_0:w4.cell? ⟨w3.heap.size,0,none⟩=some (.int .i64 y3_0_0):=SrAt.c0 HS0.out;have z0_1:w4.cell? ⟨w3.heap.size,1,none⟩=some (.int .i64 y3_0_1):=SrAt.c1 HS0.out;have z0_2:w4.cell? ⟨w3.heap.size,2,none⟩=some (.slice A_H3_0_2 y3_0_2.length c_H3_0_2):=SrAt.c2 HS0.out)
  go_wp2_with (go_at_call 74;(with_reducible refine (qw1_.calls a0 a1 _ _ y4_0 y5_0_0 y5_0_1 y5_0_2 y5_1 _ (Kd.qt1_ H4_0.out.C (by repeat (first|(with_reducible first|exact Below.refl _ _|apply qb_|apply qa_|apply qc_)|exact Below.refl _ _))) H4_0L.out E5.out).mono ?_);rintro e w5 ⟨v_H5_0_2,rfl,ho_H5_0_2,hb⟩;have D_:Below w4.heap.size w4 w5:=qf_ (by repeat (first|(with_reducible first|exact Below.refl _ _|apply qb_|apply qa_|apply qc_)|exact Below.refl _ _)) hb;replace HS0:=aK (show SrAt w5 (w3.heap.size) (y3_0_0) (y3_0_1) (.slice A_H3_0_2 y3_0_2.length c_H3_0_2) from ql_ HS0.out D_);replace H2_0:=aK (H2_0.out.below D_);replace H3_0_2:=aK (H3_0_2.out.below D_);replace H4_0:=aK (H4_0.out.below D_);have B5:=aK (qf_ B4.out D_);obtain ⟨lo_H5_0_2,hi_H5_0_2,hlo_,hhi_,hx_⟩:∃ lo hi,w4.heap.size≤lo∧lo≤hi∧Go.Proofs.YtaiefdhenikiiaaA.AtR k79 79 lo hi w5 v_H5_0_2 y5_0_2:=⟨_,_,by simp,by have:=hb.size;simpa using this,Go.Proofs.YtaiefdhenikiiaaA.AtR.of ho_H5_0_2⟩;clear ho_H5_0_2;obtain ⟨A_H5_0_2,c_H5_0_2,rfl,l_⟩:=hx_.form;have H5_0_2L:=aK l_;have LO_H5_0_2:=aK (show w.heap.size≤lo_H5_0_2 from by have:=B4.out.size;omega);have OR_H5_0_2:=aK (show lo_H5_0_2≤hi_H5_0_2∧hi_H2_0≤lo_H5_0_2∧hi_H3_0_2≤lo_H5_0_2∧hi_H4_0≤lo_H5_0_2∧w3.heap.size < lo_H5_0_2 from ⟨hhi_,by have:=PS_H2_0.out;omega,by have:=PS_H3_0_2.out;omega,by have:=PS_H4_0.out;omega,by have:=LB0.out;omega⟩);have H5_0_2:=aK hx_;clear hx_ l_ hlo_ hhi_;replace LB0:=aK (show w3.heap.size < w5.heap.size from blk_lt HS0.out);clear D_ hb;have PS_H2_0:=aK (show hi_H2_0≤w5.heap.size from And.right H2_0.out);have PS_H3_0_2:=aK (show hi_H3_0_2≤w5.heap.size from And.right H3_0_2.out);have PS_H4_0:=aK (show hi_H4_0≤w5.heap.size from And.right H4_0.out);have PS_H5_0_2:=aK (show hi_H5_0_2≤w5.heap.size from And.right H5_0_2.out);clear z0_0 z0_1 z0_2;have z0_0:(w5.alloc (.cells #[.int .i64 y5_0_0,.int .i64 y5_0_1,.slice A_H5_0_2 y5_0_2.length c_H5_0_2] 38)).cell? ⟨w3.heap.size,0,none⟩=some (.int .i64 y3_0_0):=SrAt.c0 (SrAt.alloc HS0.out _);have z0_1:(w5.alloc (.cells #[.int .i64 y5_0_0,.int .i64 y5_0_1,.slice A_H5_0_2 y5_0_2.length c_H5_0_2] 38)).cell? ⟨w3.heap.size,1,none⟩=some (.int .i64 y3_0_1):=SrAt.c1 (SrAt.alloc HS0.out _);have z0_2:(w5.alloc (.cells #[.int .i64 y5_0_0,.int .i64 y5_0_1,.slice A_H5_0_2 y5_0_2.length c_H5_0_2] 38)).cell? ⟨w3.heap.size,2,none⟩=some (.slice A_H3_0_2 y3_0_2.length c_H3_0_2):=SrAt.c2 (SrAt.alloc HS0.out _))
  go_wp2_with (go_at_call 33;(with_reducible refine (qi2_.calls k y5_0_0 y5_0_1 _ _ y5_0_2 y3_0_0 y3_0_1 _ _ y3_0_2 true _ (Kd.qt1_ H5_0_2.out.C (by repeat (first|(with_reducible first|exact Below.refl _ _|apply qb_|apply qa_|apply qc_)|exact Below.refl _ _))) H5_0_2L.out (Kd.qt1_ H3_0_2.out.C (by repeat (first|(with_reducible first|exact Below.refl _ _|apply qb_|apply qa_|apply qc_)|exact Below.refl _ _))) H3_0_2L.out E6.out).mono ?_);rintro e w6 ⟨rfl,hb⟩;have D_:Below w5.heap.size w5 w6:=qf_ (by repeat (first|(with_reducible first|exact Below.refl _ _|apply qb_|apply qa_|apply qc_)|exact Below.refl _ _)) hb;have HS1:=aK (show SrAt w6 (w5.heap.size) (y5_0_0) (y5_0_1) (.slice A_H5_0_2 y5_0_2.length c_H5_0_2) from ql_ (new_at rfl) hb);replace HS0:=aK (show SrAt w6 (w3.heap.size) (y3_0_0) (y3_0_1) (.slice A_H3_0_2 y3_0_2.length c_H3_0_2) from ql_ HS0.out D_);have OB1:=aK (show True∧hi_H2_0≤w5.heap.size∧hi_H3_0_2≤w5.heap.size∧hi_H4_0≤w5.heap.size∧hi_H5_0_2≤w5.heap.size from ⟨trivial,Nat.le_trans (And.right H2_0.out) (by simp),Nat.le_trans (And.right H3_0_2.out) (by simp),Nat.le_trans (And.right H4_0.out) (by simp),Nat.le_trans (And.right H5_0_2.out) (by simp)⟩);replace H2_0:=aK (H2_0.out.below D_);replace H3_0_2:=aK (H3_0_2.out.below D_);replace H4_0:=aK (H4_0.out.below D_);replace H5_0_2:=aK (H5_0_2.out.below D_);have B6:=aK (qf_ B5.out D_);replace LB0:=aK (show w3.heap.size < w6.heap.size from blk_lt HS0.out);have LB1:=aK (show w5.heap.size < w6.heap.size from blk_lt HS1.out);clear D_ hb;have PS_H2_0:=aK (show hi_H2_0≤w6.heap.size from And.right H2_0.out);have PS_H3_0_2:=aK (show hi_H3_0_2≤w6.heap.size from And.right H3_0_2.out);have PS_H4_0:=aK (show hi_H4_0≤w6.heap.size from And.right H4_0.out);have PS_H5_0_2:=aK (show hi_H5_0_2≤w6.heap.size from And.right H5_0_2.out);clear z0_0 z0_1 z0_2;have z0_0:w6.cell? ⟨w3.heap.size,0,none⟩=some (.int .i64 y3_0_0):=SrAt.c0 HS0.out;have z0_1:w6.cell? ⟨w3.heap.size,1,none⟩=some (.int .i64 y3_0_1):=SrAt.c1 HS0.out;have z0_2:w6.cell? ⟨w3.heap.size,2,none⟩=some (.slice A_H3_0_2 y3_0_2.length c_H3_0_2):=SrAt.c2 HS0.out;have z1_0:w6.cell? ⟨w5.heap.size,0,none⟩=some (.int .i64 y5_0_0):=SrAt.c0 HS1.out;have z1_1:w6.cell? ⟨w5.heap.size,1,none⟩=some (.int .i64 y5_0_1):=SrAt.c1 HS1.out;have z1_2:w6.cell? ⟨w5.heap.size,2,none⟩=some (.slice A_H5_0_2 y5_0_2.length c_H5_0_2):=SrAt.c2 HS1.out)
  go_wp2_with (go_at_call 23;(with_reducible refine (ql1_.calls k A2 c2 l2 y7_0 _ (Kd.qt1_ HR2.out (by repeat (first|(with_reducible first|exact B6.out|apply qb_|apply qa_|apply qc_)|exact B6.out))) HC2.out E7.out).mono ?_);rintro e w7 ⟨v_H7_0,rfl,ho_H7_0,hb⟩;have D_:Below w6.heap.size w6 w7:=qf_ (by repeat (first|(with_reducible first|exact Below.refl _ _|apply qb_|apply qa_|apply qc_)|exact Below.refl _ _)) hb;replace HS0:=aK (show SrAt w7 (w3.heap.size) (y3_0_0) (y3_0_1) (.slice A_H3_0_2 y3_0_2.length c_H3_0_2) from ql_ HS0.out D_);replace HS1:=aK (show SrAt w7 (w5.heap.size) (y5_0_0) (y5_0_1) (.slice A_H5_0_2 y5_0_2.length c_H5_0_2) from ql_ HS1.out D_);replace H2_0:=aK (H2_0.out.below D_);replace H3_0_2:=aK (H3_0_2.out.below D_);replace H4_0:=aK (H4_0.out.below D_);replace H5_0_2:=aK (H5_0_2.out.below D_);have B7:=aK (qf_ B6.out D_);obtain ⟨lo_H7_0,hi_H7_0,hlo_,hhi_,hx_⟩:∃ lo hi,w6.heap.size≤lo∧lo≤hi∧Go.Proofs.YtaiefdhenikiiaaA.AtR k79 79 lo hi w7 v_H7_0 y7_0:=⟨_,_,by simp,by have:=hb.size;simpa using this,Go.Proofs.YtaiefdhenikiiaaA.AtR.of ho_H7_0⟩;clear ho_H7_0;obtain ⟨A_H7_0,c_H7_0,rfl,l_⟩:=hx_.form;have H7_0L:=aK l_;have LO_H7_0:=aK (show w.heap.size≤lo_H7_0 from by have:=B6.out.size;omega);have OR_H7_0:=aK (show lo_H7_0≤hi_H7_0∧hi_H2_0≤lo_H7_0∧hi_H3_0_2≤lo_H7_0∧hi_H4_0≤lo_H7_0∧hi_H5_0_2≤lo_H7_0∧w3.heap.size < lo_H7_0∧w5.heap.size < lo_H7_0 from ⟨hhi_,by have:=PS_H2_0.out;omega,by have:=PS_H3_0_2.out;omega,by have:=PS_H4_0.out;omega,by have:=PS_H5_0_2.out;omega,by have:=LB0.out;omega,by have:=LB1.out;omega⟩);have H7_0:=aK hx_;clear hx_ l_ hlo_ hhi_;replace LB0:=aK (show w3.heap.size < w7.heap.size from blk_lt HS0.out);replace LB1:=aK (show w5.heap.size < w7.heap.size from blk_lt HS1.out);clear D_ hb;have PS_H2_0:=aK (show hi_H2_0≤w7.heap.size from And.right H2_0.out);have PS_H3_0_2:=aK (show hi_H3_0_2≤w7.heap.size from And.right H3_0_2.out);have PS_H4_0:=aK (show hi_H4_0≤w7.heap.size from And.right H4_0.out);have PS_H5_0_2:=aK (show hi_H5_0_2≤w7.heap.size from And.right H5_0_2.out);have PS_H7_0:=aK (show hi_H7_0≤w7.heap.size from And.right H7_0.out);clear z0_0 z0_1 z0_2 z1_0 z1_1 z1_2;have z0_0:w7.cell? ⟨w3.heap.size,0,none⟩=some (.int .i64 y3_0_0):=SrAt.c0 HS0.out;have z0_1:w7.cell? ⟨w3.heap.size,1,none⟩=some (.int .i64 y3_0_1):=SrAt.c1 HS0.out;have z0_2:w7.cell? ⟨w3.heap.size,2,none⟩=some (.slice A_H3_0_2 y3_0_2.length c_H3_0_2):=SrAt.c2 HS0.out;have z1_0:w7.cell? ⟨w5.heap.size,0,none⟩=some (.int .i64 y5_0_0):=SrAt.c0 HS1.out;have z1_1:w7.cell? ⟨w5.heap.size,1,none⟩=some (.int .i64 y5_0_1):=SrAt.c1 HS1.out;have z1_2:w7.cell? ⟨w5.heap.size,2,none⟩=some (.slice A_H5_0_2 y5_0_2.length c_H5_0_2):=SrAt.c2 HS1.out)
  go_wp2_with (go_at_call 25;(with_reducible refine (qd1_.calls k _ _ y4_0 _ _ y7_0 true _ (Kd.qt1_ H4_0.out.C (by repeat (first|(with_reducible first|exact Below.refl _ _|apply qb_|apply qa_|apply qc_)|exact Below.refl _ _))) H4_0L.out (Kd.qt1_ H7_0.out.C (by repeat (first|(with_reducible first|exact Below.refl _ _|apply qb_|apply qa_|apply qc_)|exact Below.refl _ _))) H7_0L.out E8.out).mono ?_);rintro e w8 ⟨rfl,hb⟩;have D_:Below w7.heap.size w7 w8:=qf_ (by repeat (first|(with_reducible first|exact Below.refl _ _|apply qb_|apply qa_|apply qc_)|exact Below.refl _ _)) hb;replace HS0:=aK (show SrAt w8 (w3.heap.size) (y3_0_0) (y3_0_1) (.slice A_H3_0_2 y3_0_2.length c_H3_0_2) from ql_ HS0.out D_);replace HS1:=aK (show SrAt w8 (w5.heap.size) (y5_0_0) (y5_0_1) (.slice A_H5_0_2 y5_0_2.length c_H5_0_2) from ql_ HS1.out D_);replace H2_0:=aK (H2_0.out.below D_);replace H3_0_2:=aK (H3_0_2.out.below D_);replace H4_0:=aK (H4_0.out.below D_);replace H5_0_2:=aK (H5_0_2.out.below D_);replace H7_0:=aK (H7_0.out.below D_);have B8:=aK (qf_ B7.out D_);replace LB0:=aK (show w3.heap.size < w8.heap.size from blk_lt HS0.out);replace LB1:=aK (show w5.heap.size < w8.heap.size from blk_lt HS1.out);clear D_ hb;have PS_H2_0:=aK (show hi_H2_0≤w8.heap.size from And.right H2_0.out);have PS_H3_0_2:=aK (show hi_H3_0_2≤w8.heap.size from And.right H3_0_2.out);have PS_H4_0:=aK (show hi_H4_0≤w8.heap.size from And.right H4_0.out);have PS_H5_0_2:=aK (show hi_H5_0_2≤w8.heap.size from And.right H5_0_2.out);have PS_H7_0:=aK (show hi_H7_0≤w8.heap.size from And.right H7_0.out);clear z0_0 z0_1 z0_2 z1_0 z1_1 z1_2;have z0_0:w8.cell? ⟨w3.heap.size,0,none⟩=some (.int .i64 y3_0_0):=SrAt.c0 HS0.out;have z0_1:w8.cell? ⟨w3.heap.size,1,none⟩=some (.int .i64 y3_0_1):=SrAt.c1 HS0.out;have z0_2:w8.cell? ⟨w3.heap.size,2,none⟩=some (.slice A_H3_0_2 y3_0_2.length c_H3_0_2):=SrAt.c2 HS0.out;have z1_0:w8.cell? ⟨w5.heap.size,0,none⟩=some (.int .i64 y5_0_0):=SrAt.c0 HS1.out;have z1_1:w8.cell? ⟨w5.heap.size,1,none⟩=some (.int .i64 y5_0_1):=SrAt.c1 HS1.out;have z1_2:w8.cell? ⟨w5.heap.size,2,none⟩=some (.slice A_H5_0_2 y5_0_2.length c_H5_0_2):=SrAt.c2 HS1.out)
  go_wp2_with (go_at_call 26;(with_reducible refine (qj1_.calls k  (fun k_=>lo_H4_0≤k_∧k_ < hi_H4_0) _ y4_0 1 y9_0 z9 w _ (by repeat (first|(with_reducible first|exact B8.out|apply qb_|apply qa_|apply qc_)|exact B8.out)) (Kd.ql2_ (Go.Proofs.YtaiefdhenikiiaaA.AtR.mark H4_0.out LO_H4_0.out) (by repeat (first|(with_reducible first|exact Below.refl _ _|apply qb_|apply qa_|apply qc_)|exact Below.refl _ _))) E9.out).mono ?_);rintro e w9 ⟨rfl,ho,hb,hk⟩;have B9:=aK hb;have KP:=aK (show Kept w8 w9 (fun k_=>lo_H4_0≤k_∧k_ < hi_H4_0) from Kept.then_ (Kept.of_below (by repeat (first|(with_reducible first|exact Below.refl _ _|apply qb_|apply qa_|apply qc_)|exact Below.refl _ _)) _) hk (fun _ h_=>.inl h_));have HN:=aK (Go.Proofs.YtaiefdhenikiiaaA.AtR.of ho);clear ho hb hk;replace H2_0:=aK (Go.Proofs.YtaiefdhenikiiaaA.AtR.kept H2_0.out KP.out (by have:=OR_H4_0.out;have:=OR_H2_0.out;omega));replace H3_0_2:=aK (Go.Proofs.YtaiefdhenikiiaaA.AtR.kept H3_0_2.out KP.out (by have:=OR_H4_0.out;have:=OR_H3_0_2.out;omega));replace H5_0_2:=aK (Go.Proofs.YtaiefdhenikiiaaA.AtR.kept H5_0_2.out KP.out (by have:=OR_H4_0.out;have:=OR_H5_0_2.out;omega));replace H7_0:=aK (Go.Proofs.YtaiefdhenikiiaaA.AtR.kept H7_0.out KP.out (by have:=OR_H4_0.out;have:=OR_H7_0.out;omega));replace HS0:=aK (show SrAt w9 (w3.heap.size) (y3_0_0) (y3_0_1) (.slice A_H3_0_2 y3_0_2.length c_H3_0_2) from (KP.out.2 _ (blk_lt HS0.out) (by have:=OR_H4_0.out;have:=OB0.out;omega)).trans HS0.out);replace HS1:=aK (show SrAt w9 (w5.heap.size) (y5_0_0) (y5_0_1) (.slice A_H5_0_2 y5_0_2.length c_H5_0_2) from (KP.out.2 _ (blk_lt HS1.out) (by have:=OR_H4_0.out;have:=OB1.out;omega)).trans HS1.out);replace H4_0:=HN;clear HN KP;obtain ⟨A_,c_,e_,l_⟩:=H4_0.out.form;injection e_ with e1_ e2_ e3_;replace H4_0L:=aK (e3_ ▸ l_);clear l_ e1_ e3_;(first|rw [e2_]|skip);replace H4_0:=aK (e2_ ▸ H4_0.out);clear e2_;replace LB0:=aK (show w3.heap.size < w9.heap.size from blk_lt HS0.out);replace LB1:=aK (show w5.heap.size < w9.heap.size from blk_lt HS1.out);have PS_H2_0:=aK (show hi_H2_0≤w9.heap.size from And.right H2_0.out);have PS_H3_0_2:=aK (show hi_H3_0_2≤w9.heap.size from And.right H3_0_2.out);have PS_H5_0_2:=aK (show hi_H5_0_2≤w9.heap.size from And.right H5_0_2.out);have PS_H7_0:=aK (show hi_H7_0≤w9.heap.size from And.right H7_0.out);clear z0_0 z0_1 z0_2 z1_0 z1_1 z1_2;have z0_0:w9.cell? ⟨w3.heap.size,0,none⟩=some (.int .i64 y3_0_0):=SrAt.c0 HS0.out;have z0_1:w9.cell? ⟨w3.heap.size,1,none⟩=some (.int .i64 y3_0_1):=SrAt.c1 HS0.out;have z0_2:w9.cell? ⟨w3.heap.size,2,none⟩=some (.slice A_H3_0_2 y3_0_2.length c_H3_0_2):=SrAt.c2 HS0.out;have z1_0:w9.cell? ⟨w5.heap.size,0,none⟩=some (.int .i64 y5_0_0):=SrAt.c0 HS1.out;have z1_1:w9.cell? ⟨w5.heap.size,1,none⟩=some (.int .i64 y5_0_1):=SrAt.c1 HS1.out;have z1_2:w9.cell? ⟨w5.heap.size,2,none⟩=some (.slice A_H5_0_2 y5_0_2.length c_H5_0_2):=SrAt.c2 HS1.out)
  go_wp2_with (go_at_call 33;(with_reducible refine (qi2_.calls k y5_0_0 y5_0_1 _ _ y5_0_2 y3_0_0 y3_0_1 _ _ y3_0_2 true _ (Kd.qt1_ H5_0_2.out.C (by repeat (first|(with_reducible first|exact Below.refl _ _|apply qb_|apply qa_|apply qc_)|exact Below.refl _ _))) H5_0_2L.out (Kd.qt1_ H3_0_2.out.C (by repeat (first|(with_reducible first|exact Below.refl _ _|apply qb_|apply qa_|apply qc_)|exact Below.refl _ _))) H3_0_2L.out E10.out).mono ?_);rintro e w10 ⟨rfl,hb⟩;have D_:Below w9.heap.size w9 w10:=qf_ (by repeat (first|(with_reducible first|exact Below.refl _ _|apply qb_|apply qa_|apply qc_)|exact Below.refl _ _)) hb;replace HS0:=aK (show SrAt w10 (w3.heap.size) (y3_0_0) (y3_0_1) (.slice A_H3_0_2 y3_0_2.length c_H3_0_2) from ql_ HS0.out D_);replace HS1:=aK (show SrAt w10 (w5.heap.size) (y5_0_0) (y5_0_1) (.slice A_H5_0_2 y5_0_2.length c_H5_0_2) from ql_ HS1.out D_);replace H2_0:=aK (H2_0.out.below D_);replace H3_0_2:=aK (H3_0_2.out.below D_);replace H4_0:=aK (H4_0.out.below D_);replace H5_0_2:=aK (H5_0_2.out.below D_);replace H7_0:=aK (H7_0.out.below D_);have B10:=aK (qf_ B9.out D_);replace LB0:=aK (show w3.heap.size < w10.heap.size from blk_lt HS0.out);replace LB1:=aK (show w5.heap.size < w10.heap.size from blk_lt HS1.out);clear D_ hb;have PS_H2_0:=aK (show hi_H2_0≤w10.heap.size from And.right H2_0.out);have PS_H3_0_2:=aK (show hi_H3_0_2≤w10.heap.size from And.right H3_0_2.out);have PS_H5_0_2:=aK (show hi_H5_0_2≤w10.heap.size from And.right H5_0_2.out);have PS_H7_0:=aK (show hi_H7_0≤w10.heap.size from And.right H7_0.out);clear z0_0 z0_1 z0_2 z1_0 z1_1 z1_2;have z0_0:w10.cell? ⟨w3.heap.size,0,none⟩=some (.int .i64 y3_0_0):=SrAt.c0 HS0.out;have z0_1:w10.cell? ⟨w3.heap.size,1,none⟩=some (.int .i64 y3_0_1):=SrAt.c1 HS0.out;have z0_2:w10.cell? ⟨w3.heap.size,2,none⟩=some (.slice A_H3_0_2 y3_0_2.length c_H3_0_2):=SrAt.c2 HS0.out;have z1_0:w10.cell? ⟨w5.heap.size,0,none⟩=some (.int .i64 y5_0_0):=SrAt.c0 HS1.out;have z1_1:w10.cell? ⟨w5.heap.size,1,none⟩=some (.int .i64 y5_0_1):=SrAt.c1 HS1.out;have z1_2:w10.cell? ⟨w5.heap.size,2,none⟩=some (.slice A_H5_0_2 y5_0_2.length c_H5_0_2):=SrAt.c2 HS1.out)
  go_wp2_with (go_at_call 34;(with_reducible refine (qm2_.calls k y5_0_0 y5_0_1 (fun k_=>lo_H5_0_2≤k_∧k_ < hi_H5_0_2) _ y5_0_2 1 y11_0 z11 w _ (by repeat (first|(with_reducible first|exact B10.out|apply qb_|apply qa_|apply qc_)|exact B10.out)) (Kd.ql2_ (Go.Proofs.YtaiefdhenikiiaaA.AtR.mark H5_0_2.out LO_H5_0_2.out) (by repeat (first|(with_reducible first|exact Below.refl _ _|apply qb_|apply qa_|apply qc_)|exact Below.refl _ _))) E11.out).mono ?_);rintro e w11 ⟨rfl,ho,hb,hk⟩;have B11:=aK hb;have KP:=aK (show Kept w10 w11 (fun k_=>lo_H5_0_2≤k_∧k_ < hi_H5_0_2) from Kept.then_ (Kept.of_below (by repeat (first|(with_reducible first|exact Below.refl _ _|apply qb_|apply qa_|apply qc_)|exact Below.refl _ _)) _) hk (fun _ h_=>.inl h_));have HN:=aK (Go.Proofs.YtaiefdhenikiiaaA.AtR.of ho);clear ho hb hk;replace H2_0:=aK (Go.Proofs.YtaiefdhenikiiaaA.AtR.kept H2_0.out KP.out (by have:=OR_H5_0_2.out;have:=OR_H2_0.out;omega));replace H3_0_2:=aK (Go.Proofs.YtaiefdhenikiiaaA.AtR.kept H3_0_2.out KP.out (by have:=OR_H5_0_2.out;have:=OR_H3_0_2.out;omega));clear H4_0 H4_0L;replace H7_0:=aK (Go.Proofs.YtaiefdhenikiiaaA.AtR.kept H7_0.out KP.out (by have:=OR_H5_0_2.out;have:=OR_H7_0.out;omega));replace HS0:=aK (show SrAt w11 (w3.heap.size) (y3_0_0) (y3_0_1) (.slice A_H3_0_2 y3_0_2.length c_H3_0_2) from (KP.out.2 _ (blk_lt HS0.out) (by have:=OR_H5_0_2.out;have:=OB0.out;omega)).trans HS0.out);replace HS1:=aK (show SrAt w11 (w5.heap.size) (y5_0_0) (y5_0_1) (.slice A_H5_0_2 y5_0_2.length c_H5_0_2) from (KP.out.2 _ (blk_lt HS1.out) (by have:=OR_H5_0_2.out;have:=OB1.out;omega)).trans HS1.out);replace H5_0_2:=HN;clear HN KP;obtain ⟨A_,c_,e_,l_⟩:=H5_0_2.out.form;injection e_ with e1_ e2_ e3_;replace H5_0_2L:=aK (e3_ ▸ l_);clear l_ e1_ e3_;(first|rw [e2_]|skip);replace H5_0_2:=aK (e2_ ▸ H5_0_2.out);replace HS1:=aK (show SrAt w11 (w5.heap.size) (y5_0_0) (y5_0_1) (.slice A_H5_0_2 z11.length c_H5_0_2) from by rw [← e2_];exact HS1.out);clear e2_;replace LB0:=aK (show w3.heap.size < w11.heap.size from blk_lt HS0.out);replace LB1:=aK (show w5.heap.size < w11.heap.size from blk_lt HS1.out);have PS_H2_0:=aK (show hi_H2_0≤w11.heap.size from And.right H2_0.out);have PS_H3_0_2:=aK (show hi_H3_0_2≤w11.heap.size from And.right H3_0_2.out);have PS_H7_0:=aK (show hi_H7_0≤w11.heap.size from And.right H7_0.out);clear z0_0 z0_1 z0_2 z1_0 z1_1 z1_2;have z0_0:w11.cell? ⟨w3.heap.size,0,none⟩=some (.int .i64 y3_0_0):=SrAt.c0 HS0.out;have z0_1:w11.cell? ⟨w3.heap.size,1,none⟩=some (.int .i64 y3_0_1):=SrAt.c1 HS0.out;have z0_2:w11.cell? ⟨w3.heap.size,2,none⟩=some (.slice A_H3_0_2 y3_0_2.length c_H3_0_2):=SrAt.c2 HS0.out;have z1_0:w11.cell? ⟨w5.heap.size,0,none⟩=some (.int .i64 y5_0_0):=SrAt.c0 HS1.out;have z1_1:w11.cell? ⟨w5.heap.size,1,none⟩=some (.int .i64 y5_0_1):=SrAt.c1 HS1.out;have z1_2:w11.cell? ⟨w5.heap.size,2,none⟩=some (.slice A_H5_0_2 z11.length c_H5_0_2):=SrAt.c2 HS1.out)
  go_wp2_with (go_at_call 39;(with_reducible refine (qg2_.calls k y5_0_0 y5_0_1 _ _ z11 1 y12_0 _ (Kd.qt1_ H5_0_2.out.C (by repeat (first|(with_reducible first|exact Below.refl _ _|apply qb_|apply qa_|apply qc_)|exact Below.refl _ _))) H5_0_2L.out E12.out).mono ?_);rintro e w12 ⟨rfl,hb⟩;have D_:Below w11.heap.size w11 w12:=qf_ (by repeat (first|(with_reducible first|exact Below.refl _ _|apply qb_|apply qa_|apply qc_)|exact Below.refl _ _)) hb;replace HS0:=aK (show SrAt w12 (w3.heap.size) (y3_0_0) (y3_0_1) (.slice A_H3_0_2 y3_0_2.length c_H3_0_2) from ql_ HS0.out D_);replace HS1:=aK (show SrAt w12 (w5.heap.size) (y5_0_0) (y5_0_1) (.slice A_H5_0_2 z11.length c_H5_0_2) from ql_ HS1.out D_);replace H2_0:=aK (H2_0.out.below D_);replace H3_0_2:=aK (H3_0_2.out.below D_);replace H5_0_2:=aK (H5_0_2.out.below D_);replace H7_0:=aK (H7_0.out.below D_);have B12:=aK (qf_ B11.out D_);replace LB0:=aK (show w3.heap.size < w12.heap.size from blk_lt HS0.out);replace LB1:=aK (show w5.heap.size < w12.heap.size from blk_lt HS1.out);clear D_ hb;have PS_H2_0:=aK (show hi_H2_0≤w12.heap.size from And.right H2_0.out);have PS_H3_0_2:=aK (show hi_H3_0_2≤w12.heap.size from And.right H3_0_2.out);have PS_H7_0:=aK (show hi_H7_0≤w12.heap.size from And.right H7_0.out);clear z0_0 z0_1 z0_2 z1_0 z1_1 z1_2;have z0_0:w12.cell? ⟨w3.heap.size,0,none⟩=some (.int .i64 y3_0_0):=SrAt.c0 HS0.out;have z0_1:w12.cell? ⟨w3.heap.size,1,none⟩=some (.int .i64 y3_0_1):=SrAt.c1 HS0.out;have z0_2:w12.cell? ⟨w3.heap.size,2,none⟩=some (.slice A_H3_0_2 y3_0_2.length c_H3_0_2):=SrAt.c2 HS0.out;have z1_0:w12.cell? ⟨w5.heap.size,0,none⟩=some (.int .i64 y5_0_0):=SrAt.c0 HS1.out;have z1_1:w12.cell? ⟨w5.heap.size,1,none⟩=some (.int .i64 y5_0_1):=SrAt.c1 HS1.out;have z1_2:w12.cell? ⟨w5.heap.size,2,none⟩=some (.slice A_H5_0_2 z11.length c_H5_0_2):=SrAt.c2 HS1.out)
  go_wp2_with (go_at_call 23;(with_reducible refine (ql1_.calls k A2 c2 l2 y13_0 _ (Kd.qt1_ HR2.out (by repeat (first|(with_reducible first|exact B12.out|apply qb_|apply qa_|apply qc_)|exact B12.out))) HC2.out E13.out).mono ?_);rintro e w13 ⟨v_H13_0,rfl,ho_H13_0,hb⟩;have D_:Below w12.heap.size w12 w13:=qf_ (by repeat (first|(with_reducible first|exact Below.refl _ _|apply qb_|apply qa_|apply qc_)|exact Below.refl _ _)) hb;replace HS0:=aK (show SrAt w13 (w3.heap.size) (y3_0_0) (y3_0_1) (.slice A_H3_0_2 y3_0_2.length c_H3_0_2) from ql_ HS0.out D_);replace HS1:=aK (show SrAt w13 (w5.heap.size) (y5_0_0) (y5_0_1) (.slice A_H5_0_2 z11.length c_H5_0_2) from ql_ HS1.out D_);replace H2_0:=aK (H2_0.out.below D_);replace H3_0_2:=aK (H3_0_2.out.below D_);replace H5_0_2:=aK (H5_0_2.out.below D_);replace H7_0:=aK (H7_0.out.below D_);have B13:=aK (qf_ B12.out D_);obtain ⟨lo_H13_0,hi_H13_0,hlo_,hhi_,hx_⟩:∃ lo hi,w12.heap.size≤lo∧lo≤hi∧Go.Proofs.YtaiefdhenikiiaaA.AtR k79 79 lo hi w13 v_H13_0 y13_0:=⟨_,_,by simp,by have:=hb.size;simpa using this,Go.Proofs.YtaiefdhenikiiaaA.AtR.of ho_H13_0⟩;clear ho_H13_0;obtain ⟨A_H13_0,c_H13_0,rfl,l_⟩:=hx_.form;have H13_0L:=aK l_;have LO_H13_0:=aK (show w.heap.size≤lo_H13_0 from by have:=B12.out.size;omega);have OR_H13_0:=aK (show lo_H13_0≤hi_H13_0∧hi_H2_0≤lo_H13_0∧hi_H3_0_2≤lo_H13_0∧hi_H7_0≤lo_H13_0∧w3.heap.size < lo_H13_0∧w5.heap.size < lo_H13_0 from ⟨hhi_,by have:=PS_H2_0.out;omega,by have:=PS_H3_0_2.out;omega,by have:=PS_H7_0.out;omega,by have:=LB0.out;omega,by have:=LB1.out;omega⟩);have H13_0:=aK hx_;clear hx_ l_ hlo_ hhi_;replace LB0:=aK (show w3.heap.size < w13.heap.size from blk_lt HS0.out);replace LB1:=aK (show w5.heap.size < w13.heap.size from blk_lt HS1.out);clear D_ hb;have PS_H2_0:=aK (show hi_H2_0≤w13.heap.size from And.right H2_0.out);have PS_H3_0_2:=aK (show hi_H3_0_2≤w13.heap.size from And.right H3_0_2.out);have PS_H7_0:=aK (show hi_H7_0≤w13.heap.size from And.right H7_0.out);have PS_H13_0:=aK (show hi_H13_0≤w13.heap.size from And.right H13_0.out);clear z0_0 z0_1 z0_2 z1_0 z1_1 z1_2;have z0_0:w13.cell? ⟨w3.heap.size,0,none⟩=some (.int .i64 y3_0_0):=SrAt.c0 HS0.out;have z0_1:w13.cell? ⟨w3.heap.size,1,none⟩=some (.int .i64 y3_0_1):=SrAt.c1 HS0.out;have z0_2:w13.cell? ⟨w3.heap.size,2,none⟩=some (.slice A_H3_0_2 y3_0_2.length c_H3_0_2):=SrAt.c2 HS0.out;have z1_0:w13.cell? ⟨w5.heap.size,0,none⟩=some (.int .i64 y5_0_0):=SrAt.c0 HS1.out;have z1_1:w13.cell? ⟨w5.heap.size,1,none⟩=some (.int .i64 y5_0_1):=SrAt.c1 HS1.out;have z1_2:w13.cell? ⟨w5.heap.size,2,none⟩=some (.slice A_H5_0_2 z11.length c_H5_0_2):=SrAt.c2 HS1.out)
  go_wp2_with (go_at_call 74;(with_reducible refine (qw1_.calls a0 a1 _ _ y13_0 y14_0_0 y14_0_1 y14_0_2 y14_1 _ (Kd.qt1_ H13_0.out.C (by repeat (first|(with_reducible first|exact Below.refl _ _|apply qb_|apply qa_|apply qc_)|exact Below.refl _ _))) H13_0L.out E14.out).mono ?_);rintro e w14 ⟨v_H14_0_2,rfl,ho_H14_0_2,hb⟩;have D_:Below w13.heap.size w13 w14:=qf_ (by repeat (first|(with_reducible first|exact Below.refl _ _|apply qb_|apply qa_|apply qc_)|exact Below.refl _ _)) hb;replace HS0:=aK (show SrAt w14 (w3.heap.size) (y3_0_0) (y3_0_1) (.slice A_H3_0_2 y3_0_2.length c_H3_0_2) from ql_ HS0.out D_);replace HS1:=aK (show SrAt w14 (w5.heap.size) (y5_0_0) (y5_0_1) (.slice A_H5_0_2 z11.length c_H5_0_2) from ql_ HS1.out D_);replace H2_0:=aK (H2_0.out.below D_);replace H3_0_2:=aK (H3_0_2.out.below D_);replace H5_0_2:=aK (H5_0_2.out.below D_);replace H7_0:=aK (H7_0.out.below D_);replace H13_0:=aK (H13_0.out.below D_);have B14:=aK (qf_ B13.out D_);obtain ⟨lo_H14_0_2,hi_H14_0_2,hlo_,hhi_,hx_⟩:∃ lo hi,w13.heap.size≤lo∧lo≤hi∧Go.Proofs.YtaiefdhenikiiaaA.AtR k79 79 lo hi w14 v_H14_0_2 y14_0_2:=⟨_,_,by simp,by have:=hb.size;simpa using this,Go.Proofs.YtaiefdhenikiiaaA.AtR.of ho_H14_0_2⟩;clear ho_H14_0_2;obtain ⟨A_H14_0_2,c_H14_0_2,rfl,l_⟩:=hx_.form;have H14_0_2L:=aK l_;have LO_H14_0_2:=aK (show w.heap.size≤lo_H14_0_2 from by have:=B13.out.size;omega);have OR_H14_0_2:=aK (show lo_H14_0_2≤hi_H14_0_2∧hi_H2_0≤lo_H14_0_2∧hi_H3_0_2≤lo_H14_0_2∧hi_H7_0≤lo_H14_0_2∧hi_H13_0≤lo_H14_0_2∧w3.heap.size < lo_H14_0_2∧w5.heap.size < lo_H14_0_2 from ⟨hhi_,by have:=PS_H2_0.out;omega,by have:=PS_H3_0_2.out;omega,by have:=PS_H7_0.out;omega,by have:=PS_H13_0.out;omega,by have:=LB0.out;omega,by have:=LB1.out;omega⟩);have H14_0_2:=aK hx_;clear hx_ l_ hlo_ hhi_;replace LB0:=aK (show w3.heap.size < w14.heap.size from blk_lt HS0.out);replace LB1:=aK (show w5.heap.size < w14.heap.size from blk_lt HS1.out);clear D_ hb;have PS_H2_0:=aK (show hi_H2_0≤w14.heap.size from And.right H2_0.out);have PS_H3_0_2:=aK (show hi_H3_0_2≤w14.heap.size from And.right H3_0_2.out);have PS_H7_0:=aK (show hi_H7_0≤w14.heap.size from And.right H7_0.out);have PS_H13_0:=aK (show hi_H13_0≤w14.heap.size from And.right H13_0.out);have PS_H14_0_2:=aK (show hi_H14_0_2≤w14.heap.size from And.right H14_0_2.out);clear z0_0 z0_1 z0_2 z1_0 z1_1 z1_2;have z0_0:(w14.alloc (.cells #[.int .i64 y14_0_0,.int .i64 y14_0_1,.slice A_H14_0_2 y14_0_2.length c_H14_0_2] 38)).cell? ⟨w3.heap.size,0,none⟩=some (.int .i64 y3_0_0):=SrAt.c0 (SrAt.alloc HS0.out _);have z0_1:(w14.alloc (.cells #[.int .i64 y14_0_0,.int .i64 y14_0_1,.slice A_H14_0_2 y14_0_2.length c_H14_0_2] 38)).cell? ⟨w3.heap.size,1,none⟩=some (.int .i64 y3_0_1):=SrAt.c1 (SrAt.alloc HS0.out _);have z0_2:(w14.alloc (.cells #[.int .i64 y14_0_0,.int .i64 y14_0_1,.slice A_H14_0_2 y14_0_2.length c_H14_0_2] 38)).cell? ⟨w3.heap.size,2,none⟩=some (.slice A_H3_0_2 y3_0_2.length c_H3_0_2):=SrAt.c2 (SrAt.alloc HS0.out _);have z1_0:(w14.alloc (.cells #[.int .i64 y14_0_0,.int .i64 y14_0_1,.slice A_H14_0_2 y14_0_2.length c_H14_0_2] 38)).cell? ⟨w5.heap.size,0,none⟩=some (.int .i64 y5_0_0):=SrAt.c0 (SrAt.alloc HS1.out _);have z1_1:(w14.alloc (.cells #[.int .i64 y14_0_0,.int .i64 y14_0_1,.slice A_H14_0_2 y14_0_2.length c_H14_0_2] 38)).cell? ⟨w5.heap.size,1,none⟩=some (.int .i64 y5_0_1):=SrAt.c1 (SrAt.alloc HS1.out _);have z1_2:(w14.alloc (.cells #[.int .i64 y14_0_0,.int .i64 y14_0_1,.slice A_H14_0_2 y14_0_2.length c_H14_0_2] 38)).cell? ⟨w5.heap.size,2,none⟩=some (.slice A_H5_0_2 z11.length c_H5_0_2):=SrAt.c2 (SrAt.alloc HS1.out _))
  go_wp2_with (go_at_call 33;(with_reducible refine (qi2_.calls k y14_0_0 y14_0_1 _ _ y14_0_2 y3_0_0 y3_0_1 _ _ y3_0_2 true _ (Kd.qt1_ H14_0_2.out.C (by repeat (first|(with_reducible first|exact Below.refl _ _|apply qb_|apply qa_|apply qc_)|exact Below.refl _ _))) H14_0_2L.out (Kd.qt1_ H3_0_2.out.C (by repeat (first|(with_reducible first|exact Below.refl _ _|apply qb_|apply qa_|apply qc_)|exact Below.refl _ _))) H3_0_2L.out E15.out).mono ?_);rintro e w15 ⟨rfl,hb⟩;have D_:Below w14.heap.size w14 w15:=qf_ (by repeat (first|(with_reducible first|exact Below.refl _ _|apply qb_|apply qa_|apply qc_)|exact Below.refl _ _)) hb;have HS2:=aK (show SrAt w15 (w14.heap.size) (y14_0_0) (y14_0_1) (.slice A_H14_0_2 y14_0_2.length c_H14_0_2) from ql_ (new_at rfl) hb);replace HS0:=aK (show SrAt w15 (w3.heap.size) (y3_0_0) (y3_0_1) (.slice A_H3_0_2 y3_0_2.length c_H3_0_2) from ql_ HS0.out D_);replace HS1:=aK (show SrAt w15 (w5.heap.size) (y5_0_0) (y5_0_1) (.slice A_H5_0_2 z11.length c_H5_0_2) from ql_ HS1.out D_);have OB2:=aK (show True∧hi_H2_0≤w14.heap.size∧hi_H3_0_2≤w14.heap.size∧hi_H7_0≤w14.heap.size∧hi_H13_0≤w14.heap.size∧hi_H14_0_2≤w14.heap.size from ⟨trivial,Nat.le_trans (And.right H2_0.out) (by simp),Nat.le_trans (And.right H3_0_2.out) (by simp),Nat.le_trans (And.right H7_0.out) (by simp),Nat.le_trans (And.right H13_0.out) (by simp),Nat.le_trans (And.right H14_0_2.out) (by simp)⟩);replace H2_0:=aK (H2_0.out.below D_);replace H3_0_2:=aK (H3_0_2.out.below D_);replace H5_0_2:=aK (H5_0_2.out.below D_);replace H7_0:=aK (H7_0.out.below D_);replace H13_0:=aK (H13_0.out.below D_);replace H14_0_2:=aK (H14_0_2.out.below D_);have B15:=aK (qf_ B14.out D_);replace LB0:=aK (show w3.heap.size < w15.heap.size from blk_lt HS0.out);replace LB1:=aK (show w5.heap.size < w15.heap.size from blk_lt HS1.out);have LB2:=aK (show w14.heap.size < w15.heap.size from blk_lt HS2.out);clear D_ hb;have PS_H2_0:=aK (show hi_H2_0≤w15.heap.size from And.right H2_0.out);have PS_H3_0_2:=aK (show hi_H3_0_2≤w15.heap.size from And.right H3_0_2.out);have PS_H7_0:=aK (show hi_H7_0≤w15.heap.size from And.right H7_0.out);have PS_H13_0:=aK (show hi_H13_0≤w15.heap.size from And.right H13_0.out);have PS_H14_0_2:=aK (show hi_H14_0_2≤w15.heap.size from And.right H14_0_2.out);clear z0_0 z0_1 z0_2 z1_0 z1_1 z1_2;have z0_0:w15.cell? ⟨w3.heap.size,0,none⟩=some (.int .i64 y3_0_0):=SrAt.c0 HS0.out;have z0_1:w15.cell? ⟨w3.heap.size,1,none⟩=some (.int .i64 y3_0_1):=SrAt.c1 HS0.out;have z0_2:w15.cell? ⟨w3.heap.size,2,none⟩=some (.slice A_H3_0_2 y3_0_2.length c_H3_0_2):=SrAt.c2 HS0.out;have z1_0:w15.cell? ⟨w5.heap.size,0,none⟩=some (.int .i64 y5_0_0):=SrAt.c0 HS1.out;have z1_1:w15.cell? ⟨w5.heap.size,1,none⟩=some (.int .i64 y5_0_1):=SrAt.c1 HS1.out;have z1_2:w15.cell? ⟨w5.heap.size,2,none⟩=some (.slice A_H5_0_2 z11.length c_H5_0_2):=SrAt.c2 HS1.out;have z2_0:w15.cell? ⟨w14.heap.size,0,none⟩=some (.int .i64 y14_0_0):=SrAt.c0 HS2.out;have z2_1:w15.cell? ⟨w14.heap.size,1,none⟩=some (.int .i64 y14_0_1):=SrAt.c1 HS2.out;have z2_2:w15.cell? ⟨w14.heap.size,2,none⟩=some (.slice A_H14_0_2 y14_0_2.length c_H14_0_2):=SrAt.c2 HS2.out)
  go_wp2_with (go_at_call 39;(with_reducible refine (qg2_.calls k y5_0_0 y5_0_1 _ _ z11 1 y16_0 _ (Kd.qt1_ H5_0_2.out.C (by repeat (first|(with_reducible first|exact Below.refl _ _|apply qb_|apply qa_|apply qc_)|exact Below.refl _ _))) H5_0_2L.out E16.out).mono ?_);rintro e w16 ⟨rfl,hb⟩;have D_:Below w15.heap.size w15 w16:=qf_ (by repeat (first|(with_reducible first|exact Below.refl _ _|apply qb_|apply qa_|apply qc_)|exact Below.refl _ _)) hb;replace HS0:=aK (show SrAt w16 (w3.heap.size) (y3_0_0) (y3_0_1) (.slice A_H3_0_2 y3_0_2.length c_H3_0_2) from ql_ HS0.out D_);replace HS1:=aK (show SrAt w16 (w5.heap.size) (y5_0_0) (y5_0_1) (.slice A_H5_0_2 z11.length c_H5_0_2) from ql_ HS1.out D_);replace HS2:=aK (show SrAt w16 (w14.heap.size) (y14_0_0) (y14_0_1) (.slice A_H14_0_2 y14_0_2.length c_H14_0_2) from ql_ HS2.out D_);replace H2_0:=aK (H2_0.out.below D_);replace H3_0_2:=aK (H3_0_2.out.below D_);replace H5_0_2:=aK (H5_0_2.out.below D_);replace H7_0:=aK (H7_0.out.below D_);replace H13_0:=aK (H13_0.out.below D_);replace H14_0_2:=aK (H14_0_2.out.below D_);have B16:=aK (qf_ B15.out D_);replace LB0:=aK (show w3.heap.size < w16.heap.size from blk_lt HS0.out);replace LB1:=aK (show w5.heap.size < w16.heap.size from blk_lt HS1.out);replace LB2:=aK (show w14.heap.size < w16.heap.size from blk_lt HS2.out);clear D_ hb;have PS_H2_0:=aK (show hi_H2_0≤w16.heap.size from And.right H2_0.out);have PS_H3_0_2:=aK (show hi_H3_0_2≤w16.heap.size from And.right H3_0_2.out);have PS_H7_0:=aK (show hi_H7_0≤w16.heap.size from And.right H7_0.out);have PS_H13_0:=aK (show hi_H13_0≤w16.heap.size from And.right H13_0.out);have PS_H14_0_2:=aK (show hi_H14_0_2≤w16.heap.size from And.right H14_0_2.out);clear z0_0 z0_1 z0_2 z1_0 z1_1 z1_2 z2_0 z2_1 z2_2;have z0_0:w16.cell? ⟨w3.heap.size,0,none⟩=some (.int .i64 y3_0_0):=SrAt.c0 HS0.out;have z0_1:w16.cell? ⟨w3.heap.size,1,none⟩=some (.int .i64 y3_0_1):=SrAt.c1 HS0.out;have z0_2:w16.cell? ⟨w3.heap.size,2,none⟩=some (.slice A_H3_0_2 y3_0_2.length c_H3_0_2):=SrAt.c2 HS0.out;have z1_0:w16.cell? ⟨w5.heap.size,0,none⟩=some (.int .i64 y5_0_0):=SrAt.c0 HS1.out;have z1_1:w16.cell? ⟨w5.heap.size,1,none⟩=some (.int .i64 y5_0_1):=SrAt.c1 HS1.out;have z1_2:w16.cell? ⟨w5.heap.size,2,none⟩=some (.slice A_H5_0_2 z11.length c_H5_0_2):=SrAt.c2 HS1.out;have z2_0:w16.cell? ⟨w14.heap.size,0,none⟩=some (.int .i64 y14_0_0):=SrAt.c0 HS2.out;have z2_1:w16.cell? ⟨w14.heap.size,1,none⟩=some (.int .i64 y14_0_1):=SrAt.c1 HS2.out;have z2_2:w16.cell? ⟨w14.heap.size,2,none⟩=some (.slice A_H14_0_2 y14_0_2.length c_H14_0_2):=SrAt.c2 HS2.out)
  go_ret
  exact ⟨rfl,B16.out⟩
end Go.Proofs.Ytaiefdhenikiiaa.Base
namespace Go.Proofs.Ytaiefdhenikiiaa.PFnExactSignatureOfCoordinates
open Go.RowKit Go.Proofs.YtaiefdhenikiiaaW.PrintWords Go.Proofs.YtaiefdhenikiiaaO Go.Proofs.Ytaiefdhenikiiaa.Base
set_option linter.unusedVariables false
/-- What is known of such a value that came in. -/
def ok73 (x:S73):Prop:=(Lit.int .i64 x.f0).wf=true∧(Lit.int .i64 x.f1).wf=true
theorem opens73:Opens Try.prog 73 k73 ok73:=opens_iso (fun x:S73=>(x.f0,x.f1)) (fun p=>⟨p.1,p.2⟩) (fun _=>rfl) (opens_two Try.underlying73 rfl rfl (by kernel_rfl) (opens_int Try.underlying2 (by kernel_rfl)) (opens_int Try.underlying2 (by kernel_rfl)))
/-- What is known of such a value that came in. -/
def ok75 (x:S75):Prop:=x.f0.size≤9223372036854775807∧ok73 x.f1
theorem opens75:Opens Try.prog 75 k75 ok75:=opens_iso (fun x:S75=>(x.f0,x.f1)) (fun p=>⟨p.1,p.2⟩) (fun _=>rfl) (opens_two Try.underlying75 rfl rfl (by kernel_rfl) (opens_string Try.underlying9 (by kernel_rfl)) opens73)
def qg1_.Pure:Prop:=∀ (a0:Int) (a1:Int) (l2:List (S75)),(Lit.int .i64 a0).wf=true→(Lit.int .i64 a1).wf=true→(l2.length≤9223372036854775807∧∀ a_ ∈ l2,ok75 a_)→∃ k,qg1_.f k a0 a1 l2=some true
end Go.Proofs.Ytaiefdhenikiiaa.PFnExactSignatureOfCoordinates
namespace Go.Proofs.Ytaiefdhenikiiaa.Pure
open Go.RowKit Go.Proofs.Ytaiefdhenikiiaa.Base Go.Proofs.Ytaiefdhenikiiaa.PFnExactSignatureOfCoordinates Go.Proofs.YtaiefdhenikiiaaW.PrintWords Go.Proofs.YtaiefdhenikiiaaW.PrintLast
set_option linter.unusedSimpArgs false
set_option linter.unusedVariables false
theorem FnExactSignatureOfCoordinates:qg1_.Pure:=by
  intro x0 x1 l2 _ _ hl2
  obtain ⟨hn,hok⟩:=hl2
  obtain ⟨v,hs,hsz⟩:=sz_is l2 hn (fun x hx=>(hok x hx).1) 1048576 (by omega) (by omega)
  unfold qg1_.f
  refine Ev.rounds (Ev.bind hs ?_)
  by_cases c:v < 0
  · simp only [c,if_true];exact Ev.now _
  · simp only [c,if_false]
    obtain ⟨h1,h2⟩:=hsz (by omega)
    have hcp:=toT_is l2 (by omega)
    obtain ⟨X,hX⟩:∃ X,X=l2.map toX:=⟨_,rfl⟩
    rw [← hX] at hcp
    have hXl:X.length=l2.length:=by rw [hX,List.length_map]
    have hXs:X.length≤1048576∧∀ x ∈ X,x.f0.size≤1048576:=⟨by omega,fun x hx=>by
      rw [hX] at hx
      obtain ⟨y,hy,rfl⟩:=List.mem_map.1 hx
      exact h2 y hy⟩
    have hsame:=eqT_same X (by omega)
    obtain ⟨X',_,hmark,_⟩:=marksT X (by omega)
    have hlen:=sigCo_len x0 x1 X
    obtain ⟨⟨R1,R2,R,C⟩,hR⟩:∃ q,q=sigCo x0 x1 X:=⟨_,rfl⟩
    rw [← hR] at hlen
    have hI:qw1_.f x0 x1 X=some (R1,R2,R,C):=by unfold qw1_.f;rw [if_pos hXs,hR]
    have hS:qb2_.f x0 x1 X=some (R1,R2,R,C):=by unfold qb2_.f;rw [if_pos hXs,hR]
    have eR:=eqSer_id R1 R2 R hlen
    obtain ⟨R',mR,dR⟩:=marksSer_id R1 R2 R hlen
    refine Ev.bind hcp ?_
    simp only [hS,Option.bind_some]
    refine Ev.bind hcp ?_
    simp only [hI,Option.bind_some,if_true]
    refine Ev.bind eR ?_
    refine Ev.congr (fun _=>if_pos rfl) ?_
    refine Ev.bind hcp (Ev.bind hsame ?_)
    refine Ev.congr (fun _=>if_pos rfl) ?_
    refine Ev.bind hmark ?_
    dsimp only
    refine Ev.congr (fun _=>if_pos (by omega)) ?_
    refine Ev.bind eR ?_
    refine Ev.congr (fun _=>if_pos rfl) ?_
    refine Ev.bind mR ?_
    dsimp only
    refine Ev.congr (fun _=>if_pos (by omega)) ?_
    refine Ev.bind dR ?_
    refine Ev.congr (fun _=>if_pos ⟨by omega,rfl⟩) ?_
    refine Ev.bind hcp ?_
    simp only [hI,Option.bind_some,if_true]
    refine Ev.bind eR ?_
    refine Ev.congr (fun _=>if_pos rfl) ?_
    refine Ev.bind dR ?_
    refine Ev.congr (fun _=>if_pos ⟨by omega,rfl⟩) ?_
    exact Ev.now _
end Go.Proofs.Ytaiefdhenikiiaa.Pure
