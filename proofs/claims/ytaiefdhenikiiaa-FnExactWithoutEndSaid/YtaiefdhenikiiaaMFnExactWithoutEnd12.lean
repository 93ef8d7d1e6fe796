/- What functions answer. No condition. -/
import Derived.Test.YtaiefdhenikiiaaMFnExactWithoutEnd11
namespace Go.Proofs.Ytaiefdhenikiiaa.Base
open Go.RowKit Go.Proofs.YtaiefdhenikiiaaW.PrintWords Go.Proofs.YtaiefdhenikiiaaW.PrintLast Go.Proofs.YtaiefdhenikiiaaW.PrintMore
attribute [local go_sem] max2_int qv1_ max_two min_two max_three min_three max_four min_four Go.Proofs.YtaiefdhenikiiaaZ.qe1_   -- for this text's walks alone
set_option linter.unusedVariables false
set_option linter.unusedSimpArgs false
mutual
def qj_.j0:Nat→ByteArray→Int→Int→Bool→Int→Int→List (S75)→Int→Int→List (S79)→Int→Int→List (S79)→Int→Int→List (S79)→Option (Bool)
 | 0,_,_,_,_,_,_,_,_,_,_,_,_,_,_,_,_=>none
 | k+1,x1,x7,x10,x47,O4,O3,O1,O0,N9,N8,V7,V6,V5,K4,K3,M4=>if x47=true then (some false) else ((qk1_.f k O4 O3 O1).bind fun Q3=>((qb1_.f k V7 V6 V5 Q3.1 Q3.2.1 Q3.2.2).bind fun U5=>(if U5=true then ((qo1_.f k V7 V6 V5 1).bind fun O9=>(if O9.1<0 then (qj_.j1 k x1 x7 true O4 O3 O1 O0 N9 N8 K4 K3 M4) else ((qb1_.f k K4 K3 M4 O0 N9 N8).bind fun O8=>(if O8=true then (qj_.j1 k x1 x7 (x10 != x7) O4 O3 O1 O0 N9 N8 K4 K3 M4) else (qj_.j1 k x1 x7 true O4 O3 O1 O0 N9 N8 K4 K3 M4))))) else (some false))))
def qj_.j1:Nat→ByteArray→Int→Bool→Int→Int→List (S75)→Int→Int→List (S79)→Int→Int→List (S79)→Option (Bool)
 | 0,_,_,_,_,_,_,_,_,_,_,_,_=>none
 | k+1,x1,x7,cV4,O4,O3,O1,O0,N9,N8,K4,K3,M4=>if cV4=true then (some false) else ((qo1_.f k K4 K3 M4 1).bind fun M7=>((qn1_.f k K4 K3 M7.2 1).bind fun M0=>(if M0<0 then (some false) else (if M0=M7.1 then ((qk1_.f k O4 O3 O1).bind fun L9=>((qy1_.f L9.1 L9.2.1 L9.2.2 x1).bind fun I7=>((qb1_.f k I7.1 I7.2.1 I7.2.2.1 O0 N9 N8).bind fun O7=>(if O7=true then (qj_.j2 k M7.1 (I7.2.2.2 != x7) K4 K3 M7.2) else (qj_.j2 k M7.1 true K4 K3 M7.2))))) else (some false)))))
def qj_.j2:Nat→Int→Bool→Int→Int→List (S79)→Option (Bool)
 | 0,_,_,_,_,_=>none
 | k+1,x12,x95,K4,K3,M4=>if x95=true then (some false) else ((qn1_.f k K4 K3 M4 1).bind fun M8=>(if M8<0 then (some false) else (if M8=x12 then (some true) else (some false))))
end
def qj_.f (k:Nat) (a0_0:Int) (a0_1:Int) (l0_2:List (S75)) (a1:ByteArray):Option (Bool):=if (a1.size:Int) > 1048576 then (some true) else ((qe2_.f k a0_0 a0_1 l0_2 1048576).bind fun Q4=>(if Q4<0 then (some true) else ((qk1_.f k a0_0 a0_1 l0_2).bind fun M9=>((qw1_.f k M9.1 M9.2.1 M9.2.2 a1).bind fun D7=>((qk1_.f k a0_0 a0_1 l0_2).bind fun E5=>((qy1_.f E5.1 E5.2.1 E5.2.2 a1).bind fun o8=>((qb1_.f k o8.1 o8.2.1 o8.2.2.1 D7.1 D7.2.1 D7.2.2.1).bind fun O5=>(if O5=true then (qj_.j0 k a1 D7.2.2.2 o8.2.2.2 (o8.2.2.2 != D7.2.2.2) a0_0 a0_1 l0_2 D7.1 D7.2.1 D7.2.2.1 E5.1 E5.2.1 E5.2.2 o8.1 o8.2.1 o8.2.2.1) else (qj_.j0 k a1 D7.2.2.2 o8.2.2.2 true a0_0 a0_1 l0_2 D7.1 D7.2.1 D7.2.2.1 E5.1 E5.2.1 E5.2.2 o8.1 o8.2.1 o8.2.2.1)))))))))
theorem qj_.mono_l:∀ k,(∀ y0 y1 y2 y3 y4 y5 y6 y7 y8 y9 y10 y11 cJ3 y13 cJ2 cJ1,LeO (qj_.j0 k y0 y1 y2 y3 y4 y5 y6 y7 y8 y9 y10 y11 cJ3 y13 cJ2 cJ1) (qj_.j0 (k+1) y0 y1 y2 y3 y4 y5 y6 y7 y8 y9 y10 y11 cJ3 y13 cJ2 cJ1))∧(∀ y0 y1 y2 y3 y4 y5 y6 y7 y8 y9 y10 y11,LeO (qj_.j1 k y0 y1 y2 y3 y4 y5 y6 y7 y8 y9 y10 y11) (qj_.j1 (k+1) y0 y1 y2 y3 y4 y5 y6 y7 y8 y9 y10 y11))∧(∀ y0 y1 y2 y3 y4,LeO (qj_.j2 k y0 y1 y2 y3 y4) (qj_.j2 (k+1) y0 y1 y2 y3 y4))
 | 0=>⟨fun _ _ _ _ _ _ _ _ _ _ _ _ _ _ _ _ r h=>by simp [qj_.j0] at h,fun _ _ _ _ _ _ _ _ _ _ _ _ r h=>by simp [qj_.j1] at h,fun _ _ _ _ _ r h=>by simp [qj_.j2] at h⟩
 | k+1=>by
  obtain ⟨ih0,ih1,ih2⟩:=qj_.mono_l k
  refine ⟨?_,?_,?_⟩
  ·intro y0 y1 y2 y3 y4 y5 y6 y7 y8 y9 y10 y11 cJ3 y13 cJ2 cJ1
   unfold qj_.j0
   repeat' first
   | (with_reducible exact ih0 _ _ _ _ _ _ _ _ _ _ _ _ _ _ _ _)
   | (with_reducible exact ih1 _ _ _ _ _ _ _ _ _ _ _ _)
   | (with_reducible exact ih2 _ _ _ _ _)
   | (with_reducible exact qb1_.mono _ _ _ _ _ _ _)
   | (with_reducible exact qn1_.mono _ _ _ _ _)
   | (with_reducible exact qo1_.mono _ _ _ _ _)
   | (with_reducible exact qe2_.mono _ _ _ _ _)
   | (with_reducible exact qk1_.mono _ _ _ _)
   | (with_reducible exact qw1_.mono _ _ _ _ _)
   | (with_reducible exact LeO.refl _)
   | (with_reducible exact LeO.none _)
   | (with_reducible refine LeO.ite ?_ ?_)
   | (with_reducible refine LeO.bind ?_ (fun _=>?_))
   | exact ih0 _ _ _ _ _ _ _ _ _ _ _ _ _ _ _ _
   | exact ih1 _ _ _ _ _ _ _ _ _ _ _ _
   | exact ih2 _ _ _ _ _
   | exact qb1_.mono _ _ _ _ _ _ _
   | exact qn1_.mono _ _ _ _ _
   | exact qo1_.mono _ _ _ _ _
   | exact qe2_.mono _ _ _ _ _
   | exact qk1_.mono _ _ _ _
   | exact qw1_.mono _ _ _ _ _
   | exact LeO.none _
   | refine LeO.ite ?_ ?_
   | refine LeO.bind ?_ (fun _=>?_)
  ·intro y0 y1 y2 y3 y4 y5 y6 y7 y8 y9 y10 y11
   unfold qj_.j1
   repeat' first
   | (with_reducible exact ih0 _ _ _ _ _ _ _ _ _ _ _ _ _ _ _ _)
   | (with_reducible exact ih1 _ _ _ _ _ _ _ _ _ _ _ _)
   | (with_reducible exact ih2 _ _ _ _ _)
   | (with_reducible exact qb1_.mono _ _ _ _ _ _ _)
   | (with_reducible exact qn1_.mono _ _ _ _ _)
   | (with_reducible exact qo1_.mono _ _ _ _ _)
   | (with_reducible exact qe2_.mono _ _ _ _ _)
   | (with_reducible exact qk1_.mono _ _ _ _)
   | (with_reducible exact qw1_.mono _ _ _ _ _)
   | (with_reducible exact LeO.refl _)
   | (with_reducible exact LeO.none _)
   | (with_reducible refine LeO.ite ?_ ?_)
   | (with_reducible refine LeO.bind ?_ (fun _=>?_))
   | exact ih0 _ _ _ _ _ _ _ _ _ _ _ _ _ _ _ _
   | exact ih1 _ _ _ _ _ _ _ _ _ _ _ _
   | exact ih2 _ _ _ _ _
   | exact qb1_.mono _ _ _ _ _ _ _
   | exact qn1_.mono _ _ _ _ _
   | exact qo1_.mono _ _ _ _ _
   | exact qe2_.mono _ _ _ _ _
   | exact qk1_.mono _ _ _ _
   | exact qw1_.mono _ _ _ _ _
   | exact LeO.none _
   | refine LeO.ite ?_ ?_
   | refine LeO.bind ?_ (fun _=>?_)
  ·intro y0 y1 y2 y3 y4
   unfold qj_.j2
   repeat' first
   | (with_reducible exact ih0 _ _ _ _ _ _ _ _ _ _ _ _ _ _ _ _)
   | (with_reducible exact ih1 _ _ _ _ _ _ _ _ _ _ _ _)
   | (with_reducible exact ih2 _ _ _ _ _)
   | (with_reducible exact qb1_.mono _ _ _ _ _ _ _)
   | (with_reducible exact qn1_.mono _ _ _ _ _)
   | (with_reducible exact qo1_.mono _ _ _ _ _)
   | (with_reducible exact qe2_.mono _ _ _ _ _)
   | (with_reducible exact qk1_.mono _ _ _ _)
   | (with_reducible exact qw1_.mono _ _ _ _ _)
   | (with_reducible exact LeO.refl _)
   | (with_reducible exact LeO.none _)
   | (with_reducible refine LeO.ite ?_ ?_)
   | (with_reducible refine LeO.bind ?_ (fun _=>?_))
   | exact ih0 _ _ _ _ _ _ _ _ _ _ _ _ _ _ _ _
   | exact ih1 _ _ _ _ _ _ _ _ _ _ _ _
   | exact ih2 _ _ _ _ _
   | exact qb1_.mono _ _ _ _ _ _ _
   | exact qn1_.mono _ _ _ _ _
   | exact qo1_.mono _ _ _ _ _
   | exact qe2_.mono _ _ _ _ _
   | exact qk1_.mono _ _ _ _
   | exact qw1_.mono _ _ _ _ _
   | exact LeO.none _
   | refine LeO.ite ?_ ?_
   | refine LeO.bind ?_ (fun _=>?_)
theorem qj_.mono:∀ a0 a1 a2 a3 k,LeO (qj_.f k a0 a1 a2 a3) (qj_.f (k+1) a0 a1 a2 a3):=by
 intro a0 a1 a2 a3 k
 obtain ⟨ih0,ih1,ih2⟩:=qj_.mono_l k
 unfold qj_.f
 repeat' first
   | (with_reducible exact ih0 _ _ _ _ _ _ _ _ _ _ _ _ _ _ _ _)
   | (with_reducible exact ih1 _ _ _ _ _ _ _ _ _ _ _ _)
   | (with_reducible exact ih2 _ _ _ _ _)
   | (with_reducible exact qb1_.mono _ _ _ _ _ _ _)
   | (with_reducible exact qn1_.mono _ _ _ _ _)
   | (with_reducible exact qo1_.mono _ _ _ _ _)
   | (with_reducible exact qe2_.mono _ _ _ _ _)
   | (with_reducible exact qk1_.mono _ _ _ _)
   | (with_reducible exact qw1_.mono _ _ _ _ _)
   | (with_reducible exact LeO.refl _)
   | (with_reducible exact LeO.none _)
   | (with_reducible refine LeO.ite ?_ ?_)
   | (with_reducible refine LeO.bind ?_ (fun _=>?_))
   | exact ih0 _ _ _ _ _ _ _ _ _ _ _ _ _ _ _ _
   | exact ih1 _ _ _ _ _ _ _ _ _ _ _ _
   | exact ih2 _ _ _ _ _
   | exact qb1_.mono _ _ _ _ _ _ _
   | exact qn1_.mono _ _ _ _ _
   | exact qo1_.mono _ _ _ _ _
   | exact qe2_.mono _ _ _ _ _
   | exact qk1_.mono _ _ _ _
   | exact qw1_.mono _ _ _ _ _
   | exact LeO.none _
   | refine LeO.ite ?_ ?_
   | refine LeO.bind ?_ (fun _=>?_)
set_option maxHeartbeats 8000000 in
set_option maxRecDepth 100000 in
theorem qj_.calls (k:Nat) (a0_0:Int) (a0_1:Int) (A0_2:Option Addr) (c0_2:Nat) (l0_2:List (S75)) (a1:ByteArray) (r:Bool) (w:World) (hr0_2:Kd.C k75 w A0_2 l0_2.length l0_2) (hc0_2:l0_2.length≤c0_2) (h:qj_.f k a0_0 a0_1 l0_2 a1=some r) :
  Calls Try.prog 6 #[.agg #[.int .i64 a0_0,.int .i64 a0_1,.slice A0_2 l0_2.length c0_2],.string a1] w fun e w'=>e=.returned (.bool r)∧Below w.heap.size w w':=by
 have hu32:=Try.underlying32
 have hu38:=Try.underlying38
 have HR0_2:=aK hr0_2
 have HC0_2:=aK hc0_2
 clear hr0_2 hc0_2
 have HB:=aK (Below.refl w.heap.size w)
 have H:(if (a1.size:Int) > 1048576 then (some true) else ((qe2_.f k a0_0 a0_1 l0_2 1048576).bind fun Q4=>(if Q4<0 then (some true) else ((qk1_.f k a0_0 a0_1 l0_2).bind fun M9=>((qw1_.f k M9.1 M9.2.1 M9.2.2 a1).bind fun D7=>((qk1_.f k a0_0 a0_1 l0_2).bind fun E5=>((qy1_.f E5.1 E5.2.1 E5.2.2 a1).bind fun o8=>((qb1_.f k o8.1 o8.2.1 o8.2.2.1 D7.1 D7.2.1 D7.2.2.1).bind fun O5=>(if O5=true then (qj_.j0 k a1 D7.2.2.2 o8.2.2.2 (o8.2.2.2 != D7.2.2.2) a0_0 a0_1 l0_2 D7.1 D7.2.1 D7.2.2.1 E5.1 E5.2.1 E5.2.2 o8.1 o8.2.1 o8.2.2.1) else (qj_.j0 k a1 D7.2.2.2 o8.2.2.2 true a0_0 a0_1 l0_2 D7.1 D7.2.1 D7.2.2.1 E5.1 E5.2.1 E5.2.2 o8.1 o8.2.1 o8.2.2.1))))))))))=some r:=h
 clear h
 by_cases c3:(a1.size:Int) > 1048576
 ·rw [if_pos c3] at H
  have c3b0:decide (1048576<(a1.size:Int))=true:=decide_eq_true c3
  have c3b1:decide (1048576<a1.size)=true:=decide_eq_true (by omega)
  clear c3
  obtain rfl:=Option.some.inj H
  go_enter Try.func6,Try.ntmps6
  go_wp2_with (first|((with_reducible refine qz_ (N:=2) rfl ?_);refine qv_ ?hg (N:=2) ?hd (cs:=#[.int .i64 a0_0,.int .i64 a0_1,.slice A0_2 l0_2.length c0_2]) (t:=32) ?hr ?_;(case hd=>rfl);(case hg=>rfl);(case hr=>first|(go_simp;done)|(go_simp;rfl));intro o9 hg w4 hbox hb;have n0_:=aK (qm_ (by repeat (first|(with_reducible first|exact HB.out|apply qb_|apply qa_|apply qc_)|exact HB.out)) hb);have n1_:=aK (hbox);have n2_:=aK ((by rw [hg];exact (qk_ (by repeat (first|(with_reducible first|exact HB.out|apply qb_|apply qa_|apply qc_)|exact HB.out))):w.heap.size≤o9));have n3_:=aK ((by rw [hg];exact (qk_ (by repeat (first|(with_reducible first|exact HB.out|apply qb_|apply qa_|apply qc_)|exact HB.out))):w.heap.size≤o9));clear HB;have HB:=n0_;have j6:=n1_;have cX3:=n2_;have r9:=n3_;clear n0_ n1_ n2_ n3_;clear hb hbox hg))
  go_ret
  exact ⟨by first|rfl|(simp [qn_,qo_] <;> rfl)|(simp [*,qn_,qo_] <;> rfl),by repeat (first|(with_reducible first|exact HB.out|apply qb_|apply qa_|apply qc_|refine qf_ ?_ r9.out)|exact HB.out)⟩
 ·rw [if_neg c3] at H
  have c3b0:decide (1048576<(a1.size:Int))=false:=decide_eq_false c3
  have c3b1:decide (1048576<a1.size)=false:=decide_eq_false (by omega)
  clear c3
  replace H:=Option.bind_eq_some_iff.mp H
  obtain ⟨Q4,A50,H⟩:=H
  replace H:(if Q4<0 then (some true) else ((qk1_.f k a0_0 a0_1 l0_2).bind fun M9=>((qw1_.f k M9.1 M9.2.1 M9.2.2 a1).bind fun D7=>((qk1_.f k a0_0 a0_1 l0_2).bind fun E5=>((qy1_.f E5.1 E5.2.1 E5.2.2 a1).bind fun o8=>((qb1_.f k o8.1 o8.2.1 o8.2.2.1 D7.1 D7.2.1 D7.2.2.1).bind fun O5=>(if O5=true then (qj_.j0 k a1 D7.2.2.2 o8.2.2.2 (o8.2.2.2 != D7.2.2.2) a0_0 a0_1 l0_2 D7.1 D7.2.1 D7.2.2.1 E5.1 E5.2.1 E5.2.2 o8.1 o8.2.1 o8.2.2.1) else (qj_.j0 k a1 D7.2.2.2 o8.2.2.2 true a0_0 a0_1 l0_2 D7.1 D7.2.1 D7.2.2.1 E5.1 E5.2.1 E5.2.2 o8.1 o8.2.1 o8.2.2.1))))))))=some r:=H
  have A5:=aK A50
  clear A50
  by_cases c6:Q4<0
  ·rw [if_pos c6] at H
   have c6b0:decide (Q4<0)=true:=decide_eq_true c6
   clear c6
   obtain rfl:=Option.some.inj H
   go_enter Try.func6,Try.ntmps6
   go_wp2_with (first|((with_reducible refine qz_ (N:=2) rfl ?_);refine qv_ ?hg (N:=2) ?hd (cs:=#[.int .i64 a0_0,.int .i64 a0_1,.slice A0_2 l0_2.length c0_2]) (t:=32) ?hr ?_;(case hd=>rfl);(case hg=>rfl);(case hr=>first|(go_simp;done)|(go_simp;rfl));intro o9 hg w7 hbox hb;have n0_:=aK (qm_ (by repeat (first|(with_reducible first|exact HB.out|apply qb_|apply qa_|apply qc_)|exact HB.out)) hb);have n1_:=aK (hbox);have n2_:=aK ((by rw [hg];exact (qk_ (by repeat (first|(with_reducible first|exact HB.out|apply qb_|apply qa_|apply qc_)|exact HB.out))):w.heap.size≤o9));have n3_:=aK ((by rw [hg];exact (qk_ (by repeat (first|(with_reducible first|exact HB.out|apply qb_|apply qa_|apply qc_)|exact HB.out))):w.heap.size≤o9));clear HB;have HB:=n0_;have j6:=n1_;have cX3:=n2_;have r9:=n3_;clear n0_ n1_ n2_ n3_;clear hb hbox hg;have hcz8_0:w7.cell? ⟨o9,0,none⟩=some (.int .i64 a0_0):=(qi_ j6.out 0).trans rfl;have hcz8_1:w7.cell? ⟨o9,1,none⟩=some (.int .i64 a0_1):=(qi_ j6.out 1).trans rfl;have hcz8_2:w7.cell? ⟨o9,2,none⟩=some (.slice A0_2 l0_2.length c0_2):=(qi_ j6.out 2).trans rfl;have hfz8_0:=qh_ j6.out 0;have hfz8_1:=qh_ j6.out 1;have hfz8_2:=qh_ j6.out 2)|((with_reducible refine qt_ (f:=28) rfl ?_);refine goesL_ (some 21) rfl rfl Try.func28 (by kernel_rfl) rfl #[.agg #[.int .i64 a0_0,.int .i64 a0_1,.slice A0_2 l0_2.length c0_2],.int .i64 1048576] rfl (by (try simp only [List.map_toArray,List.map_cons,List.map_nil]);first|done|rfl|(simp only [List.length_drop,List.length_take];rfl)) ?_;(with_reducible refine (qe2_.calls k a0_0 a0_1 _ _ l0_2 1048576 Q4 _ ?side1 ?side2 A5.out).mono ?_);(case side1=>repeat (first|exact (Kd.qn2_ HR0_2.out HB.out)|(with_reducible refine Kd.qi2_ ?_ _)|(with_reducible refine Kd.qh2_ ?_ _)|(with_reducible refine Kd.C_drew ?_)));(case side2=>exact HC0_2.out);rintro e w9 ⟨rfl,hb⟩;refine ⟨_,rfl,?_⟩;have n0_:=aK (ql_ (g:=o9) (o:=.cells #[.int .i64 a0_0,.int .i64 a0_1,.slice A0_2 l0_2.length c0_2] 32 (0,0)) (by (with_reducible repeat (first|refine qe_ ?_ _|refine qg_ ?_|refine qd_ ?_ _));exact j6.out) hb);have n1_:=aK (qm_ (by repeat (first|(with_reducible first|exact HB.out|apply qb_|apply qa_|apply qc_|refine qf_ ?_ r9.out)|exact HB.out)) hb);clear j6;clear HB;have j6:=n0_;have HB:=n1_;clear n0_ n1_;(try clear hb);(try clear hb2);(try clear hk);(try clear hi)))
   go_ret
   exact ⟨by first|rfl|(simp [qn_,qo_] <;> rfl)|(simp [*,qn_,qo_] <;> rfl),by repeat (first|(with_reducible first|exact HB.out|apply qb_|apply qa_|apply qc_|refine qf_ ?_ r9.out)|exact HB.out)⟩
  ·rw [if_neg c6] at H
   have c6b0:decide (Q4<0)=false:=decide_eq_false c6
   clear c6
   replace H:=Option.bind_eq_some_iff.mp H
   obtain ⟨⟨bW7,bW8,Q8⟩,cX4,H⟩:=H
   replace H:((qw1_.f k bW7 bW8 Q8 a1).bind fun D7=>((qk1_.f k a0_0 a0_1 l0_2).bind fun E5=>((qy1_.f E5.1 E5.2.1 E5.2.2 a1).bind fun o8=>((qb1_.f k o8.1 o8.2.1 o8.2.2.1 D7.1 D7.2.1 D7.2.2.1).bind fun O5=>(if O5=true then (qj_.j0 k a1 D7.2.2.2 o8.2.2.2 (o8.2.2.2 != D7.2.2.2) a0_0 a0_1 l0_2 D7.1 D7.2.1 D7.2.2.1 E5.1 E5.2.1 E5.2.2 o8.1 o8.2.1 o8.2.2.1) else (qj_.j0 k a1 D7.2.2.2 o8.2.2.2 true a0_0 a0_1 l0_2 D7.1 D7.2.1 D7.2.2.1 E5.1 E5.2.1 E5.2.2 o8.1 o8.2.1 o8.2.2.1))))))=some r:=H
   have cW6:=aK cX4
   clear cX4
   replace H:=Option.bind_eq_some_iff.mp H
   obtain ⟨⟨z8,C8,o6,G5⟩,A110,H⟩:=H
   replace H:((qk1_.f k a0_0 a0_1 l0_2).bind fun E5=>((qy1_.f E5.1 E5.2.1 E5.2.2 a1).bind fun o8=>((qb1_.f k o8.1 o8.2.1 o8.2.2.1 z8 C8 o6).bind fun O5=>(if O5=true then (qj_.j0 k a1 G5 o8.2.2.2 (o8.2.2.2 != G5) a0_0 a0_1 l0_2 z8 C8 o6 E5.1 E5.2.1 E5.2.2 o8.1 o8.2.1 o8.2.2.1) else (qj_.j0 k a1 G5 o8.2.2.2 true a0_0 a0_1 l0_2 z8 C8 o6 E5.1 E5.2.1 E5.2.2 o8.1 o8.2.1 o8.2.2.1)))))=some r:=H
   have A11:=aK A110
   clear A110
   replace H:=Option.bind_eq_some_iff.mp H
   obtain ⟨⟨F7,F8,F4⟩,cX5,H⟩:=H
   replace H:((qy1_.f F7 F8 F4 a1).bind fun o8=>((qb1_.f k o8.1 o8.2.1 o8.2.2.1 z8 C8 o6).bind fun O5=>(if O5=true then (qj_.j0 k a1 G5 o8.2.2.2 (o8.2.2.2 != G5) a0_0 a0_1 l0_2 z8 C8 o6 F7 F8 F4 o8.1 o8.2.1 o8.2.2.1) else (qj_.j0 k a1 G5 o8.2.2.2 true a0_0 a0_1 l0_2 z8 C8 o6 F7 F8 F4 o8.1 o8.2.1 o8.2.2.1))))=some r:=H
   have cW5:=aK cX5
   clear cX5
   replace H:=Option.bind_eq_some_iff.mp H
   obtain ⟨⟨l9,o5,l8,M6⟩,cX7,H⟩:=H
   replace H:((qb1_.f k l9 o5 l8 z8 C8 o6).bind fun O5=>(if O5=true then (qj_.j0 k a1 G5 M6 (M6 != G5) a0_0 a0_1 l0_2 z8 C8 o6 F7 F8 F4 l9 o5 l8) else (qj_.j0 k a1 G5 M6 true a0_0 a0_1 l0_2 z8 C8 o6 F7 F8 F4 l9 o5 l8)))=some r:=H
   have cW4:=aK cX7
   clear cX7
   have cQ6:=aK H
   clear H
   go_enter Try.func6,Try.ntmps6
   go_upto_region 10 with (first|((with_reducible refine qz_ (N:=2) rfl ?_);refine qv_ ?hg (N:=2) ?hd (cs:=#[.int .i64 a0_0,.int .i64 a0_1,.slice A0_2 l0_2.length c0_2]) (t:=32) ?hr ?_;(case hd=>rfl);(case hg=>rfl);(case hr=>first|(go_simp;done)|(go_simp;rfl));intro o9 hg w15 hbox hb;have n0_:=aK (qm_ (by repeat (first|(with_reducible first|exact HB.out|apply qb_|apply qa_|apply qc_)|exact HB.out)) hb);have n1_:=aK (hbox);have n2_:=aK ((by rw [hg];exact (qk_ (by repeat (first|(with_reducible first|exact HB.out|apply qb_|apply qa_|apply qc_)|exact HB.out))):w.heap.size≤o9));have n3_:=aK ((by rw [hg];exact (qk_ (by repeat (first|(with_reducible first|exact HB.out|apply qb_|apply qa_|apply qc_)|exact HB.out))):w.heap.size≤o9));clear HB;have HB:=n0_;have j6:=n1_;have cX3:=n2_;have r9:=n3_;clear n0_ n1_ n2_ n3_;clear hb hbox hg;have hcz16_0:w15.cell? ⟨o9,0,none⟩=some (.int .i64 a0_0):=(qi_ j6.out 0).trans rfl;have hcz16_1:w15.cell? ⟨o9,1,none⟩=some (.int .i64 a0_1):=(qi_ j6.out 1).trans rfl;have hcz16_2:w15.cell? ⟨o9,2,none⟩=some (.slice A0_2 l0_2.length c0_2):=(qi_ j6.out 2).trans rfl;have hfz16_0:=qh_ j6.out 0;have hfz16_1:=qh_ j6.out 1;have hfz16_2:=qh_ j6.out 2)|((with_reducible refine qt_ (f:=28) rfl ?_);refine goesL_ (some 21) rfl rfl Try.func28 (by kernel_rfl) rfl #[.agg #[.int .i64 a0_0,.int .i64 a0_1,.slice A0_2 l0_2.length c0_2],.int .i64 1048576] rfl (by (try simp only [List.map_toArray,List.map_cons,List.map_nil]);first|done|rfl|(simp only [List.length_drop,List.length_take];rfl)) ?_;(with_reducible refine (qe2_.calls k a0_0 a0_1 _ _ l0_2 1048576 Q4 _ ?side1 ?side2 A5.out).mono ?_);(case side1=>repeat (first|exact (Kd.qn2_ HR0_2.out HB.out)|(with_reducible refine Kd.qi2_ ?_ _)|(with_reducible refine Kd.qh2_ ?_ _)|(with_reducible refine Kd.C_drew ?_)));(case side2=>exact HC0_2.out);rintro e w17 ⟨rfl,hb⟩;refine ⟨_,rfl,?_⟩;have n0_:=aK (ql_ (g:=o9) (o:=.cells #[.int .i64 a0_0,.int .i64 a0_1,.slice A0_2 l0_2.length c0_2] 32 (0,0)) (by (with_reducible repeat (first|refine qe_ ?_ _|refine qg_ ?_|refine qd_ ?_ _));exact j6.out) hb);have n1_:=aK (qm_ (by repeat (first|(with_reducible first|exact HB.out|apply qb_|apply qa_|apply qc_|refine qf_ ?_ r9.out)|exact HB.out)) hb);clear j6;clear HB;have j6:=n0_;have HB:=n1_;clear n0_ n1_;(try clear hb);(try clear hb2);(try clear hk);(try clear hi);have hcz18_0:w17.cell? ⟨o9,0,none⟩=some (.int .i64 a0_0):=(qi_ j6.out 0).trans rfl;have hcz18_1:w17.cell? ⟨o9,1,none⟩=some (.int .i64 a0_1):=(qi_ j6.out 1).trans rfl;have hcz18_2:w17.cell? ⟨o9,2,none⟩=some (.slice A0_2 l0_2.length c0_2):=(qi_ j6.out 2).trans rfl;have hfz18_0:=qh_ j6.out 0;have hfz18_1:=qh_ j6.out 1;have hfz18_2:=qh_ j6.out 2)|((with_reducible refine qt_ (f:=30) rfl ?_);refine goesL_ (some 26) rfl rfl Try.func30 (by kernel_rfl) rfl #[.agg #[.int .i64 a0_0,.int .i64 a0_1,.slice A0_2 l0_2.length c0_2]] rfl (by (try simp only [List.map_toArray,List.map_cons,List.map_nil]);first|done|rfl|(simp only [List.length_drop,List.length_take];rfl)) ?_;(with_reducible refine (qk1_.calls k a0_0 a0_1 _ _ l0_2 bW7 bW8 Q8 _ ?side1 ?side2 cW6.out).mono ?_);(case side1=>repeat (first|exact (Kd.qn2_ HR0_2.out HB.out)|(with_reducible refine Kd.qi2_ ?_ _)|(with_reducible refine Kd.qh2_ ?_ _)|(with_reducible refine Kd.C_drew ?_)));(case side2=>exact HC0_2.out);rintro e w19 ⟨v557,rfl,ho0,hb⟩;refine ⟨_,rfl,?_⟩;have n0_:=aK (Kd.qt2_ ho0 (qk_ (by repeat (first|(with_reducible first|exact HB.out|apply qb_|apply qa_|apply qc_|refine qf_ ?_ r9.out)|exact HB.out))));have n1_:=aK (ql_ (g:=o9) (o:=.cells #[.int .i64 a0_0,.int .i64 a0_1,.slice A0_2 l0_2.length c0_2] 32 (0,0)) (by (with_reducible repeat (first|refine qe_ ?_ _|refine qg_ ?_|refine qd_ ?_ _));exact j6.out) hb);have n2_:=aK (qm_ (by repeat (first|(with_reducible first|exact HB.out|apply qb_|apply qa_|apply qc_|refine qf_ ?_ r9.out)|exact HB.out)) hb);clear j6;clear HB;have H5:=n0_;have j6:=n1_;have HB:=n2_;clear n0_ n1_ n2_;(try clear hb);(try clear hb2);(try clear hk);(try clear hi);(try clear ho0);obtain ⟨bV1,Z9,cJ8⟩:=Kd.qq2_ H5.out;subst cJ8)|((with_reducible refine qt_ (f:=40) rfl ?_);refine goesL_ (some 28) rfl rfl Try.func40 (by kernel_rfl) rfl #[.agg #[.int .i64 bW7,.int .i64 bW8,.slice bV1 Q8.length Z9],.string a1] rfl (by (try simp only [List.map_toArray,List.map_cons,List.map_nil]);first|done|rfl|(simp only [List.length_drop,List.length_take];rfl)) ?_;(with_reducible refine (qw1_.calls k bW7 bW8 _ _ Q8 a1 z8 C8 o6 G5 _ ?side1 ?side2 A11.out).mono ?_);(case side1=>repeat (first|exact (Kd.qp1_ H5.out).2.2|(with_reducible refine Kd.qi2_ ?_ _)|(with_reducible refine Kd.qh2_ ?_ _)|(with_reducible refine Kd.C_drew ?_)));(case side2=>exact (Kd.qp1_ H5.out).2.1);rintro e w21 ⟨v562,rfl,ho0,hb⟩;refine ⟨_,rfl,?_⟩;have n0_:=aK (Kd.qs2_ (by (with_reducible repeat (first|apply Kd.qq_|apply Kd.qr_|apply Kd.R_drew));exact H5.out) (Kd.R_base ho0) hb);have n1_:=aK (Kd.qt2_ (Kd.R_new' ho0 (Kd.R_lt (by (with_reducible repeat (first|apply Kd.qq_|apply Kd.qr_|apply Kd.R_drew));exact H5.out))) (qk_ (by repeat (first|(with_reducible first|exact HB.out|apply qb_|apply qa_|apply qc_|refine qf_ ?_ r9.out)|exact HB.out))));have n2_:=aK (ql_ (g:=o9) (o:=.cells #[.int .i64 a0_0,.int .i64 a0_1,.slice A0_2 l0_2.length c0_2] 32 (0,0)) (by (with_reducible repeat (first|refine qe_ ?_ _|refine qg_ ?_|refine qd_ ?_ _));exact j6.out) hb);have n3_:=aK (qm_ (by repeat (first|(with_reducible first|exact HB.out|apply qb_|apply qa_|apply qc_|refine qf_ ?_ r9.out)|exact HB.out)) hb);clear H5;clear j6;clear HB;have H5:=n0_;have G9:=n1_;have j6:=n2_;have HB:=n3_;clear n0_ n1_ n2_ n3_;(try clear hb);(try clear hb2);(try clear hk);(try clear hi);(try clear ho0))|((with_reducible refine qz_ (N:=6) rfl ?_);refine qv_ ?hg (N:=6) ?hd (cs:=#[.int .i64 0,.int .i64 0,.slice none 0 0]) (t:=38) ?hr ?_;(case hd=>rfl);(case hg=>rfl);(case hr=>first|(go_simp;done)|(go_simp;rfl));intro p8 hg w22 hbox hb;have n0_:=aK (Kd.qj1_ (by (with_reducible repeat (first|apply Kd.qq_|apply Kd.qr_|apply Kd.R_drew));exact H5.out) hb);have n1_:=aK (Kd.qj1_ (by (with_reducible repeat (first|apply Kd.qq_|apply Kd.qr_|apply Kd.R_drew));exact G9.out) hb);have n2_:=aK (ql_ (g:=o9) (o:=.cells #[.int .i64 a0_0,.int .i64 a0_1,.slice A0_2 l0_2.length c0_2] 32 (0,0)) (by (with_reducible repeat (first|refine qe_ ?_ _|refine qg_ ?_|refine qd_ ?_ _));exact j6.out) hb);have n3_:=aK (qm_ (by repeat (first|(with_reducible first|exact HB.out|apply qb_|apply qa_|apply qc_|refine qf_ ?_ r9.out)|exact HB.out)) hb);have n4_:=aK (hbox);have n5_:=aK ((by rw [hg];exact (qk_ (by repeat (first|(with_reducible first|exact HB.out|apply qb_|apply qa_|apply qc_|refine qf_ ?_ r9.out)|exact HB.out))):w.heap.size≤p8));have n6_:=aK ((by rw [hg];exact (qk_ (by repeat (first|(with_reducible first|exact HB.out|apply qb_|apply qa_|apply qc_|refine qf_ ?_ r9.out)|exact HB.out))):w.heap.size≤p8));have n7_:=aK ((by rw [hg];exact Nat.ne_of_lt (blk_lt (g:=o9) (o:=.cells #[.int .i64 a0_0,.int .i64 a0_1,.slice A0_2 l0_2.length c0_2] 32 (0,0)) (by (with_reducible repeat (first|refine qe_ ?_ _|refine qg_ ?_|refine qd_ ?_ _));exact j6.out)):o9≠p8));have n8_:=aK ((by rw [hg];exact Nat.ne_of_gt (blk_lt (g:=o9) (o:=.cells #[.int .i64 a0_0,.int .i64 a0_1,.slice A0_2 l0_2.length c0_2] 32 (0,0)) (by (with_reducible repeat (first|refine qe_ ?_ _|refine qg_ ?_|refine qd_ ?_ _));exact j6.out)):p8≠o9));clear H5;clear G9;clear j6;clear HB;have H5:=n0_;have G9:=n1_;have j6:=n2_;have HB:=n3_;have l5:=n4_;have GW565:=n5_;have D6:=n6_;have I5:=n7_;have J7:=n8_;clear n0_ n1_ n2_ n3_ n4_ n5_ n6_ n7_ n8_;clear hb hbox hg;have hnb23:=J7.out;have hnc23:=I5.out;have hcz24_0:w22.cell? ⟨p8,0,none⟩=some (.int .i64 0):=(qi_ l5.out 0).trans rfl;have hcz24_1:w22.cell? ⟨p8,1,none⟩=some (.int .i64 0):=(qi_ l5.out 1).trans rfl;have hcz24_2:w22.cell? ⟨p8,2,none⟩=some (.slice none 0 0):=(qi_ l5.out 2).trans rfl;have hfz24_0:=qh_ l5.out 0;have hfz24_1:=qh_ l5.out 1;have hfz24_2:=qh_ l5.out 2;obtain ⟨F5,E8,cJ7⟩:=Kd.qq2_ G9.out;subst cJ7;have hcz26_0:w22.cell? ⟨o9,0,none⟩=some (.int .i64 a0_0):=(qi_ j6.out 0).trans rfl;have hcz26_1:w22.cell? ⟨o9,1,none⟩=some (.int .i64 a0_1):=(qi_ j6.out 1).trans rfl;have hcz26_2:w22.cell? ⟨o9,2,none⟩=some (.slice A0_2 l0_2.length c0_2):=(qi_ j6.out 2).trans rfl;have hfz26_0:=qh_ j6.out 0;have hfz26_1:=qh_ j6.out 1;have hfz26_2:=qh_ j6.out 2)|((with_reducible refine qt_ (f:=30) rfl ?_);refine goesL_ (some 32) rfl rfl Try.func30 (by kernel_rfl) rfl #[.agg #[.int .i64 a0_0,.int .i64 a0_1,.slice A0_2 l0_2.length c0_2]] rfl (by (try simp only [List.map_toArray,List.map_cons,List.map_nil]);first|done|rfl|(simp only [List.length_drop,List.length_take];rfl)) ?_;(with_reducible refine (qk1_.calls k a0_0 a0_1 _ _ l0_2 F7 F8 F4 _ ?side1 ?side2 cW5.out).mono ?_);(case side1=>exact Kd.qn2_ HR0_2.out (by repeat (first|(with_reducible first|exact HB.out|apply qb_|apply qa_|apply qc_|refine qf_ ?_ r9.out|refine qf_ ?_ D6.out)|exact HB.out)));(case side2=>exact HC0_2.out);rintro e w27 ⟨v569,rfl,ho0,hb⟩;refine ⟨_,rfl,?_⟩;have n0_:=aK (Kd.qs2_ (by (with_reducible repeat (first|apply Kd.qq_|apply Kd.qr_|apply Kd.R_drew));exact (Kd.R_mono (Kd.R_far (p:=⟨p8,2,none⟩) (Kd.R_far (p:=⟨p8,1,none⟩) (Kd.R_far (p:=⟨p8,0,none⟩) (Kd.qg2_ H5.out l5.out (by decide)) (fun _ hk=>hk.2) (.int .i64 z8)) (fun _ hk=>hk.2) (.int .i64 C8)) (fun _ hk=>hk.2) (.slice F5 o6.length E8)) (fun _ h_=>h_.1))) (Kd.R_base ho0) hb);have n1_:=aK (Kd.qs2_ (by (with_reducible repeat (first|apply Kd.qq_|apply Kd.qr_|apply Kd.R_drew));exact (Kd.R_mono (Kd.R_far (p:=⟨p8,2,none⟩) (Kd.R_far (p:=⟨p8,1,none⟩) (Kd.R_far (p:=⟨p8,0,none⟩) (Kd.qg2_ G9.out l5.out (by decide)) (fun _ hk=>hk.2) (.int .i64 z8)) (fun _ hk=>hk.2) (.int .i64 C8)) (fun _ hk=>hk.2) (.slice F5 o6.length E8)) (fun _ h_=>h_.1))) (Kd.R_base ho0) hb);have n2_:=aK (Kd.qt2_ (Kd.R_new' (Kd.R_new' ho0 (Kd.R_lt (by (with_reducible repeat (first|apply Kd.qq_|apply Kd.qr_|apply Kd.R_drew));exact (Kd.R_mono (Kd.R_far (p:=⟨p8,2,none⟩) (Kd.R_far (p:=⟨p8,1,none⟩) (Kd.R_far (p:=⟨p8,0,none⟩) (Kd.qg2_ H5.out l5.out (by decide)) (fun _ hk=>hk.2) (.int .i64 z8)) (fun _ hk=>hk.2) (.int .i64 C8)) (fun _ hk=>hk.2) (.slice F5 o6.length E8)) (fun _ h_=>h_.1))))) (Kd.R_lt (by (with_reducible repeat (first|apply Kd.qq_|apply Kd.qr_|apply Kd.R_drew));exact (Kd.R_mono (Kd.R_far (p:=⟨p8,2,none⟩) (Kd.R_far (p:=⟨p8,1,none⟩) (Kd.R_far (p:=⟨p8,0,none⟩) (Kd.qg2_ G9.out l5.out (by decide)) (fun _ hk=>hk.2) (.int .i64 z8)) (fun _ hk=>hk.2) (.int .i64 C8)) (fun _ hk=>hk.2) (.slice F5 o6.length E8)) (fun _ h_=>h_.1))))) (qk_ (by repeat (first|(with_reducible first|exact HB.out|apply qb_|apply qa_|apply qc_|refine qf_ ?_ r9.out|refine qf_ ?_ D6.out)|exact HB.out))));have n3_:=aK (ql_ (g:=o9) (o:=.cells #[.int .i64 a0_0,.int .i64 a0_1,.slice A0_2 l0_2.length c0_2] 32 (0,0)) (by (with_reducible repeat (first|refine qe_ ?_ _|refine qg_ ?_|refine qd_ ?_ _));refine qa1_ ?_ I5.out _;(with_reducible repeat (first|refine qe_ ?_ _|refine qg_ ?_|refine qd_ ?_ _));refine qa1_ ?_ I5.out _;(with_reducible repeat (first|refine qe_ ?_ _|refine qg_ ?_|refine qd_ ?_ _));refine qa1_ ?_ I5.out _;(with_reducible repeat (first|refine qe_ ?_ _|refine qg_ ?_|refine qd_ ?_ _));exact j6.out) hb);have n4_:=aK (ql_ (g:=p8) (o:=.cells #[.int .i64 z8,.int .i64 C8,.slice F5 o6.length E8] 38 (0,0)) (by (with_reducible repeat (first|refine qe_ ?_ _|refine qg_ ?_|refine qd_ ?_ _));refine qy_ (cs:=#[.int .i64 z8,.int .i64 C8,.slice none 0 0]) ?_ 2 _ rfl;(with_reducible repeat (first|refine qe_ ?_ _|refine qg_ ?_|refine qd_ ?_ _));refine qy_ (cs:=#[.int .i64 z8,.int .i64 0,.slice none 0 0]) ?_ 1 _ rfl;(with_reducible repeat (first|refine qe_ ?_ _|refine qg_ ?_|refine qd_ ?_ _));refine qy_ (cs:=#[.int .i64 0,.int .i64 0,.slice none 0 0]) ?_ 0 _ rfl;(with_reducible repeat (first|refine qe_ ?_ _|refine qg_ ?_|refine qd_ ?_ _));exact l5.out) hb);have n5_:=aK (qm_ (by repeat (first|(with_reducible first|exact HB.out|apply qb_|apply qa_|apply qc_|refine qf_ ?_ r9.out|refine qf_ ?_ D6.out)|exact HB.out)) hb);clear H5;clear G9;clear j6;clear l5;clear HB;have H5:=n0_;have G9:=n1_;have J5:=n2_;have j6:=n3_;have l5:=n4_;have HB:=n5_;clear n0_ n1_ n2_ n3_ n4_ n5_;(try clear hb);(try clear hb2);(try clear hk);(try clear hi);(try clear ho0))|((with_reducible refine qz_ (N:=8) rfl ?_);refine qv_ ?hg (N:=8) ?hd (cs:=#[.int .i64 0,.int .i64 0,.slice none 0 0]) (t:=38) ?hr ?_;(case hd=>rfl);(case hg=>rfl);(case hr=>first|(go_simp;done)|(go_simp;rfl));intro q8 hg w28 hbox hb;have n0_:=aK (Kd.qj1_ (by (with_reducible repeat (first|apply Kd.qq_|apply Kd.qr_|apply Kd.R_drew));exact H5.out) hb);have n1_:=aK (Kd.qj1_ (by (with_reducible repeat (first|apply Kd.qq_|apply Kd.qr_|apply Kd.R_drew));exact G9.out) hb);have n2_:=aK (Kd.qj1_ (by (with_reducible repeat (first|apply Kd.qq_|apply Kd.qr_|apply Kd.R_drew));exact J5.out) hb);have n3_:=aK (ql_ (g:=o9) (o:=.cells #[.int .i64 a0_0,.int .i64 a0_1,.slice A0_2 l0_2.length c0_2] 32 (0,0)) (by (with_reducible repeat (first|refine qe_ ?_ _|refine qg_ ?_|refine qd_ ?_ _));exact j6.out) hb);have n4_:=aK (ql_ (g:=p8) (o:=.cells #[.int .i64 z8,.int .i64 C8,.slice F5 o6.length E8] 38 (0,0)) (by (with_reducible repeat (first|refine qe_ ?_ _|refine qg_ ?_|refine qd_ ?_ _));exact l5.out) hb);have n5_:=aK (qm_ (by repeat (first|(with_reducible first|exact HB.out|apply qb_|apply qa_|apply qc_|refine qf_ ?_ r9.out|refine qf_ ?_ D6.out)|exact HB.out)) hb);have n6_:=aK (hbox);have n7_:=aK ((by rw [hg];exact (qk_ (by repeat (first|(with_reducible first|exact HB.out|apply qb_|apply qa_|apply qc_|refine qf_ ?_ r9.out|refine qf_ ?_ D6.out)|exact HB.out))):w.heap.size≤q8));have n8_:=aK ((by rw [hg];exact (qk_ (by repeat (first|(with_reducible first|exact HB.out|apply qb_|apply qa_|apply qc_|refine qf_ ?_ r9.out|refine qf_ ?_ D6.out)|exact HB.out))):w.heap.size≤q8));have n9_:=aK ((by rw [hg];exact Nat.ne_of_lt (blk_lt (g:=o9) (o:=.cells #[.int .i64 a0_0,.int .i64 a0_1,.slice A0_2 l0_2.length c0_2] 32 (0,0)) (by (with_reducible repeat (first|refine qe_ ?_ _|refine qg_ ?_|refine qd_ ?_ _));exact j6.out)):o9≠q8));have n10_:=aK ((by rw [hg];exact Nat.ne_of_gt (blk_lt (g:=o9) (o:=.cells #[.int .i64 a0_0,.int .i64 a0_1,.slice A0_2 l0_2.length c0_2] 32 (0,0)) (by (with_reducible repeat (first|refine qe_ ?_ _|refine qg_ ?_|refine qd_ ?_ _));exact j6.out)):q8≠o9));have n11_:=aK ((by rw [hg];exact Nat.ne_of_lt (blk_lt (g:=p8) (o:=.cells #[.int .i64 z8,.int .i64 C8,.slice F5 o6.length E8] 38 (0,0)) (by (with_reducible repeat (first|refine qe_ ?_ _|refine qg_ ?_|refine qd_ ?_ _));exact l5.out)):p8≠q8));have n12_:=aK ((by rw [hg];exact Nat.ne_of_gt (blk_lt (g:=p8) (o:=.cells #[.int .i64 z8,.int .i64 C8,.slice F5 o6.length E8] 38 (0,0)) (by (with_reducible repeat (first|refine qe_ ?_ _|refine qg_ ?_|refine qd_ ?_ _));exact l5.out)):q8≠p8));clear H5;clear G9;clear J5;clear j6;clear l5;clear HB;have H5:=n0_;have G9:=n1_;have J5:=n2_;have j6:=n3_;have l5:=n4_;have HB:=n5_;have l6:=n6_;have GW571:=n7_;have D9:=n8_;have L8:=n9_;have P8:=n10_;have I4:=n11_;have J6:=n12_;clear n0_ n1_ n2_ n3_ n4_ n5_ n6_ n7_ n8_ n9_ n10_ n11_ n12_;clear hb hbox hg;have hnb29:=P8.out;have hnc29:=L8.out;have hnb30:=J6.out;have hnc30:=I4.out;have hcz31_0:w28.cell? ⟨q8,0,none⟩=some (.int .i64 0):=(qi_ l6.out 0).trans rfl;have hcz31_1:w28.cell? ⟨q8,1,none⟩=some (.int .i64 0):=(qi_ l6.out 1).trans rfl;have U3:w28.cell? ⟨q8,2,none⟩=some (.slice none 0 0):=(qi_ l6.out 2).trans rfl;have hfz31_0:=qh_ l6.out 0;have hfz31_1:=qh_ l6.out 1;have R8:=qh_ l6.out 2;obtain ⟨Ao32,co32,eo32⟩:=Kd.qq2_ J5.out;subst eo32)|((with_reducible refine qt_ (f:=41) rfl ?_);refine goesL_ (some 36) rfl rfl Try.func41 (by kernel_rfl) rfl #[.agg #[.int .i64 F7,.int .i64 F8,.slice Ao32 F4.length co32],.string a1] rfl (by (try simp only [List.map_toArray,List.map_cons,List.map_nil]);first|done|rfl|(simp only [List.length_drop,List.length_take];rfl)) ?_;(with_reducible refine (qy1_.calls F7 F8 _ _ F4 a1 l9 o5 l8 M6 _ ?side1 ?side2 cW4.out).mono ?_);(case side1=>refine (Kd.qp1_ (e:=79) (base:=w.heap.size) (ok:=fun k_=>((True∧some k_≠(.slice bV1 Q8.length Z9:Value).ownBlock)∧some k_≠(.slice F5 o6.length E8:Value).ownBlock)) (n:=F4.length) (c:=co32) ?_).2.2;exact (by (with_reducible repeat (first|apply Kd.qq_|apply Kd.qr_|apply Kd.R_drew));exact (Kd.R_mono (Kd.R_far (p:=⟨q8,2,none⟩) (Kd.R_far (p:=⟨q8,1,none⟩) (Kd.R_far (p:=⟨q8,0,none⟩) (Kd.qg2_ J5.out l6.out (by decide)) (fun _ hk=>hk.2) (.int .i64 F7)) (fun _ hk=>hk.2) (.int .i64 F8)) (fun _ hk=>hk.2) (.slice Ao32 F4.length co32)) (fun _ h_=>h_.1))));(case side2=>exact (Kd.qp1_ J5.out).2.1);rintro e w33 ⟨v575,rfl,ho0,hb⟩;refine ⟨_,rfl,?_⟩;have n0_:=aK (Kd.qs2_ (by (with_reducible repeat (first|apply Kd.qq_|apply Kd.qr_|apply Kd.R_drew));exact (Kd.R_mono (Kd.R_far (p:=⟨q8,2,none⟩) (Kd.R_far (p:=⟨q8,1,none⟩) (Kd.R_far (p:=⟨q8,0,none⟩) (Kd.qg2_ H5.out l6.out (by decide)) (fun _ hk=>hk.2) (.int .i64 F7)) (fun _ hk=>hk.2) (.int .i64 F8)) (fun _ hk=>hk.2) (.slice Ao32 F4.length co32)) (fun _ h_=>h_.1))) (Kd.R_base ho0) hb);have n1_:=aK (Kd.qs2_ (by (with_reducible repeat (first|apply Kd.qq_|apply Kd.qr_|apply Kd.R_drew));exact (Kd.R_mono (Kd.R_far (p:=⟨q8,2,none⟩) (Kd.R_far (p:=⟨q8,1,none⟩) (Kd.R_far (p:=⟨q8,0,none⟩) (Kd.qg2_ G9.out l6.out (by decide)) (fun _ hk=>hk.2) (.int .i64 F7)) (fun _ hk=>hk.2) (.int .i64 F8)) (fun _ hk=>hk.2) (.slice Ao32 F4.length co32)) (fun _ h_=>h_.1))) (Kd.R_base ho0) hb);have n2_:=aK (Kd.qs2_ (by (with_reducible repeat (first|apply Kd.qq_|apply Kd.qr_|apply Kd.R_drew));exact (Kd.R_mono (Kd.R_far (p:=⟨q8,2,none⟩) (Kd.R_far (p:=⟨q8,1,none⟩) (Kd.R_far (p:=⟨q8,0,none⟩) (Kd.qg2_ J5.out l6.out (by decide)) (fun _ hk=>hk.2) (.int .i64 F7)) (fun _ hk=>hk.2) (.int .i64 F8)) (fun _ hk=>hk.2) (.slice Ao32 F4.length co32)) (fun _ h_=>h_.1))) (Kd.R_base ho0) hb);have n3_:=aK (Kd.qt2_ (Kd.R_new' (Kd.R_new' (Kd.R_new' ho0 (Kd.R_lt (by (with_reducible repeat (first|apply Kd.qq_|apply Kd.qr_|apply Kd.R_drew));exact (Kd.R_mono (Kd.R_far (p:=⟨q8,2,none⟩) (Kd.R_far (p:=⟨q8,1,none⟩) (Kd.R_far (p:=⟨q8,0,none⟩) (Kd.qg2_ H5.out l6.out (by decide)) (fun _ hk=>hk.2) (.int .i64 F7)) (fun _ hk=>hk.2) (.int .i64 F8)) (fun _ hk=>hk.2) (.slice Ao32 F4.length co32)) (fun _ h_=>h_.1))))) (Kd.R_lt (by (with_reducible repeat (first|apply Kd.qq_|apply Kd.qr_|apply Kd.R_drew));exact (Kd.R_mono (Kd.R_far (p:=⟨q8,2,none⟩) (Kd.R_far (p:=⟨q8,1,none⟩) (Kd.R_far (p:=⟨q8,0,none⟩) (Kd.qg2_ G9.out l6.out (by decide)) (fun _ hk=>hk.2) (.int .i64 F7)) (fun _ hk=>hk.2) (.int .i64 F8)) (fun _ hk=>hk.2) (.slice Ao32 F4.length co32)) (fun _ h_=>h_.1))))) (Kd.R_lt (by (with_reducible repeat (first|apply Kd.qq_|apply Kd.qr_|apply Kd.R_drew));exact (Kd.R_mono (Kd.R_far (p:=⟨q8,2,none⟩) (Kd.R_far (p:=⟨q8,1,none⟩) (Kd.R_far (p:=⟨q8,0,none⟩) (Kd.qg2_ J5.out l6.out (by decide)) (fun _ hk=>hk.2) (.int .i64 F7)) (fun _ hk=>hk.2) (.int .i64 F8)) (fun _ hk=>hk.2) (.slice Ao32 F4.length co32)) (fun _ h_=>h_.1))))) (qk_ (by repeat (first|(with_reducible first|exact HB.out|apply qb_|apply qa_|apply qc_|refine qf_ ?_ r9.out|refine qf_ ?_ D6.out|refine qf_ ?_ D9.out)|exact HB.out))));have n4_:=aK (ql_ (g:=o9) (o:=.cells #[.int .i64 a0_0,.int .i64 a0_1,.slice A0_2 l0_2.length c0_2] 32 (0,0)) (by (with_reducible repeat (first|refine qe_ ?_ _|refine qg_ ?_|refine qd_ ?_ _));refine qa1_ ?_ L8.out _;(with_reducible repeat (first|refine qe_ ?_ _|refine qg_ ?_|refine qd_ ?_ _));refine qa1_ ?_ L8.out _;(with_reducible repeat (first|refine qe_ ?_ _|refine qg_ ?_|refine qd_ ?_ _));refine qa1_ ?_ L8.out _;(with_reducible repeat (first|refine qe_ ?_ _|refine qg_ ?_|refine qd_ ?_ _));exact j6.out) hb);have n5_:=aK (ql_ (g:=p8) (o:=.cells #[.int .i64 z8,.int .i64 C8,.slice F5 o6.length E8] 38 (0,0)) (by (with_reducible repeat (first|refine qe_ ?_ _|refine qg_ ?_|refine qd_ ?_ _));refine qa1_ ?_ I4.out _;(with_reducible repeat (first|refine qe_ ?_ _|refine qg_ ?_|refine qd_ ?_ _));refine qa1_ ?_ I4.out _;(with_reducible repeat (first|refine qe_ ?_ _|refine qg_ ?_|refine qd_ ?_ _));refine qa1_ ?_ I4.out _;(with_reducible repeat (first|refine qe_ ?_ _|refine qg_ ?_|refine qd_ ?_ _));exact l5.out) hb);have n6_:=aK (ql_ (g:=q8) (o:=.cells #[.int .i64 F7,.int .i64 F8,.slice Ao32 F4.length co32] 38 (0,0)) (by (with_reducible repeat (first|refine qe_ ?_ _|refine qg_ ?_|refine qd_ ?_ _));refine qy_ (cs:=#[.int .i64 F7,.int .i64 F8,.slice none 0 0]) ?_ 2 _ rfl;(with_reducible repeat (first|refine qe_ ?_ _|refine qg_ ?_|refine qd_ ?_ _));refine qy_ (cs:=#[.int .i64 F7,.int .i64 0,.slice none 0 0]) ?_ 1 _ rfl;(with_reducible repeat (first|refine qe_ ?_ _|refine qg_ ?_|refine qd_ ?_ _));refine qy_ (cs:=#[.int .i64 0,.int .i64 0,.slice none 0 0]) ?_ 0 _ rfl;(with_reducible repeat (first|refine qe_ ?_ _|refine qg_ ?_|refine qd_ ?_ _));exact l6.out) hb);have n7_:=aK (qm_ (by repeat (first|(with_reducible first|exact HB.out|apply qb_|apply qa_|apply qc_|refine qf_ ?_ r9.out|refine qf_ ?_ D6.out|refine qf_ ?_ D9.out)|exact HB.out)) hb);clear H5;clear G9;clear J5;clear j6;clear l5;clear l6;clear HB;have H5:=n0_;have G9:=n1_;have J5:=n2_;have K9:=n3_;have j6:=n4_;have l5:=n5_;have l6:=n6_;have HB:=n7_;clear n0_ n1_ n2_ n3_ n4_ n5_ n6_ n7_;(try clear hb);(try clear hb2);(try clear hk);(try clear hi);(try clear ho0))|((with_reducible refine qz_ (N:=9) rfl ?_);refine qv_ ?hg (N:=9) ?hd (cs:=#[.int .i64 0,.int .i64 0,.slice none 0 0]) (t:=38) ?hr ?_;(case hd=>rfl);(case hg=>rfl);(case hr=>first|(go_simp;done)|(go_simp;rfl));intro l7 hg aV0 hbox hb;have n0_:=aK (Kd.qj1_ (by (with_reducible repeat (first|apply Kd.qq_|apply Kd.qr_|apply Kd.R_drew));exact H5.out) hb);have n1_:=aK (Kd.qj1_ (by (with_reducible repeat (first|apply Kd.qq_|apply Kd.qr_|apply Kd.R_drew));exact G9.out) hb);have n2_:=aK (Kd.qj1_ (by (with_reducible repeat (first|apply Kd.qq_|apply Kd.qr_|apply Kd.R_drew));exact J5.out) hb);have n3_:=aK (Kd.qj1_ (by (with_reducible repeat (first|apply Kd.qq_|apply Kd.qr_|apply Kd.R_drew));exact K9.out) hb);have n4_:=aK (ql_ (g:=o9) (o:=.cells #[.int .i64 a0_0,.int .i64 a0_1,.slice A0_2 l0_2.length c0_2] 32 (0,0)) (by (with_reducible repeat (first|refine qe_ ?_ _|refine qg_ ?_|refine qd_ ?_ _));exact j6.out) hb);have n5_:=aK (ql_ (g:=p8) (o:=.cells #[.int .i64 z8,.int .i64 C8,.slice F5 o6.length E8] 38 (0,0)) (by (with_reducible repeat (first|refine qe_ ?_ _|refine qg_ ?_|refine qd_ ?_ _));exact l5.out) hb);have n6_:=aK (ql_ (g:=q8) (o:=.cells #[.int .i64 F7,.int .i64 F8,.slice Ao32 F4.length co32] 38 (0,0)) (by (with_reducible repeat (first|refine qe_ ?_ _|refine qg_ ?_|refine qd_ ?_ _));exact l6.out) hb);have n7_:=aK (qm_ (by repeat (first|(with_reducible first|exact HB.out|apply qb_|apply qa_|apply qc_|refine qf_ ?_ r9.out|refine qf_ ?_ D6.out|refine qf_ ?_ D9.out)|exact HB.out)) hb);have n8_:=aK (hbox);have n9_:=aK ((by rw [hg];exact (qk_ (by repeat (first|(with_reducible first|exact HB.out|apply qb_|apply qa_|apply qc_|refine qf_ ?_ r9.out|refine qf_ ?_ D6.out|refine qf_ ?_ D9.out)|exact HB.out))):w.heap.size≤l7));have n10_:=aK ((by rw [hg];exact (qk_ (by repeat (first|(with_reducible first|exact HB.out|apply qb_|apply qa_|apply qc_|refine qf_ ?_ r9.out|refine qf_ ?_ D6.out|refine qf_ ?_ D9.out)|exact HB.out))):w.heap.size≤l7));have n11_:=aK ((by rw [hg];exact Nat.ne_of_lt (blk_lt (g:=o9) (o:=.cells #[.int .i64 a0_0,.int .i64 a0_1,.slice A0_2 l0_2.length c0_2] 32 (0,0)) (by (with_reducible repeat (first|refine qe_ ?_ _|refine qg_ ?_|refine qd_ ?_ _));exact j6.out)):o9≠l7));have n12_:=aK ((by rw [hg];exact Nat.ne_of_gt (blk_lt (g:=o9) (o:=.cells #[.int .i64 a0_0,.int .i64 a0_1,.slice A0_2 l0_2.length c0_2] 32 (0,0)) (by (with_reducible repeat (first|refine qe_ ?_ _|refine qg_ ?_|refine qd_ ?_ _));exact j6.out)):l7≠o9));have bV9:=aK ((by rw [hg];exact Nat.ne_of_lt (blk_lt (g:=p8) (o:=.cells #[.int .i64 z8,.int .i64 C8,.slice F5 o6.length E8] 38 (0,0)) (by (with_reducible repeat (first|refine qe_ ?_ _|refine qg_ ?_|refine qd_ ?_ _));exact l5.out)):p8≠l7));have bW0:=aK ((by rw [hg];exact Nat.ne_of_gt (blk_lt (g:=p8) (o:=.cells #[.int .i64 z8,.int .i64 C8,.slice F5 o6.length E8] 38 (0,0)) (by (with_reducible repeat (first|refine qe_ ?_ _|refine qg_ ?_|refine qd_ ?_ _));exact l5.out)):l7≠p8));have bW1:=aK ((by rw [hg];exact Nat.ne_of_lt (blk_lt (g:=q8) (o:=.cells #[.int .i64 F7,.int .i64 F8,.slice Ao32 F4.length co32] 38 (0,0)) (by (with_reducible repeat (first|refine qe_ ?_ _|refine qg_ ?_|refine qd_ ?_ _));exact l6.out)):q8≠l7));have bW2:=aK ((by rw [hg];exact Nat.ne_of_gt (blk_lt (g:=q8) (o:=.cells #[.int .i64 F7,.int .i64 F8,.slice Ao32 F4.length co32] 38 (0,0)) (by (with_reducible repeat (first|refine qe_ ?_ _|refine qg_ ?_|refine qd_ ?_ _));exact l6.out)):l7≠q8));clear H5;clear G9;clear J5;clear K9;clear j6;clear l5;clear l6;clear HB;have H5:=n0_;have G9:=n1_;have J5:=n2_;have K9:=n3_;have j6:=n4_;have l5:=n5_;have l6:=n6_;have HB:=n7_;have j5:=n8_;have GW578:=n9_;have F3:=n10_;have F9:=n11_;have I1:=n12_;have E9:=bV9;have G7:=bW0;have F6:=bW1;have H7:=bW2;clear n0_ n1_ n2_ n3_ n4_ n5_ n6_ n7_ n8_ n9_ n10_ n11_ n12_ bV9 bW0 bW1 bW2;clear hb hbox hg;have hnb35:=I1.out;have hnc35:=F9.out;have hnb36:=G7.out;have hnc36:=E9.out;have hnb37:=H7.out;have hnc37:=F6.out;have hcz38_0:aV0.cell? ⟨l7,0,none⟩=some (.int .i64 0):=(qi_ j5.out 0).trans rfl;have hcz38_1:aV0.cell? ⟨l7,1,none⟩=some (.int .i64 0):=(qi_ j5.out 1).trans rfl;have U2:aV0.cell? ⟨l7,2,none⟩=some (.slice none 0 0):=(qi_ j5.out 2).trans rfl;have hfz38_0:=qh_ j5.out 0;have hfz38_1:=qh_ j5.out 1;have R7:=qh_ j5.out 2;obtain ⟨D5,C9,cJ6⟩:=Kd.qq2_ K9.out;subst cJ6))
   (try simp only [Act.put,List.setIfInBounds_toArray,List.set_cons_zero,List.set_cons_succ])
   go_cut [47] (fun v47 wc=>∃ (kq:Nat) (Q6:Bool),v47=.bool Q6∧Aside0 (qj_.j0 kq a1 G5 M6 Q6 a0_0 a0_1 l0_2 z8 C8 o6 F7 F8 F4 l9 o5 l8=some r)∧Aside0 (kq≤k)∧Aside0 (Kd.R k79 79 wc w.heap.size (fun k_=>some k_≠((.slice Ao32 F4.length co32):Value).ownBlock∧some k_≠((.slice D5 l8.length C9):Value).ownBlock) (.slice F5 o6.length E8) o6)∧Aside0 (Kd.R k79 79 wc w.heap.size (fun k_=>some k_≠((.slice F5 o6.length E8):Value).ownBlock∧some k_≠((.slice D5 l8.length C9):Value).ownBlock) (.slice Ao32 F4.length co32) F4)∧Aside0 (Kd.R k79 79 wc w.heap.size (fun k_=>some k_≠((.slice F5 o6.length E8):Value).ownBlock∧some k_≠((.slice Ao32 F4.length co32):Value).ownBlock) (.slice D5 l8.length C9) l8)∧Aside0 (wc.heap[o9]?=some (.cells #[.int .i64 a0_0,.int .i64 a0_1,(.slice A0_2 l0_2.length c0_2)] 32 (0,0)))∧Aside0 (wc.heap[p8]?=some (.cells #[.int .i64 z8,.int .i64 C8,(.slice F5 o6.length E8)] 38 (0,0)))∧Aside0 (wc.heap[q8]?=some (.cells #[.int .i64 F7,.int .i64 F8,(.slice Ao32 F4.length co32)] 38 (0,0)))∧Aside0 (wc.heap[l7]?=some (.cells #[.int .i64 l9,.int .i64 o5,(.slice D5 l8.length C9)] 38 (0,0)))∧Aside0 (Below w.heap.size w wc))
   case first =>
    have H:=cQ6.out
    clear cQ6
    replace H:=Option.bind_eq_some_iff.mp H
    obtain ⟨O5,A400,H⟩:=H
    replace H:(if O5=true then (qj_.j0 k a1 G5 M6 (M6 != G5) a0_0 a0_1 l0_2 z8 C8 o6 F7 F8 F4 l9 o5 l8) else (qj_.j0 k a1 G5 M6 true a0_0 a0_1 l0_2 z8 C8 o6 F7 F8 F4 l9 o5 l8))=some r:=H
    have A40:=aK A400
    clear A400
    by_cases c41:O5=true
    ·subst c41
     have H1:(qj_.j0 k a1 G5 M6 (M6 != G5) a0_0 a0_1 l0_2 z8 C8 o6 F7 F8 F4 l9 o5 l8)=some r:=by rw [if_pos rfl] at H;exact H
     clear H
     have H:=H1
     clear H1
     have H':=aK H
     clear H
     have hnb42:=I1.out
     have hnc42:=F9.out
     have hnb43:=G7.out
     have hnc43:=E9.out
     have hnb44:=H7.out
     have hnc44:=F6.out
     have hcz45_0:aV0.cell? ⟨l7,0,none⟩=some (.int .i64 0):=(qi_ j5.out 0).trans rfl
     have hcz45_1:aV0.cell? ⟨l7,1,none⟩=some (.int .i64 0):=(qi_ j5.out 1).trans rfl
     have U1:aV0.cell? ⟨l7,2,none⟩=some (.slice none 0 0):=(qi_ j5.out 2).trans rfl
     have hfz45_0:=qh_ j5.out 0
     have hfz45_1:=qh_ j5.out 1
     have R6:=qh_ j5.out 2
     have hnb46:=J7.out
     have hnc46:=I5.out
     have hnb47:=I4.out
     have hnc47:=J6.out
     have hcz48_0:aV0.cell? ⟨p8,0,none⟩=some (.int .i64 z8):=(qi_ l5.out 0).trans rfl
     have hcz48_1:aV0.cell? ⟨p8,1,none⟩=some (.int .i64 C8):=(qi_ l5.out 1).trans rfl
     have hcz48_2:aV0.cell? ⟨p8,2,none⟩=some (.slice F5 o6.length E8):=(qi_ l5.out 2).trans rfl
     have hfz48_0:=qh_ l5.out 0
     have hfz48_1:=qh_ l5.out 1
     have hfz48_2:=qh_ l5.out 2
     go_wp2_with (first|((with_reducible refine qt_ (f:=33) rfl ?_);refine goesL_ (some 41) rfl rfl Try.func33 (by kernel_rfl) rfl #[.agg #[.int .i64 l9,.int .i64 o5,.slice D5 l8.length C9],.agg #[.int .i64 z8,.int .i64 C8,.slice F5 o6.length E8]] rfl (by (try simp only [List.map_toArray,List.map_cons,List.map_nil]);first|done|rfl|(simp only [List.length_drop,List.length_take];rfl)) ?_;(with_reducible refine (qb1_.calls k l9 o5 _ _ l8 z8 C8 _ _ o6 true _ ?side1 ?side2 ?side3 ?side4 A40.out).mono ?_);(case side1=>refine (Kd.qp1_ (e:=79) (base:=w.heap.size) (ok:=fun k_=>(((True∧some k_≠(.slice bV1 Q8.length Z9:Value).ownBlock)∧some k_≠(.slice F5 o6.length E8:Value).ownBlock)∧some k_≠(.slice Ao32 F4.length co32:Value).ownBlock)) (n:=l8.length) (c:=C9) ?_).2.2;exact (by (with_reducible repeat (first|apply Kd.qq_|apply Kd.qr_|apply Kd.R_drew));exact (Kd.R_mono (Kd.R_far (p:=⟨l7,2,none⟩) (Kd.R_far (p:=⟨l7,1,none⟩) (Kd.R_far (p:=⟨l7,0,none⟩) (Kd.qg2_ K9.out j5.out (by decide)) (fun _ hk=>hk.2) (.int .i64 l9)) (fun _ hk=>hk.2) (.int .i64 o5)) (fun _ hk=>hk.2) (.slice D5 l8.length C9)) (fun _ h_=>h_.1))));(case side2=>exact (Kd.qp1_ K9.out).2.1);(case side3=>refine (Kd.qp1_ (e:=79) (base:=w.heap.size) (ok:=fun k_=>(((True∧some k_≠(.slice bV1 Q8.length Z9:Value).ownBlock)∧some k_≠(.slice Ao32 F4.length co32:Value).ownBlock)∧some k_≠(.slice D5 l8.length C9:Value).ownBlock)) (n:=o6.length) (c:=E8) ?_).2.2;exact (by (with_reducible repeat (first|apply Kd.qq_|apply Kd.qr_|apply Kd.R_drew));exact (Kd.R_mono (Kd.R_far (p:=⟨l7,2,none⟩) (Kd.R_far (p:=⟨l7,1,none⟩) (Kd.R_far (p:=⟨l7,0,none⟩) (Kd.qg2_ G9.out j5.out (by decide)) (fun _ hk=>hk.2) (.int .i64 l9)) (fun _ hk=>hk.2) (.int .i64 o5)) (fun _ hk=>hk.2) (.slice D5 l8.length C9)) (fun _ h_=>h_.1))));(case side4=>exact (Kd.qp1_ G9.out).2.1);rintro e w49 ⟨rfl,hb⟩;refine ⟨_,rfl,?_⟩;have n0_:=aK (Kd.qj1_ (by (with_reducible repeat (first|apply Kd.qq_|apply Kd.qr_|apply Kd.R_drew));exact (Kd.R_mono (Kd.R_far (p:=⟨l7,2,none⟩) (Kd.R_far (p:=⟨l7,1,none⟩) (Kd.R_far (p:=⟨l7,0,none⟩) (Kd.qg2_ H5.out j5.out (by decide)) (fun _ hk=>hk.2) (.int .i64 l9)) (fun _ hk=>hk.2) (.int .i64 o5)) (fun _ hk=>hk.2) (.slice D5 l8.length C9)) (fun _ h_=>h_.1))) hb);have n1_:=aK (Kd.qj1_ (by (with_reducible repeat (first|apply Kd.qq_|apply Kd.qr_|apply Kd.R_drew));exact (Kd.R_mono (Kd.R_far (p:=⟨l7,2,none⟩) (Kd.R_far (p:=⟨l7,1,none⟩) (Kd.R_far (p:=⟨l7,0,none⟩) (Kd.qg2_ G9.out j5.out (by decide)) (fun _ hk=>hk.2) (.int .i64 l9)) (fun _ hk=>hk.2) (.int .i64 o5)) (fun _ hk=>hk.2) (.slice D5 l8.length C9)) (fun _ h_=>h_.1))) hb);have n2_:=aK (Kd.qj1_ (by (with_reducible repeat (first|apply Kd.qq_|apply Kd.qr_|apply Kd.R_drew));exact (Kd.R_mono (Kd.R_far (p:=⟨l7,2,none⟩) (Kd.R_far (p:=⟨l7,1,none⟩) (Kd.R_far (p:=⟨l7,0,none⟩) (Kd.qg2_ J5.out j5.out (by decide)) (fun _ hk=>hk.2) (.int .i64 l9)) (fun _ hk=>hk.2) (.int .i64 o5)) (fun _ hk=>hk.2) (.slice D5 l8.length C9)) (fun _ h_=>h_.1))) hb);have n3_:=aK (Kd.qj1_ (by (with_reducible repeat (first|apply Kd.qq_|apply Kd.qr_|apply Kd.R_drew));exact (Kd.R_mono (Kd.R_far (p:=⟨l7,2,none⟩) (Kd.R_far (p:=⟨l7,1,none⟩) (Kd.R_far (p:=⟨l7,0,none⟩) (Kd.qg2_ K9.out j5.out (by decide)) (fun _ hk=>hk.2) (.int .i64 l9)) (fun _ hk=>hk.2) (.int .i64 o5)) (fun _ hk=>hk.2) (.slice D5 l8.length C9)) (fun _ h_=>h_.1))) hb);have n4_:=aK (ql_ (g:=o9) (o:=.cells #[.int .i64 a0_0,.int .i64 a0_1,.slice A0_2 l0_2.length c0_2] 32 (0,0)) (by (with_reducible repeat (first|refine qe_ ?_ _|refine qg_ ?_|refine qd_ ?_ _));refine qa1_ ?_ F9.out _;(with_reducible repeat (first|refine qe_ ?_ _|refine qg_ ?_|refine qd_ ?_ _));refine qa1_ ?_ F9.out _;(with_reducible repeat (first|refine qe_ ?_ _|refine qg_ ?_|refine qd_ ?_ _));refine qa1_ ?_ F9.out _;(with_reducible repeat (first|refine qe_ ?_ _|refine qg_ ?_|refine qd_ ?_ _));exact j6.out) hb);have n5_:=aK (ql_ (g:=p8) (o:=.cells #[.int .i64 z8,.int .i64 C8,.slice F5 o6.length E8] 38 (0,0)) (by (with_reducible repeat (first|refine qe_ ?_ _|refine qg_ ?_|refine qd_ ?_ _));refine qa1_ ?_ E9.out _;(with_reducible repeat (first|refine qe_ ?_ _|refine qg_ ?_|refine qd_ ?_ _));refine qa1_ ?_ E9.out _;(with_reducible repeat (first|refine qe_ ?_ _|refine qg_ ?_|refine qd_ ?_ _));refine qa1_ ?_ E9.out _;(with_reducible repeat (first|refine qe_ ?_ _|refine qg_ ?_|refine qd_ ?_ _));exact l5.out) hb);have n6_:=aK (ql_ (g:=q8) (o:=.cells #[.int .i64 F7,.int .i64 F8,.slice Ao32 F4.length co32] 38 (0,0)) (by (with_reducible repeat (first|refine qe_ ?_ _|refine qg_ ?_|refine qd_ ?_ _));refine qa1_ ?_ F6.out _;(with_reducible repeat (first|refine qe_ ?_ _|refine qg_ ?_|refine qd_ ?_ _));refine qa1_ ?_ F6.out _;(with_reducible repeat (first|refine qe_ ?_ _|refine qg_ ?_|refine qd_ ?_ _));refine qa1_ ?_ F6.out _;(with_reducible repeat (first|refine qe_ ?_ _|refine qg_ ?_|refine qd_ ?_ _));exact l6.out) hb);have n7_:=aK (ql_ (g:=l7) (o:=.cells #[.int .i64 l9,.int .i64 o5,.slice D5 l8.length C9] 38 (0,0)) (by (with_reducible repeat (first|refine qe_ ?_ _|refine qg_ ?_|refine qd_ ?_ _));refine qy_ (cs:=#[.int .i64 l9,.int .i64 o5,.slice none 0 0]) ?_ 2 _ rfl;(with_reducible repeat (first|refine qe_ ?_ _|refine qg_ ?_|refine qd_ ?_ _));refine qy_ (cs:=#[.int .i64 l9,.int .i64 0,.slice none 0 0]) ?_ 1 _ rfl;(with_reducible repeat (first|refine qe_ ?_ _|refine qg_ ?_|refine qd_ ?_ _));refine qy_ (cs:=#[.int .i64 0,.int .i64 0,.slice none 0 0]) ?_ 0 _ rfl;(with_reducible repeat (first|refine qe_ ?_ _|refine qg_ ?_|refine qd_ ?_ _));exact j5.out) hb);have n8_:=aK (qm_ (by repeat (first|(with_reducible first|exact HB.out|apply qb_|apply qa_|apply qc_|refine qf_ ?_ r9.out|refine qf_ ?_ D6.out|refine qf_ ?_ D9.out|refine qf_ ?_ F3.out)|exact HB.out)) hb);clear H5;clear G9;clear J5;clear K9;clear j6;clear l5;clear l6;clear j5;clear HB;have H5:=n0_;have G9:=n1_;have J5:=n2_;have K9:=n3_;have j6:=n4_;have l5:=n5_;have l6:=n6_;have j5:=n7_;have HB:=n8_;clear n0_ n1_ n2_ n3_ n4_ n5_ n6_ n7_ n8_;(try clear hb);(try clear hb2);(try clear hk);(try clear hi)))
     go_meet
     case rel=>exact ⟨_,((M6 != G5)),(by first|rfl|(simp;done)|(simp [*];done)),H',⟨by first|omega|exact Nat.le_refl _⟩,⟨by (with_reducible repeat (first|apply Kd.qq_|apply Kd.qr_|apply Kd.R_drew));exact Kd.R_mono G9.out (fun _ hk=>⟨hk.1.2,hk.2⟩)⟩,⟨by (with_reducible repeat (first|apply Kd.qq_|apply Kd.qr_|apply Kd.R_drew));exact Kd.R_mono J5.out (fun _ hk=>⟨hk.1.2,hk.2⟩)⟩,⟨by (with_reducible repeat (first|apply Kd.qq_|apply Kd.qr_|apply Kd.R_drew));exact Kd.R_mono K9.out (fun _ hk=>⟨hk.1.2,hk.2⟩)⟩,⟨by (with_reducible repeat (first|refine qe_ ?_ _|refine qg_ ?_|refine qd_ ?_ _));exact j6.out⟩,⟨by (with_reducible repeat (first|refine qe_ ?_ _|refine qg_ ?_|refine qd_ ?_ _));exact l5.out⟩,⟨by (with_reducible repeat (first|refine qe_ ?_ _|refine qg_ ?_|refine qd_ ?_ _));exact l6.out⟩,⟨by (with_reducible repeat (first|refine qe_ ?_ _|refine qg_ ?_|refine qd_ ?_ _));exact j5.out⟩,⟨by repeat (first|(with_reducible first|exact HB.out|apply qb_|apply qa_|apply qc_|refine qf_ ?_ r9.out|refine qf_ ?_ D6.out|refine qf_ ?_ D9.out|refine qf_ ?_ F3.out)|exact HB.out)⟩⟩
    ·replace c41:=Bool.eq_false_iff.mpr c41
     subst c41
     have H1:(qj_.j0 k a1 G5 M6 true a0_0 a0_1 l0_2 z8 C8 o6 F7 F8 F4 l9 o5 l8)=some r:=by rw [if_neg (show ¬ (false=true) by decide)] at H;exact H
     clear H
     have H:=H1
     clear H1
     have H':=aK H
     clear H
     have hnb50:=I1.out
     have hnc50:=F9.out
     have hnb51:=G7.out
     have hnc51:=E9.out
     have hnb52:=H7.out
     have hnc52:=F6.out
     have hcz53_0:aV0.cell? ⟨l7,0,none⟩=some (.int .i64 0):=(qi_ j5.out 0).trans rfl
     have hcz53_1:aV0.cell? ⟨l7,1,none⟩=some (.int .i64 0):=(qi_ j5.out 1).trans rfl
     have U0:aV0.cell? ⟨l7,2,none⟩=some (.slice none 0 0):=(qi_ j5.out 2).trans rfl
     have hfz53_0:=qh_ j5.out 0
     have hfz53_1:=qh_ j5.out 1
     have R5:=qh_ j5.out 2
     have hnb54:=J7.out
     have hnc54:=I5.out
     have hnb55:=I4.out
     have hnc55:=J6.out
     have T9:aV0.cell? ⟨p8,0,none⟩=some (.int .i64 z8):=(qi_ l5.out 0).trans rfl
     have S9:aV0.cell? ⟨p8,1,none⟩=some (.int .i64 C8):=(qi_ l5.out 1).trans rfl
     have R9:aV0.cell? ⟨p8,2,none⟩=some (.slice F5 o6.length E8):=(qi_ l5.out 2).trans rfl
     have R4:=qh_ l5.out 0
     have R3:=qh_ l5.out 1
     have Q9:=qh_ l5.out 2
     go_wp2_with (first|((with_reducible refine qt_ (f:=33) rfl ?_);refine goesL_ (some 41) rfl rfl Try.func33 (by kernel_rfl) rfl #[.agg #[.int .i64 l9,.int .i64 o5,.slice D5 l8.length C9],.agg #[.int .i64 z8,.int .i64 C8,.slice F5 o6.length E8]] rfl (by (try simp only [List.map_toArray,List.map_cons,List.map_nil]);first|done|rfl|(simp only [List.length_drop,List.length_take];rfl)) ?_;(with_reducible refine (qb1_.calls k l9 o5 _ _ l8 z8 C8 _ _ o6 false _ ?side1 ?side2 ?side3 ?side4 A40.out).mono ?_);(case side1=>refine (Kd.qp1_ (e:=79) (base:=w.heap.size) (ok:=fun k_=>(((True∧some k_≠(.slice bV1 Q8.length Z9:Value).ownBlock)∧some k_≠(.slice F5 o6.length E8:Value).ownBlock)∧some k_≠(.slice Ao32 F4.length co32:Value).ownBlock)) (n:=l8.length) (c:=C9) ?_).2.2;exact (by (with_reducible repeat (first|apply Kd.qq_|apply Kd.qr_|apply Kd.R_drew));exact (Kd.R_mono (Kd.R_far (p:=⟨l7,2,none⟩) (Kd.R_far (p:=⟨l7,1,none⟩) (Kd.R_far (p:=⟨l7,0,none⟩) (Kd.qg2_ K9.out j5.out (by decide)) (fun _ hk=>hk.2) (.int .i64 l9)) (fun _ hk=>hk.2) (.int .i64 o5)) (fun _ hk=>hk.2) (.slice D5 l8.length C9)) (fun _ h_=>h_.1))));(case side2=>exact (Kd.qp1_ K9.out).2.1);(case side3=>refine (Kd.qp1_ (e:=79) (base:=w.heap.size) (ok:=fun k_=>(((True∧some k_≠(.slice bV1 Q8.length Z9:Value).ownBlock)∧some k_≠(.slice Ao32 F4.length co32:Value).ownBlock)∧some k_≠(.slice D5 l8.length C9:Value).ownBlock)) (n:=o6.length) (c:=E8) ?_).2.2;exact (by (with_reducible repeat (first|apply Kd.qq_|apply Kd.qr_|apply Kd.R_drew));exact (Kd.R_mono (Kd.R_far (p:=⟨l7,2,none⟩) (Kd.R_far (p:=⟨l7,1,none⟩) (Kd.R_far (p:=⟨l7,0,none⟩) (Kd.qg2_ G9.out j5.out (by decide)) (fun _ hk=>hk.2) (.int .i64 l9)) (fun _ hk=>hk.2) (.int .i64 o5)) (fun _ hk=>hk.2) (.slice D5 l8.length C9)) (fun _ h_=>h_.1))));(case side4=>exact (Kd.qp1_ G9.out).2.1);rintro e w57 ⟨rfl,hb⟩;refine ⟨_,rfl,?_⟩;have n0_:=aK (Kd.qj1_ (by (with_reducible repeat (first|apply Kd.qq_|apply Kd.qr_|apply Kd.R_drew));exact (Kd.R_mono (Kd.R_far (p:=⟨l7,2,none⟩) (Kd.R_far (p:=⟨l7,1,none⟩) (Kd.R_far (p:=⟨l7,0,none⟩) (Kd.qg2_ H5.out j5.out (by decide)) (fun _ hk=>hk.2) (.int .i64 l9)) (fun _ hk=>hk.2) (.int .i64 o5)) (fun _ hk=>hk.2) (.slice D5 l8.length C9)) (fun _ h_=>h_.1))) hb);have n1_:=aK (Kd.qj1_ (by (with_reducible repeat (first|apply Kd.qq_|apply Kd.qr_|apply Kd.R_drew));exact (Kd.R_mono (Kd.R_far (p:=⟨l7,2,none⟩) (Kd.R_far (p:=⟨l7,1,none⟩) (Kd.R_far (p:=⟨l7,0,none⟩) (Kd.qg2_ G9.out j5.out (by decide)) (fun _ hk=>hk.2) (.int .i64 l9)) (fun _ hk=>hk.2) (.int .i64 o5)) (fun _ hk=>hk.2) (.slice D5 l8.length C9)) (fun _ h_=>h_.1))) hb);have n2_:=aK (Kd.qj1_ (by (with_reducible repeat (first|apply Kd.qq_|apply Kd.qr_|apply Kd.R_drew));exact (Kd.R_mono (Kd.R_far (p:=⟨l7,2,none⟩) (Kd.R_far (p:=⟨l7,1,none⟩) (Kd.R_far (p:=⟨l7,0,none⟩) (Kd.qg2_ J5.out j5.out (by decide)) (fun _ hk=>hk.2) (.int .i64 l9)) (fun _ hk=>hk.2) (.int .i64 o5)) (fun _ hk=>hk.2) (.slice D5 l8.length C9)) (fun _ h_=>h_.1))) hb);have n3_:=aK (Kd.qj1_ (by (with_reducible repeat (first|apply Kd.qq_|apply Kd.qr_|apply Kd.R_drew));exact (Kd.R_mono (Kd.R_far (p:=⟨l7,2,none⟩) (Kd.R_far (p:=⟨l7,1,none⟩) (Kd.R_far (p:=⟨l7,0,none⟩) (Kd.qg2_ K9.out j5.out (by decide)) (fun _ hk=>hk.2) (.int .i64 l9)) (fun _ hk=>hk.2) (.int .i64 o5)) (fun _ hk=>hk.2) (.slice D5 l8.length C9)) (fun _ h_=>h_.1))) hb);have n4_:=aK (ql_ (g:=o9) (o:=.cells #[.int .i64 a0_0,.int .i64 a0_1,.slice A0_2 l0_2.length c0_2] 32 (0,0)) (by (with_reducible repeat (first|refine qe_ ?_ _|refine qg_ ?_|refine qd_ ?_ _));refine qa1_ ?_ F9.out _;(with_reducible repeat (first|refine qe_ ?_ _|refine qg_ ?_|refine qd_ ?_ _));refine qa1_ ?_ F9.out _;(with_reducible repeat (first|refine qe_ ?_ _|refine qg_ ?_|refine qd_ ?_ _));refine qa1_ ?_ F9.out _;(with_reducible repeat (first|refine qe_ ?_ _|refine qg_ ?_|refine qd_ ?_ _));exact j6.out) hb);have n5_:=aK (ql_ (g:=p8) (o:=.cells #[.int .i64 z8,.int .i64 C8,.slice F5 o6.length E8] 38 (0,0)) (by (with_reducible repeat (first|refine qe_ ?_ _|refine qg_ ?_|refine qd_ ?_ _));refine qa1_ ?_ E9.out _;(with_reducible repeat (first|refine qe_ ?_ _|refine qg_ ?_|refine qd_ ?_ _));refine qa1_ ?_ E9.out _;(with_reducible repeat (first|refine qe_ ?_ _|refine qg_ ?_|refine qd_ ?_ _));refine qa1_ ?_ E9.out _;(with_reducible repeat (first|refine qe_ ?_ _|refine qg_ ?_|refine qd_ ?_ _));exact l5.out) hb);have n6_:=aK (ql_ (g:=q8) (o:=.cells #[.int .i64 F7,.int .i64 F8,.slice Ao32 F4.length co32] 38 (0,0)) (by (with_reducible repeat (first|refine qe_ ?_ _|refine qg_ ?_|refine qd_ ?_ _));refine qa1_ ?_ F6.out _;(with_reducible repeat (first|refine qe_ ?_ _|refine qg_ ?_|refine qd_ ?_ _));refine qa1_ ?_ F6.out _;(with_reducible repeat (first|refine qe_ ?_ _|refine qg_ ?_|refine qd_ ?_ _));refine qa1_ ?_ F6.out _;(with_reducible repeat (first|refine qe_ ?_ _|refine qg_ ?_|refine qd_ ?_ _));exact l6.out) hb);have n7_:=aK (ql_ (g:=l7) (o:=.cells #[.int .i64 l9,.int .i64 o5,.slice D5 l8.length C9] 38 (0,0)) (by (with_reducible repeat (first|refine qe_ ?_ _|refine qg_ ?_|refine qd_ ?_ _));refine qy_ (cs:=#[.int .i64 l9,.int .i64 o5,.slice none 0 0]) ?_ 2 _ rfl;(with_reducible repeat (first|refine qe_ ?_ _|refine qg_ ?_|refine qd_ ?_ _));refine qy_ (cs:=#[.int .i64 l9,.int .i64 0,.slice none 0 0]) ?_ 1 _ rfl;(with_reducible repeat (first|refine qe_ ?_ _|refine qg_ ?_|refine qd_ ?_ _));refine qy_ (cs:=#[.int .i64 0,.int .i64 0,.slice none 0 0]) ?_ 0 _ rfl;(with_reducible repeat (first|refine qe_ ?_ _|refine qg_ ?_|refine qd_ ?_ _));exact j5.out) hb);have n8_:=aK (qm_ (by repeat (first|(with_reducible first|exact HB.out|apply qb_|apply qa_|apply qc_|refine qf_ ?_ r9.out|refine qf_ ?_ D6.out|refine qf_ ?_ D9.out|refine qf_ ?_ F3.out)|exact HB.out)) hb);clear H5;clear G9;clear J5;clear K9;clear j6;clear l5;clear l6;clear j5;clear HB;have H5:=n0_;have G9:=n1_;have J5:=n2_;have K9:=n3_;have j6:=n4_;have l5:=n5_;have l6:=n6_;have j5:=n7_;have HB:=n8_;clear n0_ n1_ n2_ n3_ n4_ n5_ n6_ n7_ n8_;(try clear hb);(try clear hb2);(try clear hk);(try clear hi)))
     go_meet
     case rel=>exact ⟨_,(true),(by first|rfl|(simp;done)|(simp [*];done)),H',⟨by first|omega|exact Nat.le_refl _⟩,⟨by (with_reducible repeat (first|apply Kd.qq_|apply Kd.qr_|apply Kd.R_drew));exact Kd.R_mono G9.out (fun _ hk=>⟨hk.1.2,hk.2⟩)⟩,⟨by (with_reducible repeat (first|apply Kd.qq_|apply Kd.qr_|apply Kd.R_drew));exact Kd.R_mono J5.out (fun _ hk=>⟨hk.1.2,hk.2⟩)⟩,⟨by (with_reducible repeat (first|apply Kd.qq_|apply Kd.qr_|apply Kd.R_drew));exact Kd.R_mono K9.out (fun _ hk=>⟨hk.1.2,hk.2⟩)⟩,⟨by (with_reducible repeat (first|refine qe_ ?_ _|refine qg_ ?_|refine qd_ ?_ _));exact j6.out⟩,⟨by (with_reducible repeat (first|refine qe_ ?_ _|refine qg_ ?_|refine qd_ ?_ _));exact l5.out⟩,⟨by (with_reducible repeat (first|refine qe_ ?_ _|refine qg_ ?_|refine qd_ ?_ _));exact l6.out⟩,⟨by (with_reducible repeat (first|refine qe_ ?_ _|refine qg_ ?_|refine qd_ ?_ _));exact j5.out⟩,⟨by repeat (first|(with_reducible first|exact HB.out|apply qb_|apply qa_|apply qc_|refine qf_ ?_ r9.out|refine qf_ ?_ D6.out|refine qf_ ?_ D9.out|refine qf_ ?_ F3.out)|exact HB.out)⟩⟩
   case rest =>
    clear cQ6
    try clear c2
    try clear p2
    try clear c3
    try clear c3b0
    try clear c3b1
    try clear c4
    try clear c5
    try clear c6
    try clear c6b0
    try clear c23
    try clear c28
    try clear c29
    try clear cZ8
    try clear cZ7
    try clear c35
    try clear c36
    try clear c37
    try clear c40
    try clear c41
    try clear c42
    try clear c43
    try clear c44
    try clear c46
    try clear c47
    try clear cZ6
    try clear c51
    try clear cZ5
    try clear cZ4
    try clear cZ3
    try clear hcz16_0
    try clear hcz16_1
    try clear hcz16_2
    try clear hcz18_0
    try clear hcz18_1
    try clear hcz18_2
    try clear hcz24_0
    try clear hcz24_1
    try clear hcz24_2
    try clear hcz26_0
    try clear hcz26_1
    try clear hcz26_2
    try clear hcz31_0
    try clear hcz31_1
    try clear U3
    try clear hcz38_0
    try clear hcz38_1
    try clear U2
    try clear hcz45_0
    try clear hcz45_1
    try clear U1
    try clear hcz48_0
    try clear hcz48_1
    try clear hcz48_2
    try clear hcz53_0
    try clear hcz53_1
    try clear U0
    try clear T9
    try clear S9
    try clear R9
    try clear hcz8_0
    try clear hcz8_1
    try clear hcz8_2
    try clear hfz16_0
    try clear hfz16_1
    try clear hfz16_2
    try clear hfz18_0
    try clear hfz18_1
    try clear hfz18_2
    try clear hfz24_0
    try clear hfz24_1
    try clear hfz24_2
    try clear hfz26_0
    try clear hfz26_1
    try clear hfz26_2
    try clear hfz31_0
    try clear hfz31_1
    try clear R8
    try clear hfz38_0
    try clear hfz38_1
    try clear R7
    try clear hfz45_0
    try clear hfz45_1
    try clear R6
    try clear hfz48_0
    try clear hfz48_1
    try clear hfz48_2
    try clear hfz53_0
    try clear hfz53_1
    try clear R5
    try clear R4
    try clear R3
    try clear Q9
    try clear hfz8_0
    try clear hfz8_1
    try clear hfz8_2
    obtain ⟨kq,Q6,rfl,HA,bV7,j4,j3,d9,j6,l5,l6,j5,HB⟩:=hcut
    cases kq with
    | zero=>exact absurd HA.out (by simp [qj_.j0])
    | succ kj13 =>
     have H:=HA.out
     clear HA
     simp only [qj_.j0] at H
     by_cases bV0:Q6=true
     ·subst bV0
      have H1:(some false)=some r:=by rw [if_pos rfl] at H;exact H
      clear H
      have H:=H1
      clear H1
      obtain rfl:=Option.some.inj H
      go_wp2
      go_ret
      exact ⟨by first|rfl|(simp [qn_,qo_] <;> rfl)|(simp [*,qn_,qo_] <;> rfl),by repeat (first|(with_reducible first|exact HB.out|apply qb_|apply qa_|apply qc_|refine qf_ ?_ r9.out|refine qf_ ?_ D6.out|refine qf_ ?_ D9.out|refine qf_ ?_ F3.out)|exact HB.out)⟩
     ·replace bV0:=Bool.eq_false_iff.mpr bV0
      subst bV0
      have H1:((qk1_.f kj13 a0_0 a0_1 l0_2).bind fun Q3=>((qb1_.f kj13 F7 F8 F4 Q3.1 Q3.2.1 Q3.2.2).bind fun U5=>(if U5=true then ((qo1_.f kj13 F7 F8 F4 1).bind fun O9=>(if O9.1<0 then (qj_.j1 kj13 a1 G5 true a0_0 a0_1 l0_2 z8 C8 o6 l9 o5 l8) else ((qb1_.f kj13 l9 o5 l8 z8 C8 o6).bind fun O8=>(if O8=true then (qj_.j1 kj13 a1 G5 (M6 != G5) a0_0 a0_1 l0_2 z8 C8 o6 l9 o5 l8) else (qj_.j1 kj13 a1 G5 true a0_0 a0_1 l0_2 z8 C8 o6 l9 o5 l8))))) else (some false))))=some r:=by rw [if_neg (show ¬ (false=true) by decide)] at H;exact H
      clear H
      have H:=H1
      clear H1
      replace H:=Option.bind_eq_some_iff.mp H
      obtain ⟨⟨V3,U9,Q7⟩,cX8,H⟩:=H
      replace H:((qb1_.f kj13 F7 F8 F4 V3 U9 Q7).bind fun U5=>(if U5=true then ((qo1_.f kj13 F7 F8 F4 1).bind fun O9=>(if O9.1<0 then (qj_.j1 kj13 a1 G5 true a0_0 a0_1 l0_2 z8 C8 o6 l9 o5 l8) else ((qb1_.f kj13 l9 o5 l8 z8 C8 o6).bind fun O8=>(if O8=true then (qj_.j1 kj13 a1 G5 (M6 != G5) a0_0 a0_1 l0_2 z8 C8 o6 l9 o5 l8) else (qj_.j1 kj13 a1 G5 true a0_0 a0_1 l0_2 z8 C8 o6 l9 o5 l8))))) else (some false)))=some r:=H
      have A59:=aK cX8
      clear cX8
      replace H:=Option.bind_eq_some_iff.mp H
      obtain ⟨U5,cX9,H⟩:=H
      replace H:(if U5=true then ((qo1_.f kj13 F7 F8 F4 1).bind fun O9=>(if O9.1<0 then (qj_.j1 kj13 a1 G5 true a0_0 a0_1 l0_2 z8 C8 o6 l9 o5 l8) else ((qb1_.f kj13 l9 o5 l8 z8 C8 o6).bind fun O8=>(if O8=true then (qj_.j1 kj13 a1 G5 (M6 != G5) a0_0 a0_1 l0_2 z8 C8 o6 l9 o5 l8) else (qj_.j1 kj13 a1 G5 true a0_0 a0_1 l0_2 z8 C8 o6 l9 o5 l8))))) else (some false))=some r:=H
      have A60:=aK cX9
      clear cX9
      by_cases bY9:U5=true
      ·subst bY9
       have H1:((qo1_.f kj13 F7 F8 F4 1).bind fun O9=>(if O9.1<0 then (qj_.j1 kj13 a1 G5 true a0_0 a0_1 l0_2 z8 C8 o6 l9 o5 l8) else ((qb1_.f kj13 l9 o5 l8 z8 C8 o6).bind fun O8=>(if O8=true then (qj_.j1 kj13 a1 G5 (M6 != G5) a0_0 a0_1 l0_2 z8 C8 o6 l9 o5 l8) else (qj_.j1 kj13 a1 G5 true a0_0 a0_1 l0_2 z8 C8 o6 l9 o5 l8)))))=some r:=by rw [if_pos rfl] at H;exact H
       clear H
       have H:=H1
       clear H1
       replace H:=Option.bind_eq_some_iff.mp H
       obtain ⟨⟨bW3,K6⟩,cY0,H⟩:=H
       replace H:(if bW3<0 then (qj_.j1 kj13 a1 G5 true a0_0 a0_1 l0_2 z8 C8 o6 l9 o5 l8) else ((qb1_.f kj13 l9 o5 l8 z8 C8 o6).bind fun O8=>(if O8=true then (qj_.j1 kj13 a1 G5 (M6 != G5) a0_0 a0_1 l0_2 z8 C8 o6 l9 o5 l8) else (qj_.j1 kj13 a1 G5 true a0_0 a0_1 l0_2 z8 C8 o6 l9 o5 l8))))=some r:=H
       have cW0:=aK cY0
       clear cY0
       have cQ7:=aK H
       clear H
       try go_wp2
       have n0_:=aK (Kd.R_drew j4.out)
       have n1_:=aK (Kd.R_drew j3.out)
       have n2_:=aK (Kd.R_drew d9.out)
       have n3_:=aK (qg_ j6.out)
       have n4_:=aK (qg_ l5.out)
       have n5_:=aK (qg_ l6.out)
       have n6_:=aK (qg_ j5.out)
       have n7_:=aK (qc_ HB.out)
       clear j4
       clear j3
       clear d9
       clear j6
       clear l5
       clear l6
       clear j5
       clear HB
       have j4:=n0_
       have j3:=n1_
       have d9:=n2_
       have j6:=n3_
       have l5:=n4_
       have l6:=n5_
       have j5:=n6_
       have HB:=n7_
       clear n0_ n1_ n2_ n3_ n4_ n5_ n6_ n7_
       refine start_ (n:=5) (S:=fun w'=>w'.cell? ⟨q8,0,none⟩=some (.int .i64 F7)∧w'.cell? ⟨q8,1,none⟩=some (.int .i64 F8)∧w'.cell? ⟨q8,2,none⟩=some (.slice Ao32 F4.length co32)∧w'.cell? ⟨o9,0,none⟩=some (.int .i64 a0_0)∧w'.cell? ⟨o9,1,none⟩=some (.int .i64 a0_1)∧w'.cell? ⟨o9,2,none⟩=some (.slice A0_2 l0_2.length c0_2)) (ds:=[]) #[fF,fF,fF,fF,fF] (by kernel_rfl) rfl rfl ⟨(qi_ l6.out 0).trans rfl,(qi_ l6.out 1).trans rfl,(qi_ l6.out 2).trans rfl,(qi_ j6.out 0).trans rfl,(qi_ j6.out 1).trans rfl,(qi_ j6.out 2).trans rfl⟩ (fun hHeld=>?_)
       generalize wc.drew=w64 at j4 j3 d9 j6 l5 l6 j5 HB hHeld ⊢
       refine take_ (i:=0) (N:=some 48) (v:=?_) (a':=?_) #[tT,fF,fF,fF,fF] rfl rfl (by kernel_rfl) (fun _ _ _ h=>h) (Or.inl ⟨by rfl,?_⟩) hHeld ?_ ?_
       rotate_left
       ·rintro w' ⟨s0,s1,s2,s3,s4,s5⟩
        go_simp
        with_reducible rfl
       rotate_left
       ·simp only [Act.put,List.setIfInBounds_toArray,List.set_cons_zero,List.set_cons_succ,i64_w,i32_w]
        rfl
       refine take_ (i:=1) (N:=some 49) (v:=?_) (a':=?_) #[tT,tT,fF,fF,fF] rfl rfl (by kernel_rfl) (fun _ _ _ h=>h) (Or.inl ⟨by rfl,?_⟩) hHeld ?_ ?_
       rotate_left
       ·rintro w' ⟨s0,s1,s2,s3,s4,s5⟩
        go_simp
        with_reducible rfl
       rotate_left
       ·simp only [Act.put,List.setIfInBounds_toArray,List.set_cons_zero,List.set_cons_succ,i64_w,i32_w]
        rfl
       refine one_ (i:=2) (N:=some 50) #[tT,tT,tT,fF,fF] rfl rfl (by kernel_rfl) (by decide) (fun K hK=>?_)
       refine goes_ Try.func30 (by kernel_rfl) rfl #[.agg #[.int .i64 a0_0,.int .i64 a0_1,.slice A0_2 l0_2.length c0_2]] (by rfl) rfl rfl (by (try simp only [List.map_toArray,List.map_cons,List.map_nil]);first|done|rfl|(simp only [List.length_drop,List.length_take];rfl)) ?_
       with_reducible refine (qk1_.calls kj13 a0_0 a0_1 _ _ l0_2 V3 U9 Q7 _ ?side1 ?side2 A59.out).mono ?_
       (case side1=>repeat (first|exact (Kd.qn2_ HR0_2.out HB.out)|(with_reducible refine Kd.qi2_ ?_ _)|(with_reducible refine Kd.qh2_ ?_ _)|(with_reducible refine Kd.C_drew ?_)))
       (case side2=>exact HC0_2.out)
       rintro e w65 ⟨cJ5,rfl,ho0,hb⟩
       refine ⟨_,rfl,?_⟩
       have n0_:=aK (Kd.qs2_ (by (with_reducible repeat (first|apply Kd.qq_|apply Kd.qr_|apply Kd.R_drew));exact j4.out) (Kd.R_base ho0) hb)
       have n1_:=aK (Kd.qs2_ (by (with_reducible repeat (first|apply Kd.qq_|apply Kd.qr_|apply Kd.R_drew));exact j3.out) (Kd.R_base ho0) hb)
       have n2_:=aK (Kd.qs2_ (by (with_reducible repeat (first|apply Kd.qq_|apply Kd.qr_|apply Kd.R_drew));exact d9.out) (Kd.R_base ho0) hb)
       have n3_:=aK (Kd.qt2_ (Kd.R_new' (Kd.R_new' (Kd.R_new' ho0 (Kd.R_lt (by (with_reducible repeat (first|apply Kd.qq_|apply Kd.qr_|apply Kd.R_drew));exact j4.out))) (Kd.R_lt (by (with_reducible repeat (first|apply Kd.qq_|apply Kd.qr_|apply Kd.R_drew));exact j3.out))) (Kd.R_lt (by (with_reducible repeat (first|apply Kd.qq_|apply Kd.qr_|apply Kd.R_drew));exact d9.out))) (qk_ (by repeat (first|(with_reducible first|exact HB.out|apply qb_|apply qa_|apply qc_|refine qf_ ?_ r9.out|refine qf_ ?_ D6.out|refine qf_ ?_ D9.out|refine qf_ ?_ F3.out)|exact HB.out))))
       have n4_:=aK (ql_ (g:=o9) (o:=.cells #[.int .i64 a0_0,.int .i64 a0_1,.slice A0_2 l0_2.length c0_2] 32 (0,0)) (by (with_reducible repeat (first|refine qe_ ?_ _|refine qg_ ?_|refine qd_ ?_ _));exact j6.out) hb)
       have n5_:=aK (ql_ (g:=p8) (o:=.cells #[.int .i64 z8,.int .i64 C8,.slice F5 o6.length E8] 38 (0,0)) (by (with_reducible repeat (first|refine qe_ ?_ _|refine qg_ ?_|refine qd_ ?_ _));exact l5.out) hb)
       have n6_:=aK (ql_ (g:=q8) (o:=.cells #[.int .i64 F7,.int .i64 F8,.slice Ao32 F4.length co32] 38 (0,0)) (by (with_reducible repeat (first|refine qe_ ?_ _|refine qg_ ?_|refine qd_ ?_ _));exact l6.out) hb)
       have n7_:=aK (ql_ (g:=l7) (o:=.cells #[.int .i64 l9,.int .i64 o5,.slice D5 l8.length C9] 38 (0,0)) (by (with_reducible repeat (first|refine qe_ ?_ _|refine qg_ ?_|refine qd_ ?_ _));exact j5.out) hb)
       have n8_:=aK (qm_ (by repeat (first|(with_reducible first|exact HB.out|apply qb_|apply qa_|apply qc_|refine qf_ ?_ r9.out|refine qf_ ?_ D6.out|refine qf_ ?_ D9.out|refine qf_ ?_ F3.out)|exact HB.out)) hb)
       clear j4
       clear j3
       clear d9
       clear j6
       clear l5
       clear l6
       clear j5
       clear HB
       have j4:=n0_
       have j3:=n1_
       have d9:=n2_
       have J4:=n3_
       have j6:=n4_
       have l5:=n5_
       have l6:=n6_
       have j5:=n7_
       have HB:=n8_
       clear n0_ n1_ n2_ n3_ n4_ n5_ n6_ n7_ n8_
       (try clear hb)
       (try clear hb2)
       (try clear hk)
       (try clear hi)
       (try clear ho0)
       obtain ⟨cQ5,cJ9,cY5⟩:=Kd.qq2_ J4.out
       (first|subst cY5|(injection cY5 with f1_ f2_ f3_;have f4_:=f1_.symm;have f5_:=f3_.symm;clear f1_ f2_ f3_;subst f4_;subst f5_))
       refine hK.out _ _ ⟨(qi_ l6.out 0).trans rfl,(qi_ l6.out 1).trans rfl,(qi_ l6.out 2).trans rfl,(qi_ j6.out 0).trans rfl,(qi_ j6.out 1).trans rfl,(qi_ j6.out 2).trans rfl⟩ (fun hHeld=>?_)
       clear hK K
       refine norm_ (a':=?_) ?_ ?_
       rotate_left
       ·show Act.put _ (some 50) _=_
        simp only [Act.put,List.setIfInBounds_toArray,List.set_cons_zero,List.set_cons_succ,i64_w,i32_w]
        rfl
       refine one_ (i:=3) (N:=some 51) #[tT,tT,tT,tT,fF] rfl rfl (by kernel_rfl) (by decide) (fun K hK=>?_)
       refine goes_ Try.func33 (by kernel_rfl) rfl #[.agg #[.int .i64 F7,.int .i64 F8,.slice Ao32 F4.length co32],.agg #[.int .i64 V3,.int .i64 U9,.slice cQ5 Q7.length cJ9]] (by rfl) rfl rfl (by (try simp only [List.map_toArray,List.map_cons,List.map_nil]);first|done|rfl|(simp only [List.length_drop,List.length_take];rfl)) ?_
       with_reducible refine (qb1_.calls kj13 F7 F8 _ _ F4 V3 U9 _ _ Q7 true _ ?side1 ?side2 ?side3 ?side4 A60.out).mono ?_
       (case side1=>repeat (first|exact (Kd.qp1_ j3.out).2.2|(with_reducible refine Kd.qi2_ ?_ _)|(with_reducible refine Kd.qh2_ ?_ _)|(with_reducible refine Kd.C_drew ?_)))
       (case side2=>exact (Kd.qp1_ j3.out).2.1)
       (case side3=>repeat (first|exact (Kd.qp1_ J4.out).2.2|(with_reducible refine Kd.qi2_ ?_ _)|(with_reducible refine Kd.qh2_ ?_ _)|(with_reducible refine Kd.C_drew ?_)))
       (case side4=>exact (Kd.qp1_ J4.out).2.1)
       rintro e cJ4 ⟨rfl,hb⟩
       refine ⟨_,rfl,?_⟩
       have n0_:=aK (Kd.qj1_ (by (with_reducible repeat (first|apply Kd.qq_|apply Kd.qr_|apply Kd.R_drew));exact j4.out) hb)
       have n1_:=aK (Kd.qj1_ (by (with_reducible repeat (first|apply Kd.qq_|apply Kd.qr_|apply Kd.R_drew));exact j3.out) hb)
       have n2_:=aK (Kd.qj1_ (by (with_reducible repeat (first|apply Kd.qq_|apply Kd.qr_|apply Kd.R_drew));exact d9.out) hb)
       have n3_:=aK (Kd.qj1_ (by (with_reducible repeat (first|apply Kd.qq_|apply Kd.qr_|apply Kd.R_drew));exact J4.out) hb)
       have n4_:=aK (ql_ (g:=o9) (o:=.cells #[.int .i64 a0_0,.int .i64 a0_1,.slice A0_2 l0_2.length c0_2] 32 (0,0)) (by (with_reducible repeat (first|refine qe_ ?_ _|refine qg_ ?_|refine qd_ ?_ _));exact j6.out) hb)
       have n5_:=aK (ql_ (g:=p8) (o:=.cells #[.int .i64 z8,.int .i64 C8,.slice F5 o6.length E8] 38 (0,0)) (by (with_reducible repeat (first|refine qe_ ?_ _|refine qg_ ?_|refine qd_ ?_ _));exact l5.out) hb)
       have n6_:=aK (ql_ (g:=q8) (o:=.cells #[.int .i64 F7,.int .i64 F8,.slice Ao32 F4.length co32] 38 (0,0)) (by (with_reducible repeat (first|refine qe_ ?_ _|refine qg_ ?_|refine qd_ ?_ _));exact l6.out) hb)
       have n7_:=aK (ql_ (g:=l7) (o:=.cells #[.int .i64 l9,.int .i64 o5,.slice D5 l8.length C9] 38 (0,0)) (by (with_reducible repeat (first|refine qe_ ?_ _|refine qg_ ?_|refine qd_ ?_ _));exact j5.out) hb)
       have n8_:=aK (qm_ (by repeat (first|(with_reducible first|exact HB.out|apply qb_|apply qa_|apply qc_|refine qf_ ?_ r9.out|refine qf_ ?_ D6.out|refine qf_ ?_ D9.out|refine qf_ ?_ F3.out)|exact HB.out)) hb)
       clear j4
       clear j3
       clear d9
       clear J4
       clear j6
       clear l5
       clear l6
       clear j5
       clear HB
       have j4:=n0_
       have j3:=n1_
       have d9:=n2_
       have J4:=n3_
       have j6:=n4_
       have l5:=n5_
       have l6:=n6_
       have j5:=n7_
       have HB:=n8_
       clear n0_ n1_ n2_ n3_ n4_ n5_ n6_ n7_ n8_
       (try clear hb)
       (try clear hb2)
       (try clear hk)
       (try clear hi)
       refine hK.out _ _ ⟨(qi_ l6.out 0).trans rfl,(qi_ l6.out 1).trans rfl,(qi_ l6.out 2).trans rfl,(qi_ j6.out 0).trans rfl,(qi_ j6.out 1).trans rfl,(qi_ j6.out 2).trans rfl⟩ (fun hHeld=>?_)
       clear hK K
       refine norm_ (a':=?_) ?_ ?_
       rotate_left
       ·show Act.put _ (some 51) _=_
        simp only [Act.put,List.setIfInBounds_toArray,List.set_cons_zero,List.set_cons_succ,i64_w,i32_w]
        rfl
       refine pure_ (i:=4) (N:=some 52) (v:=?_) (a':=?_) #[tT,tT,tT,tT,tT] rfl rfl (by kernel_rfl) (fun _ _ _ h=>h) (Or.inl ⟨by rfl,?_⟩) ?_ ?_
       rotate_left
       ·intro w'
        go_simp
        with_reducible rfl
       rotate_left
       ·simp only [Act.put,List.setIfInBounds_toArray,List.set_cons_zero,List.set_cons_succ,i64_w,i32_w]
        rfl
       refine done_ (by kernel_rfl) ?_
       have hnb68:=P8.out
       have hnc68:=L8.out
       have hnb69:=J6.out
       have hnc69:=I4.out
       have hnb70:=F6.out
       have hnc70:=H7.out
       have Z8:cJ4.cell? ⟨q8,0,none⟩=some (.int .i64 F7):=(qi_ l6.out 0).trans rfl
       have Z7:cJ4.cell? ⟨q8,1,none⟩=some (.int .i64 F8):=(qi_ l6.out 1).trans rfl
       have Z6:cJ4.cell? ⟨q8,2,none⟩=some (.slice Ao32 F4.length co32):=(qi_ l6.out 2).trans rfl
       have Y2:=qh_ l6.out 0
       have Y1:=qh_ l6.out 1
       have Y0:=qh_ l6.out 2
       go_upto_region 16 with (first|((with_reducible refine qt_ (f:=34) rfl ?_);refine goesL_ (some 55) rfl rfl Try.func34 (by kernel_rfl) rfl #[.agg #[.int .i64 F7,.int .i64 F8,.slice Ao32 F4.length co32],.int .i64 1] rfl (by (try simp only [List.map_toArray,List.map_cons,List.map_nil]);first|done|rfl|(simp only [List.length_drop,List.length_take];rfl)) ?_;(with_reducible refine (qo1_.calls kj13 F7 F8 (fun k_=>some k_=(.slice Ao32 F4.length co32:Value).ownBlock) (.slice Ao32 F4.length co32) F4 1 bW3 K6 w _ ?side1 ?side2 cW0.out).mono ?_);(case side1=>repeat (first|(with_reducible first|exact HB.out|apply qb_|apply qa_|apply qc_|refine qf_ ?_ r9.out|refine qf_ ?_ D6.out|refine qf_ ?_ D9.out|refine qf_ ?_ F3.out)|exact HB.out));(case side2=>exact Kd.R_tight rfl j3.out);rintro e aV1 ⟨rfl,hy0,hb,hkp⟩;refine ⟨_,rfl,?_⟩;have n0_:=aK (Kd.R_mono (ok':=fun k_=>some k_≠(.slice Ao32 F4.length co32:Value).ownBlock∧some k_≠(.slice D5 l8.length C9:Value).ownBlock∧some k_≠(.slice cQ5 Q7.length cJ9:Value).ownBlock) (Kd.R_keptB (j4.out) hkp (fun k_ hk_ hs_=>(hk_.1.1) hs_)) (fun k_ hk_=>⟨hk_.1.1.1,hk_.1.1.2,hk_.1.2⟩));have n1_:=aK (Kd.R_reok rfl hy0 (fun k_ e_=>j3.out.1 k_ e_));have n2_:=aK (Kd.R_mono (ok':=fun k_=>some k_≠(.slice F5 o6.length E8:Value).ownBlock∧some k_≠(.slice Ao32 F4.length co32:Value).ownBlock∧some k_≠(.slice cQ5 Q7.length cJ9:Value).ownBlock) (Kd.R_keptB (d9.out) hkp (fun k_ hk_ hs_=>(hk_.1.2) hs_)) (fun k_ hk_=>⟨hk_.1.1.1,hk_.1.1.2,hk_.1.2⟩));have n3_:=aK (qy2_ (by (with_reducible repeat (first|refine qe_ ?_ _|refine qg_ ?_|refine qd_ ?_ _));exact j6.out) hkp (fun hs_=>(fun e_=>(Kd.R_ne j3.out j6.out (by decide)) e_) hs_));have n4_:=aK (qy2_ (by (with_reducible repeat (first|refine qe_ ?_ _|refine qg_ ?_|refine qd_ ?_ _));exact l5.out) hkp (fun hs_=>(fun e_=>(Kd.R_ne j3.out l5.out (by decide)) e_) hs_));have n5_:=aK (qy2_ (by (with_reducible repeat (first|refine qe_ ?_ _|refine qg_ ?_|refine qd_ ?_ _));exact l6.out) hkp (fun hs_=>(fun e_=>(Kd.R_ne j3.out l6.out (by decide)) e_) hs_));have n6_:=aK (qy2_ (by (with_reducible repeat (first|refine qe_ ?_ _|refine qg_ ?_|refine qd_ ?_ _));exact j5.out) hkp (fun hs_=>(fun e_=>(Kd.R_ne j3.out j5.out (by decide)) e_) hs_));have n7_:=aK (Kd.R_mono (ok':=fun k_=>some k_≠(.slice F5 o6.length E8:Value).ownBlock∧some k_≠(.slice Ao32 F4.length co32:Value).ownBlock∧some k_≠(.slice D5 l8.length C9:Value).ownBlock) (Kd.R_keptB (J4.out) hkp (fun k_ hk_ hs_=>(hk_.1.2) hs_)) (fun k_ hk_=>⟨hk_.1.1.1.2,hk_.1.1.2,hk_.1.2⟩));have n8_:=aK (hb);clear j4;clear j3;clear d9;clear j6;clear l5;clear l6;clear j5;clear J4;clear HB;have j4:=n0_;have j3:=n1_;have d9:=n2_;have j6:=n3_;have l5:=n4_;have l6:=n5_;have j5:=n6_;have J4:=n7_;have HB:=n8_;clear n0_ n1_ n2_ n3_ n4_ n5_ n6_ n7_ n8_;(try clear hb);(try clear hkp);(try clear hy0)))
       (try simp only [Act.put,List.setIfInBounds_toArray,List.set_cons_zero,List.set_cons_succ])
       go_cut [68] (fun v68 wc=>∃ (kq:Nat) (Q5:Bool),v68=.bool Q5∧Aside0 (qj_.j1 kq a1 G5 Q5 a0_0 a0_1 l0_2 z8 C8 o6 l9 o5 l8=some r)∧Aside0 (kq≤kj13)∧Aside0 (Kd.R k79 79 wc w.heap.size (fun k_=>some k_≠((.slice Ao32 F4.length co32):Value).ownBlock∧some k_≠((.slice D5 l8.length C9):Value).ownBlock) (.slice F5 o6.length E8) o6)∧Aside0 (Kd.R k79 79 wc w.heap.size (fun k_=>some k_≠((.slice F5 o6.length E8):Value).ownBlock∧some k_≠((.slice D5 l8.length C9):Value).ownBlock) (.slice Ao32 F4.length co32) K6)∧Aside0 (Kd.R k79 79 wc w.heap.size (fun k_=>some k_≠((.slice F5 o6.length E8):Value).ownBlock∧some k_≠((.slice Ao32 F4.length co32):Value).ownBlock) (.slice D5 l8.length C9) l8)∧Aside0 (wc.heap[o9]?=some (.cells #[.int .i64 a0_0,.int .i64 a0_1,(.slice A0_2 l0_2.length c0_2)] 32 (0,0)))∧Aside0 (wc.heap[p8]?=some (.cells #[.int .i64 z8,.int .i64 C8,(.slice F5 o6.length E8)] 38 (0,0)))∧Aside0 (wc.heap[q8]?=some (.cells #[.int .i64 F7,.int .i64 F8,(.slice Ao32 F4.length co32)] 38 (0,0)))∧Aside0 (wc.heap[l7]?=some (.cells #[.int .i64 l9,.int .i64 o5,(.slice D5 l8.length C9)] 38 (0,0)))∧Aside0 (Below w.heap.size w wc))
       case first =>
        have H:=cQ7.out
        clear cQ7
        by_cases bY4:bW3<0
        ·rw [if_pos bY4] at H
         have Q0:decide (bW3<0)=true:=decide_eq_true bY4
         clear bY4
         (first|rw [Q0]|(simp only [i64_w,i32_w];rw [Q0])|skip)
         have H':=aK H
         clear H
         go_wp2
         go_meet
         case rel=>exact ⟨_,(true),(by first|rfl|(simp;done)|(simp [*];done)),H',⟨by have:=bV7.out;first|omega|exact Nat.le_refl _⟩,⟨by (with_reducible repeat (first|apply Kd.qq_|apply Kd.qr_|apply Kd.R_drew));exact Kd.R_mono j4.out (fun _ hk=>⟨hk.1,hk.2.1⟩)⟩,⟨by (with_reducible repeat (first|apply Kd.qq_|apply Kd.qr_|apply Kd.R_drew));exact Kd.R_mono j3.out (fun _ hk=>⟨hk.1.1,hk.1.2⟩)⟩,⟨by (with_reducible repeat (first|apply Kd.qq_|apply Kd.qr_|apply Kd.R_drew));exact Kd.R_mono d9.out (fun _ hk=>⟨hk.1,hk.2.1⟩)⟩,⟨by (with_reducible repeat (first|refine qe_ ?_ _|refine qg_ ?_|refine qd_ ?_ _));exact j6.out⟩,⟨by (with_reducible repeat (first|refine qe_ ?_ _|refine qg_ ?_|refine qd_ ?_ _));exact l5.out⟩,⟨by (with_reducible repeat (first|refine qe_ ?_ _|refine qg_ ?_|refine qd_ ?_ _));exact l6.out⟩,⟨by (with_reducible repeat (first|refine qe_ ?_ _|refine qg_ ?_|refine qd_ ?_ _));exact j5.out⟩,⟨by repeat (first|(with_reducible first|exact HB.out|apply qb_|apply qa_|apply qc_|refine qf_ ?_ r9.out|refine qf_ ?_ D6.out|refine qf_ ?_ D9.out|refine qf_ ?_ F3.out)|exact HB.out)⟩⟩
        ·rw [if_neg bY4] at H
         have Q0:decide (bW3<0)=false:=decide_eq_false bY4
         clear bY4
         (first|rw [Q0]|(simp only [i64_w,i32_w];rw [Q0])|skip)
         replace H:=Option.bind_eq_some_iff.mp H
         obtain ⟨O8,cY1,H⟩:=H
         replace H:(if O8=true then (qj_.j1 kj13 a1 G5 (M6 != G5) a0_0 a0_1 l0_2 z8 C8 o6 l9 o5 l8) else (qj_.j1 kj13 a1 G5 true a0_0 a0_1 l0_2 z8 C8 o6 l9 o5 l8))=some r:=H
         have A74:=aK cY1
         clear cY1
         by_cases c75:O8=true
         ·subst c75
          have H1:(qj_.j1 kj13 a1 G5 (M6 != G5) a0_0 a0_1 l0_2 z8 C8 o6 l9 o5 l8)=some r:=by rw [if_pos rfl] at H;exact H
          clear H
          have H:=H1
          clear H1
          have H':=aK H
          clear H
          have hnb76:=I1.out
          have hnc76:=F9.out
          have hnb77:=G7.out
          have hnc77:=E9.out
          have hnb78:=H7.out
          have hnc78:=F6.out
          have Z5:aV1.cell? ⟨l7,0,none⟩=some (.int .i64 l9):=(qi_ j5.out 0).trans rfl
          have Z4:aV1.cell? ⟨l7,1,none⟩=some (.int .i64 o5):=(qi_ j5.out 1).trans rfl
          have Z0:aV1.cell? ⟨l7,2,none⟩=some (.slice D5 l8.length C9):=(qi_ j5.out 2).trans rfl
          have X9:=qh_ j5.out 0
          have X8:=qh_ j5.out 1
          have X7:=qh_ j5.out 2
          have hnb80:=J7.out
          have hnc80:=I5.out
          have hnb81:=I4.out
          have hnc81:=J6.out
          have hcz82_0:aV1.cell? ⟨p8,0,none⟩=some (.int .i64 z8):=(qi_ l5.out 0).trans rfl
          have hcz82_1:aV1.cell? ⟨p8,1,none⟩=some (.int .i64 C8):=(qi_ l5.out 1).trans rfl
          have Y9:aV1.cell? ⟨p8,2,none⟩=some (.slice F5 o6.length E8):=(qi_ l5.out 2).trans rfl
          have hfz82_0:=qh_ l5.out 0
          have hfz82_1:=qh_ l5.out 1
          have X6:=qh_ l5.out 2
          go_wp2_with (first|(go_at_call 33;(with_reducible refine (qb1_.calls kj13 l9 o5 _ _ l8 z8 C8 _ _ o6 true _ ?side1 ?side2 ?side3 ?side4 A74.out).mono ?_);(case side1=>repeat (first|exact (Kd.qp1_ d9.out).2.2|(with_reducible refine Kd.qi2_ ?_ _)|(with_reducible refine Kd.qh2_ ?_ _)|(with_reducible refine Kd.C_drew ?_)));(case side2=>exact (Kd.qp1_ d9.out).2.1);(case side3=>repeat (first|exact (Kd.qp1_ j4.out).2.2|(with_reducible refine Kd.qi2_ ?_ _)|(with_reducible refine Kd.qh2_ ?_ _)|(with_reducible refine Kd.C_drew ?_)));(case side4=>exact (Kd.qp1_ j4.out).2.1);rintro e w83 ⟨rfl,hb⟩;have n0_:=aK (Kd.qj1_ (by (with_reducible repeat (first|apply Kd.qq_|apply Kd.qr_|apply Kd.R_drew));exact j4.out) hb);have n1_:=aK (Kd.qj1_ (by (with_reducible repeat (first|apply Kd.qq_|apply Kd.qr_|apply Kd.R_drew));exact j3.out) hb);have n2_:=aK (Kd.qj1_ (by (with_reducible repeat (first|apply Kd.qq_|apply Kd.qr_|apply Kd.R_drew));exact d9.out) hb);have n3_:=aK (Kd.qj1_ (by (with_reducible repeat (first|apply Kd.qq_|apply Kd.qr_|apply Kd.R_drew));exact J4.out) hb);have n4_:=aK (ql_ (g:=o9) (o:=.cells #[.int .i64 a0_0,.int .i64 a0_1,.slice A0_2 l0_2.length c0_2] 32 (0,0)) (by (with_reducible repeat (first|refine qe_ ?_ _|refine qg_ ?_|refine qd_ ?_ _));exact j6.out) hb);have n5_:=aK (ql_ (g:=p8) (o:=.cells #[.int .i64 z8,.int .i64 C8,.slice F5 o6.length E8] 38 (0,0)) (by (with_reducible repeat (first|refine qe_ ?_ _|refine qg_ ?_|refine qd_ ?_ _));exact l5.out) hb);have n6_:=aK (ql_ (g:=q8) (o:=.cells #[.int .i64 F7,.int .i64 F8,.slice Ao32 F4.length co32] 38 (0,0)) (by (with_reducible repeat (first|refine qe_ ?_ _|refine qg_ ?_|refine qd_ ?_ _));exact l6.out) hb);have n7_:=aK (ql_ (g:=l7) (o:=.cells #[.int .i64 l9,.int .i64 o5,.slice D5 l8.length C9] 38 (0,0)) (by (with_reducible repeat (first|refine qe_ ?_ _|refine qg_ ?_|refine qd_ ?_ _));exact j5.out) hb);have n8_:=aK (qm_ (by repeat (first|(with_reducible first|exact HB.out|apply qb_|apply qa_|apply qc_|refine qf_ ?_ r9.out|refine qf_ ?_ D6.out|refine qf_ ?_ D9.out|refine qf_ ?_ F3.out)|exact HB.out)) hb);clear j4;clear j3;clear d9;clear J4;clear j6;clear l5;clear l6;clear j5;clear HB;have j4:=n0_;have j3:=n1_;have d9:=n2_;have J4:=n3_;have j6:=n4_;have l5:=n5_;have l6:=n6_;have j5:=n7_;have HB:=n8_;clear n0_ n1_ n2_ n3_ n4_ n5_ n6_ n7_ n8_;(try clear hb);(try clear hb2);(try clear hk);(try clear hi)))
          go_meet
          case rel=>exact ⟨_,((M6 != G5)),(by first|rfl|(simp;done)|(simp [*];done)),H',⟨by have:=bV7.out;first|omega|exact Nat.le_refl _⟩,⟨by (with_reducible repeat (first|apply Kd.qq_|apply Kd.qr_|apply Kd.R_drew));exact Kd.R_mono j4.out (fun _ hk=>⟨hk.1,hk.2.1⟩)⟩,⟨by (with_reducible repeat (first|apply Kd.qq_|apply Kd.qr_|apply Kd.R_drew));exact Kd.R_mono j3.out (fun _ hk=>⟨hk.1.1,hk.1.2⟩)⟩,⟨by (with_reducible repeat (first|apply Kd.qq_|apply Kd.qr_|apply Kd.R_drew));exact Kd.R_mono d9.out (fun _ hk=>⟨hk.1,hk.2.1⟩)⟩,⟨by (with_reducible repeat (first|refine qe_ ?_ _|refine qg_ ?_|refine qd_ ?_ _));exact j6.out⟩,⟨by (with_reducible repeat (first|refine qe_ ?_ _|refine qg_ ?_|refine qd_ ?_ _));exact l5.out⟩,⟨by (with_reducible repeat (first|refine qe_ ?_ _|refine qg_ ?_|refine qd_ ?_ _));exact l6.out⟩,⟨by (with_reducible repeat (first|refine qe_ ?_ _|refine qg_ ?_|refine qd_ ?_ _));exact j5.out⟩,⟨by repeat (first|(with_reducible first|exact HB.out|apply qb_|apply qa_|apply qc_|refine qf_ ?_ r9.out|refine qf_ ?_ D6.out|refine qf_ ?_ D9.out|refine qf_ ?_ F3.out)|exact HB.out)⟩⟩
         ·replace c75:=Bool.eq_false_iff.mpr c75
          subst c75
          have H1:(qj_.j1 kj13 a1 G5 true a0_0 a0_1 l0_2 z8 C8 o6 l9 o5 l8)=some r:=by rw [if_neg (show ¬ (false=true) by decide)] at H;exact H
          clear H
          have H:=H1
          clear H1
          have H':=aK H
          clear H
          have hnb84:=I1.out
          have hnc84:=F9.out
          have hnb85:=G7.out
          have hnc85:=E9.out
          have hnb86:=H7.out
          have hnc86:=F6.out
          have Y8:aV1.cell? ⟨l7,0,none⟩=some (.int .i64 l9):=(qi_ j5.out 0).trans rfl
          have Y7:aV1.cell? ⟨l7,1,none⟩=some (.int .i64 o5):=(qi_ j5.out 1).trans rfl
          have Y6:aV1.cell? ⟨l7,2,none⟩=some (.slice D5 l8.length C9):=(qi_ j5.out 2).trans rfl
          have X5:=qh_ j5.out 0
          have X3:=qh_ j5.out 1
          have X0:=qh_ j5.out 2
          have hnb88:=J7.out
          have hnc88:=I5.out
          have hnb89:=I4.out
          have hnc89:=J6.out
          have Y5:aV1.cell? ⟨p8,0,none⟩=some (.int .i64 z8):=(qi_ l5.out 0).trans rfl
          have Y4:aV1.cell? ⟨p8,1,none⟩=some (.int .i64 C8):=(qi_ l5.out 1).trans rfl
          have Y3:aV1.cell? ⟨p8,2,none⟩=some (.slice F5 o6.length E8):=(qi_ l5.out 2).trans rfl
          have W9:=qh_ l5.out 0
          have V9:=qh_ l5.out 1
          have V8:=qh_ l5.out 2
          go_wp2_with (first|(go_at_call 33;(with_reducible refine (qb1_.calls kj13 l9 o5 _ _ l8 z8 C8 _ _ o6 false _ ?side1 ?side2 ?side3 ?side4 A74.out).mono ?_);(case side1=>repeat (first|exact (Kd.qp1_ d9.out).2.2|(with_reducible refine Kd.qi2_ ?_ _)|(with_reducible refine Kd.qh2_ ?_ _)|(with_reducible refine Kd.C_drew ?_)));(case side2=>exact (Kd.qp1_ d9.out).2.1);(case side3=>repeat (first|exact (Kd.qp1_ j4.out).2.2|(with_reducible refine Kd.qi2_ ?_ _)|(with_reducible refine Kd.qh2_ ?_ _)|(with_reducible refine Kd.C_drew ?_)));(case side4=>exact (Kd.qp1_ j4.out).2.1);rintro e w91 ⟨rfl,hb⟩;have n0_:=aK (Kd.qj1_ (by (with_reducible repeat (first|apply Kd.qq_|apply Kd.qr_|apply Kd.R_drew));exact j4.out) hb);have n1_:=aK (Kd.qj1_ (by (with_reducible repeat (first|apply Kd.qq_|apply Kd.qr_|apply Kd.R_drew));exact j3.out) hb);have n2_:=aK (Kd.qj1_ (by (with_reducible repeat (first|apply Kd.qq_|apply Kd.qr_|apply Kd.R_drew));exact d9.out) hb);have n3_:=aK (Kd.qj1_ (by (with_reducible repeat (first|apply Kd.qq_|apply Kd.qr_|apply Kd.R_drew));exact J4.out) hb);have n4_:=aK (ql_ (g:=o9) (o:=.cells #[.int .i64 a0_0,.int .i64 a0_1,.slice A0_2 l0_2.length c0_2] 32 (0,0)) (by (with_reducible repeat (first|refine qe_ ?_ _|refine qg_ ?_|refine qd_ ?_ _));exact j6.out) hb);have n5_:=aK (ql_ (g:=p8) (o:=.cells #[.int .i64 z8,.int .i64 C8,.slice F5 o6.length E8] 38 (0,0)) (by (with_reducible repeat (first|refine qe_ ?_ _|refine qg_ ?_|refine qd_ ?_ _));exact l5.out) hb);have n6_:=aK (ql_ (g:=q8) (o:=.cells #[.int .i64 F7,.int .i64 F8,.slice Ao32 F4.length co32] 38 (0,0)) (by (with_reducible repeat (first|refine qe_ ?_ _|refine qg_ ?_|refine qd_ ?_ _));exact l6.out) hb);have n7_:=aK (ql_ (g:=l7) (o:=.cells #[.int .i64 l9,.int .i64 o5,.slice D5 l8.length C9] 38 (0,0)) (by (with_reducible repeat (first|refine qe_ ?_ _|refine qg_ ?_|refine qd_ ?_ _));exact j5.out) hb);have n8_:=aK (qm_ (by repeat (first|(with_reducible first|exact HB.out|apply qb_|apply qa_|apply qc_|refine qf_ ?_ r9.out|refine qf_ ?_ D6.out|refine qf_ ?_ D9.out|refine qf_ ?_ F3.out)|exact HB.out)) hb);clear j4;clear j3;clear d9;clear J4;clear j6;clear l5;clear l6;clear j5;clear HB;have j4:=n0_;have j3:=n1_;have d9:=n2_;have J4:=n3_;have j6:=n4_;have l5:=n5_;have l6:=n6_;have j5:=n7_;have HB:=n8_;clear n0_ n1_ n2_ n3_ n4_ n5_ n6_ n7_ n8_;(try clear hb);(try clear hb2);(try clear hk);(try clear hi)))
          go_meet
          case rel=>exact ⟨_,(true),(by first|rfl|(simp;done)|(simp [*];done)),H',⟨by have:=bV7.out;first|omega|exact Nat.le_refl _⟩,⟨by (with_reducible repeat (first|apply Kd.qq_|apply Kd.qr_|apply Kd.R_drew));exact Kd.R_mono j4.out (fun _ hk=>⟨hk.1,hk.2.1⟩)⟩,⟨by (with_reducible repeat (first|apply Kd.qq_|apply Kd.qr_|apply Kd.R_drew));exact Kd.R_mono j3.out (fun _ hk=>⟨hk.1.1,hk.1.2⟩)⟩,⟨by (with_reducible repeat (first|apply Kd.qq_|apply Kd.qr_|apply Kd.R_drew));exact Kd.R_mono d9.out (fun _ hk=>⟨hk.1,hk.2.1⟩)⟩,⟨by (with_reducible repeat (first|refine qe_ ?_ _|refine qg_ ?_|refine qd_ ?_ _));exact j6.out⟩,⟨by (with_reducible repeat (first|refine qe_ ?_ _|refine qg_ ?_|refine qd_ ?_ _));exact l5.out⟩,⟨by (with_reducible repeat (first|refine qe_ ?_ _|refine qg_ ?_|refine qd_ ?_ _));exact l6.out⟩,⟨by (with_reducible repeat (first|refine qe_ ?_ _|refine qg_ ?_|refine qd_ ?_ _));exact j5.out⟩,⟨by repeat (first|(with_reducible first|exact HB.out|apply qb_|apply qa_|apply qc_|refine qf_ ?_ r9.out|refine qf_ ?_ D6.out|refine qf_ ?_ D9.out|refine qf_ ?_ F3.out)|exact HB.out)⟩⟩
       case rest =>
        clear cQ7
        try clear c2
        try clear p2
        try clear c3
        try clear c3b0
        try clear c3b1
        try clear c4
        try clear c5
        try clear c6
        try clear c6b0
        try clear c7
        try clear c8
        try clear c23
        try clear c28
        try clear c29
        try clear cZ8
        try clear cZ7
        try clear c34
        try clear c35
        try clear c36
        try clear c37
        try clear c40
        try clear c41
        try clear c42
        try clear c43
        try clear c44
        try clear c46
        try clear c47
        try clear cZ6
        try clear c51
        try clear cZ5
        try clear cZ4
        try clear cZ3
        try clear bV0
        try clear bY9
        try clear c68
        try clear c69
        try clear c70
        try clear bY4
        try clear Q0
        try clear c75
        try clear c76
        try clear c77
        try clear c78
        try clear c80
        try clear cV9
        try clear c84
        try clear c85
        try clear cV8
        try clear cV7
        try clear cV6
        try clear hcz16_0
        try clear hcz16_1
        try clear hcz16_2
        try clear hcz18_0
        try clear hcz18_1
        try clear hcz18_2
        try clear hcz24_0
        try clear hcz24_1
        try clear hcz24_2
        try clear hcz26_0
        try clear hcz26_1
        try clear hcz26_2
        try clear hcz31_0
        try clear hcz31_1
        try clear U3
        try clear hcz38_0
        try clear hcz38_1
        try clear U2
        try clear hcz45_0
        try clear hcz45_1
        try clear U1
        try clear hcz48_0
        try clear hcz48_1
        try clear hcz48_2
        try clear hcz53_0
        try clear hcz53_1
        try clear U0
        try clear T9
        try clear S9
        try clear R9
        try clear Z8
        try clear Z7
        try clear Z6
        try clear Z5
        try clear Z4
        try clear Z0
        try clear hcz82_0
        try clear hcz82_1
        try clear Y9
        try clear Y8
        try clear Y7
        try clear Y6
        try clear hcz8_0
        try clear hcz8_1
        try clear hcz8_2
        try clear Y5
        try clear Y4
        try clear Y3
        try clear hfz16_0
        try clear hfz16_1
        try clear hfz16_2
        try clear hfz18_0
        try clear hfz18_1
        try clear hfz18_2
        try clear hfz24_0
        try clear hfz24_1
        try clear hfz24_2
        try clear hfz26_0
        try clear hfz26_1
        try clear hfz26_2
        try clear hfz31_0
        try clear hfz31_1
        try clear R8
        try clear hfz38_0
        try clear hfz38_1
        try clear R7
        try clear hfz45_0
        try clear hfz45_1
        try clear R6
        try clear hfz48_0
        try clear hfz48_1
        try clear hfz48_2
        try clear hfz53_0
        try clear hfz53_1
        try clear R5
        try clear R4
        try clear R3
        try clear Q9
        try clear Y2
        try clear Y1
        try clear Y0
        try clear X9
        try clear X8
        try clear X7
        try clear hfz82_0
        try clear hfz82_1
        try clear X6
        try clear X5
        try clear X3
        try clear X0
        try clear hfz8_0
        try clear hfz8_1
        try clear hfz8_2
        try clear W9
        try clear V9
        try clear V8
        try clear p2
        obtain ⟨kq,Q5,rfl,HA,cY4,j4,j3,d9,j6,l5,l6,j5,HB⟩:=hcut
        have o7:=(Kd.qp1_ j3.out).1
        rw [o7] at j3
        (try simp only [o7])
        (try simp only [o7] at j6)
        (try simp only [o7] at l5)
        (try simp only [o7] at l6)
        (try simp only [o7] at j5)
        (try simp only [o7] at j4)
        (try simp only [o7] at d9)
        cases kq with
        | zero=>exact absurd HA.out (by simp [qj_.j1])
        | succ kj62 =>
         have H:=HA.out
         clear HA
         simp only [qj_.j1] at H
         by_cases bV6:Q5=true
         ·subst bV6
          have H1:(some false)=some r:=by rw [if_pos rfl] at H;exact H
          clear H
          have H:=H1
          clear H1
          obtain rfl:=Option.some.inj H
          go_wp2
          go_ret
          exact ⟨by first|rfl|(simp [qn_,qo_] <;> rfl)|(simp [*,qn_,qo_] <;> rfl),by repeat (first|(with_reducible first|exact HB.out|apply qb_|apply qa_|apply qc_|refine qf_ ?_ r9.out|refine qf_ ?_ D6.out|refine qf_ ?_ D9.out|refine qf_ ?_ F3.out)|exact HB.out)⟩
         ·replace bV6:=Bool.eq_false_iff.mpr bV6
          subst bV6
          have H1:((qo1_.f kj62 l9 o5 l8 1).bind fun M7=>((qn1_.f kj62 l9 o5 M7.2 1).bind fun M0=>(if M0<0 then (some false) else (if M0=M7.1 then ((qk1_.f kj62 a0_0 a0_1 l0_2).bind fun L9=>((qy1_.f L9.1 L9.2.1 L9.2.2 a1).bind fun I7=>((qb1_.f kj62 I7.1 I7.2.1 I7.2.2.1 z8 C8 o6).bind fun O7=>(if O7=true then (qj_.j2 kj62 M7.1 (I7.2.2.2 != G5) l9 o5 M7.2) else (qj_.j2 kj62 M7.1 true l9 o5 M7.2))))) else (some false)))))=some r:=by rw [if_neg (show ¬ (false=true) by decide)] at H;exact H
          clear H
          have H:=H1
          clear H1
          replace H:=Option.bind_eq_some_iff.mp H
          obtain ⟨⟨J9,H8⟩,cY2,H⟩:=H
          replace H:((qn1_.f kj62 l9 o5 H8 1).bind fun M0=>(if M0<0 then (some false) else (if M0=J9 then ((qk1_.f kj62 a0_0 a0_1 l0_2).bind fun L9=>((qy1_.f L9.1 L9.2.1 L9.2.2 a1).bind fun I7=>((qb1_.f kj62 I7.1 I7.2.1 I7.2.2.1 z8 C8 o6).bind fun O7=>(if O7=true then (qj_.j2 kj62 J9 (I7.2.2.2 != G5) l9 o5 H8) else (qj_.j2 kj62 J9 true l9 o5 H8))))) else (some false))))=some r:=H
          have cZ0:=aK cY2
          clear cY2
          replace H:=Option.bind_eq_some_iff.mp H
          obtain ⟨M0,cY3,H⟩:=H
          replace H:(if M0<0 then (some false) else (if M0=J9 then ((qk1_.f kj62 a0_0 a0_1 l0_2).bind fun L9=>((qy1_.f L9.1 L9.2.1 L9.2.2 a1).bind fun I7=>((qb1_.f kj62 I7.1 I7.2.1 I7.2.2.1 z8 C8 o6).bind fun O7=>(if O7=true then (qj_.j2 kj62 J9 (I7.2.2.2 != G5) l9 o5 H8) else (qj_.j2 kj62 J9 true l9 o5 H8))))) else (some false)))=some r:=H
          have cQ9:=aK cY3
          clear cY3
          by_cases bY5:M0<0
          ·rw [if_pos bY5] at H
           have cV0:decide (M0<0)=true:=decide_eq_true bY5
           clear bY5
           obtain rfl:=Option.some.inj H
           have hnb96:=I1.out
           have hnc96:=F9.out
           have hnb97:=G7.out
           have hnc97:=E9.out
           have hnb98:=H7.out
           have hnc98:=F6.out
           have bY3:wc.cell? ⟨l7,0,none⟩=some (.int .i64 l9):=(qi_ j5.out 0).trans rfl
           have bY2:wc.cell? ⟨l7,1,none⟩=some (.int .i64 o5):=(qi_ j5.out 1).trans rfl
           have bY1:wc.cell? ⟨l7,2,none⟩=some (.slice D5 l8.length C9):=(qi_ j5.out 2).trans rfl
           have bY0:=qh_ j5.out 0
           have bX9:=qh_ j5.out 1
           have bX8:=qh_ j5.out 2
           go_wp2_with (first|((with_reducible refine qt_ (f:=34) rfl ?_);refine goesL_ (some 71) rfl rfl Try.func34 (by kernel_rfl) rfl #[.agg #[.int .i64 l9,.int .i64 o5,.slice D5 l8.length C9],.int .i64 1] rfl (by (try simp only [List.map_toArray,List.map_cons,List.map_nil]);first|done|rfl|(simp only [List.length_drop,List.length_take];rfl)) ?_;(with_reducible refine (qo1_.calls kj62 l9 o5 (fun k_=>some k_=(.slice D5 l8.length C9:Value).ownBlock) (.slice D5 l8.length C9) l8 1 J9 H8 w _ ?side1 ?side2 cZ0.out).mono ?_);(case side1=>repeat (first|(with_reducible first|exact HB.out|apply qb_|apply qa_|apply qc_|refine qf_ ?_ r9.out|refine qf_ ?_ D6.out|refine qf_ ?_ D9.out|refine qf_ ?_ F3.out)|exact HB.out));(case side2=>exact Kd.R_tight rfl d9.out);rintro e cQ0 ⟨rfl,hy0,hb,hkp⟩;refine ⟨_,rfl,?_⟩;have n0_:=aK (Kd.R_mono (ok':=fun k_=>some k_≠(.slice Ao32 K6.length co32:Value).ownBlock∧some k_≠(.slice D5 l8.length C9:Value).ownBlock) (Kd.R_keptB (j4.out) hkp (fun k_ hk_ hs_=>(hk_.2) hs_)) (fun k_ hk_=>⟨hk_.1.1,hk_.1.2⟩));have n1_:=aK (Kd.R_mono (ok':=fun k_=>some k_≠(.slice F5 o6.length E8:Value).ownBlock∧some k_≠(.slice D5 l8.length C9:Value).ownBlock) (Kd.R_keptB (j3.out) hkp (fun k_ hk_ hs_=>(hk_.2) hs_)) (fun k_ hk_=>⟨hk_.1.1,hk_.1.2⟩));have n2_:=aK (Kd.R_reok rfl hy0 (fun k_ e_=>d9.out.1 k_ e_));have n3_:=aK (qy2_ (by (with_reducible repeat (first|refine qe_ ?_ _|refine qg_ ?_|refine qd_ ?_ _));exact j6.out) hkp (fun hs_=>(fun e_=>(Kd.R_ne d9.out j6.out (by decide)) e_) hs_));have n4_:=aK (qy2_ (by (with_reducible repeat (first|refine qe_ ?_ _|refine qg_ ?_|refine qd_ ?_ _));exact l5.out) hkp (fun hs_=>(fun e_=>(Kd.R_ne d9.out l5.out (by decide)) e_) hs_));have n5_:=aK (qy2_ (by (with_reducible repeat (first|refine qe_ ?_ _|refine qg_ ?_|refine qd_ ?_ _));exact l6.out) hkp (fun hs_=>(fun e_=>(Kd.R_ne d9.out l6.out (by decide)) e_) hs_));have n6_:=aK (qy2_ (by (with_reducible repeat (first|refine qe_ ?_ _|refine qg_ ?_|refine qd_ ?_ _));exact j5.out) hkp (fun hs_=>(fun e_=>(Kd.R_ne d9.out j5.out (by decide)) e_) hs_));have n7_:=aK (hb);clear j4;clear j3;clear d9;clear j6;clear l5;clear l6;clear j5;clear HB;have j4:=n0_;have j3:=n1_;have d9:=n2_;have j6:=n3_;have l5:=n4_;have l6:=n5_;have j5:=n6_;have HB:=n7_;clear n0_ n1_ n2_ n3_ n4_ n5_ n6_ n7_;(try clear hb);(try clear hkp);(try clear hy0);have bX5:cQ0.cell? ⟨l7,0,none⟩=some (.int .i64 l9):=(qi_ j5.out 0).trans rfl;have bX4:cQ0.cell? ⟨l7,1,none⟩=some (.int .i64 o5):=(qi_ j5.out 1).trans rfl;have bX3:cQ0.cell? ⟨l7,2,none⟩=some (.slice D5 l8.length C9):=(qi_ j5.out 2).trans rfl;have bJ8:=qh_ j5.out 0;have bJ7:=qh_ j5.out 1;have bJ6:=qh_ j5.out 2)|((with_reducible refine qt_ (f:=39) rfl ?_);refine goesL_ (some 74) rfl rfl Try.func39 (by kernel_rfl) rfl #[.agg #[.int .i64 l9,.int .i64 o5,.slice D5 H8.length C9],.int .i64 1] rfl (by (try simp only [List.map_toArray,List.map_cons,List.map_nil]);first|done|(rw [show H8.length=l8.length from (Kd.qp1_ d9.out).1.symm] <;> rfl)|rfl|(simp only [List.length_drop,List.length_take];rfl)) ?_;(with_reducible refine (qn1_.calls kj62 l9 o5 _ _ H8 1 M0 _ ?side1 ?side2 cQ9.out).mono ?_);(case side1=>repeat (first|exact (Kd.qp1_ d9.out).2.2|(with_reducible refine Kd.qi2_ ?_ _)|(with_reducible refine Kd.qh2_ ?_ _)|(with_reducible refine Kd.C_drew ?_)));(case side2=>rw [show H8.length=l8.length from (Kd.qp1_ d9.out).1.symm];exact (Kd.qp1_ d9.out).2.1);rintro e w102 ⟨rfl,hb⟩;refine ⟨_,rfl,?_⟩;have n0_:=aK (Kd.qj1_ (by (with_reducible repeat (first|apply Kd.qq_|apply Kd.qr_|apply Kd.R_drew));exact j4.out) hb);have n1_:=aK (Kd.qj1_ (by (with_reducible repeat (first|apply Kd.qq_|apply Kd.qr_|apply Kd.R_drew));exact j3.out) hb);have n2_:=aK (Kd.qj1_ (by (with_reducible repeat (first|apply Kd.qq_|apply Kd.qr_|apply Kd.R_drew));exact d9.out) hb);have n3_:=aK (ql_ (g:=o9) (o:=.cells #[.int .i64 a0_0,.int .i64 a0_1,.slice A0_2 l0_2.length c0_2] 32 (0,0)) (by (with_reducible repeat (first|refine qe_ ?_ _|refine qg_ ?_|refine qd_ ?_ _));exact j6.out) hb);have n4_:=aK (ql_ (g:=p8) (o:=.cells #[.int .i64 z8,.int .i64 C8,.slice F5 o6.length E8] 38 (0,0)) (by (with_reducible repeat (first|refine qe_ ?_ _|refine qg_ ?_|refine qd_ ?_ _));exact l5.out) hb);have n5_:=aK (ql_ (g:=q8) (o:=.cells #[.int .i64 F7,.int .i64 F8,.slice Ao32 K6.length co32] 38 (0,0)) (by (with_reducible repeat (first|refine qe_ ?_ _|refine qg_ ?_|refine qd_ ?_ _));exact l6.out) hb);have n6_:=aK (ql_ (g:=l7) (o:=.cells #[.int .i64 l9,.int .i64 o5,.slice D5 l8.length C9] 38 (0,0)) (by (with_reducible repeat (first|refine qe_ ?_ _|refine qg_ ?_|refine qd_ ?_ _));exact j5.out) hb);have n7_:=aK (qm_ (by repeat (first|(with_reducible first|exact HB.out|apply qb_|apply qa_|apply qc_|refine qf_ ?_ r9.out|refine qf_ ?_ D6.out|refine qf_ ?_ D9.out|refine qf_ ?_ F3.out)|exact HB.out)) hb);clear j4;clear j3;clear d9;clear j6;clear l5;clear l6;clear j5;clear HB;have j4:=n0_;have j3:=n1_;have d9:=n2_;have j6:=n3_;have l5:=n4_;have l6:=n5_;have j5:=n6_;have HB:=n7_;clear n0_ n1_ n2_ n3_ n4_ n5_ n6_ n7_;(try clear hb);(try clear hb2);(try clear hk);(try clear hi)))
           go_ret
           exact ⟨by first|rfl|(simp [qn_,qo_] <;> rfl)|(simp [*,qn_,qo_] <;> rfl),by repeat (first|(with_reducible first|exact HB.out|apply qb_|apply qa_|apply qc_|refine qf_ ?_ r9.out|refine qf_ ?_ D6.out|refine qf_ ?_ D9.out|refine qf_ ?_ F3.out)|exact HB.out)⟩
          ·rw [if_neg bY5] at H
           have cV0:decide (M0<0)=false:=decide_eq_false bY5
           clear bY5
           by_cases U7:M0=J9
           ·rw [if_pos U7] at H
            have cV2:(M0==J9)=true:=beq_iff_eq.mpr U7
            have cV3:(M0 != J9)=false:=bne_eq_false_iff_eq.mpr U7
            clear U7
            replace H:=Option.bind_eq_some_iff.mp H
            obtain ⟨⟨bW9,cJ0,U4⟩,cZ9,H⟩:=H
            replace H:((qy1_.f bW9 cJ0 U4 a1).bind fun I7=>((qb1_.f kj62 I7.1 I7.2.1 I7.2.2.1 z8 C8 o6).bind fun O7=>(if O7=true then (qj_.j2 kj62 J9 (I7.2.2.2 != G5) l9 o5 H8) else (qj_.j2 kj62 J9 true l9 o5 H8))))=some r:=H
            have cZ2:=aK cZ9
            clear cZ9
            replace H:=Option.bind_eq_some_iff.mp H
            obtain ⟨⟨J8,K5,I8,bW4⟩,cX0,H⟩:=H
            replace H:((qb1_.f kj62 J8 K5 I8 z8 C8 o6).bind fun O7=>(if O7=true then (qj_.j2 kj62 J9 (bW4 != G5) l9 o5 H8) else (qj_.j2 kj62 J9 true l9 o5 H8)))=some r:=H
            have cZ1:=aK cX0
            clear cX0
            have cQ8:=aK H
            clear H
            have hnb107:=I1.out
            have hnc107:=F9.out
            have hnb108:=G7.out
            have hnc108:=E9.out
            have hnb109:=H7.out
            have hnc109:=F6.out
            have bX2:wc.cell? ⟨l7,0,none⟩=some (.int .i64 l9):=(qi_ j5.out 0).trans rfl
            have bX1:wc.cell? ⟨l7,1,none⟩=some (.int .i64 o5):=(qi_ j5.out 1).trans rfl
            have bX0:wc.cell? ⟨l7,2,none⟩=some (.slice D5 l8.length C9):=(qi_ j5.out 2).trans rfl
            have bJ5:=qh_ j5.out 0
            have bJ4:=qh_ j5.out 1
            have bJ3:=qh_ j5.out 2
            go_upto_region 27 with (first|((with_reducible refine qt_ (f:=34) rfl ?_);refine goesL_ (some 71) rfl rfl Try.func34 (by kernel_rfl) rfl #[.agg #[.int .i64 l9,.int .i64 o5,.slice D5 l8.length C9],.int .i64 1] rfl (by (try simp only [List.map_toArray,List.map_cons,List.map_nil]);first|done|rfl|(simp only [List.length_drop,List.length_take];rfl)) ?_;(with_reducible refine (qo1_.calls kj62 l9 o5 (fun k_=>some k_=(.slice D5 l8.length C9:Value).ownBlock) (.slice D5 l8.length C9) l8 1 J9 H8 w _ ?side1 ?side2 cZ0.out).mono ?_);(case side1=>repeat (first|(with_reducible first|exact HB.out|apply qb_|apply qa_|apply qc_|refine qf_ ?_ r9.out|refine qf_ ?_ D6.out|refine qf_ ?_ D9.out|refine qf_ ?_ F3.out)|exact HB.out));(case side2=>exact Kd.R_tight rfl d9.out);rintro e cQ1 ⟨rfl,hy0,hb,hkp⟩;refine ⟨_,rfl,?_⟩;have n0_:=aK (Kd.R_mono (ok':=fun k_=>some k_≠(.slice Ao32 K6.length co32:Value).ownBlock∧some k_≠(.slice D5 l8.length C9:Value).ownBlock) (Kd.R_keptB (j4.out) hkp (fun k_ hk_ hs_=>(hk_.2) hs_)) (fun k_ hk_=>⟨hk_.1.1,hk_.1.2⟩));have n1_:=aK (Kd.R_mono (ok':=fun k_=>some k_≠(.slice F5 o6.length E8:Value).ownBlock∧some k_≠(.slice D5 l8.length C9:Value).ownBlock) (Kd.R_keptB (j3.out) hkp (fun k_ hk_ hs_=>(hk_.2) hs_)) (fun k_ hk_=>⟨hk_.1.1,hk_.1.2⟩));have n2_:=aK (Kd.R_reok rfl hy0 (fun k_ e_=>d9.out.1 k_ e_));have n3_:=aK (qy2_ (by (with_reducible repeat (first|refine qe_ ?_ _|refine qg_ ?_|refine qd_ ?_ _));exact j6.out) hkp (fun hs_=>(fun e_=>(Kd.R_ne d9.out j6.out (by decide)) e_) hs_));have n4_:=aK (qy2_ (by (with_reducible repeat (first|refine qe_ ?_ _|refine qg_ ?_|refine qd_ ?_ _));exact l5.out) hkp (fun hs_=>(fun e_=>(Kd.R_ne d9.out l5.out (by decide)) e_) hs_));have n5_:=aK (qy2_ (by (with_reducible repeat (first|refine qe_ ?_ _|refine qg_ ?_|refine qd_ ?_ _));exact l6.out) hkp (fun hs_=>(fun e_=>(Kd.R_ne d9.out l6.out (by decide)) e_) hs_));have n6_:=aK (qy2_ (by (with_reducible repeat (first|refine qe_ ?_ _|refine qg_ ?_|refine qd_ ?_ _));exact j5.out) hkp (fun hs_=>(fun e_=>(Kd.R_ne d9.out j5.out (by decide)) e_) hs_));have n7_:=aK (hb);clear j4;clear j3;clear d9;clear j6;clear l5;clear l6;clear j5;clear HB;have j4:=n0_;have j3:=n1_;have d9:=n2_;have j6:=n3_;have l5:=n4_;have l6:=n5_;have j5:=n6_;have HB:=n7_;clear n0_ n1_ n2_ n3_ n4_ n5_ n6_ n7_;(try clear hb);(try clear hkp);(try clear hy0);have bZ9:cQ1.cell? ⟨l7,0,none⟩=some (.int .i64 l9):=(qi_ j5.out 0).trans rfl;have bZ8:cQ1.cell? ⟨l7,1,none⟩=some (.int .i64 o5):=(qi_ j5.out 1).trans rfl;have bZ7:cQ1.cell? ⟨l7,2,none⟩=some (.slice D5 l8.length C9):=(qi_ j5.out 2).trans rfl;have bJ2:=qh_ j5.out 0;have bJ1:=qh_ j5.out 1;have bJ0:=qh_ j5.out 2)|((with_reducible refine qt_ (f:=39) rfl ?_);refine goesL_ (some 74) rfl rfl Try.func39 (by kernel_rfl) rfl #[.agg #[.int .i64 l9,.int .i64 o5,.slice D5 H8.length C9],.int .i64 1] rfl (by (try simp only [List.map_toArray,List.map_cons,List.map_nil]);first|done|(rw [show H8.length=l8.length from (Kd.qp1_ d9.out).1.symm] <;> rfl)|rfl|(simp only [List.length_drop,List.length_take];rfl)) ?_;(with_reducible refine (qn1_.calls kj62 l9 o5 _ _ H8 1 M0 _ ?side1 ?side2 cQ9.out).mono ?_);(case side1=>repeat (first|exact (Kd.qp1_ d9.out).2.2|(with_reducible refine Kd.qi2_ ?_ _)|(with_reducible refine Kd.qh2_ ?_ _)|(with_reducible refine Kd.C_drew ?_)));(case side2=>rw [show H8.length=l8.length from (Kd.qp1_ d9.out).1.symm];exact (Kd.qp1_ d9.out).2.1);rintro e cQ2 ⟨rfl,hb⟩;refine ⟨_,rfl,?_⟩;have n0_:=aK (Kd.qj1_ (by (with_reducible repeat (first|apply Kd.qq_|apply Kd.qr_|apply Kd.R_drew));exact j4.out) hb);have n1_:=aK (Kd.qj1_ (by (with_reducible repeat (first|apply Kd.qq_|apply Kd.qr_|apply Kd.R_drew));exact j3.out) hb);have n2_:=aK (Kd.qj1_ (by (with_reducible repeat (first|apply Kd.qq_|apply Kd.qr_|apply Kd.R_drew));exact d9.out) hb);have n3_:=aK (ql_ (g:=o9) (o:=.cells #[.int .i64 a0_0,.int .i64 a0_1,.slice A0_2 l0_2.length c0_2] 32 (0,0)) (by (with_reducible repeat (first|refine qe_ ?_ _|refine qg_ ?_|refine qd_ ?_ _));exact j6.out) hb);have n4_:=aK (ql_ (g:=p8) (o:=.cells #[.int .i64 z8,.int .i64 C8,.slice F5 o6.length E8] 38 (0,0)) (by (with_reducible repeat (first|refine qe_ ?_ _|refine qg_ ?_|refine qd_ ?_ _));exact l5.out) hb);have n5_:=aK (ql_ (g:=q8) (o:=.cells #[.int .i64 F7,.int .i64 F8,.slice Ao32 K6.length co32] 38 (0,0)) (by (with_reducible repeat (first|refine qe_ ?_ _|refine qg_ ?_|refine qd_ ?_ _));exact l6.out) hb);have n6_:=aK (ql_ (g:=l7) (o:=.cells #[.int .i64 l9,.int .i64 o5,.slice D5 l8.length C9] 38 (0,0)) (by (with_reducible repeat (first|refine qe_ ?_ _|refine qg_ ?_|refine qd_ ?_ _));exact j5.out) hb);have n7_:=aK (qm_ (by repeat (first|(with_reducible first|exact HB.out|apply qb_|apply qa_|apply qc_|refine qf_ ?_ r9.out|refine qf_ ?_ D6.out|refine qf_ ?_ D9.out|refine qf_ ?_ F3.out)|exact HB.out)) hb);clear j4;clear j3;clear d9;clear j6;clear l5;clear l6;clear j5;clear HB;have j4:=n0_;have j3:=n1_;have d9:=n2_;have j6:=n3_;have l5:=n4_;have l6:=n5_;have j5:=n6_;have HB:=n7_;clear n0_ n1_ n2_ n3_ n4_ n5_ n6_ n7_;(try clear hb);(try clear hb2);(try clear hk);(try clear hi);have hnb114:=I5.out;have hnc114:=J7.out;have hnb115:=L8.out;have hnc115:=P8.out;have bZ6:cQ2.cell? ⟨o9,0,none⟩=some (.int .i64 a0_0):=(qi_ j6.out 0).trans rfl;have bZ5:cQ2.cell? ⟨o9,1,none⟩=some (.int .i64 a0_1):=(qi_ j6.out 1).trans rfl;have bZ4:cQ2.cell? ⟨o9,2,none⟩=some (.slice A0_2 l0_2.length c0_2):=(qi_ j6.out 2).trans rfl;have aW9:=qh_ j6.out 0;have aW8:=qh_ j6.out 1;have aW7:=qh_ j6.out 2)|((with_reducible refine qt_ (f:=30) rfl ?_);refine goesL_ (some 82) rfl rfl Try.func30 (by kernel_rfl) rfl #[.agg #[.int .i64 a0_0,.int .i64 a0_1,.slice A0_2 l0_2.length c0_2]] rfl (by (try simp only [List.map_toArray,List.map_cons,List.map_nil]);first|done|rfl|(simp only [List.length_drop,List.length_take];rfl)) ?_;(with_reducible refine (qk1_.calls kj62 a0_0 a0_1 _ _ l0_2 bW9 cJ0 U4 _ ?side1 ?side2 cZ2.out).mono ?_);(case side1=>repeat (first|exact (Kd.qn2_ HR0_2.out HB.out)|(with_reducible refine Kd.qi2_ ?_ _)|(with_reducible refine Kd.qh2_ ?_ _)|(with_reducible refine Kd.C_drew ?_)));(case side2=>exact HC0_2.out);rintro e w117 ⟨v595,rfl,ho0,hb⟩;refine ⟨_,rfl,?_⟩;have n0_:=aK (Kd.qs2_ (by (with_reducible repeat (first|apply Kd.qq_|apply Kd.qr_|apply Kd.R_drew));exact j4.out) (Kd.R_base ho0) hb);have n1_:=aK (Kd.qs2_ (by (with_reducible repeat (first|apply Kd.qq_|apply Kd.qr_|apply Kd.R_drew));exact j3.out) (Kd.R_base ho0) hb);have n2_:=aK (Kd.qs2_ (by (with_reducible repeat (first|apply Kd.qq_|apply Kd.qr_|apply Kd.R_drew));exact d9.out) (Kd.R_base ho0) hb);have n3_:=aK (Kd.qt2_ (Kd.R_new' (Kd.R_new' (Kd.R_new' ho0 (Kd.R_lt (by (with_reducible repeat (first|apply Kd.qq_|apply Kd.qr_|apply Kd.R_drew));exact j4.out))) (Kd.R_lt (by (with_reducible repeat (first|apply Kd.qq_|apply Kd.qr_|apply Kd.R_drew));exact j3.out))) (Kd.R_lt (by (with_reducible repeat (first|apply Kd.qq_|apply Kd.qr_|apply Kd.R_drew));exact d9.out))) (qk_ (by repeat (first|(with_reducible first|exact HB.out|apply qb_|apply qa_|apply qc_|refine qf_ ?_ r9.out|refine qf_ ?_ D6.out|refine qf_ ?_ D9.out|refine qf_ ?_ F3.out)|exact HB.out))));have n4_:=aK (ql_ (g:=o9) (o:=.cells #[.int .i64 a0_0,.int .i64 a0_1,.slice A0_2 l0_2.length c0_2] 32 (0,0)) (by (with_reducible repeat (first|refine qe_ ?_ _|refine qg_ ?_|refine qd_ ?_ _));exact j6.out) hb);have n5_:=aK (ql_ (g:=p8) (o:=.cells #[.int .i64 z8,.int .i64 C8,.slice F5 o6.length E8] 38 (0,0)) (by (with_reducible repeat (first|refine qe_ ?_ _|refine qg_ ?_|refine qd_ ?_ _));exact l5.out) hb);have n6_:=aK (ql_ (g:=q8) (o:=.cells #[.int .i64 F7,.int .i64 F8,.slice Ao32 K6.length co32] 38 (0,0)) (by (with_reducible repeat (first|refine qe_ ?_ _|refine qg_ ?_|refine qd_ ?_ _));exact l6.out) hb);have n7_:=aK (ql_ (g:=l7) (o:=.cells #[.int .i64 l9,.int .i64 o5,.slice D5 l8.length C9] 38 (0,0)) (by (with_reducible repeat (first|refine qe_ ?_ _|refine qg_ ?_|refine qd_ ?_ _));exact j5.out) hb);have n8_:=aK (qm_ (by repeat (first|(with_reducible first|exact HB.out|apply qb_|apply qa_|apply qc_|refine qf_ ?_ r9.out|refine qf_ ?_ D6.out|refine qf_ ?_ D9.out|refine qf_ ?_ F3.out)|exact HB.out)) hb);clear j4;clear j3;clear d9;clear j6;clear l5;clear l6;clear j5;clear HB;have j4:=n0_;have j3:=n1_;have d9:=n2_;have K8:=n3_;have j6:=n4_;have l5:=n5_;have l6:=n6_;have j5:=n7_;have HB:=n8_;clear n0_ n1_ n2_ n3_ n4_ n5_ n6_ n7_ n8_;(try clear hb);(try clear hb2);(try clear hk);(try clear hi);(try clear ho0);obtain ⟨U8,U6,bV4⟩:=Kd.qq2_ K8.out;subst bV4)|((with_reducible refine qt_ (f:=41) rfl ?_);refine goesL_ (some 84) rfl rfl Try.func41 (by kernel_rfl) rfl #[.agg #[.int .i64 bW9,.int .i64 cJ0,.slice U8 U4.length U6],.string a1] rfl (by (try simp only [List.map_toArray,List.map_cons,List.map_nil]);first|done|rfl|(simp only [List.length_drop,List.length_take];rfl)) ?_;(with_reducible refine (qy1_.calls bW9 cJ0 _ _ U4 a1 J8 K5 I8 bW4 _ ?side1 ?side2 cZ1.out).mono ?_);(case side1=>repeat (first|exact (Kd.qp1_ K8.out).2.2|(with_reducible refine Kd.qi2_ ?_ _)|(with_reducible refine Kd.qh2_ ?_ _)|(with_reducible refine Kd.C_drew ?_)));(case side2=>exact (Kd.qp1_ K8.out).2.1);rintro e w119 ⟨v600,rfl,ho0,hb⟩;refine ⟨_,rfl,?_⟩;have n0_:=aK (Kd.qs2_ (by (with_reducible repeat (first|apply Kd.qq_|apply Kd.qr_|apply Kd.R_drew));exact j4.out) (Kd.R_base ho0) hb);have n1_:=aK (Kd.qs2_ (by (with_reducible repeat (first|apply Kd.qq_|apply Kd.qr_|apply Kd.R_drew));exact j3.out) (Kd.R_base ho0) hb);have n2_:=aK (Kd.qs2_ (by (with_reducible repeat (first|apply Kd.qq_|apply Kd.qr_|apply Kd.R_drew));exact d9.out) (Kd.R_base ho0) hb);have n3_:=aK (Kd.qs2_ (by (with_reducible repeat (first|apply Kd.qq_|apply Kd.qr_|apply Kd.R_drew));exact K8.out) (Kd.R_base ho0) hb);have n4_:=aK (Kd.qt2_ (Kd.R_new' (Kd.R_new' (Kd.R_new' (Kd.R_new' ho0 (Kd.R_lt (by (with_reducible repeat (first|apply Kd.qq_|apply Kd.qr_|apply Kd.R_drew));exact j4.out))) (Kd.R_lt (by (with_reducible repeat (first|apply Kd.qq_|apply Kd.qr_|apply Kd.R_drew));exact j3.out))) (Kd.R_lt (by (with_reducible repeat (first|apply Kd.qq_|apply Kd.qr_|apply Kd.R_drew));exact d9.out))) (Kd.R_lt (by (with_reducible repeat (first|apply Kd.qq_|apply Kd.qr_|apply Kd.R_drew));exact K8.out))) (qk_ (by repeat (first|(with_reducible first|exact HB.out|apply qb_|apply qa_|apply qc_|refine qf_ ?_ r9.out|refine qf_ ?_ D6.out|refine qf_ ?_ D9.out|refine qf_ ?_ F3.out)|exact HB.out))));have n5_:=aK (ql_ (g:=o9) (o:=.cells #[.int .i64 a0_0,.int .i64 a0_1,.slice A0_2 l0_2.length c0_2] 32 (0,0)) (by (with_reducible repeat (first|refine qe_ ?_ _|refine qg_ ?_|refine qd_ ?_ _));exact j6.out) hb);have n6_:=aK (ql_ (g:=p8) (o:=.cells #[.int .i64 z8,.int .i64 C8,.slice F5 o6.length E8] 38 (0,0)) (by (with_reducible repeat (first|refine qe_ ?_ _|refine qg_ ?_|refine qd_ ?_ _));exact l5.out) hb);have n7_:=aK (ql_ (g:=q8) (o:=.cells #[.int .i64 F7,.int .i64 F8,.slice Ao32 K6.length co32] 38 (0,0)) (by (with_reducible repeat (first|refine qe_ ?_ _|refine qg_ ?_|refine qd_ ?_ _));exact l6.out) hb);have n8_:=aK (ql_ (g:=l7) (o:=.cells #[.int .i64 l9,.int .i64 o5,.slice D5 l8.length C9] 38 (0,0)) (by (with_reducible repeat (first|refine qe_ ?_ _|refine qg_ ?_|refine qd_ ?_ _));exact j5.out) hb);have n9_:=aK (qm_ (by repeat (first|(with_reducible first|exact HB.out|apply qb_|apply qa_|apply qc_|refine qf_ ?_ r9.out|refine qf_ ?_ D6.out|refine qf_ ?_ D9.out|refine qf_ ?_ F3.out)|exact HB.out)) hb);clear j4;clear j3;clear d9;clear K8;clear j6;clear l5;clear l6;clear j5;clear HB;have j4:=n0_;have j3:=n1_;have d9:=n2_;have K8:=n3_;have K7:=n4_;have j6:=n5_;have l5:=n6_;have l6:=n7_;have j5:=n8_;have HB:=n9_;clear n0_ n1_ n2_ n3_ n4_ n5_ n6_ n7_ n8_ n9_;(try clear hb);(try clear hb2);(try clear hk);(try clear hi);(try clear ho0))|((with_reducible refine qz_ (N:=14) rfl ?_);refine qv_ ?hg (N:=14) ?hd (cs:=#[.int .i64 0,.int .i64 0,.slice none 0 0]) (t:=38) ?hr ?_;(case hd=>rfl);(case hg=>rfl);(case hr=>first|(go_simp;done)|(go_simp;rfl));intro u7 hg O6 hbox hb;have n0_:=aK (Kd.qj1_ (by (with_reducible repeat (first|apply Kd.qq_|apply Kd.qr_|apply Kd.R_drew));exact j4.out) hb);have n1_:=aK (Kd.qj1_ (by (with_reducible repeat (first|apply Kd.qq_|apply Kd.qr_|apply Kd.R_drew));exact j3.out) hb);have n2_:=aK (Kd.qj1_ (by (with_reducible repeat (first|apply Kd.qq_|apply Kd.qr_|apply Kd.R_drew));exact d9.out) hb);have n3_:=aK (Kd.qj1_ (by (with_reducible repeat (first|apply Kd.qq_|apply Kd.qr_|apply Kd.R_drew));exact K8.out) hb);have n4_:=aK (Kd.qj1_ (by (with_reducible repeat (first|apply Kd.qq_|apply Kd.qr_|apply Kd.R_drew));exact K7.out) hb);have n5_:=aK (ql_ (g:=o9) (o:=.cells #[.int .i64 a0_0,.int .i64 a0_1,.slice A0_2 l0_2.length c0_2] 32 (0,0)) (by (with_reducible repeat (first|refine qe_ ?_ _|refine qg_ ?_|refine qd_ ?_ _));exact j6.out) hb);have n6_:=aK (ql_ (g:=p8) (o:=.cells #[.int .i64 z8,.int .i64 C8,.slice F5 o6.length E8] 38 (0,0)) (by (with_reducible repeat (first|refine qe_ ?_ _|refine qg_ ?_|refine qd_ ?_ _));exact l5.out) hb);have n7_:=aK (ql_ (g:=q8) (o:=.cells #[.int .i64 F7,.int .i64 F8,.slice Ao32 K6.length co32] 38 (0,0)) (by (with_reducible repeat (first|refine qe_ ?_ _|refine qg_ ?_|refine qd_ ?_ _));exact l6.out) hb);have n8_:=aK (ql_ (g:=l7) (o:=.cells #[.int .i64 l9,.int .i64 o5,.slice D5 l8.length C9] 38 (0,0)) (by (with_reducible repeat (first|refine qe_ ?_ _|refine qg_ ?_|refine qd_ ?_ _));exact j5.out) hb);have n9_:=aK (qm_ (by repeat (first|(with_reducible first|exact HB.out|apply qb_|apply qa_|apply qc_|refine qf_ ?_ r9.out|refine qf_ ?_ D6.out|refine qf_ ?_ D9.out|refine qf_ ?_ F3.out)|exact HB.out)) hb);have n10_:=aK (hbox);have n11_:=aK ((by rw [hg];exact (qk_ (by repeat (first|(with_reducible first|exact HB.out|apply qb_|apply qa_|apply qc_|refine qf_ ?_ r9.out|refine qf_ ?_ D6.out|refine qf_ ?_ D9.out|refine qf_ ?_ F3.out)|exact HB.out))):w.heap.size≤u7));have n12_:=aK ((by rw [hg];exact (qk_ (by repeat (first|(with_reducible first|exact HB.out|apply qb_|apply qa_|apply qc_|refine qf_ ?_ r9.out|refine qf_ ?_ D6.out|refine qf_ ?_ D9.out|refine qf_ ?_ F3.out)|exact HB.out))):w.heap.size≤u7));have bV9:=aK ((by rw [hg];exact Nat.ne_of_lt (blk_lt (g:=o9) (o:=.cells #[.int .i64 a0_0,.int .i64 a0_1,.slice A0_2 l0_2.length c0_2] 32 (0,0)) (by (with_reducible repeat (first|refine qe_ ?_ _|refine qg_ ?_|refine qd_ ?_ _));exact j6.out)):o9≠u7));have bW0:=aK ((by rw [hg];exact Nat.ne_of_gt (blk_lt (g:=o9) (o:=.cells #[.int .i64 a0_0,.int .i64 a0_1,.slice A0_2 l0_2.length c0_2] 32 (0,0)) (by (with_reducible repeat (first|refine qe_ ?_ _|refine qg_ ?_|refine qd_ ?_ _));exact j6.out)):u7≠o9));have bW1:=aK ((by rw [hg];exact Nat.ne_of_lt (blk_lt (g:=p8) (o:=.cells #[.int .i64 z8,.int .i64 C8,.slice F5 o6.length E8] 38 (0,0)) (by (with_reducible repeat (first|refine qe_ ?_ _|refine qg_ ?_|refine qd_ ?_ _));exact l5.out)):p8≠u7));have bW2:=aK ((by rw [hg];exact Nat.ne_of_gt (blk_lt (g:=p8) (o:=.cells #[.int .i64 z8,.int .i64 C8,.slice F5 o6.length E8] 38 (0,0)) (by (with_reducible repeat (first|refine qe_ ?_ _|refine qg_ ?_|refine qd_ ?_ _));exact l5.out)):u7≠p8));have cY6:=aK ((by rw [hg];exact Nat.ne_of_lt (blk_lt (g:=q8) (o:=.cells #[.int .i64 F7,.int .i64 F8,.slice Ao32 K6.length co32] 38 (0,0)) (by (with_reducible repeat (first|refine qe_ ?_ _|refine qg_ ?_|refine qd_ ?_ _));exact l6.out)):q8≠u7));have cY7:=aK ((by rw [hg];exact Nat.ne_of_gt (blk_lt (g:=q8) (o:=.cells #[.int .i64 F7,.int .i64 F8,.slice Ao32 K6.length co32] 38 (0,0)) (by (with_reducible repeat (first|refine qe_ ?_ _|refine qg_ ?_|refine qd_ ?_ _));exact l6.out)):u7≠q8));have cY8:=aK ((by rw [hg];exact Nat.ne_of_lt (blk_lt (g:=l7) (o:=.cells #[.int .i64 l9,.int .i64 o5,.slice D5 l8.length C9] 38 (0,0)) (by (with_reducible repeat (first|refine qe_ ?_ _|refine qg_ ?_|refine qd_ ?_ _));exact j5.out)):l7≠u7));have cY9:=aK ((by rw [hg];exact Nat.ne_of_gt (blk_lt (g:=l7) (o:=.cells #[.int .i64 l9,.int .i64 o5,.slice D5 l8.length C9] 38 (0,0)) (by (with_reducible repeat (first|refine qe_ ?_ _|refine qg_ ?_|refine qd_ ?_ _));exact j5.out)):u7≠l7));clear j4;clear j3;clear d9;clear K8;clear K7;clear j6;clear l5;clear l6;clear j5;clear HB;have j4:=n0_;have j3:=n1_;have d9:=n2_;have K8:=n3_;have K7:=n4_;have j6:=n5_;have l5:=n6_;have l6:=n7_;have j5:=n8_;have HB:=n9_;have D8:=n10_;have GW603:=n11_;have N7:=n12_;have J3:=bV9;have P7:=bW0;have J2:=bW1;have P6:=bW2;have I9:=cY6;have P5:=cY7;have H6:=cY8;have L6:=cY9;clear n0_ n1_ n2_ n3_ n4_ n5_ n6_ n7_ n8_ n9_ n10_ n11_ n12_ bV9 bW0 bW1 bW2 cY6 cY7 cY8 cY9;clear hb hbox hg;have hnb121:=P7.out;have hnc121:=J3.out;have hnb122:=P6.out;have hnc122:=J2.out;have hnb123:=P5.out;have hnc123:=I9.out;have hnb124:=L6.out;have hnc124:=H6.out;have bZ3:O6.cell? ⟨u7,0,none⟩=some (.int .i64 0):=(qi_ D8.out 0).trans rfl;have bZ2:O6.cell? ⟨u7,1,none⟩=some (.int .i64 0):=(qi_ D8.out 1).trans rfl;have bZ1:O6.cell? ⟨u7,2,none⟩=some (.slice none 0 0):=(qi_ D8.out 2).trans rfl;have aW6:=qh_ D8.out 0;have aW5:=qh_ D8.out 1;have aW4:=qh_ D8.out 2;obtain ⟨H9,G8,bV3⟩:=Kd.qq2_ K7.out;subst bV3))
            (try simp only [Act.put,List.setIfInBounds_toArray,List.set_cons_zero,List.set_cons_succ])
            go_cut [95] (fun cV5 wc=>∃ (kq:Nat) (P9:Bool),cV5=.bool P9∧Aside0 (qj_.j2 kq J9 P9 l9 o5 H8=some r)∧Aside0 (kq≤kj62)∧Aside0 (Kd.R k79 79 wc w.heap.size (fun k_=>some k_≠((.slice Ao32 K6.length co32):Value).ownBlock∧some k_≠((.slice D5 l8.length C9):Value).ownBlock∧some k_≠((.slice H9 I8.length G8):Value).ownBlock) (.slice F5 o6.length E8) o6)∧Aside0 (Kd.R k79 79 wc w.heap.size (fun k_=>some k_≠((.slice F5 o6.length E8):Value).ownBlock∧some k_≠((.slice D5 l8.length C9):Value).ownBlock∧some k_≠((.slice H9 I8.length G8):Value).ownBlock) (.slice Ao32 K6.length co32) K6)∧Aside0 (Kd.R k79 79 wc w.heap.size (fun k_=>some k_≠((.slice F5 o6.length E8):Value).ownBlock∧some k_≠((.slice Ao32 K6.length co32):Value).ownBlock∧some k_≠((.slice H9 I8.length G8):Value).ownBlock) (.slice D5 l8.length C9) H8)∧Aside0 (Kd.R k79 79 wc w.heap.size (fun k_=>some k_≠((.slice F5 o6.length E8):Value).ownBlock∧some k_≠((.slice Ao32 K6.length co32):Value).ownBlock∧some k_≠((.slice D5 l8.length C9):Value).ownBlock) (.slice H9 I8.length G8) I8)∧Aside0 (wc.heap[o9]?=some (.cells #[.int .i64 a0_0,.int .i64 a0_1,(.slice A0_2 l0_2.length c0_2)] 32 (0,0)))∧Aside0 (wc.heap[p8]?=some (.cells #[.int .i64 z8,.int .i64 C8,(.slice F5 o6.length E8)] 38 (0,0)))∧Aside0 (wc.heap[q8]?=some (.cells #[.int .i64 F7,.int .i64 F8,(.slice Ao32 K6.length co32)] 38 (0,0)))∧Aside0 (wc.heap[l7]?=some (.cells #[.int .i64 l9,.int .i64 o5,(.slice D5 l8.length C9)] 38 (0,0)))∧Aside0 (wc.heap[u7]?=some (.cells #[.int .i64 J8,.int .i64 K5,(.slice H9 I8.length G8)] 38 (0,0)))∧Aside0 (Below w.heap.size w wc))
            case first =>
             have H:=cQ8.out
             clear cQ8
             replace H:=Option.bind_eq_some_iff.mp H
             obtain ⟨O7,cX1,H⟩:=H
             replace H:(if O7=true then (qj_.j2 kj62 J9 (bW4 != G5) l9 o5 H8) else (qj_.j2 kj62 J9 true l9 o5 H8))=some r:=H
             have cX6:=aK cX1
             clear cX1
             by_cases bV8:O7=true
             ·subst bV8
              have H1:(qj_.j2 kj62 J9 (bW4 != G5) l9 o5 H8)=some r:=by rw [if_pos rfl] at H;exact H
              clear H
              have H:=H1
              clear H1
              have H':=aK H
              clear H
              have hnb129:=P7.out
              have hnc129:=J3.out
              have hnb130:=P6.out
              have hnc130:=J2.out
              have hnb131:=P5.out
              have hnc131:=I9.out
              have hnb132:=L6.out
              have hnc132:=H6.out
              have bZ0:O6.cell? ⟨u7,0,none⟩=some (.int .i64 0):=(qi_ D8.out 0).trans rfl
              have bQ9:O6.cell? ⟨u7,1,none⟩=some (.int .i64 0):=(qi_ D8.out 1).trans rfl
              have bQ8:O6.cell? ⟨u7,2,none⟩=some (.slice none 0 0):=(qi_ D8.out 2).trans rfl
              have aW3:=qh_ D8.out 0
              have aW2:=qh_ D8.out 1
              have aW1:=qh_ D8.out 2
              have hnb134:=J7.out
              have hnc134:=I5.out
              have hnb135:=I4.out
              have hnc135:=J6.out
              have hnb136:=E9.out
              have hnc136:=G7.out
              have bQ7:O6.cell? ⟨p8,0,none⟩=some (.int .i64 z8):=(qi_ l5.out 0).trans rfl
              have bQ6:O6.cell? ⟨p8,1,none⟩=some (.int .i64 C8):=(qi_ l5.out 1).trans rfl
              have bQ5:O6.cell? ⟨p8,2,none⟩=some (.slice F5 o6.length E8):=(qi_ l5.out 2).trans rfl
              have aW0:=qh_ l5.out 0
              have aV9:=qh_ l5.out 1
              have aV8:=qh_ l5.out 2
              go_wp2_with (first|((with_reducible refine qt_ (f:=33) rfl ?_);refine goesL_ (some 89) rfl rfl Try.func33 (by kernel_rfl) rfl #[.agg #[.int .i64 J8,.int .i64 K5,.slice H9 I8.length G8],.agg #[.int .i64 z8,.int .i64 C8,.slice F5 o6.length E8]] rfl (by (try simp only [List.map_toArray,List.map_cons,List.map_nil]);first|done|rfl|(simp only [List.length_drop,List.length_take];rfl)) ?_;(with_reducible refine (qb1_.calls kj62 J8 K5 _ _ I8 z8 C8 _ _ o6 true _ ?side1 ?side2 ?side3 ?side4 cX6.out).mono ?_);(case side1=>refine (Kd.qp1_ (e:=79) (base:=w.heap.size) (ok:=fun k_=>((((True∧some k_≠(.slice F5 o6.length E8:Value).ownBlock)∧some k_≠(.slice Ao32 K6.length co32:Value).ownBlock)∧some k_≠(.slice D5 l8.length C9:Value).ownBlock)∧some k_≠(.slice U8 U4.length U6:Value).ownBlock)) (n:=I8.length) (c:=G8) ?_).2.2;exact (by (with_reducible repeat (first|apply Kd.qq_|apply Kd.qr_|apply Kd.R_drew));exact (Kd.R_mono (Kd.R_far (p:=⟨u7,2,none⟩) (Kd.R_far (p:=⟨u7,1,none⟩) (Kd.R_far (p:=⟨u7,0,none⟩) (Kd.qg2_ K7.out D8.out (by decide)) (fun _ hk=>hk.2) (.int .i64 J8)) (fun _ hk=>hk.2) (.int .i64 K5)) (fun _ hk=>hk.2) (.slice H9 I8.length G8)) (fun _ h_=>h_.1))));(case side2=>exact (Kd.qp1_ K7.out).2.1);(case side3=>refine (Kd.qp1_ (e:=79) (base:=w.heap.size) (ok:=fun k_=>(((some k_≠(.slice Ao32 K6.length co32:Value).ownBlock∧some k_≠(.slice D5 l8.length C9:Value).ownBlock)∧some k_≠(.slice U8 U4.length U6:Value).ownBlock)∧some k_≠(.slice H9 I8.length G8:Value).ownBlock)) (n:=o6.length) (c:=E8) ?_).2.2;exact (by (with_reducible repeat (first|apply Kd.qq_|apply Kd.qr_|apply Kd.R_drew));exact (Kd.R_mono (Kd.R_far (p:=⟨u7,2,none⟩) (Kd.R_far (p:=⟨u7,1,none⟩) (Kd.R_far (p:=⟨u7,0,none⟩) (Kd.qg2_ j4.out D8.out (by decide)) (fun _ hk=>hk.2) (.int .i64 J8)) (fun _ hk=>hk.2) (.int .i64 K5)) (fun _ hk=>hk.2) (.slice H9 I8.length G8)) (fun _ h_=>h_.1))));(case side4=>exact (Kd.qp1_ j4.out).2.1);rintro e w138 ⟨rfl,hb⟩;refine ⟨_,rfl,?_⟩;have n0_:=aK (Kd.qj1_ (by (with_reducible repeat (first|apply Kd.qq_|apply Kd.qr_|apply Kd.R_drew));exact (Kd.R_mono (Kd.R_far (p:=⟨u7,2,none⟩) (Kd.R_far (p:=⟨u7,1,none⟩) (Kd.R_far (p:=⟨u7,0,none⟩) (Kd.qg2_ j4.out D8.out (by decide)) (fun _ hk=>hk.2) (.int .i64 J8)) (fun _ hk=>hk.2) (.int .i64 K5)) (fun _ hk=>hk.2) (.slice H9 I8.length G8)) (fun _ h_=>h_.1))) hb);have n1_:=aK (Kd.qj1_ (by (with_reducible repeat (first|apply Kd.qq_|apply Kd.qr_|apply Kd.R_drew));exact (Kd.R_mono (Kd.R_far (p:=⟨u7,2,none⟩) (Kd.R_far (p:=⟨u7,1,none⟩) (Kd.R_far (p:=⟨u7,0,none⟩) (Kd.qg2_ j3.out D8.out (by decide)) (fun _ hk=>hk.2) (.int .i64 J8)) (fun _ hk=>hk.2) (.int .i64 K5)) (fun _ hk=>hk.2) (.slice H9 I8.length G8)) (fun _ h_=>h_.1))) hb);have n2_:=aK (Kd.qj1_ (by (with_reducible repeat (first|apply Kd.qq_|apply Kd.qr_|apply Kd.R_drew));exact (Kd.R_mono (Kd.R_far (p:=⟨u7,2,none⟩) (Kd.R_far (p:=⟨u7,1,none⟩) (Kd.R_far (p:=⟨u7,0,none⟩) (Kd.qg2_ d9.out D8.out (by decide)) (fun _ hk=>hk.2) (.int .i64 J8)) (fun _ hk=>hk.2) (.int .i64 K5)) (fun _ hk=>hk.2) (.slice H9 I8.length G8)) (fun _ h_=>h_.1))) hb);have n3_:=aK (Kd.qj1_ (by (with_reducible repeat (first|apply Kd.qq_|apply Kd.qr_|apply Kd.R_drew));exact (Kd.R_mono (Kd.R_far (p:=⟨u7,2,none⟩) (Kd.R_far (p:=⟨u7,1,none⟩) (Kd.R_far (p:=⟨u7,0,none⟩) (Kd.qg2_ K8.out D8.out (by decide)) (fun _ hk=>hk.2) (.int .i64 J8)) (fun _ hk=>hk.2) (.int .i64 K5)) (fun _ hk=>hk.2) (.slice H9 I8.length G8)) (fun _ h_=>h_.1))) hb);have n4_:=aK (Kd.qj1_ (by (with_reducible repeat (first|apply Kd.qq_|apply Kd.qr_|apply Kd.R_drew));exact (Kd.R_mono (Kd.R_far (p:=⟨u7,2,none⟩) (Kd.R_far (p:=⟨u7,1,none⟩) (Kd.R_far (p:=⟨u7,0,none⟩) (Kd.qg2_ K7.out D8.out (by decide)) (fun _ hk=>hk.2) (.int .i64 J8)) (fun _ hk=>hk.2) (.int .i64 K5)) (fun _ hk=>hk.2) (.slice H9 I8.length G8)) (fun _ h_=>h_.1))) hb);have n5_:=aK (ql_ (g:=o9) (o:=.cells #[.int .i64 a0_0,.int .i64 a0_1,.slice A0_2 l0_2.length c0_2] 32 (0,0)) (by (with_reducible repeat (first|refine qe_ ?_ _|refine qg_ ?_|refine qd_ ?_ _));refine qa1_ ?_ J3.out _;(with_reducible repeat (first|refine qe_ ?_ _|refine qg_ ?_|refine qd_ ?_ _));refine qa1_ ?_ J3.out _;(with_reducible repeat (first|refine qe_ ?_ _|refine qg_ ?_|refine qd_ ?_ _));refine qa1_ ?_ J3.out _;(with_reducible repeat (first|refine qe_ ?_ _|refine qg_ ?_|refine qd_ ?_ _));exact j6.out) hb);have n6_:=aK (ql_ (g:=p8) (o:=.cells #[.int .i64 z8,.int .i64 C8,.slice F5 o6.length E8] 38 (0,0)) (by (with_reducible repeat (first|refine qe_ ?_ _|refine qg_ ?_|refine qd_ ?_ _));refine qa1_ ?_ J2.out _;(with_reducible repeat (first|refine qe_ ?_ _|refine qg_ ?_|refine qd_ ?_ _));refine qa1_ ?_ J2.out _;(with_reducible repeat (first|refine qe_ ?_ _|refine qg_ ?_|refine qd_ ?_ _));refine qa1_ ?_ J2.out _;(with_reducible repeat (first|refine qe_ ?_ _|refine qg_ ?_|refine qd_ ?_ _));exact l5.out) hb);have n7_:=aK (ql_ (g:=q8) (o:=.cells #[.int .i64 F7,.int .i64 F8,.slice Ao32 K6.length co32] 38 (0,0)) (by (with_reducible repeat (first|refine qe_ ?_ _|refine qg_ ?_|refine qd_ ?_ _));refine qa1_ ?_ I9.out _;(with_reducible repeat (first|refine qe_ ?_ _|refine qg_ ?_|refine qd_ ?_ _));refine qa1_ ?_ I9.out _;(with_reducible repeat (first|refine qe_ ?_ _|refine qg_ ?_|refine qd_ ?_ _));refine qa1_ ?_ I9.out _;(with_reducible repeat (first|refine qe_ ?_ _|refine qg_ ?_|refine qd_ ?_ _));exact l6.out) hb);have n8_:=aK (ql_ (g:=l7) (o:=.cells #[.int .i64 l9,.int .i64 o5,.slice D5 l8.length C9] 38 (0,0)) (by (with_reducible repeat (first|refine qe_ ?_ _|refine qg_ ?_|refine qd_ ?_ _));refine qa1_ ?_ H6.out _;(with_reducible repeat (first|refine qe_ ?_ _|refine qg_ ?_|refine qd_ ?_ _));refine qa1_ ?_ H6.out _;(with_reducible repeat (first|refine qe_ ?_ _|refine qg_ ?_|refine qd_ ?_ _));refine qa1_ ?_ H6.out _;(with_reducible repeat (first|refine qe_ ?_ _|refine qg_ ?_|refine qd_ ?_ _));exact j5.out) hb);have n9_:=aK (ql_ (g:=u7) (o:=.cells #[.int .i64 J8,.int .i64 K5,.slice H9 I8.length G8] 38 (0,0)) (by (with_reducible repeat (first|refine qe_ ?_ _|refine qg_ ?_|refine qd_ ?_ _));refine qy_ (cs:=#[.int .i64 J8,.int .i64 K5,.slice none 0 0]) ?_ 2 _ rfl;(with_reducible repeat (first|refine qe_ ?_ _|refine qg_ ?_|refine qd_ ?_ _));refine qy_ (cs:=#[.int .i64 J8,.int .i64 0,.slice none 0 0]) ?_ 1 _ rfl;(with_reducible repeat (first|refine qe_ ?_ _|refine qg_ ?_|refine qd_ ?_ _));refine qy_ (cs:=#[.int .i64 0,.int .i64 0,.slice none 0 0]) ?_ 0 _ rfl;(with_reducible repeat (first|refine qe_ ?_ _|refine qg_ ?_|refine qd_ ?_ _));exact D8.out) hb);have n10_:=aK (qm_ (by repeat (first|(with_reducible first|exact HB.out|apply qb_|apply qa_|apply qc_|refine qf_ ?_ r9.out|refine qf_ ?_ D6.out|refine qf_ ?_ D9.out|refine qf_ ?_ F3.out|refine qf_ ?_ N7.out)|exact HB.out)) hb);clear j4;clear j3;clear d9;clear K8;clear K7;clear j6;clear l5;clear l6;clear j5;clear D8;clear HB;have j4:=n0_;have j3:=n1_;have d9:=n2_;have K8:=n3_;have K7:=n4_;have j6:=n5_;have l5:=n6_;have l6:=n7_;have j5:=n8_;have D8:=n9_;have HB:=n10_;clear n0_ n1_ n2_ n3_ n4_ n5_ n6_ n7_ n8_ n9_ n10_;(try clear hb);(try clear hb2);(try clear hk);(try clear hi)))
              go_meet
              case rel=>exact ⟨_,((bW4 != G5)),(by first|rfl|(simp;done)|(simp [*];done)),H',⟨by have:=bV7.out;have:=cY4.out;first|omega|exact Nat.le_refl _⟩,⟨by (try simp only [o7]);(with_reducible repeat (first|apply Kd.qq_|apply Kd.qr_|apply Kd.R_drew));exact Kd.R_mono j4.out (fun _ hk=>⟨hk.1.1.1,⟨hk.1.1.2,hk.2⟩⟩)⟩,⟨by (try simp only [o7]);(with_reducible repeat (first|apply Kd.qq_|apply Kd.qr_|apply Kd.R_drew));exact Kd.R_mono j3.out (fun _ hk=>⟨hk.1.1.1,⟨hk.1.1.2,hk.2⟩⟩)⟩,⟨by (try simp only [o7]);(with_reducible repeat (first|apply Kd.qq_|apply Kd.qr_|apply Kd.R_drew));exact Kd.R_mono d9.out (fun _ hk=>⟨hk.1.1.1,⟨hk.1.1.2,hk.2⟩⟩)⟩,⟨by (try simp only [o7]);(with_reducible repeat (first|apply Kd.qq_|apply Kd.qr_|apply Kd.R_drew));exact Kd.R_mono K7.out (fun _ hk=>⟨hk.1.1.1.2,⟨hk.1.1.2,hk.1.2⟩⟩)⟩,⟨by (try simp only [o7]);(with_reducible repeat (first|refine qe_ ?_ _|refine qg_ ?_|refine qd_ ?_ _));exact j6.out⟩,⟨by (try simp only [o7]);(with_reducible repeat (first|refine qe_ ?_ _|refine qg_ ?_|refine qd_ ?_ _));exact l5.out⟩,⟨by (try simp only [o7]);(with_reducible repeat (first|refine qe_ ?_ _|refine qg_ ?_|refine qd_ ?_ _));exact l6.out⟩,⟨by (try simp only [o7]);(with_reducible repeat (first|refine qe_ ?_ _|refine qg_ ?_|refine qd_ ?_ _));exact j5.out⟩,⟨by (try simp only [o7]);(with_reducible repeat (first|refine qe_ ?_ _|refine qg_ ?_|refine qd_ ?_ _));exact D8.out⟩,⟨by repeat (first|(with_reducible first|exact HB.out|apply qb_|apply qa_|apply qc_|refine qf_ ?_ r9.out|refine qf_ ?_ D6.out|refine qf_ ?_ D9.out|refine qf_ ?_ F3.out|refine qf_ ?_ N7.out)|exact HB.out)⟩⟩
             ·replace bV8:=Bool.eq_false_iff.mpr bV8
              subst bV8
              have H1:(qj_.j2 kj62 J9 true l9 o5 H8)=some r:=by rw [if_neg (show ¬ (false=true) by decide)] at H;exact H
              clear H
              have H:=H1
              clear H1
              have H':=aK H
              clear H
              have hnb139:=P7.out
              have hnc139:=J3.out
              have hnb140:=P6.out
              have hnc140:=J2.out
              have hnb141:=P5.out
              have hnc141:=I9.out
              have hnb142:=L6.out
              have hnc142:=H6.out
              have bQ4:O6.cell? ⟨u7,0,none⟩=some (.int .i64 0):=(qi_ D8.out 0).trans rfl
              have bQ3:O6.cell? ⟨u7,1,none⟩=some (.int .i64 0):=(qi_ D8.out 1).trans rfl
              have bQ2:O6.cell? ⟨u7,2,none⟩=some (.slice none 0 0):=(qi_ D8.out 2).trans rfl
              have aV7:=qh_ D8.out 0
              have aV6:=qh_ D8.out 1
              have aV5:=qh_ D8.out 2
              have hnb144:=J7.out
              have hnc144:=I5.out
              have hnb145:=I4.out
              have hnc145:=J6.out
              have hnb146:=E9.out
              have hnc146:=G7.out
              have bQ1:O6.cell? ⟨p8,0,none⟩=some (.int .i64 z8):=(qi_ l5.out 0).trans rfl
              have bQ0:O6.cell? ⟨p8,1,none⟩=some (.int .i64 C8):=(qi_ l5.out 1).trans rfl
              have bJ9:O6.cell? ⟨p8,2,none⟩=some (.slice F5 o6.length E8):=(qi_ l5.out 2).trans rfl
              have aV4:=qh_ l5.out 0
              have aV3:=qh_ l5.out 1
              have aV2:=qh_ l5.out 2
              go_wp2_with (first|((with_reducible refine qt_ (f:=33) rfl ?_);refine goesL_ (some 89) rfl rfl Try.func33 (by kernel_rfl) rfl #[.agg #[.int .i64 J8,.int .i64 K5,.slice H9 I8.length G8],.agg #[.int .i64 z8,.int .i64 C8,.slice F5 o6.length E8]] rfl (by (try simp only [List.map_toArray,List.map_cons,List.map_nil]);first|done|rfl|(simp only [List.length_drop,List.length_take];rfl)) ?_;(with_reducible refine (qb1_.calls kj62 J8 K5 _ _ I8 z8 C8 _ _ o6 false _ ?side1 ?side2 ?side3 ?side4 cX6.out).mono ?_);(case side1=>refine (Kd.qp1_ (e:=79) (base:=w.heap.size) (ok:=fun k_=>((((True∧some k_≠(.slice F5 o6.length E8:Value).ownBlock)∧some k_≠(.slice Ao32 K6.length co32:Value).ownBlock)∧some k_≠(.slice D5 l8.length C9:Value).ownBlock)∧some k_≠(.slice U8 U4.length U6:Value).ownBlock)) (n:=I8.length) (c:=G8) ?_).2.2;exact (by (with_reducible repeat (first|apply Kd.qq_|apply Kd.qr_|apply Kd.R_drew));exact (Kd.R_mono (Kd.R_far (p:=⟨u7,2,none⟩) (Kd.R_far (p:=⟨u7,1,none⟩) (Kd.R_far (p:=⟨u7,0,none⟩) (Kd.qg2_ K7.out D8.out (by decide)) (fun _ hk=>hk.2) (.int .i64 J8)) (fun _ hk=>hk.2) (.int .i64 K5)) (fun _ hk=>hk.2) (.slice H9 I8.length G8)) (fun _ h_=>h_.1))));(case side2=>exact (Kd.qp1_ K7.out).2.1);(case side3=>refine (Kd.qp1_ (e:=79) (base:=w.heap.size) (ok:=fun k_=>(((some k_≠(.slice Ao32 K6.length co32:Value).ownBlock∧some k_≠(.slice D5 l8.length C9:Value).ownBlock)∧some k_≠(.slice U8 U4.length U6:Value).ownBlock)∧some k_≠(.slice H9 I8.length G8:Value).ownBlock)) (n:=o6.length) (c:=E8) ?_).2.2;exact (by (with_reducible repeat (first|apply Kd.qq_|apply Kd.qr_|apply Kd.R_drew));exact (Kd.R_mono (Kd.R_far (p:=⟨u7,2,none⟩) (Kd.R_far (p:=⟨u7,1,none⟩) (Kd.R_far (p:=⟨u7,0,none⟩) (Kd.qg2_ j4.out D8.out (by decide)) (fun _ hk=>hk.2) (.int .i64 J8)) (fun _ hk=>hk.2) (.int .i64 K5)) (fun _ hk=>hk.2) (.slice H9 I8.length G8)) (fun _ h_=>h_.1))));(case side4=>exact (Kd.qp1_ j4.out).2.1);rintro e w148 ⟨rfl,hb⟩;refine ⟨_,rfl,?_⟩;have n0_:=aK (Kd.qj1_ (by (with_reducible repeat (first|apply Kd.qq_|apply Kd.qr_|apply Kd.R_drew));exact (Kd.R_mono (Kd.R_far (p:=⟨u7,2,none⟩) (Kd.R_far (p:=⟨u7,1,none⟩) (Kd.R_far (p:=⟨u7,0,none⟩) (Kd.qg2_ j4.out D8.out (by decide)) (fun _ hk=>hk.2) (.int .i64 J8)) (fun _ hk=>hk.2) (.int .i64 K5)) (fun _ hk=>hk.2) (.slice H9 I8.length G8)) (fun _ h_=>h_.1))) hb);have n1_:=aK (Kd.qj1_ (by (with_reducible repeat (first|apply Kd.qq_|apply Kd.qr_|apply Kd.R_drew));exact (Kd.R_mono (Kd.R_far (p:=⟨u7,2,none⟩) (Kd.R_far (p:=⟨u7,1,none⟩) (Kd.R_far (p:=⟨u7,0,none⟩) (Kd.qg2_ j3.out D8.out (by decide)) (fun _ hk=>hk.2) (.int .i64 J8)) (fun _ hk=>hk.2) (.int .i64 K5)) (fun _ hk=>hk.2) (.slice H9 I8.length G8)) (fun _ h_=>h_.1))) hb);have n2_:=aK (Kd.qj1_ (by (with_reducible repeat (first|apply Kd.qq_|apply Kd.qr_|apply Kd.R_drew));exact (Kd.R_mono (Kd.R_far (p:=⟨u7,2,none⟩) (Kd.R_far (p:=⟨u7,1,none⟩) (Kd.R_far (p:=⟨u7,0,none⟩) (Kd.qg2_ d9.out D8.out (by decide)) (fun _ hk=>hk.2) (.int .i64 J8)) (fun _ hk=>hk.2) (.int .i64 K5)) (fun _ hk=>hk.2) (.slice H9 I8.length G8)) (fun _ h_=>h_.1))) hb);have n3_:=aK (Kd.qj1_ (by (with_reducible repeat (first|apply Kd.qq_|apply Kd.qr_|apply Kd.R_drew));exact (Kd.R_mono (Kd.R_far (p:=⟨u7,2,none⟩) (Kd.R_far (p:=⟨u7,1,none⟩) (Kd.R_far (p:=⟨u7,0,none⟩) (Kd.qg2_ K8.out D8.out (by decide)) (fun _ hk=>hk.2) (.int .i64 J8)) (fun _ hk=>hk.2) (.int .i64 K5)) (fun _ hk=>hk.2) (.slice H9 I8.length G8)) (fun _ h_=>h_.1))) hb);have n4_:=aK (Kd.qj1_ (by (with_reducible repeat (first|apply Kd.qq_|apply Kd.qr_|apply Kd.R_drew));exact (Kd.R_mono (Kd.R_far (p:=⟨u7,2,none⟩) (Kd.R_far (p:=⟨u7,1,none⟩) (Kd.R_far (p:=⟨u7,0,none⟩) (Kd.qg2_ K7.out D8.out (by decide)) (fun _ hk=>hk.2) (.int .i64 J8)) (fun _ hk=>hk.2) (.int .i64 K5)) (fun _ hk=>hk.2) (.slice H9 I8.length G8)) (fun _ h_=>h_.1))) hb);have n5_:=aK (ql_ (g:=o9) (o:=.cells #[.int .i64 a0_0,.int .i64 a0_1,.slice A0_2 l0_2.length c0_2] 32 (0,0)) (by (with_reducible repeat (first|refine qe_ ?_ _|refine qg_ ?_|refine qd_ ?_ _));refine qa1_ ?_ J3.out _;(with_reducible repeat (first|refine qe_ ?_ _|refine qg_ ?_|refine qd_ ?_ _));refine qa1_ ?_ J3.out _;(with_reducible repeat (first|refine qe_ ?_ _|refine qg_ ?_|refine qd_ ?_ _));refine qa1_ ?_ J3.out _;(with_reducible repeat (first|refine qe_ ?_ _|refine qg_ ?_|refine qd_ ?_ _));exact j6.out) hb);have n6_:=aK (ql_ (g:=p8) (o:=.cells #[.int .i64 z8,.int .i64 C8,.slice F5 o6.length E8] 38 (0,0)) (by (with_reducible repeat (first|refine qe_ ?_ _|refine qg_ ?_|refine qd_ ?_ _));refine qa1_ ?_ J2.out _;(with_reducible repeat (first|refine qe_ ?_ _|refine qg_ ?_|refine qd_ ?_ _));refine qa1_ ?_ J2.out _;(with_reducible repeat (first|refine qe_ ?_ _|refine qg_ ?_|refine qd_ ?_ _));refine qa1_ ?_ J2.out _;(with_reducible repeat (first|refine qe_ ?_ _|refine qg_ ?_|refine qd_ ?_ _));exact l5.out) hb);have n7_:=aK (ql_ (g:=q8) (o:=.cells #[.int .i64 F7,.int .i64 F8,.slice Ao32 K6.length co32] 38 (0,0)) (by (with_reducible repeat (first|refine qe_ ?_ _|refine qg_ ?_|refine qd_ ?_ _));refine qa1_ ?_ I9.out _;(with_reducible repeat (first|refine qe_ ?_ _|refine qg_ ?_|refine qd_ ?_ _));refine qa1_ ?_ I9.out _;(with_reducible repeat (first|refine qe_ ?_ _|refine qg_ ?_|refine qd_ ?_ _));refine qa1_ ?_ I9.out _;(with_reducible repeat (first|refine qe_ ?_ _|refine qg_ ?_|refine qd_ ?_ _));exact l6.out) hb);have n8_:=aK (ql_ (g:=l7) (o:=.cells #[.int .i64 l9,.int .i64 o5,.slice D5 l8.length C9] 38 (0,0)) (by (with_reducible repeat (first|refine qe_ ?_ _|refine qg_ ?_|refine qd_ ?_ _));refine qa1_ ?_ H6.out _;(with_reducible repeat (first|refine qe_ ?_ _|refine qg_ ?_|refine qd_ ?_ _));refine qa1_ ?_ H6.out _;(with_reducible repeat (first|refine qe_ ?_ _|refine qg_ ?_|refine qd_ ?_ _));refine qa1_ ?_ H6.out _;(with_reducible repeat (first|refine qe_ ?_ _|refine qg_ ?_|refine qd_ ?_ _));exact j5.out) hb);have n9_:=aK (ql_ (g:=u7) (o:=.cells #[.int .i64 J8,.int .i64 K5,.slice H9 I8.length G8] 38 (0,0)) (by (with_reducible repeat (first|refine qe_ ?_ _|refine qg_ ?_|refine qd_ ?_ _));refine qy_ (cs:=#[.int .i64 J8,.int .i64 K5,.slice none 0 0]) ?_ 2 _ rfl;(with_reducible repeat (first|refine qe_ ?_ _|refine qg_ ?_|refine qd_ ?_ _));refine qy_ (cs:=#[.int .i64 J8,.int .i64 0,.slice none 0 0]) ?_ 1 _ rfl;(with_reducible repeat (first|refine qe_ ?_ _|refine qg_ ?_|refine qd_ ?_ _));refine qy_ (cs:=#[.int .i64 0,.int .i64 0,.slice none 0 0]) ?_ 0 _ rfl;(with_reducible repeat (first|refine qe_ ?_ _|refine qg_ ?_|refine qd_ ?_ _));exact D8.out) hb);have n10_:=aK (qm_ (by repeat (first|(with_reducible first|exact HB.out|apply qb_|apply qa_|apply qc_|refine qf_ ?_ r9.out|refine qf_ ?_ D6.out|refine qf_ ?_ D9.out|refine qf_ ?_ F3.out|refine qf_ ?_ N7.out)|exact HB.out)) hb);clear j4;clear j3;clear d9;clear K8;clear K7;clear j6;clear l5;clear l6;clear j5;clear D8;clear HB;have j4:=n0_;have j3:=n1_;have d9:=n2_;have K8:=n3_;have K7:=n4_;have j6:=n5_;have l5:=n6_;have l6:=n7_;have j5:=n8_;have D8:=n9_;have HB:=n10_;clear n0_ n1_ n2_ n3_ n4_ n5_ n6_ n7_ n8_ n9_ n10_;(try clear hb);(try clear hb2);(try clear hk);(try clear hi)))
              go_meet
              case rel=>exact ⟨_,(true),(by first|rfl|(simp;done)|(simp [*];done)),H',⟨by have:=bV7.out;have:=cY4.out;first|omega|exact Nat.le_refl _⟩,⟨by (try simp only [o7]);(with_reducible repeat (first|apply Kd.qq_|apply Kd.qr_|apply Kd.R_drew));exact Kd.R_mono j4.out (fun _ hk=>⟨hk.1.1.1,⟨hk.1.1.2,hk.2⟩⟩)⟩,⟨by (try simp only [o7]);(with_reducible repeat (first|apply Kd.qq_|apply Kd.qr_|apply Kd.R_drew));exact Kd.R_mono j3.out (fun _ hk=>⟨hk.1.1.1,⟨hk.1.1.2,hk.2⟩⟩)⟩,⟨by (try simp only [o7]);(with_reducible repeat (first|apply Kd.qq_|apply Kd.qr_|apply Kd.R_drew));exact Kd.R_mono d9.out (fun _ hk=>⟨hk.1.1.1,⟨hk.1.1.2,hk.2⟩⟩)⟩,⟨by (try simp only [o7]);(with_reducible repeat (first|apply Kd.qq_|apply Kd.qr_|apply Kd.R_drew));exact Kd.R_mono K7.out (fun _ hk=>⟨hk.1.1.1.2,⟨hk.1.1.2,hk.1.2⟩⟩)⟩,⟨by (try simp only [o7]);(with_reducible repeat (first|refine qe_ ?_ _|refine qg_ ?_|refine qd_ ?_ _));exact j6.out⟩,⟨by (try simp only [o7]);(with_reducible repeat (first|refine qe_ ?_ _|refine qg_ ?_|refine qd_ ?_ _));exact l5.out⟩,⟨by (try simp only [o7]);(with_reducible repeat (first|refine qe_ ?_ _|refine qg_ ?_|refine qd_ ?_ _));exact l6.out⟩,⟨by (try simp only [o7]);(with_reducible repeat (first|refine qe_ ?_ _|refine qg_ ?_|refine qd_ ?_ _));exact j5.out⟩,⟨by (try simp only [o7]);(with_reducible repeat (first|refine qe_ ?_ _|refine qg_ ?_|refine qd_ ?_ _));exact D8.out⟩,⟨by repeat (first|(with_reducible first|exact HB.out|apply qb_|apply qa_|apply qc_|refine qf_ ?_ r9.out|refine qf_ ?_ D6.out|refine qf_ ?_ D9.out|refine qf_ ?_ F3.out|refine qf_ ?_ N7.out)|exact HB.out)⟩⟩
            case rest =>
             clear cQ8
             try clear c1
             try clear c2
             try clear p2
             try clear c3
             try clear c3b0
             try clear c3b1
             try clear c4
             try clear c5
             try clear c6
             try clear c6b0
             try clear c7
             try clear c8
             try clear c9
             try clear c10
             try clear c11
             try clear c12
             try clear c13
             try clear c14
             try clear c23
             try clear c28
             try clear c29
             try clear cZ8
             try clear cZ7
             try clear c34
             try clear c35
             try clear c36
             try clear c37
             try clear c39
             try clear c40
             try clear c41
             try clear c42
             try clear c43
             try clear c44
             try clear c46
             try clear c47
             try clear cZ6
             try clear c51
             try clear cZ5
             try clear cZ4
             try clear cZ3
             try clear bV0
             try clear bY9
             try clear c68
             try clear c69
             try clear c70
             try clear bY4
             try clear Q0
             try clear c75
             try clear c76
             try clear c77
             try clear c78
             try clear c80
             try clear cV9
             try clear c84
             try clear c85
             try clear cV8
             try clear cV7
             try clear cV6
             try clear bV6
             try clear bY5
             try clear cV0
             try clear c96
             try clear c97
             try clear c98
             try clear U7
             try clear cV2
             try clear cV3
             try clear c107
             try clear c108
             try clear c109
             try clear c114
             try clear c115
             try clear c121
             try clear c122
             try clear c123
             try clear c124
             try clear bV8
             try clear c129
             try clear c130
             try clear c131
             try clear c132
             try clear c134
             try clear c135
             try clear c136
             try clear c139
             try clear c140
             try clear c141
             try clear c142
             try clear c144
             try clear c145
             try clear c146
             try clear bX5
             try clear bX4
             try clear bX3
             try clear bX2
             try clear bX1
             try clear bX0
             try clear bZ9
             try clear bZ8
             try clear bZ7
             try clear bZ6
             try clear bZ5
             try clear bZ4
             try clear bZ3
             try clear bZ2
             try clear bZ1
             try clear bZ0
             try clear bQ9
             try clear bQ8
             try clear bQ7
             try clear bQ6
             try clear bQ5
             try clear bQ4
             try clear bQ3
             try clear bQ2
             try clear bQ1
             try clear bQ0
             try clear bJ9
             try clear hcz16_0
             try clear hcz16_1
             try clear hcz16_2
             try clear hcz18_0
             try clear hcz18_1
             try clear hcz18_2
             try clear hcz24_0
             try clear hcz24_1
             try clear hcz24_2
             try clear hcz26_0
             try clear hcz26_1
             try clear hcz26_2
             try clear hcz31_0
             try clear hcz31_1
             try clear U3
             try clear hcz38_0
             try clear hcz38_1
             try clear U2
             try clear hcz45_0
             try clear hcz45_1
             try clear U1
             try clear hcz48_0
             try clear hcz48_1
             try clear hcz48_2
             try clear hcz53_0
             try clear hcz53_1
             try clear U0
             try clear T9
             try clear S9
             try clear R9
             try clear Z8
             try clear Z7
             try clear Z6
             try clear Z5
             try clear Z4
             try clear Z0
             try clear hcz82_0
             try clear hcz82_1
             try clear Y9
             try clear Y8
             try clear Y7
             try clear Y6
             try clear hcz8_0
             try clear hcz8_1
             try clear hcz8_2
             try clear Y5
             try clear Y4
             try clear Y3
             try clear bY3
             try clear bY2
             try clear bY1
             try clear bJ8
             try clear bJ7
             try clear bJ6
             try clear bJ5
             try clear bJ4
             try clear bJ3
             try clear bJ2
             try clear bJ1
             try clear bJ0
             try clear aW9
             try clear aW8
             try clear aW7
             try clear aW6
             try clear aW5
             try clear aW4
             try clear aW3
             try clear aW2
             try clear aW1
             try clear aW0
             try clear aV9
             try clear aV8
             try clear aV7
             try clear aV6
             try clear aV5
             try clear aV4
             try clear aV3
             try clear aV2
             try clear hfz16_0
             try clear hfz16_1
             try clear hfz16_2
             try clear hfz18_0
             try clear hfz18_1
             try clear hfz18_2
             try clear hfz24_0
             try clear hfz24_1
             try clear hfz24_2
             try clear hfz26_0
             try clear hfz26_1
             try clear hfz26_2
             try clear hfz31_0
             try clear hfz31_1
             try clear R8
             try clear hfz38_0
             try clear hfz38_1
             try clear R7
             try clear hfz45_0
             try clear hfz45_1
             try clear R6
             try clear hfz48_0
             try clear hfz48_1
             try clear hfz48_2
             try clear hfz53_0
             try clear hfz53_1
             try clear R5
             try clear R4
             try clear R3
             try clear Q9
             try clear Y2
             try clear Y1
             try clear Y0
             try clear X9
             try clear X8
             try clear X7
             try clear hfz82_0
             try clear hfz82_1
             try clear X6
             try clear X5
             try clear X3
             try clear X0
             try clear hfz8_0
             try clear hfz8_1
             try clear hfz8_2
             try clear W9
             try clear V9
             try clear V8
             try clear bY0
             try clear bX9
             try clear bX8
             try clear p2
             obtain ⟨kq,P9,rfl,HA,HJ105,j4,j3,d9,I6,j6,l5,l6,j5,D8,HB⟩:=hcut
             have G6:=(Kd.qp1_ d9.out).1
             rw [G6] at d9
             (try simp only [G6])
             (try simp only [G6] at j6)
             (try simp only [G6] at l5)
             (try simp only [G6] at l6)
             (try simp only [G6] at j5)
             (try simp only [G6] at D8)
             (try simp only [G6] at j4)
             (try simp only [G6] at j3)
             (try simp only [G6] at I6)
             cases kq with
             | zero=>exact absurd HA.out (by simp [qj_.j2])
             | succ kj105 =>
              have H:=HA.out
              clear HA
              simp only [qj_.j2] at H
              by_cases bW6:P9=true
              ·subst bW6
               have H1:(some false)=some r:=by rw [if_pos rfl] at H;exact H
               clear H
               have H:=H1
               clear H1
               obtain rfl:=Option.some.inj H
               go_wp2
               go_ret
               exact ⟨by first|rfl|(simp [qn_,qo_] <;> rfl)|(simp [*,qn_,qo_] <;> rfl),by repeat (first|(with_reducible first|exact HB.out|apply qb_|apply qa_|apply qc_|refine qf_ ?_ r9.out|refine qf_ ?_ D6.out|refine qf_ ?_ D9.out|refine qf_ ?_ F3.out|refine qf_ ?_ N7.out)|exact HB.out)⟩
              ·replace bW6:=Bool.eq_false_iff.mpr bW6
               subst bW6
               have H1:((qn1_.f kj105 l9 o5 H8 1).bind fun M8=>(if M8<0 then (some false) else (if M8=J9 then (some true) else (some false))))=some r:=by rw [if_neg (show ¬ (false=true) by decide)] at H;exact H
               clear H
               have H:=H1
               clear H1
               replace H:=Option.bind_eq_some_iff.mp H
               obtain ⟨M8,cX2,H⟩:=H
               replace H:(if M8<0 then (some false) else (if M8=J9 then (some true) else (some false)))=some r:=H
               have cQ4:=aK cX2
               clear cX2
               by_cases bV2:M8<0
               ·rw [if_pos bV2] at H
                have bY8:decide (M8<0)=true:=decide_eq_true bV2
                clear bV2
                obtain rfl:=Option.some.inj H
                have hnb152:=I1.out
                have hnc152:=F9.out
                have hnb153:=G7.out
                have hnc153:=E9.out
                have hnb154:=H7.out
                have hnc154:=F6.out
                have hnb155:=H6.out
                have hnc155:=L6.out
                have hcz156_0:wc.cell? ⟨l7,0,none⟩=some (.int .i64 l9):=(qi_ j5.out 0).trans rfl
                have hcz156_1:wc.cell? ⟨l7,1,none⟩=some (.int .i64 o5):=(qi_ j5.out 1).trans rfl
                have hcz156_2:wc.cell? ⟨l7,2,none⟩=some (.slice D5 H8.length C9):=(qi_ j5.out 2).trans rfl
                have hfz156_0:=qh_ j5.out 0
                have hfz156_1:=qh_ j5.out 1
                have hfz156_2:=qh_ j5.out 2
                go_wp2_with (first|((with_reducible refine qt_ (f:=39) rfl ?_);refine goesL_ (some 98) rfl rfl Try.func39 (by kernel_rfl) rfl #[.agg #[.int .i64 l9,.int .i64 o5,.slice D5 H8.length C9],.int .i64 1] rfl (by (try simp only [List.map_toArray,List.map_cons,List.map_nil]);first|done|rfl|(simp only [List.length_drop,List.length_take];rfl)) ?_;(with_reducible refine (qn1_.calls kj105 l9 o5 _ _ H8 1 M8 _ ?side1 ?side2 cQ4.out).mono ?_);(case side1=>repeat (first|exact (Kd.qp1_ d9.out).2.2|(with_reducible refine Kd.qi2_ ?_ _)|(with_reducible refine Kd.qh2_ ?_ _)|(with_reducible refine Kd.C_drew ?_)));(case side2=>exact (Kd.qp1_ d9.out).2.1);rintro e w157 ⟨rfl,hb⟩;refine ⟨_,rfl,?_⟩;have n0_:=aK (Kd.qj1_ (by (with_reducible repeat (first|apply Kd.qq_|apply Kd.qr_|apply Kd.R_drew));exact j4.out) hb);have n1_:=aK (Kd.qj1_ (by (with_reducible repeat (first|apply Kd.qq_|apply Kd.qr_|apply Kd.R_drew));exact j3.out) hb);have n2_:=aK (Kd.qj1_ (by (with_reducible repeat (first|apply Kd.qq_|apply Kd.qr_|apply Kd.R_drew));exact d9.out) hb);have n3_:=aK (Kd.qj1_ (by (with_reducible repeat (first|apply Kd.qq_|apply Kd.qr_|apply Kd.R_drew));exact I6.out) hb);have n4_:=aK (ql_ (g:=o9) (o:=.cells #[.int .i64 a0_0,.int .i64 a0_1,.slice A0_2 l0_2.length c0_2] 32 (0,0)) (by (with_reducible repeat (first|refine qe_ ?_ _|refine qg_ ?_|refine qd_ ?_ _));exact j6.out) hb);have n5_:=aK (ql_ (g:=p8) (o:=.cells #[.int .i64 z8,.int .i64 C8,.slice F5 o6.length E8] 38 (0,0)) (by (with_reducible repeat (first|refine qe_ ?_ _|refine qg_ ?_|refine qd_ ?_ _));exact l5.out) hb);have n6_:=aK (ql_ (g:=q8) (o:=.cells #[.int .i64 F7,.int .i64 F8,.slice Ao32 K6.length co32] 38 (0,0)) (by (with_reducible repeat (first|refine qe_ ?_ _|refine qg_ ?_|refine qd_ ?_ _));exact l6.out) hb);have n7_:=aK (ql_ (g:=l7) (o:=.cells #[.int .i64 l9,.int .i64 o5,.slice D5 H8.length C9] 38 (0,0)) (by (with_reducible repeat (first|refine qe_ ?_ _|refine qg_ ?_|refine qd_ ?_ _));exact j5.out) hb);have n8_:=aK (ql_ (g:=u7) (o:=.cells #[.int .i64 J8,.int .i64 K5,.slice H9 I8.length G8] 38 (0,0)) (by (with_reducible repeat (first|refine qe_ ?_ _|refine qg_ ?_|refine qd_ ?_ _));exact D8.out) hb);have n9_:=aK (qm_ (by repeat (first|(with_reducible first|exact HB.out|apply qb_|apply qa_|apply qc_|refine qf_ ?_ r9.out|refine qf_ ?_ D6.out|refine qf_ ?_ D9.out|refine qf_ ?_ F3.out|refine qf_ ?_ N7.out)|exact HB.out)) hb);clear j4;clear j3;clear d9;clear I6;clear j6;clear l5;clear l6;clear j5;clear D8;clear HB;have j4:=n0_;have j3:=n1_;have d9:=n2_;have I6:=n3_;have j6:=n4_;have l5:=n5_;have l6:=n6_;have j5:=n7_;have D8:=n8_;have HB:=n9_;clear n0_ n1_ n2_ n3_ n4_ n5_ n6_ n7_ n8_ n9_;(try clear hb);(try clear hb2);(try clear hk);(try clear hi)))
                go_ret
                exact ⟨by first|rfl|(simp [qn_,qo_] <;> rfl)|(simp [*,qn_,qo_] <;> rfl),by repeat (first|(with_reducible first|exact HB.out|apply qb_|apply qa_|apply qc_|refine qf_ ?_ r9.out|refine qf_ ?_ D6.out|refine qf_ ?_ D9.out|refine qf_ ?_ F3.out|refine qf_ ?_ N7.out)|exact HB.out)⟩
               ·rw [if_neg bV2] at H
                have bY8:decide (M8<0)=false:=decide_eq_false bV2
                clear bV2
                by_cases V4:M8=J9
                ·rw [if_pos V4] at H
                 have bY7:(M8==J9)=true:=beq_iff_eq.mpr V4
                 have bY6:(M8 != J9)=false:=bne_eq_false_iff_eq.mpr V4
                 clear V4
                 obtain rfl:=Option.some.inj H
                 have hnb159:=I1.out
                 have hnc159:=F9.out
                 have hnb160:=G7.out
                 have hnc160:=E9.out
                 have hnb161:=H7.out
                 have hnc161:=F6.out
                 have hnb162:=H6.out
                 have hnc162:=L6.out
                 have hcz163_0:wc.cell? ⟨l7,0,none⟩=some (.int .i64 l9):=(qi_ j5.out 0).trans rfl
                 have hcz163_1:wc.cell? ⟨l7,1,none⟩=some (.int .i64 o5):=(qi_ j5.out 1).trans rfl
                 have hcz163_2:wc.cell? ⟨l7,2,none⟩=some (.slice D5 H8.length C9):=(qi_ j5.out 2).trans rfl
                 have hfz163_0:=qh_ j5.out 0
                 have hfz163_1:=qh_ j5.out 1
                 have hfz163_2:=qh_ j5.out 2
                 go_wp2_with (first|((with_reducible refine qt_ (f:=39) rfl ?_);refine goesL_ (some 98) rfl rfl Try.func39 (by kernel_rfl) rfl #[.agg #[.int .i64 l9,.int .i64 o5,.slice D5 H8.length C9],.int .i64 1] rfl (by (try simp only [List.map_toArray,List.map_cons,List.map_nil]);first|done|rfl|(simp only [List.length_drop,List.length_take];rfl)) ?_;(with_reducible refine (qn1_.calls kj105 l9 o5 _ _ H8 1 M8 _ ?side1 ?side2 cQ4.out).mono ?_);(case side1=>repeat (first|exact (Kd.qp1_ d9.out).2.2|(with_reducible refine Kd.qi2_ ?_ _)|(with_reducible refine Kd.qh2_ ?_ _)|(with_reducible refine Kd.C_drew ?_)));(case side2=>exact (Kd.qp1_ d9.out).2.1);rintro e w164 ⟨rfl,hb⟩;refine ⟨_,rfl,?_⟩;have n0_:=aK (Kd.qj1_ (by (with_reducible repeat (first|apply Kd.qq_|apply Kd.qr_|apply Kd.R_drew));exact j4.out) hb);have n1_:=aK (Kd.qj1_ (by (with_reducible repeat (first|apply Kd.qq_|apply Kd.qr_|apply Kd.R_drew));exact j3.out) hb);have n2_:=aK (Kd.qj1_ (by (with_reducible repeat (first|apply Kd.qq_|apply Kd.qr_|apply Kd.R_drew));exact d9.out) hb);have n3_:=aK (Kd.qj1_ (by (with_reducible repeat (first|apply Kd.qq_|apply Kd.qr_|apply Kd.R_drew));exact I6.out) hb);have n4_:=aK (ql_ (g:=o9) (o:=.cells #[.int .i64 a0_0,.int .i64 a0_1,.slice A0_2 l0_2.length c0_2] 32 (0,0)) (by (with_reducible repeat (first|refine qe_ ?_ _|refine qg_ ?_|refine qd_ ?_ _));exact j6.out) hb);have n5_:=aK (ql_ (g:=p8) (o:=.cells #[.int .i64 z8,.int .i64 C8,.slice F5 o6.length E8] 38 (0,0)) (by (with_reducible repeat (first|refine qe_ ?_ _|refine qg_ ?_|refine qd_ ?_ _));exact l5.out) hb);have n6_:=aK (ql_ (g:=q8) (o:=.cells #[.int .i64 F7,.int .i64 F8,.slice Ao32 K6.length co32] 38 (0,0)) (by (with_reducible repeat (first|refine qe_ ?_ _|refine qg_ ?_|refine qd_ ?_ _));exact l6.out) hb);have n7_:=aK (ql_ (g:=l7) (o:=.cells #[.int .i64 l9,.int .i64 o5,.slice D5 H8.length C9] 38 (0,0)) (by (with_reducible repeat (first|refine qe_ ?_ _|refine qg_ ?_|refine qd_ ?_ _));exact j5.out) hb);have n8_:=aK (ql_ (g:=u7) (o:=.cells #[.int .i64 J8,.int .i64 K5,.slice H9 I8.length G8] 38 (0,0)) (by (with_reducible repeat (first|refine qe_ ?_ _|refine qg_ ?_|refine qd_ ?_ _));exact D8.out) hb);have n9_:=aK (qm_ (by repeat (first|(with_reducible first|exact HB.out|apply qb_|apply qa_|apply qc_|refine qf_ ?_ r9.out|refine qf_ ?_ D6.out|refine qf_ ?_ D9.out|refine qf_ ?_ F3.out|refine qf_ ?_ N7.out)|exact HB.out)) hb);clear j4;clear j3;clear d9;clear I6;clear j6;clear l5;clear l6;clear j5;clear D8;clear HB;have j4:=n0_;have j3:=n1_;have d9:=n2_;have I6:=n3_;have j6:=n4_;have l5:=n5_;have l6:=n6_;have j5:=n7_;have D8:=n8_;have HB:=n9_;clear n0_ n1_ n2_ n3_ n4_ n5_ n6_ n7_ n8_ n9_;(try clear hb);(try clear hb2);(try clear hk);(try clear hi)))
                 go_ret
                 exact ⟨by first|rfl|(simp [qn_,qo_] <;> rfl)|(simp [*,qn_,qo_] <;> rfl),by repeat (first|(with_reducible first|exact HB.out|apply qb_|apply qa_|apply qc_|refine qf_ ?_ r9.out|refine qf_ ?_ D6.out|refine qf_ ?_ D9.out|refine qf_ ?_ F3.out|refine qf_ ?_ N7.out)|exact HB.out)⟩
                ·rw [if_neg V4] at H
                 have bY7:(M8==J9)=false:=beq_eq_false_iff_ne.mpr V4
                 have bY6:(M8 != J9)=true:=bne_iff_ne.mpr V4
                 obtain rfl:=Option.some.inj H
                 have hnb165:=I1.out
                 have hnc165:=F9.out
                 have hnb166:=G7.out
                 have hnc166:=E9.out
                 have hnb167:=H7.out
                 have hnc167:=F6.out
                 have hnb168:=H6.out
                 have hnc168:=L6.out
                 have hcz169_0:wc.cell? ⟨l7,0,none⟩=some (.int .i64 l9):=(qi_ j5.out 0).trans rfl
                 have hcz169_1:wc.cell? ⟨l7,1,none⟩=some (.int .i64 o5):=(qi_ j5.out 1).trans rfl
                 have hcz169_2:wc.cell? ⟨l7,2,none⟩=some (.slice D5 H8.length C9):=(qi_ j5.out 2).trans rfl
                 have hfz169_0:=qh_ j5.out 0
                 have hfz169_1:=qh_ j5.out 1
                 have hfz169_2:=qh_ j5.out 2
                 go_wp2_with (first|((with_reducible refine qt_ (f:=39) rfl ?_);refine goesL_ (some 98) rfl rfl Try.func39 (by kernel_rfl) rfl #[.agg #[.int .i64 l9,.int .i64 o5,.slice D5 H8.length C9],.int .i64 1] rfl (by (try simp only [List.map_toArray,List.map_cons,List.map_nil]);first|done|rfl|(simp only [List.length_drop,List.length_take];rfl)) ?_;(with_reducible refine (qn1_.calls kj105 l9 o5 _ _ H8 1 M8 _ ?side1 ?side2 cQ4.out).mono ?_);(case side1=>repeat (first|exact (Kd.qp1_ d9.out).2.2|(with_reducible refine Kd.qi2_ ?_ _)|(with_reducible refine Kd.qh2_ ?_ _)|(with_reducible refine Kd.C_drew ?_)));(case side2=>exact (Kd.qp1_ d9.out).2.1);rintro e w170 ⟨rfl,hb⟩;refine ⟨_,rfl,?_⟩;have n0_:=aK (Kd.qj1_ (by (with_reducible repeat (first|apply Kd.qq_|apply Kd.qr_|apply Kd.R_drew));exact j4.out) hb);have n1_:=aK (Kd.qj1_ (by (with_reducible repeat (first|apply Kd.qq_|apply Kd.qr_|apply Kd.R_drew));exact j3.out) hb);have n2_:=aK (Kd.qj1_ (by (with_reducible repeat (first|apply Kd.qq_|apply Kd.qr_|apply Kd.R_drew));exact d9.out) hb);have n3_:=aK (Kd.qj1_ (by (with_reducible repeat (first|apply Kd.qq_|apply Kd.qr_|apply Kd.R_drew));exact I6.out) hb);have n4_:=aK (ql_ (g:=o9) (o:=.cells #[.int .i64 a0_0,.int .i64 a0_1,.slice A0_2 l0_2.length c0_2] 32 (0,0)) (by (with_reducible repeat (first|refine qe_ ?_ _|refine qg_ ?_|refine qd_ ?_ _));exact j6.out) hb);have n5_:=aK (ql_ (g:=p8) (o:=.cells #[.int .i64 z8,.int .i64 C8,.slice F5 o6.length E8] 38 (0,0)) (by (with_reducible repeat (first|refine qe_ ?_ _|refine qg_ ?_|refine qd_ ?_ _));exact l5.out) hb);have n6_:=aK (ql_ (g:=q8) (o:=.cells #[.int .i64 F7,.int .i64 F8,.slice Ao32 K6.length co32] 38 (0,0)) (by (with_reducible repeat (first|refine qe_ ?_ _|refine qg_ ?_|refine qd_ ?_ _));exact l6.out) hb);have n7_:=aK (ql_ (g:=l7) (o:=.cells #[.int .i64 l9,.int .i64 o5,.slice D5 H8.length C9] 38 (0,0)) (by (with_reducible repeat (first|refine qe_ ?_ _|refine qg_ ?_|refine qd_ ?_ _));exact j5.out) hb);have n8_:=aK (ql_ (g:=u7) (o:=.cells #[.int .i64 J8,.int .i64 K5,.slice H9 I8.length G8] 38 (0,0)) (by (with_reducible repeat (first|refine qe_ ?_ _|refine qg_ ?_|refine qd_ ?_ _));exact D8.out) hb);have n9_:=aK (qm_ (by repeat (first|(with_reducible first|exact HB.out|apply qb_|apply qa_|apply qc_|refine qf_ ?_ r9.out|refine qf_ ?_ D6.out|refine qf_ ?_ D9.out|refine qf_ ?_ F3.out|refine qf_ ?_ N7.out)|exact HB.out)) hb);clear j4;clear j3;clear d9;clear I6;clear j6;clear l5;clear l6;clear j5;clear D8;clear HB;have j4:=n0_;have j3:=n1_;have d9:=n2_;have I6:=n3_;have j6:=n4_;have l5:=n5_;have l6:=n6_;have j5:=n7_;have D8:=n8_;have HB:=n9_;clear n0_ n1_ n2_ n3_ n4_ n5_ n6_ n7_ n8_ n9_;(try clear hb);(try clear hb2);(try clear hk);(try clear hi)))
                 go_ret
                 exact ⟨by first|rfl|(simp [qn_,qo_] <;> rfl)|(simp [*,qn_,qo_] <;> rfl),by repeat (first|(with_reducible first|exact HB.out|apply qb_|apply qa_|apply qc_|refine qf_ ?_ r9.out|refine qf_ ?_ D6.out|refine qf_ ?_ D9.out|refine qf_ ?_ F3.out|refine qf_ ?_ N7.out)|exact HB.out)⟩
           ·rw [if_neg U7] at H
            have cV2:(M0==J9)=false:=beq_eq_false_iff_ne.mpr U7
            have cV3:(M0 != J9)=true:=bne_iff_ne.mpr U7
            obtain rfl:=Option.some.inj H
            have hnb171:=I1.out
            have hnc171:=F9.out
            have hnb172:=G7.out
            have hnc172:=E9.out
            have hnb173:=H7.out
            have hnc173:=F6.out
            have hcz174_0:wc.cell? ⟨l7,0,none⟩=some (.int .i64 l9):=(qi_ j5.out 0).trans rfl
            have hcz174_1:wc.cell? ⟨l7,1,none⟩=some (.int .i64 o5):=(qi_ j5.out 1).trans rfl
            have hcz174_2:wc.cell? ⟨l7,2,none⟩=some (.slice D5 l8.length C9):=(qi_ j5.out 2).trans rfl
            have hfz174_0:=qh_ j5.out 0
            have hfz174_1:=qh_ j5.out 1
            have hfz174_2:=qh_ j5.out 2
            go_wp2_with (first|((with_reducible refine qt_ (f:=34) rfl ?_);refine goesL_ (some 71) rfl rfl Try.func34 (by kernel_rfl) rfl #[.agg #[.int .i64 l9,.int .i64 o5,.slice D5 l8.length C9],.int .i64 1] rfl (by (try simp only [List.map_toArray,List.map_cons,List.map_nil]);first|done|rfl|(simp only [List.length_drop,List.length_take];rfl)) ?_;(with_reducible refine (qo1_.calls kj62 l9 o5 (fun k_=>some k_=(.slice D5 l8.length C9:Value).ownBlock) (.slice D5 l8.length C9) l8 1 J9 H8 w _ ?side1 ?side2 cZ0.out).mono ?_);(case side1=>repeat (first|(with_reducible first|exact HB.out|apply qb_|apply qa_|apply qc_|refine qf_ ?_ r9.out|refine qf_ ?_ D6.out|refine qf_ ?_ D9.out|refine qf_ ?_ F3.out)|exact HB.out));(case side2=>exact Kd.R_tight rfl d9.out);rintro e cQ3 ⟨rfl,hy0,hb,hkp⟩;refine ⟨_,rfl,?_⟩;have n0_:=aK (Kd.R_mono (ok':=fun k_=>some k_≠(.slice Ao32 K6.length co32:Value).ownBlock∧some k_≠(.slice D5 l8.length C9:Value).ownBlock) (Kd.R_keptB (j4.out) hkp (fun k_ hk_ hs_=>(hk_.2) hs_)) (fun k_ hk_=>⟨hk_.1.1,hk_.1.2⟩));have n1_:=aK (Kd.R_mono (ok':=fun k_=>some k_≠(.slice F5 o6.length E8:Value).ownBlock∧some k_≠(.slice D5 l8.length C9:Value).ownBlock) (Kd.R_keptB (j3.out) hkp (fun k_ hk_ hs_=>(hk_.2) hs_)) (fun k_ hk_=>⟨hk_.1.1,hk_.1.2⟩));have n2_:=aK (Kd.R_reok rfl hy0 (fun k_ e_=>d9.out.1 k_ e_));have n3_:=aK (qy2_ (by (with_reducible repeat (first|refine qe_ ?_ _|refine qg_ ?_|refine qd_ ?_ _));exact j6.out) hkp (fun hs_=>(fun e_=>(Kd.R_ne d9.out j6.out (by decide)) e_) hs_));have n4_:=aK (qy2_ (by (with_reducible repeat (first|refine qe_ ?_ _|refine qg_ ?_|refine qd_ ?_ _));exact l5.out) hkp (fun hs_=>(fun e_=>(Kd.R_ne d9.out l5.out (by decide)) e_) hs_));have n5_:=aK (qy2_ (by (with_reducible repeat (first|refine qe_ ?_ _|refine qg_ ?_|refine qd_ ?_ _));exact l6.out) hkp (fun hs_=>(fun e_=>(Kd.R_ne d9.out l6.out (by decide)) e_) hs_));have n6_:=aK (qy2_ (by (with_reducible repeat (first|refine qe_ ?_ _|refine qg_ ?_|refine qd_ ?_ _));exact j5.out) hkp (fun hs_=>(fun e_=>(Kd.R_ne d9.out j5.out (by decide)) e_) hs_));have n7_:=aK (hb);clear j4;clear j3;clear d9;clear j6;clear l5;clear l6;clear j5;clear HB;have j4:=n0_;have j3:=n1_;have d9:=n2_;have j6:=n3_;have l5:=n4_;have l6:=n5_;have j5:=n6_;have HB:=n7_;clear n0_ n1_ n2_ n3_ n4_ n5_ n6_ n7_;(try clear hb);(try clear hkp);(try clear hy0);have hcz176_0:cQ3.cell? ⟨l7,0,none⟩=some (.int .i64 l9):=(qi_ j5.out 0).trans rfl;have hcz176_1:cQ3.cell? ⟨l7,1,none⟩=some (.int .i64 o5):=(qi_ j5.out 1).trans rfl;have hcz176_2:cQ3.cell? ⟨l7,2,none⟩=some (.slice D5 l8.length C9):=(qi_ j5.out 2).trans rfl;have hfz176_0:=qh_ j5.out 0;have hfz176_1:=qh_ j5.out 1;have hfz176_2:=qh_ j5.out 2)|((with_reducible refine qt_ (f:=39) rfl ?_);refine goesL_ (some 74) rfl rfl Try.func39 (by kernel_rfl) rfl #[.agg #[.int .i64 l9,.int .i64 o5,.slice D5 H8.length C9],.int .i64 1] rfl (by (try simp only [List.map_toArray,List.map_cons,List.map_nil]);first|done|(rw [show H8.length=l8.length from (Kd.qp1_ d9.out).1.symm] <;> rfl)|rfl|(simp only [List.length_drop,List.length_take];rfl)) ?_;(with_reducible refine (qn1_.calls kj62 l9 o5 _ _ H8 1 M0 _ ?side1 ?side2 cQ9.out).mono ?_);(case side1=>repeat (first|exact (Kd.qp1_ d9.out).2.2|(with_reducible refine Kd.qi2_ ?_ _)|(with_reducible refine Kd.qh2_ ?_ _)|(with_reducible refine Kd.C_drew ?_)));(case side2=>rw [show H8.length=l8.length from (Kd.qp1_ d9.out).1.symm];exact (Kd.qp1_ d9.out).2.1);rintro e w177 ⟨rfl,hb⟩;refine ⟨_,rfl,?_⟩;have n0_:=aK (Kd.qj1_ (by (with_reducible repeat (first|apply Kd.qq_|apply Kd.qr_|apply Kd.R_drew));exact j4.out) hb);have n1_:=aK (Kd.qj1_ (by (with_reducible repeat (first|apply Kd.qq_|apply Kd.qr_|apply Kd.R_drew));exact j3.out) hb);have n2_:=aK (Kd.qj1_ (by (with_reducible repeat (first|apply Kd.qq_|apply Kd.qr_|apply Kd.R_drew));exact d9.out) hb);have n3_:=aK (ql_ (g:=o9) (o:=.cells #[.int .i64 a0_0,.int .i64 a0_1,.slice A0_2 l0_2.length c0_2] 32 (0,0)) (by (with_reducible repeat (first|refine qe_ ?_ _|refine qg_ ?_|refine qd_ ?_ _));exact j6.out) hb);have n4_:=aK (ql_ (g:=p8) (o:=.cells #[.int .i64 z8,.int .i64 C8,.slice F5 o6.length E8] 38 (0,0)) (by (with_reducible repeat (first|refine qe_ ?_ _|refine qg_ ?_|refine qd_ ?_ _));exact l5.out) hb);have n5_:=aK (ql_ (g:=q8) (o:=.cells #[.int .i64 F7,.int .i64 F8,.slice Ao32 K6.length co32] 38 (0,0)) (by (with_reducible repeat (first|refine qe_ ?_ _|refine qg_ ?_|refine qd_ ?_ _));exact l6.out) hb);have n6_:=aK (ql_ (g:=l7) (o:=.cells #[.int .i64 l9,.int .i64 o5,.slice D5 l8.length C9] 38 (0,0)) (by (with_reducible repeat (first|refine qe_ ?_ _|refine qg_ ?_|refine qd_ ?_ _));exact j5.out) hb);have n7_:=aK (qm_ (by repeat (first|(with_reducible first|exact HB.out|apply qb_|apply qa_|apply qc_|refine qf_ ?_ r9.out|refine qf_ ?_ D6.out|refine qf_ ?_ D9.out|refine qf_ ?_ F3.out)|exact HB.out)) hb);clear j4;clear j3;clear d9;clear j6;clear l5;clear l6;clear j5;clear HB;have j4:=n0_;have j3:=n1_;have d9:=n2_;have j6:=n3_;have l5:=n4_;have l6:=n5_;have j5:=n6_;have HB:=n7_;clear n0_ n1_ n2_ n3_ n4_ n5_ n6_ n7_;(try clear hb);(try clear hb2);(try clear hk);(try clear hi)))
            go_ret
            exact ⟨by first|rfl|(simp [qn_,qo_] <;> rfl)|(simp [*,qn_,qo_] <;> rfl),by repeat (first|(with_reducible first|exact HB.out|apply qb_|apply qa_|apply qc_|refine qf_ ?_ r9.out|refine qf_ ?_ D6.out|refine qf_ ?_ D9.out|refine qf_ ?_ F3.out)|exact HB.out)⟩
      ·replace bY9:=Bool.eq_false_iff.mpr bY9
       subst bY9
       have H1:(some false)=some r:=by rw [if_neg (show ¬ (false=true) by decide)] at H;exact H
       clear H
       have H:=H1
       clear H1
       obtain rfl:=Option.some.inj H
       try go_wp2
       have n0_:=aK (Kd.R_drew j4.out)
       have n1_:=aK (Kd.R_drew j3.out)
       have n2_:=aK (Kd.R_drew d9.out)
       have n3_:=aK (qg_ j6.out)
       have n4_:=aK (qg_ l5.out)
       have n5_:=aK (qg_ l6.out)
       have n6_:=aK (qg_ j5.out)
       have n7_:=aK (qc_ HB.out)
       clear j4
       clear j3
       clear d9
       clear j6
       clear l5
       clear l6
       clear j5
       clear HB
       have j4:=n0_
       have j3:=n1_
       have d9:=n2_
       have j6:=n3_
       have l5:=n4_
       have l6:=n5_
       have j5:=n6_
       have HB:=n7_
       clear n0_ n1_ n2_ n3_ n4_ n5_ n6_ n7_
       refine start_ (n:=5) (S:=fun w'=>w'.cell? ⟨q8,0,none⟩=some (.int .i64 F7)∧w'.cell? ⟨q8,1,none⟩=some (.int .i64 F8)∧w'.cell? ⟨q8,2,none⟩=some (.slice Ao32 F4.length co32)∧w'.cell? ⟨o9,0,none⟩=some (.int .i64 a0_0)∧w'.cell? ⟨o9,1,none⟩=some (.int .i64 a0_1)∧w'.cell? ⟨o9,2,none⟩=some (.slice A0_2 l0_2.length c0_2)) (ds:=[]) #[fF,fF,fF,fF,fF] (by kernel_rfl) rfl rfl ⟨(qi_ l6.out 0).trans rfl,(qi_ l6.out 1).trans rfl,(qi_ l6.out 2).trans rfl,(qi_ j6.out 0).trans rfl,(qi_ j6.out 1).trans rfl,(qi_ j6.out 2).trans rfl⟩ (fun hHeld=>?_)
       generalize wc.drew=w178 at j4 j3 d9 j6 l5 l6 j5 HB hHeld ⊢
       refine take_ (i:=0) (N:=some 48) (v:=?_) (a':=?_) #[tT,fF,fF,fF,fF] rfl rfl (by kernel_rfl) (fun _ _ _ h=>h) (Or.inl ⟨by rfl,?_⟩) hHeld ?_ ?_
       rotate_left
       ·rintro w' ⟨s0,s1,s2,s3,s4,s5⟩
        go_simp
        with_reducible rfl
       rotate_left
       ·simp only [Act.put,List.setIfInBounds_toArray,List.set_cons_zero,List.set_cons_succ,i64_w,i32_w]
        rfl
       refine take_ (i:=1) (N:=some 49) (v:=?_) (a':=?_) #[tT,tT,fF,fF,fF] rfl rfl (by kernel_rfl) (fun _ _ _ h=>h) (Or.inl ⟨by rfl,?_⟩) hHeld ?_ ?_
       rotate_left
       ·rintro w' ⟨s0,s1,s2,s3,s4,s5⟩
        go_simp
        with_reducible rfl
       rotate_left
       ·simp only [Act.put,List.setIfInBounds_toArray,List.set_cons_zero,List.set_cons_succ,i64_w,i32_w]
        rfl
       refine one_ (i:=2) (N:=some 50) #[tT,tT,tT,fF,fF] rfl rfl (by kernel_rfl) (by decide) (fun K hK=>?_)
       refine goes_ Try.func30 (by kernel_rfl) rfl #[.agg #[.int .i64 a0_0,.int .i64 a0_1,.slice A0_2 l0_2.length c0_2]] (by rfl) rfl rfl (by (try simp only [List.map_toArray,List.map_cons,List.map_nil]);first|done|rfl|(simp only [List.length_drop,List.length_take];rfl)) ?_
       with_reducible refine (qk1_.calls kj13 a0_0 a0_1 _ _ l0_2 V3 U9 Q7 _ ?side1 ?side2 A59.out).mono ?_
       (case side1=>repeat (first|exact (Kd.qn2_ HR0_2.out HB.out)|(with_reducible refine Kd.qi2_ ?_ _)|(with_reducible refine Kd.qh2_ ?_ _)|(with_reducible refine Kd.C_drew ?_)))
       (case side2=>exact HC0_2.out)
       rintro e w179 ⟨cJ5,rfl,ho0,hb⟩
       refine ⟨_,rfl,?_⟩
       have n0_:=aK (Kd.qs2_ (by (with_reducible repeat (first|apply Kd.qq_|apply Kd.qr_|apply Kd.R_drew));exact j4.out) (Kd.R_base ho0) hb)
       have n1_:=aK (Kd.qs2_ (by (with_reducible repeat (first|apply Kd.qq_|apply Kd.qr_|apply Kd.R_drew));exact j3.out) (Kd.R_base ho0) hb)
       have n2_:=aK (Kd.qs2_ (by (with_reducible repeat (first|apply Kd.qq_|apply Kd.qr_|apply Kd.R_drew));exact d9.out) (Kd.R_base ho0) hb)
       have n3_:=aK (Kd.qt2_ (Kd.R_new' (Kd.R_new' (Kd.R_new' ho0 (Kd.R_lt (by (with_reducible repeat (first|apply Kd.qq_|apply Kd.qr_|apply Kd.R_drew));exact j4.out))) (Kd.R_lt (by (with_reducible repeat (first|apply Kd.qq_|apply Kd.qr_|apply Kd.R_drew));exact j3.out))) (Kd.R_lt (by (with_reducible repeat (first|apply Kd.qq_|apply Kd.qr_|apply Kd.R_drew));exact d9.out))) (qk_ (by repeat (first|(with_reducible first|exact HB.out|apply qb_|apply qa_|apply qc_|refine qf_ ?_ r9.out|refine qf_ ?_ D6.out|refine qf_ ?_ D9.out|refine qf_ ?_ F3.out)|exact HB.out))))
       have n4_:=aK (ql_ (g:=o9) (o:=.cells #[.int .i64 a0_0,.int .i64 a0_1,.slice A0_2 l0_2.length c0_2] 32 (0,0)) (by (with_reducible repeat (first|refine qe_ ?_ _|refine qg_ ?_|refine qd_ ?_ _));exact j6.out) hb)
       have n5_:=aK (ql_ (g:=p8) (o:=.cells #[.int .i64 z8,.int .i64 C8,.slice F5 o6.length E8] 38 (0,0)) (by (with_reducible repeat (first|refine qe_ ?_ _|refine qg_ ?_|refine qd_ ?_ _));exact l5.out) hb)
       have n6_:=aK (ql_ (g:=q8) (o:=.cells #[.int .i64 F7,.int .i64 F8,.slice Ao32 F4.length co32] 38 (0,0)) (by (with_reducible repeat (first|refine qe_ ?_ _|refine qg_ ?_|refine qd_ ?_ _));exact l6.out) hb)
       have n7_:=aK (ql_ (g:=l7) (o:=.cells #[.int .i64 l9,.int .i64 o5,.slice D5 l8.length C9] 38 (0,0)) (by (with_reducible repeat (first|refine qe_ ?_ _|refine qg_ ?_|refine qd_ ?_ _));exact j5.out) hb)
       have n8_:=aK (qm_ (by repeat (first|(with_reducible first|exact HB.out|apply qb_|apply qa_|apply qc_|refine qf_ ?_ r9.out|refine qf_ ?_ D6.out|refine qf_ ?_ D9.out|refine qf_ ?_ F3.out)|exact HB.out)) hb)
       clear j4
       clear j3
       clear d9
       clear j6
       clear l5
       clear l6
       clear j5
       clear HB
       have j4:=n0_
       have j3:=n1_
       have d9:=n2_
       have J4:=n3_
       have j6:=n4_
       have l5:=n5_
       have l6:=n6_
       have j5:=n7_
       have HB:=n8_
       clear n0_ n1_ n2_ n3_ n4_ n5_ n6_ n7_ n8_
       (try clear hb)
       (try clear hb2)
       (try clear hk)
       (try clear hi)
       (try clear ho0)
       obtain ⟨bW5,bV5,cV1⟩:=Kd.qq2_ J4.out
       (first|subst cV1|(injection cV1 with f1_ f2_ f3_;have f4_:=f1_.symm;have f5_:=f3_.symm;clear f1_ f2_ f3_;subst f4_;subst f5_))
       refine hK.out _ _ ⟨(qi_ l6.out 0).trans rfl,(qi_ l6.out 1).trans rfl,(qi_ l6.out 2).trans rfl,(qi_ j6.out 0).trans rfl,(qi_ j6.out 1).trans rfl,(qi_ j6.out 2).trans rfl⟩ (fun hHeld=>?_)
       clear hK K
       refine norm_ (a':=?_) ?_ ?_
       rotate_left
       ·show Act.put _ (some 50) _=_
        simp only [Act.put,List.setIfInBounds_toArray,List.set_cons_zero,List.set_cons_succ,i64_w,i32_w]
        rfl
       refine one_ (i:=3) (N:=some 51) #[tT,tT,tT,tT,fF] rfl rfl (by kernel_rfl) (by decide) (fun K hK=>?_)
       refine goes_ Try.func33 (by kernel_rfl) rfl #[.agg #[.int .i64 F7,.int .i64 F8,.slice Ao32 F4.length co32],.agg #[.int .i64 V3,.int .i64 U9,.slice bW5 Q7.length bV5]] (by rfl) rfl rfl (by (try simp only [List.map_toArray,List.map_cons,List.map_nil]);first|done|rfl|(simp only [List.length_drop,List.length_take];rfl)) ?_
       with_reducible refine (qb1_.calls kj13 F7 F8 _ _ F4 V3 U9 _ _ Q7 false _ ?side1 ?side2 ?side3 ?side4 A60.out).mono ?_
       (case side1=>repeat (first|exact (Kd.qp1_ j3.out).2.2|(with_reducible refine Kd.qi2_ ?_ _)|(with_reducible refine Kd.qh2_ ?_ _)|(with_reducible refine Kd.C_drew ?_)))
       (case side2=>exact (Kd.qp1_ j3.out).2.1)
       (case side3=>repeat (first|exact (Kd.qp1_ J4.out).2.2|(with_reducible refine Kd.qi2_ ?_ _)|(with_reducible refine Kd.qh2_ ?_ _)|(with_reducible refine Kd.C_drew ?_)))
       (case side4=>exact (Kd.qp1_ J4.out).2.1)
       rintro e w181 ⟨rfl,hb⟩
       refine ⟨_,rfl,?_⟩
       have n0_:=aK (Kd.qj1_ (by (with_reducible repeat (first|apply Kd.qq_|apply Kd.qr_|apply Kd.R_drew));exact j4.out) hb)
       have n1_:=aK (Kd.qj1_ (by (with_reducible repeat (first|apply Kd.qq_|apply Kd.qr_|apply Kd.R_drew));exact j3.out) hb)
       have n2_:=aK (Kd.qj1_ (by (with_reducible repeat (first|apply Kd.qq_|apply Kd.qr_|apply Kd.R_drew));exact d9.out) hb)
       have n3_:=aK (Kd.qj1_ (by (with_reducible repeat (first|apply Kd.qq_|apply Kd.qr_|apply Kd.R_drew));exact J4.out) hb)
       have n4_:=aK (ql_ (g:=o9) (o:=.cells #[.int .i64 a0_0,.int .i64 a0_1,.slice A0_2 l0_2.length c0_2] 32 (0,0)) (by (with_reducible repeat (first|refine qe_ ?_ _|refine qg_ ?_|refine qd_ ?_ _));exact j6.out) hb)
       have n5_:=aK (ql_ (g:=p8) (o:=.cells #[.int .i64 z8,.int .i64 C8,.slice F5 o6.length E8] 38 (0,0)) (by (with_reducible repeat (first|refine qe_ ?_ _|refine qg_ ?_|refine qd_ ?_ _));exact l5.out) hb)
       have n6_:=aK (ql_ (g:=q8) (o:=.cells #[.int .i64 F7,.int .i64 F8,.slice Ao32 F4.length co32] 38 (0,0)) (by (with_reducible repeat (first|refine qe_ ?_ _|refine qg_ ?_|refine qd_ ?_ _));exact l6.out) hb)
       have n7_:=aK (ql_ (g:=l7) (o:=.cells #[.int .i64 l9,.int .i64 o5,.slice D5 l8.length C9] 38 (0,0)) (by (with_reducible repeat (first|refine qe_ ?_ _|refine qg_ ?_|refine qd_ ?_ _));exact j5.out) hb)
       have n8_:=aK (qm_ (by repeat (first|(with_reducible first|exact HB.out|apply qb_|apply qa_|apply qc_|refine qf_ ?_ r9.out|refine qf_ ?_ D6.out|refine qf_ ?_ D9.out|refine qf_ ?_ F3.out)|exact HB.out)) hb)
       clear j4
       clear j3
       clear d9
       clear J4
       clear j6
       clear l5
       clear l6
       clear j5
       clear HB
       have j4:=n0_
       have j3:=n1_
       have d9:=n2_
       have J4:=n3_
       have j6:=n4_
       have l5:=n5_
       have l6:=n6_
       have j5:=n7_
       have HB:=n8_
       clear n0_ n1_ n2_ n3_ n4_ n5_ n6_ n7_ n8_
       (try clear hb)
       (try clear hb2)
       (try clear hk)
       (try clear hi)
       refine hK.out _ _ ⟨(qi_ l6.out 0).trans rfl,(qi_ l6.out 1).trans rfl,(qi_ l6.out 2).trans rfl,(qi_ j6.out 0).trans rfl,(qi_ j6.out 1).trans rfl,(qi_ j6.out 2).trans rfl⟩ (fun hHeld=>?_)
       clear hK K
       refine norm_ (a':=?_) ?_ ?_
       rotate_left
       ·show Act.put _ (some 51) _=_
        simp only [Act.put,List.setIfInBounds_toArray,List.set_cons_zero,List.set_cons_succ,i64_w,i32_w]
        rfl
       refine pure_ (i:=4) (N:=some 52) (v:=?_) (a':=?_) #[tT,tT,tT,tT,tT] rfl rfl (by kernel_rfl) (fun _ _ _ h=>h) (Or.inl ⟨by rfl,?_⟩) ?_ ?_
       rotate_left
       ·intro w'
        go_simp
        with_reducible rfl
       rotate_left
       ·simp only [Act.put,List.setIfInBounds_toArray,List.set_cons_zero,List.set_cons_succ,i64_w,i32_w]
        rfl
       refine done_ (by kernel_rfl) ?_
       try go_wp2
       go_ret
       exact ⟨by first|rfl|(simp [qn_,qo_] <;> rfl)|(simp [*,qn_,qo_] <;> rfl),by repeat (first|(with_reducible first|exact HB.out|apply qb_|apply qa_|apply qc_|refine qf_ ?_ r9.out|refine qf_ ?_ D6.out|refine qf_ ?_ D9.out|refine qf_ ?_ F3.out)|exact HB.out)⟩
end Go.Proofs.Ytaiefdhenikiiaa.Base
namespace Go.Proofs.Ytaiefdhenikiiaa.PFnExactWithoutEnd
open Go.RowKit Go.Proofs.YtaiefdhenikiiaaW.PrintWords Go.Proofs.YtaiefdhenikiiaaO Go.Proofs.Ytaiefdhenikiiaa.Base
set_option linter.unusedVariables false
def ok73 (x:S73):Prop:=(Lit.int .i64 x.f0).wf=true∧(Lit.int .i64 x.f1).wf=true
theorem bX7:Opens Try.prog 73 k73 ok73:=opens_iso (fun x:S73=>(x.f0,x.f1)) (fun p=>⟨p.1,p.2⟩) (fun _=>rfl) (opens_two Try.underlying73 rfl rfl (by kernel_rfl) (opens_int Try.underlying2 (by kernel_rfl)) (opens_int Try.underlying2 (by kernel_rfl)))
def ok75 (x:S75):Prop:=x.f0.size≤9223372036854775807∧ok73 x.f1
theorem bX6:Opens Try.prog 75 k75 ok75:=opens_iso (fun x:S75=>(x.f0,x.f1)) (fun p=>⟨p.1,p.2⟩) (fun _=>rfl) (opens_two Try.underlying75 rfl rfl (by kernel_rfl) (opens_string Try.underlying9 (by kernel_rfl)) bX7)
structure S32 where
  f0:Int
  f1:Int
  f2:(List S75)
def k32:Kd S32:=Kd.iso (Kd.pair (Kd.int .i64) (Kd.pair (Kd.int .i64) (Kd.slice 75 k75))) (fun x:S32=>(x.f0,x.f1,x.f2))
def ok32 (x:S32):Prop:=(Lit.int .i64 x.f0).wf=true∧(Lit.int .i64 x.f1).wf=true∧(x.f2.length≤9223372036854775807∧∀ a_ ∈ x.f2,ok75 a_)
theorem opens32:Opens Try.prog 32 k32 ok32:=opens_iso (fun x:S32=>(x.f0,x.f1,x.f2)) (fun p=>⟨p.1,p.2.1,p.2.2⟩) (fun _=>rfl) (opens_three Try.underlying32 rfl rfl rfl (by kernel_rfl) (opens_int Try.underlying2 (by kernel_rfl)) (opens_int Try.underlying2 (by kernel_rfl)) (opens_slice Try.underlying22 (by kernel_rfl) bX6))
def qj_.Pure:Prop:=∀ (s0:S32) (a1:ByteArray),ok32 s0→a1.size≤140737488351232→∃ k,qj_.f k s0.f0 s0.f1 s0.f2 a1=some true
end Go.Proofs.Ytaiefdhenikiiaa.PFnExactWithoutEnd
namespace Go.Proofs.Ytaiefdhenikiiaa.Pure
open Go.RowKit Go.Proofs.Ytaiefdhenikiiaa.Base Go.Proofs.Ytaiefdhenikiiaa.PFnExactWithoutEnd Go.Proofs.YtaiefdhenikiiaaW.PrintWords Go.Proofs.YtaiefdhenikiiaaW.PrintLast
set_option linter.unusedSimpArgs false
set_option linter.unusedVariables false
theorem eqSer_same (d n:Int) (l:List S79) (hl:l.length≤2000000):Ev (fun q=>qb1_.f q d n l d n l) true:=by
  unfold qb1_.f
  simp only [if_true]
  refine Ev.bind (eqT_same l hl) ?_
  simp only [if_true];exact Ev.now _
theorem toSer_is (d n:Int) (l:List S75) (hl:l.length≤2000000):Ev (fun q=>qk1_.f q d n l) (d,n,l.map toX):=by
  unfold qk1_.f
  exact Ev.bind (toT_is l hl) (Ev.now _)
theorem marksSer (d n:Int) (l:List S79) (hl:l.length≤2000000):∃ l':List S79,Ev (fun q=>qo1_.f q d n l 1) (((1+3*l.length:Nat):Int),l')∧Ev (fun q=>qn1_.f q d n l' 1) ((1+3*l.length:Nat):Int):=by
  obtain ⟨l',_,h1,h2⟩:=marksT l hl
  refine ⟨l',?_,?_⟩
  · unfold qo1_.f;exact Ev.bind h1 (Ev.now _)
  · unfold qn1_.f
    refine Ev.bind h2 ?_
    simp only [show ¬ ((1+3*l.length:Nat):Int)<0 by omega,if_false]
    exact Ev.now _
theorem FnExactWithoutEnd:qj_.Pure:=by
  intro s0 u hok hu0
  obtain ⟨D,N,l⟩:=s0
  obtain ⟨_,_,hn,hwo⟩:=hok
  simp only at hn hwo ⊢
  by_cases hbig:(u.size:Int) > 1048576
  · exact ⟨0,by unfold qj_.f;rw [if_pos hbig]⟩
  have hu:u.size≤1048576:=by omega
  obtain ⟨v,hv,hsz⟩:=sz_is l hn (fun x hx=>(hwo x hx).1) 1048576 (by omega) (by omega)
  have hvS:Ev (fun q=>qe2_.f q D N l 1048576) (if v<0 then -1 else v):=by
    unfold qe2_.f
    refine Ev.bind hv ?_
    by_cases c:v<0
    · simp only [c,if_true];exact Ev.now _
    · simp only [c,if_false];exact Ev.now _
  by_cases c:v<0
  · refine Ev.rounds (r:=true) ?_
    unfold qj_.f
    simp only [if_neg hbig]
    refine Ev.bind hvS ?_
    simp only [c,if_true,show (-1:Int)<0 by omega]
    exact Ev.now _
  · obtain ⟨h1,h2⟩:=hsz (by omega)
    have hT:=toSer_is D N l (by omega)
    obtain ⟨X,hX⟩:∃ X,X=l.map toX:=⟨_,rfl⟩
    rw [← hX] at hT
    have hXl:X.length=l.length:=by rw [hX,List.length_map]
    have hXs:smallT X:=⟨by omega,fun x hx=>by
      rw [hX] at hx
      obtain ⟨y,hy,rfl⟩:=List.mem_map.1 hx
      exact h2 y hy⟩
    have both:∃ (R1 R2:Int) (R:List S79) (C:Int),R.length≤2000000∧qy1_.f D N X u=some (R1,R2,R,C)∧Ev (fun k=>qw1_.f k D N X u) (R1,R2,R,C):=by
      have hw:=sword_both (D:=D) (N:=N) hXs hu
      unfold qy1_.f qw1_.f
      rw [if_pos ⟨hXs.1,hXs.2,hu⟩]
      unfold withoutR
      cases hs:serB D N X with
      | false =>
        simp only [hs,Bool.false_eq_true,if_false] at hw ⊢
        refine ⟨0,0,[],1,by simp,rfl,Ev.bind hw ?_⟩
        simp only [show ¬ (1:Int)=0 by omega,if_false];exact Ev.now _
      | true =>
        cases hwd:wordB D.toNat N.toNat u with
        | false =>
          simp only [hs,hwd,Bool.false_eq_true,if_false,if_true] at hw ⊢
          refine ⟨0,0,[],2,by simp,rfl,Ev.bind hw ?_⟩
          simp only [show ¬ (2:Int)=0 by omega,if_false];exact Ev.now _
        | true =>
          simp only [hs,hwd,if_true] at hw ⊢
          obtain ⟨hb,hev⟩:=swS D N X u hs hXs hu
          rw [if_neg (by rw [hb];simp)]
          obtain ⟨d,n,rfl,rfl,hz,_⟩:=serB_nat hs
          have hsm:=(terms_small (withT_like (cut:=cutS u) hz X) hz).1
          refine ⟨_,_,_,0,by simp only [Int.toNat_natCast];omega,rfl,Ev.bind hw ?_⟩
          simp only [if_true]
          exact Ev.bind hev (Ev.now _)
    obtain ⟨R1,R2,R,C,hR,hI,hS⟩:=both
    have hI:Ev (fun k:Nat=>qy1_.f D N X u) (R1,R2,R,C):=by rw [hI];exact Ev.now _
    have eR:=eqSer_same R1 R2 R hR
    have eX:=eqSer_same D N X (by omega)
    obtain ⟨X',mX,_⟩:=marksSer D N X (by omega)
    obtain ⟨R',mR,dR⟩:=marksSer R1 R2 R hR
    refine Ev.rounds (r:=true) ?_
    unfold qj_.f
    simp only [if_neg hbig]
    refine Ev.bind hvS ?_
    simp only [c,if_false]
    refine Ev.bind hT (Ev.bind hS (Ev.bind hT (Ev.bind hI (Ev.bind eR ?_))))
    simp only [if_true,bne_self_eq_false]
    have j2:Ev (fun k=>qj_.j2 k ((1+3*R.length:Nat):Int) false R1 R2 R') true:=by
      refine Ev.step (f:=fun k=>(qn1_.f k R1 R2 R' 1).bind fun t=>if t<0 then some false else if t=((1+3*R.length:Nat):Int) then some true else some false) (fun k=>?_) (Ev.bind dR ?_)
      · simp only [qj_.j2,Bool.false_eq_true,if_false]
      · simp only [show ¬ ((1+3*R.length:Nat):Int)<0 by omega,if_false,if_true]
        exact Ev.now _
    have j1:Ev (fun k=>qj_.j1 k u C false D N l R1 R2 R R1 R2 R) true:=by
      refine Ev.step (f:=fun k=>(qo1_.f k R1 R2 R 1).bind fun b=>(qn1_.f k R1 R2 b.2 1).bind fun t=>if t<0 then some false else if t=b.1 then (qk1_.f k D N l).bind fun t=>(qy1_.f t.1 t.2.1 t.2.2 u).bind fun q=>(qb1_.f k q.1 q.2.1 q.2.2.1 R1 R2 R).bind fun t=>if t=true then qj_.j2 k b.1 (q.2.2.2 != C) R1 R2 b.2 else qj_.j2 k b.1 true R1 R2 b.2 else some false) (fun k=>?_) (Ev.bind mR (Ev.bind dR ?_))
      · simp only [qj_.j1,Bool.false_eq_true,if_false]
      · simp only [show ¬ ((1+3*R.length:Nat):Int)<0 by omega,if_false,if_true]
        refine Ev.bind hT (Ev.bind hI (Ev.bind eR ?_))
        simp only [if_true,bne_self_eq_false]
        exact j2
    refine Ev.step (f:=fun k=>(qk1_.f k D N l).bind fun t=>(qb1_.f k D N X t.1 t.2.1 t.2.2).bind fun t=>if t=true then (qo1_.f k D N X 1).bind fun b=>(if b.1<0 then qj_.j1 k u C true D N l R1 R2 R R1 R2 R else (qb1_.f k R1 R2 R R1 R2 R).bind fun t=>if t=true then qj_.j1 k u C (C != C) D N l R1 R2 R R1 R2 R else qj_.j1 k u C true D N l R1 R2 R R1 R2 R) else some false) (fun k=>?_) (Ev.bind hT (Ev.bind eX ?_))
    · simp only [qj_.j0,Bool.false_eq_true,if_false]
    · simp only [if_true]
      refine Ev.bind mX ?_
      simp only [show ¬ ((1+3*X.length:Nat):Int)<0 by omega,if_false]
      refine Ev.bind eR ?_
      simp only [if_true,bne_self_eq_false]
      exact j1
end Go.Proofs.Ytaiefdhenikiiaa.Pure
