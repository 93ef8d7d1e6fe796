/- Texts that the proof of FnExactSignatureOfCoordinates needs, part 5. No condition. -/
import Derived.Test.YtaiefdhenikiiaaMFnExactSignatureOfCoordinates4
import Derived.Lib.Walk
import Derived.Shelf.Abstract
namespace Go.Proofs.YtaiefdhenikiiaaC
open Go.RowKit Go.Proofs.YtaiefdhenikiiaaW.PrintWords Go.Proofs.YtaiefdhenikiiaaW.PrintLast Go.Proofs.YtaiefdhenikiiaaW.PrintMore
set_option linter.unusedVariables false
set_option linter.unusedSimpArgs false
/-- Does p hold below n. -/
def anyN (p:Nat→Bool) (n:Nat):Bool:=(List.range n).any p
theorem anyN_hit {p:Nat→Bool} {n k:Nat} (hk:k < n) (h:p k=true):anyN p n=true:=by
  unfold anyN;rw [List.any_eq_true];exact ⟨k,List.mem_range.2 hk,h⟩
theorem anyN_miss {p:Nat→Bool} {n:Nat} (h:∀ j,j < n→p j=false):anyN p n=false:=by
  unfold anyN;rw [List.any_eq_false];intro x hx;rw [h x (List.mem_range.1 hx)];simp
/-- What a function value answers at element j,in whatever world over w;what lay,lies. -/
def Test (g:Nat) (lb:Array Value) (v:Nat→Value) (p:Nat→Bool) (n:Nat) (w:World):Prop :=
  ∀ j,j < n→∀ W,Below w.heap.size w W→Calls Try.prog g (#[v j] ++ lb) W fun e w'=>e=.returned (.bool (p j))∧Below W.heap.size W w'
def Told (p:Nat→Bool) (n:Nat) (w:World) (e:Ending) (w':World):Prop:=∃ r:Int,e=.returned (.int .i64 r)∧decide (0≤r)=anyN p n∧Below w.heap.size w w'
/-- Are these numbers of letters? -/
def letters (d:Int):Bool:=decide (1≤d) && decide (d≤3)
end Go.Proofs.YtaiefdhenikiiaaC
namespace Go.Proofs.Ytaiefdhenikiiaa.Base
open Go.RowKit Go.Proofs.YtaiefdhenikiiaaW.PrintWords Go.Proofs.YtaiefdhenikiiaaW.PrintLast Go.Proofs.YtaiefdhenikiiaaW.PrintMore
attribute [local go_sem] max2_int qp1_ max_two min_two max_three min_three max_four min_four Go.Proofs.YtaiefdhenikiiaaZ.qv_   -- for this text's walks alone
set_option linter.unusedVariables false
set_option linter.unusedSimpArgs false
def qi2_.f (k:Nat) (a0_0:Int) (a0_1:Int) (l0_2:List (S79)) (a1_0:Int) (a1_1:Int) (l1_2:List (S79)):Option (Bool):=if a0_0=a1_0 then (if a0_1=a1_1 then ((qd1_.f k l0_2 l1_2).bind fun t259=>(if t259=true then (some true) else (some false))) else (some false)) else (some false)
theorem qi2_.mono:∀ a0 a1 a2 a3 a4 a5 k,LeO (qi2_.f k a0 a1 a2 a3 a4 a5) (qi2_.f (k+1) a0 a1 a2 a3 a4 a5):=by
 intro a0 a1 a2 a3 a4 a5 k
 unfold qi2_.f
 repeat' first
   | (with_reducible exact qd1_.mono _ _ _)
   | (with_reducible exact LeO.refl _)
   | (with_reducible exact LeO.none _)
   | (with_reducible refine LeO.ite ?_ ?_)
   | (with_reducible refine LeO.bind ?_ (fun _=>?_))
   | exact qd1_.mono _ _ _
   | exact LeO.none _
   | refine LeO.ite ?_ ?_
   | refine LeO.bind ?_ (fun _=>?_)
set_option maxHeartbeats 8000000 in
set_option maxRecDepth 100000 in
theorem qi2_.calls (k:Nat) (a0_0:Int) (a0_1:Int) (A0_2:Option Addr) (c0_2:Nat) (l0_2:List (S79)) (a1_0:Int) (a1_1:Int) (A1_2:Option Addr) (c1_2:Nat) (l1_2:List (S79)) (r:Bool) (w:World) (hr0_2:Kd.C k79 w A0_2 l0_2.length l0_2) (hc0_2:l0_2.length≤c0_2) (hr1_2:Kd.C k79 w A1_2 l1_2.length l1_2) (hc1_2:l1_2.length≤c1_2) (h:qi2_.f k a0_0 a0_1 l0_2 a1_0 a1_1 l1_2=some r) :
  Calls Try.prog 33 #[.agg #[.int .i64 a0_0,.int .i64 a0_1,.slice A0_2 l0_2.length c0_2],.agg #[.int .i64 a1_0,.int .i64 a1_1,.slice A1_2 l1_2.length c1_2]] w fun e w'=>e=.returned (.bool r)∧Below w.heap.size w w':=by
 have hu38:=Try.underlying38
 have HR0_2:=aK hr0_2
 have HC0_2:=aK hc0_2
 clear hr0_2 hc0_2
 have HR1_2:=aK hr1_2
 have HC1_2:=aK hc1_2
 clear hr1_2 hc1_2
 have HB:=aK (Below.refl w.heap.size w)
 have H:(if a0_0=a1_0 then (if a0_1=a1_1 then ((qd1_.f k l0_2 l1_2).bind fun t259=>(if t259=true then (some true) else (some false))) else (some false)) else (some false))=some r:=h
 clear h
 by_cases c3:a0_0=a1_0
 ·rw [if_pos c3] at H
  have c3b0:(a0_0 == a1_0)=true:=beq_iff_eq.mpr c3
  have c3b1:(a0_0 != a1_0)=false:=bne_eq_false_iff_eq.mpr c3
  clear c3
  by_cases c4:a0_1=a1_1
  ·rw [if_pos c4] at H
   have c4b0:(a0_1 == a1_1)=true:=beq_iff_eq.mpr c4
   have c4b1:(a0_1 != a1_1)=false:=bne_eq_false_iff_eq.mpr c4
   clear c4
   replace H:=Option.bind_eq_some_iff.mp H
   obtain ⟨t259,A50,H⟩:=H
   replace H:(if t259=true then (some true) else (some false))=some r:=H
   have A5:=aK A50
   clear A50
   by_cases c6:t259=true
   ·subst c6
    have H1:(some true)=some r:=by rw [if_pos rfl] at H;exact H
    clear H
    have H:=H1
    clear H1
    obtain rfl:=Option.some.inj H
    go_enter Try.func33,Try.ntmps33
    go_wp2_with (first|((with_reducible refine qa1_ (N:=2) rfl ?_);refine qx_ ?hg (N:=2) ?hd (cs:=#[.int .i64 a0_0,.int .i64 a0_1,.slice A0_2 l0_2.length c0_2]) (t:=38) ?hr ?_;(case hd=>rfl);(case hg=>rfl);(case hr=>first|(go_simp;done)|(go_simp;rfl));intro gb257 hg w7 hbox hb;have n0_:=aK (qf_ (by repeat (first|(with_reducible first|exact HB.out|apply qb_|apply qa_|apply qc_)|exact HB.out)) hb);have n1_:=aK (hbox);have n2_:=aK ((by rw [hg];exact (qk_ (by repeat (first|(with_reducible first|exact HB.out|apply qb_|apply qa_|apply qc_)|exact HB.out))):w.heap.size≤gb257));have n3_:=aK ((by rw [hg];exact (qk_ (by repeat (first|(with_reducible first|exact HB.out|apply qb_|apply qa_|apply qc_)|exact HB.out))):w.heap.size≤gb257));clear HB;have HB:=n0_;have BK257:=n1_;have GW257:=n2_;have GE257:=n3_;clear n0_ n1_ n2_ n3_;clear hb hbox hg)|((with_reducible refine qa1_ (N:=3) rfl ?_);refine qx_ ?hg (N:=3) ?hd (cs:=#[.int .i64 a1_0,.int .i64 a1_1,.slice A1_2 l1_2.length c1_2]) (t:=38) ?hr ?_;(case hd=>rfl);(case hg=>rfl);(case hr=>first|(go_simp;done)|(go_simp;rfl));intro gb258 hg w8 hbox hb;have n0_:=aK (ql_ (g:=gb257) (o:=.cells #[.int .i64 a0_0,.int .i64 a0_1,.slice A0_2 l0_2.length c0_2] 38 (0,0)) (by (with_reducible repeat (first|refine qg_ ?_ _|refine qi_ ?_|refine qe_ ?_ _));exact BK257.out) hb);have n1_:=aK (qf_ (by repeat (first|(with_reducible first|exact HB.out|apply qb_|apply qa_|apply qc_|refine qh_ ?_ GE257.out)|exact HB.out)) hb);have n2_:=aK (hbox);have n3_:=aK ((by rw [hg];exact (qk_ (by repeat (first|(with_reducible first|exact HB.out|apply qb_|apply qa_|apply qc_|refine qh_ ?_ GE257.out)|exact HB.out))):w.heap.size≤gb258));have n4_:=aK ((by rw [hg];exact (qk_ (by repeat (first|(with_reducible first|exact HB.out|apply qb_|apply qa_|apply qc_|refine qh_ ?_ GE257.out)|exact HB.out))):w.heap.size≤gb258));have n5_:=aK ((by rw [hg];exact Nat.ne_of_lt (blk_lt (g:=gb257) (o:=.cells #[.int .i64 a0_0,.int .i64 a0_1,.slice A0_2 l0_2.length c0_2] 38 (0,0)) (by (with_reducible repeat (first|refine qg_ ?_ _|refine qi_ ?_|refine qe_ ?_ _));exact BK257.out)):gb257 ≠ gb258));have n6_:=aK ((by rw [hg];exact Nat.ne_of_gt (blk_lt (g:=gb257) (o:=.cells #[.int .i64 a0_0,.int .i64 a0_1,.slice A0_2 l0_2.length c0_2] 38 (0,0)) (by (with_reducible repeat (first|refine qg_ ?_ _|refine qi_ ?_|refine qe_ ?_ _));exact BK257.out)):gb258 ≠ gb257));clear BK257;clear HB;have BK257:=n0_;have HB:=n1_;have BK258:=n2_;have GW258:=n3_;have GE258:=n4_;have NB257_258:=n5_;have NB258_257:=n6_;clear n0_ n1_ n2_ n3_ n4_ n5_ n6_;clear hb hbox hg;have hnb9:=NB257_258.out;have hnc9:=NB258_257.out;have hcz10_0:w8.cell? ⟨gb257,0,none⟩=some (.int .i64 a0_0):=(qj_ BK257.out 0).trans rfl;have hcz10_1:w8.cell? ⟨gb257,1,none⟩=some (.int .i64 a0_1):=(qj_ BK257.out 1).trans rfl;have hcz10_2:w8.cell? ⟨gb257,2,none⟩=some (.slice A0_2 l0_2.length c0_2):=(qj_ BK257.out 2).trans rfl;have hfz10_0:=qd_ BK257.out 0;have hfz10_1:=qd_ BK257.out 1;have hfz10_2:=qd_ BK257.out 2;have hcz11_0:w8.cell? ⟨gb258,0,none⟩=some (.int .i64 a1_0):=(qj_ BK258.out 0).trans rfl;have hcz11_1:w8.cell? ⟨gb258,1,none⟩=some (.int .i64 a1_1):=(qj_ BK258.out 1).trans rfl;have hcz11_2:w8.cell? ⟨gb258,2,none⟩=some (.slice A1_2 l1_2.length c1_2):=(qj_ BK258.out 2).trans rfl;have hfz11_0:=qd_ BK258.out 0;have hfz11_1:=qd_ BK258.out 1;have hfz11_2:=qd_ BK258.out 2)|((with_reducible refine qc1_ (f:=25) rfl ?_);refine goesL_ (some 19) rfl rfl Try.func25 (by kernel_rfl) rfl #[.slice A0_2 l0_2.length c0_2,.slice A1_2 l1_2.length c1_2] rfl (by (try simp only [List.map_toArray,List.map_cons,List.map_nil]);first|done|rfl|(simp only [List.length_drop,List.length_take];rfl)) ?_;(with_reducible refine (qd1_.calls k _ _ l0_2 _ _ l1_2 true _ ?side1 ?side2 ?side3 ?side4 A5.out).mono ?_);(case side1=>repeat (first|exact (Kd.qt1_ HR0_2.out HB.out)|(with_reducible refine Kd.C_alloc ?_ _)|(with_reducible refine Kd.C_drewN ?_ _)|(with_reducible refine Kd.C_drew ?_)));(case side2=>exact HC0_2.out);(case side3=>repeat (first|exact (Kd.qt1_ HR1_2.out HB.out)|(with_reducible refine Kd.C_alloc ?_ _)|(with_reducible refine Kd.C_drewN ?_ _)|(with_reducible refine Kd.C_drew ?_)));(case side4=>exact HC1_2.out);rintro e w12 ⟨rfl,hb⟩;refine ⟨_,rfl,?_⟩;have n0_:=aK (ql_ (g:=gb257) (o:=.cells #[.int .i64 a0_0,.int .i64 a0_1,.slice A0_2 l0_2.length c0_2] 38 (0,0)) (by (with_reducible repeat (first|refine qg_ ?_ _|refine qi_ ?_|refine qe_ ?_ _));exact BK257.out) hb);have n1_:=aK (ql_ (g:=gb258) (o:=.cells #[.int .i64 a1_0,.int .i64 a1_1,.slice A1_2 l1_2.length c1_2] 38 (0,0)) (by (with_reducible repeat (first|refine qg_ ?_ _|refine qi_ ?_|refine qe_ ?_ _));exact BK258.out) hb);have n2_:=aK (qf_ (by repeat (first|(with_reducible first|exact HB.out|apply qb_|apply qa_|apply qc_|refine qh_ ?_ GE257.out|refine qh_ ?_ GE258.out)|exact HB.out)) hb);clear BK257;clear BK258;clear HB;have BK257:=n0_;have BK258:=n1_;have HB:=n2_;clear n0_ n1_ n2_;(try clear hb);(try clear hb2);(try clear hk);(try clear hi)))
    go_ret
    exact ⟨by first|rfl|(simp [qn_,qm_] <;> rfl)|(simp [*,qn_,qm_] <;> rfl),by repeat (first|(with_reducible first|exact HB.out|apply qb_|apply qa_|apply qc_|refine qh_ ?_ GE257.out|refine qh_ ?_ GE258.out)|exact HB.out)⟩
   ·replace c6:=Bool.eq_false_iff.mpr c6
    subst c6
    have H1:(some false)=some r:=by rw [if_neg (show ¬ (false=true) by decide)] at H;exact H
    clear H
    have H:=H1
    clear H1
    obtain rfl:=Option.some.inj H
    go_enter Try.func33,Try.ntmps33
    go_wp2_with (first|((with_reducible refine qa1_ (N:=2) rfl ?_);refine qx_ ?hg (N:=2) ?hd (cs:=#[.int .i64 a0_0,.int .i64 a0_1,.slice A0_2 l0_2.length c0_2]) (t:=38) ?hr ?_;(case hd=>rfl);(case hg=>rfl);(case hr=>first|(go_simp;done)|(go_simp;rfl));intro gb257 hg w13 hbox hb;have n0_:=aK (qf_ (by repeat (first|(with_reducible first|exact HB.out|apply qb_|apply qa_|apply qc_)|exact HB.out)) hb);have n1_:=aK (hbox);have n2_:=aK ((by rw [hg];exact (qk_ (by repeat (first|(with_reducible first|exact HB.out|apply qb_|apply qa_|apply qc_)|exact HB.out))):w.heap.size≤gb257));have n3_:=aK ((by rw [hg];exact (qk_ (by repeat (first|(with_reducible first|exact HB.out|apply qb_|apply qa_|apply qc_)|exact HB.out))):w.heap.size≤gb257));clear HB;have HB:=n0_;have BK257:=n1_;have GW257:=n2_;have GE257:=n3_;clear n0_ n1_ n2_ n3_;clear hb hbox hg)|((with_reducible refine qa1_ (N:=3) rfl ?_);refine qx_ ?hg (N:=3) ?hd (cs:=#[.int .i64 a1_0,.int .i64 a1_1,.slice A1_2 l1_2.length c1_2]) (t:=38) ?hr ?_;(case hd=>rfl);(case hg=>rfl);(case hr=>first|(go_simp;done)|(go_simp;rfl));intro gb258 hg w14 hbox hb;have n0_:=aK (ql_ (g:=gb257) (o:=.cells #[.int .i64 a0_0,.int .i64 a0_1,.slice A0_2 l0_2.length c0_2] 38 (0,0)) (by (with_reducible repeat (first|refine qg_ ?_ _|refine qi_ ?_|refine qe_ ?_ _));exact BK257.out) hb);have n1_:=aK (qf_ (by repeat (first|(with_reducible first|exact HB.out|apply qb_|apply qa_|apply qc_|refine qh_ ?_ GE257.out)|exact HB.out)) hb);have n2_:=aK (hbox);have n3_:=aK ((by rw [hg];exact (qk_ (by repeat (first|(with_reducible first|exact HB.out|apply qb_|apply qa_|apply qc_|refine qh_ ?_ GE257.out)|exact HB.out))):w.heap.size≤gb258));have n4_:=aK ((by rw [hg];exact (qk_ (by repeat (first|(with_reducible first|exact HB.out|apply qb_|apply qa_|apply qc_|refine qh_ ?_ GE257.out)|exact HB.out))):w.heap.size≤gb258));have n5_:=aK ((by rw [hg];exact Nat.ne_of_lt (blk_lt (g:=gb257) (o:=.cells #[.int .i64 a0_0,.int .i64 a0_1,.slice A0_2 l0_2.length c0_2] 38 (0,0)) (by (with_reducible repeat (first|refine qg_ ?_ _|refine qi_ ?_|refine qe_ ?_ _));exact BK257.out)):gb257 ≠ gb258));have n6_:=aK ((by rw [hg];exact Nat.ne_of_gt (blk_lt (g:=gb257) (o:=.cells #[.int .i64 a0_0,.int .i64 a0_1,.slice A0_2 l0_2.length c0_2] 38 (0,0)) (by (with_reducible repeat (first|refine qg_ ?_ _|refine qi_ ?_|refine qe_ ?_ _));exact BK257.out)):gb258 ≠ gb257));clear BK257;clear HB;have BK257:=n0_;have HB:=n1_;have BK258:=n2_;have GW258:=n3_;have GE258:=n4_;have NB257_258:=n5_;have NB258_257:=n6_;clear n0_ n1_ n2_ n3_ n4_ n5_ n6_;clear hb hbox hg;have hnb15:=NB257_258.out;have hnc15:=NB258_257.out;have hcz16_0:w14.cell? ⟨gb257,0,none⟩=some (.int .i64 a0_0):=(qj_ BK257.out 0).trans rfl;have hcz16_1:w14.cell? ⟨gb257,1,none⟩=some (.int .i64 a0_1):=(qj_ BK257.out 1).trans rfl;have hcz16_2:w14.cell? ⟨gb257,2,none⟩=some (.slice A0_2 l0_2.length c0_2):=(qj_ BK257.out 2).trans rfl;have hfz16_0:=qd_ BK257.out 0;have hfz16_1:=qd_ BK257.out 1;have hfz16_2:=qd_ BK257.out 2;have hcz17_0:w14.cell? ⟨gb258,0,none⟩=some (.int .i64 a1_0):=(qj_ BK258.out 0).trans rfl;have hcz17_1:w14.cell? ⟨gb258,1,none⟩=some (.int .i64 a1_1):=(qj_ BK258.out 1).trans rfl;have hcz17_2:w14.cell? ⟨gb258,2,none⟩=some (.slice A1_2 l1_2.length c1_2):=(qj_ BK258.out 2).trans rfl;have hfz17_0:=qd_ BK258.out 0;have hfz17_1:=qd_ BK258.out 1;have hfz17_2:=qd_ BK258.out 2)|((with_reducible refine qc1_ (f:=25) rfl ?_);refine goesL_ (some 19) rfl rfl Try.func25 (by kernel_rfl) rfl #[.slice A0_2 l0_2.length c0_2,.slice A1_2 l1_2.length c1_2] rfl (by (try simp only [List.map_toArray,List.map_cons,List.map_nil]);first|done|rfl|(simp only [List.length_drop,List.length_take];rfl)) ?_;(with_reducible refine (qd1_.calls k _ _ l0_2 _ _ l1_2 false _ ?side1 ?side2 ?side3 ?side4 A5.out).mono ?_);(case side1=>repeat (first|exact (Kd.qt1_ HR0_2.out HB.out)|(with_reducible refine Kd.C_alloc ?_ _)|(with_reducible refine Kd.C_drewN ?_ _)|(with_reducible refine Kd.C_drew ?_)));(case side2=>exact HC0_2.out);(case side3=>repeat (first|exact (Kd.qt1_ HR1_2.out HB.out)|(with_reducible refine Kd.C_alloc ?_ _)|(with_reducible refine Kd.C_drewN ?_ _)|(with_reducible refine Kd.C_drew ?_)));(case side4=>exact HC1_2.out);rintro e w18 ⟨rfl,hb⟩;refine ⟨_,rfl,?_⟩;have n0_:=aK (ql_ (g:=gb257) (o:=.cells #[.int .i64 a0_0,.int .i64 a0_1,.slice A0_2 l0_2.length c0_2] 38 (0,0)) (by (with_reducible repeat (first|refine qg_ ?_ _|refine qi_ ?_|refine qe_ ?_ _));exact BK257.out) hb);have n1_:=aK (ql_ (g:=gb258) (o:=.cells #[.int .i64 a1_0,.int .i64 a1_1,.slice A1_2 l1_2.length c1_2] 38 (0,0)) (by (with_reducible repeat (first|refine qg_ ?_ _|refine qi_ ?_|refine qe_ ?_ _));exact BK258.out) hb);have n2_:=aK (qf_ (by repeat (first|(with_reducible first|exact HB.out|apply qb_|apply qa_|apply qc_|refine qh_ ?_ GE257.out|refine qh_ ?_ GE258.out)|exact HB.out)) hb);clear BK257;clear BK258;clear HB;have BK257:=n0_;have BK258:=n1_;have HB:=n2_;clear n0_ n1_ n2_;(try clear hb);(try clear hb2);(try clear hk);(try clear hi)))
    go_ret
    exact ⟨by first|rfl|(simp [qn_,qm_] <;> rfl)|(simp [*,qn_,qm_] <;> rfl),by repeat (first|(with_reducible first|exact HB.out|apply qb_|apply qa_|apply qc_|refine qh_ ?_ GE257.out|refine qh_ ?_ GE258.out)|exact HB.out)⟩
  ·rw [if_neg c4] at H
   have c4b0:(a0_1 == a1_1)=false:=beq_eq_false_iff_ne.mpr c4
   have c4b1:(a0_1 != a1_1)=true:=bne_iff_ne.mpr c4
   obtain rfl:=Option.some.inj H
   go_enter Try.func33,Try.ntmps33
   go_wp2_with (first|((with_reducible refine qa1_ (N:=2) rfl ?_);refine qx_ ?hg (N:=2) ?hd (cs:=#[.int .i64 a0_0,.int .i64 a0_1,.slice A0_2 l0_2.length c0_2]) (t:=38) ?hr ?_;(case hd=>rfl);(case hg=>rfl);(case hr=>first|(go_simp;done)|(go_simp;rfl));intro gb257 hg w19 hbox hb;have n0_:=aK (qf_ (by repeat (first|(with_reducible first|exact HB.out|apply qb_|apply qa_|apply qc_)|exact HB.out)) hb);have n1_:=aK (hbox);have n2_:=aK ((by rw [hg];exact (qk_ (by repeat (first|(with_reducible first|exact HB.out|apply qb_|apply qa_|apply qc_)|exact HB.out))):w.heap.size≤gb257));have n3_:=aK ((by rw [hg];exact (qk_ (by repeat (first|(with_reducible first|exact HB.out|apply qb_|apply qa_|apply qc_)|exact HB.out))):w.heap.size≤gb257));clear HB;have HB:=n0_;have BK257:=n1_;have GW257:=n2_;have GE257:=n3_;clear n0_ n1_ n2_ n3_;clear hb hbox hg)|((with_reducible refine qa1_ (N:=3) rfl ?_);refine qx_ ?hg (N:=3) ?hd (cs:=#[.int .i64 a1_0,.int .i64 a1_1,.slice A1_2 l1_2.length c1_2]) (t:=38) ?hr ?_;(case hd=>rfl);(case hg=>rfl);(case hr=>first|(go_simp;done)|(go_simp;rfl));intro gb258 hg w20 hbox hb;have n0_:=aK (ql_ (g:=gb257) (o:=.cells #[.int .i64 a0_0,.int .i64 a0_1,.slice A0_2 l0_2.length c0_2] 38 (0,0)) (by (with_reducible repeat (first|refine qg_ ?_ _|refine qi_ ?_|refine qe_ ?_ _));exact BK257.out) hb);have n1_:=aK (qf_ (by repeat (first|(with_reducible first|exact HB.out|apply qb_|apply qa_|apply qc_|refine qh_ ?_ GE257.out)|exact HB.out)) hb);have n2_:=aK (hbox);have n3_:=aK ((by rw [hg];exact (qk_ (by repeat (first|(with_reducible first|exact HB.out|apply qb_|apply qa_|apply qc_|refine qh_ ?_ GE257.out)|exact HB.out))):w.heap.size≤gb258));have n4_:=aK ((by rw [hg];exact (qk_ (by repeat (first|(with_reducible first|exact HB.out|apply qb_|apply qa_|apply qc_|refine qh_ ?_ GE257.out)|exact HB.out))):w.heap.size≤gb258));have n5_:=aK ((by rw [hg];exact Nat.ne_of_lt (blk_lt (g:=gb257) (o:=.cells #[.int .i64 a0_0,.int .i64 a0_1,.slice A0_2 l0_2.length c0_2] 38 (0,0)) (by (with_reducible repeat (first|refine qg_ ?_ _|refine qi_ ?_|refine qe_ ?_ _));exact BK257.out)):gb257 ≠ gb258));have n6_:=aK ((by rw [hg];exact Nat.ne_of_gt (blk_lt (g:=gb257) (o:=.cells #[.int .i64 a0_0,.int .i64 a0_1,.slice A0_2 l0_2.length c0_2] 38 (0,0)) (by (with_reducible repeat (first|refine qg_ ?_ _|refine qi_ ?_|refine qe_ ?_ _));exact BK257.out)):gb258 ≠ gb257));clear BK257;clear HB;have BK257:=n0_;have HB:=n1_;have BK258:=n2_;have GW258:=n3_;have GE258:=n4_;have NB257_258:=n5_;have NB258_257:=n6_;clear n0_ n1_ n2_ n3_ n4_ n5_ n6_;clear hb hbox hg;have hnb21:=NB257_258.out;have hnc21:=NB258_257.out;have hcz22_0:w20.cell? ⟨gb257,0,none⟩=some (.int .i64 a0_0):=(qj_ BK257.out 0).trans rfl;have hcz22_1:w20.cell? ⟨gb257,1,none⟩=some (.int .i64 a0_1):=(qj_ BK257.out 1).trans rfl;have hcz22_2:w20.cell? ⟨gb257,2,none⟩=some (.slice A0_2 l0_2.length c0_2):=(qj_ BK257.out 2).trans rfl;have hfz22_0:=qd_ BK257.out 0;have hfz22_1:=qd_ BK257.out 1;have hfz22_2:=qd_ BK257.out 2;have hcz23_0:w20.cell? ⟨gb258,0,none⟩=some (.int .i64 a1_0):=(qj_ BK258.out 0).trans rfl;have hcz23_1:w20.cell? ⟨gb258,1,none⟩=some (.int .i64 a1_1):=(qj_ BK258.out 1).trans rfl;have hcz23_2:w20.cell? ⟨gb258,2,none⟩=some (.slice A1_2 l1_2.length c1_2):=(qj_ BK258.out 2).trans rfl;have hfz23_0:=qd_ BK258.out 0;have hfz23_1:=qd_ BK258.out 1;have hfz23_2:=qd_ BK258.out 2))
   go_ret
   exact ⟨by first|rfl|(simp [qn_,qm_] <;> rfl)|(simp [*,qn_,qm_] <;> rfl),by repeat (first|(with_reducible first|exact HB.out|apply qb_|apply qa_|apply qc_|refine qh_ ?_ GE257.out|refine qh_ ?_ GE258.out)|exact HB.out)⟩
 ·rw [if_neg c3] at H
  have c3b0:(a0_0 == a1_0)=false:=beq_eq_false_iff_ne.mpr c3
  have c3b1:(a0_0 != a1_0)=true:=bne_iff_ne.mpr c3
  obtain rfl:=Option.some.inj H
  go_enter Try.func33,Try.ntmps33
  go_wp2_with (first|((with_reducible refine qa1_ (N:=2) rfl ?_);refine qx_ ?hg (N:=2) ?hd (cs:=#[.int .i64 a0_0,.int .i64 a0_1,.slice A0_2 l0_2.length c0_2]) (t:=38) ?hr ?_;(case hd=>rfl);(case hg=>rfl);(case hr=>first|(go_simp;done)|(go_simp;rfl));intro gb257 hg w24 hbox hb;have n0_:=aK (qf_ (by repeat (first|(with_reducible first|exact HB.out|apply qb_|apply qa_|apply qc_)|exact HB.out)) hb);have n1_:=aK (hbox);have n2_:=aK ((by rw [hg];exact (qk_ (by repeat (first|(with_reducible first|exact HB.out|apply qb_|apply qa_|apply qc_)|exact HB.out))):w.heap.size≤gb257));have n3_:=aK ((by rw [hg];exact (qk_ (by repeat (first|(with_reducible first|exact HB.out|apply qb_|apply qa_|apply qc_)|exact HB.out))):w.heap.size≤gb257));clear HB;have HB:=n0_;have BK257:=n1_;have GW257:=n2_;have GE257:=n3_;clear n0_ n1_ n2_ n3_;clear hb hbox hg)|((with_reducible refine qa1_ (N:=3) rfl ?_);refine qx_ ?hg (N:=3) ?hd (cs:=#[.int .i64 a1_0,.int .i64 a1_1,.slice A1_2 l1_2.length c1_2]) (t:=38) ?hr ?_;(case hd=>rfl);(case hg=>rfl);(case hr=>first|(go_simp;done)|(go_simp;rfl));intro gb258 hg w25 hbox hb;have n0_:=aK (ql_ (g:=gb257) (o:=.cells #[.int .i64 a0_0,.int .i64 a0_1,.slice A0_2 l0_2.length c0_2] 38 (0,0)) (by (with_reducible repeat (first|refine qg_ ?_ _|refine qi_ ?_|refine qe_ ?_ _));exact BK257.out) hb);have n1_:=aK (qf_ (by repeat (first|(with_reducible first|exact HB.out|apply qb_|apply qa_|apply qc_|refine qh_ ?_ GE257.out)|exact HB.out)) hb);have n2_:=aK (hbox);have n3_:=aK ((by rw [hg];exact (qk_ (by repeat (first|(with_reducible first|exact HB.out|apply qb_|apply qa_|apply qc_|refine qh_ ?_ GE257.out)|exact HB.out))):w.heap.size≤gb258));have n4_:=aK ((by rw [hg];exact (qk_ (by repeat (first|(with_reducible first|exact HB.out|apply qb_|apply qa_|apply qc_|refine qh_ ?_ GE257.out)|exact HB.out))):w.heap.size≤gb258));have n5_:=aK ((by rw [hg];exact Nat.ne_of_lt (blk_lt (g:=gb257) (o:=.cells #[.int .i64 a0_0,.int .i64 a0_1,.slice A0_2 l0_2.length c0_2] 38 (0,0)) (by (with_reducible repeat (first|refine qg_ ?_ _|refine qi_ ?_|refine qe_ ?_ _));exact BK257.out)):gb257 ≠ gb258));have n6_:=aK ((by rw [hg];exact Nat.ne_of_gt (blk_lt (g:=gb257) (o:=.cells #[.int .i64 a0_0,.int .i64 a0_1,.slice A0_2 l0_2.length c0_2] 38 (0,0)) (by (with_reducible repeat (first|refine qg_ ?_ _|refine qi_ ?_|refine qe_ ?_ _));exact BK257.out)):gb258 ≠ gb257));clear BK257;clear HB;have BK257:=n0_;have HB:=n1_;have BK258:=n2_;have GW258:=n3_;have GE258:=n4_;have NB257_258:=n5_;have NB258_257:=n6_;clear n0_ n1_ n2_ n3_ n4_ n5_ n6_;clear hb hbox hg;have hnb26:=NB257_258.out;have hnc26:=NB258_257.out;have hcz27_0:w25.cell? ⟨gb257,0,none⟩=some (.int .i64 a0_0):=(qj_ BK257.out 0).trans rfl;have hcz27_1:w25.cell? ⟨gb257,1,none⟩=some (.int .i64 a0_1):=(qj_ BK257.out 1).trans rfl;have hcz27_2:w25.cell? ⟨gb257,2,none⟩=some (.slice A0_2 l0_2.length c0_2):=(qj_ BK257.out 2).trans rfl;have hfz27_0:=qd_ BK257.out 0;have hfz27_1:=qd_ BK257.out 1;have hfz27_2:=qd_ BK257.out 2;have hcz28_0:w25.cell? ⟨gb258,0,none⟩=some (.int .i64 a1_0):=(qj_ BK258.out 0).trans rfl;have hcz28_1:w25.cell? ⟨gb258,1,none⟩=some (.int .i64 a1_1):=(qj_ BK258.out 1).trans rfl;have hcz28_2:w25.cell? ⟨gb258,2,none⟩=some (.slice A1_2 l1_2.length c1_2):=(qj_ BK258.out 2).trans rfl;have hfz28_0:=qd_ BK258.out 0;have hfz28_1:=qd_ BK258.out 1;have hfz28_2:=qd_ BK258.out 2))
  go_ret
  exact ⟨by first|rfl|(simp [qn_,qm_] <;> rfl)|(simp [*,qn_,qm_] <;> rfl),by repeat (first|(with_reducible first|exact HB.out|apply qb_|apply qa_|apply qc_|refine qh_ ?_ GE257.out|refine qh_ ?_ GE258.out)|exact HB.out)⟩
end Go.Proofs.Ytaiefdhenikiiaa.Base
namespace Go.Proofs.Ytaiefdhenikiiaa.Base
open Go.RowKit Go.Proofs.YtaiefdhenikiiaaW.PrintWords Go.Proofs.YtaiefdhenikiiaaW.PrintLast Go.Proofs.YtaiefdhenikiiaaW.PrintMore
attribute [local go_sem] max2_int qp1_ max_two min_two max_three min_three max_four min_four Go.Proofs.YtaiefdhenikiiaaZ.qv_   -- for this text's walks alone
set_option linter.unusedVariables false
set_option linter.unusedSimpArgs false
def qg2_.f (k:Nat) (a0_0:Int) (a0_1:Int) (l0_2:List (S79)) (a1:Int):Option (Int):=(qu_.f k l0_2 a1).bind fun t486=>(if t486 < 0 then (some (-1)) else (some t486))
theorem qg2_.mono:∀ a0 a1 a2 a3 k,LeO (qg2_.f k a0 a1 a2 a3) (qg2_.f (k+1) a0 a1 a2 a3):=by
 intro a0 a1 a2 a3 k
 unfold qg2_.f
 repeat' first
   | (with_reducible exact qu_.mono _ _ _)
   | (with_reducible exact LeO.refl _)
   | (with_reducible exact LeO.none _)
   | (with_reducible refine LeO.ite ?_ ?_)
   | (with_reducible refine LeO.bind ?_ (fun _=>?_))
   | exact qu_.mono _ _ _
   | exact LeO.none _
   | refine LeO.ite ?_ ?_
   | refine LeO.bind ?_ (fun _=>?_)
set_option maxHeartbeats 8000000 in
set_option maxRecDepth 100000 in
theorem qg2_.calls (k:Nat) (a0_0:Int) (a0_1:Int) (A0_2:Option Addr) (c0_2:Nat) (l0_2:List (S79)) (a1:Int) (r:Int) (w:World) (hr0_2:Kd.C k79 w A0_2 l0_2.length l0_2) (hc0_2:l0_2.length≤c0_2) (h:qg2_.f k a0_0 a0_1 l0_2 a1=some r) :
  Calls Try.prog 39 #[.agg #[.int .i64 a0_0,.int .i64 a0_1,.slice A0_2 l0_2.length c0_2],.int .i64 a1] w fun e w'=>e=.returned (.int .i64 r)∧Below w.heap.size w w':=by
 have hu38:=Try.underlying38
 have HR0_2:=aK hr0_2
 have HC0_2:=aK hc0_2
 clear hr0_2 hc0_2
 have HB:=aK (Below.refl w.heap.size w)
 have H:((qu_.f k l0_2 a1).bind fun t486=>(if t486 < 0 then (some (-1)) else (some t486)))=some r:=h
 clear h
 replace H:=Option.bind_eq_some_iff.mp H
 obtain ⟨t486,A30,H⟩:=H
 replace H:(if t486 < 0 then (some (-1)) else (some t486))=some r:=H
 have A3:=aK A30
 clear A30
 by_cases c4:t486 < 0
 ·rw [if_pos c4] at H
  have c4b0:decide (t486 < 0)=true:=decide_eq_true c4
  clear c4
  obtain rfl:=Option.some.inj H
  go_enter Try.func39,Try.ntmps39
  go_wp2_with (first|((with_reducible refine qa1_ (N:=2) rfl ?_);refine qx_ ?hg (N:=2) ?hd (cs:=#[.int .i64 a0_0,.int .i64 a0_1,.slice A0_2 l0_2.length c0_2]) (t:=38) ?hr ?_;(case hd=>rfl);(case hg=>rfl);(case hr=>first|(go_simp;done)|(go_simp;rfl));intro gb485 hg w5 hbox hb;have n0_:=aK (qf_ (by repeat (first|(with_reducible first|exact HB.out|apply qb_|apply qa_|apply qc_)|exact HB.out)) hb);have n1_:=aK (hbox);have n2_:=aK ((by rw [hg];exact (qk_ (by repeat (first|(with_reducible first|exact HB.out|apply qb_|apply qa_|apply qc_)|exact HB.out))):w.heap.size≤gb485));have n3_:=aK ((by rw [hg];exact (qk_ (by repeat (first|(with_reducible first|exact HB.out|apply qb_|apply qa_|apply qc_)|exact HB.out))):w.heap.size≤gb485));clear HB;have HB:=n0_;have BK485:=n1_;have GW485:=n2_;have GE485:=n3_;clear n0_ n1_ n2_ n3_;clear hb hbox hg;have hcz6_0:w5.cell? ⟨gb485,0,none⟩=some (.int .i64 a0_0):=(qj_ BK485.out 0).trans rfl;have hcz6_1:w5.cell? ⟨gb485,1,none⟩=some (.int .i64 a0_1):=(qj_ BK485.out 1).trans rfl;have hcz6_2:w5.cell? ⟨gb485,2,none⟩=some (.slice A0_2 l0_2.length c0_2):=(qj_ BK485.out 2).trans rfl;have hfz6_0:=qd_ BK485.out 0;have hfz6_1:=qd_ BK485.out 1;have hfz6_2:=qd_ BK485.out 2)|((with_reducible refine qc1_ (f:=27) rfl ?_);refine goesL_ (some 8) rfl rfl Try.func27 (by kernel_rfl) rfl #[.slice A0_2 l0_2.length c0_2,.int .i64 a1] rfl (by (try simp only [List.map_toArray,List.map_cons,List.map_nil]);first|done|rfl|(simp only [List.length_drop,List.length_take];rfl)) ?_;(with_reducible refine (qu_.calls k _ _ l0_2 a1 t486 _ ?side1 ?side2 A3.out).mono ?_);(case side1=>repeat (first|exact (Kd.qt1_ HR0_2.out HB.out)|(with_reducible refine Kd.C_alloc ?_ _)|(with_reducible refine Kd.C_drewN ?_ _)|(with_reducible refine Kd.C_drew ?_)));(case side2=>exact HC0_2.out);rintro e w7 ⟨rfl,hb⟩;refine ⟨_,rfl,?_⟩;have n0_:=aK (ql_ (g:=gb485) (o:=.cells #[.int .i64 a0_0,.int .i64 a0_1,.slice A0_2 l0_2.length c0_2] 38 (0,0)) (by (with_reducible repeat (first|refine qg_ ?_ _|refine qi_ ?_|refine qe_ ?_ _));exact BK485.out) hb);have n1_:=aK (qf_ (by repeat (first|(with_reducible first|exact HB.out|apply qb_|apply qa_|apply qc_|refine qh_ ?_ GE485.out)|exact HB.out)) hb);clear BK485;clear HB;have BK485:=n0_;have HB:=n1_;clear n0_ n1_;(try clear hb);(try clear hb2);(try clear hk);(try clear hi)))
  go_ret
  exact ⟨by first|rfl|(simp [qn_,qm_] <;> rfl)|(simp [*,qn_,qm_] <;> rfl),by repeat (first|(with_reducible first|exact HB.out|apply qb_|apply qa_|apply qc_|refine qh_ ?_ GE485.out)|exact HB.out)⟩
 ·rw [if_neg c4] at H
  have c4b0:decide (t486 < 0)=false:=decide_eq_false c4
  clear c4
  obtain rfl:=Option.some.inj H
  go_enter Try.func39,Try.ntmps39
  go_wp2_with (first|((with_reducible refine qa1_ (N:=2) rfl ?_);refine qx_ ?hg (N:=2) ?hd (cs:=#[.int .i64 a0_0,.int .i64 a0_1,.slice A0_2 l0_2.length c0_2]) (t:=38) ?hr ?_;(case hd=>rfl);(case hg=>rfl);(case hr=>first|(go_simp;done)|(go_simp;rfl));intro gb485 hg w8 hbox hb;have n0_:=aK (qf_ (by repeat (first|(with_reducible first|exact HB.out|apply qb_|apply qa_|apply qc_)|exact HB.out)) hb);have n1_:=aK (hbox);have n2_:=aK ((by rw [hg];exact (qk_ (by repeat (first|(with_reducible first|exact HB.out|apply qb_|apply qa_|apply qc_)|exact HB.out))):w.heap.size≤gb485));have n3_:=aK ((by rw [hg];exact (qk_ (by repeat (first|(with_reducible first|exact HB.out|apply qb_|apply qa_|apply qc_)|exact HB.out))):w.heap.size≤gb485));clear HB;have HB:=n0_;have BK485:=n1_;have GW485:=n2_;have GE485:=n3_;clear n0_ n1_ n2_ n3_;clear hb hbox hg;have hcz9_0:w8.cell? ⟨gb485,0,none⟩=some (.int .i64 a0_0):=(qj_ BK485.out 0).trans rfl;have hcz9_1:w8.cell? ⟨gb485,1,none⟩=some (.int .i64 a0_1):=(qj_ BK485.out 1).trans rfl;have hcz9_2:w8.cell? ⟨gb485,2,none⟩=some (.slice A0_2 l0_2.length c0_2):=(qj_ BK485.out 2).trans rfl;have hfz9_0:=qd_ BK485.out 0;have hfz9_1:=qd_ BK485.out 1;have hfz9_2:=qd_ BK485.out 2)|((with_reducible refine qc1_ (f:=27) rfl ?_);refine goesL_ (some 8) rfl rfl Try.func27 (by kernel_rfl) rfl #[.slice A0_2 l0_2.length c0_2,.int .i64 a1] rfl (by (try simp only [List.map_toArray,List.map_cons,List.map_nil]);first|done|rfl|(simp only [List.length_drop,List.length_take];rfl)) ?_;(with_reducible refine (qu_.calls k _ _ l0_2 a1 t486 _ ?side1 ?side2 A3.out).mono ?_);(case side1=>repeat (first|exact (Kd.qt1_ HR0_2.out HB.out)|(with_reducible refine Kd.C_alloc ?_ _)|(with_reducible refine Kd.C_drewN ?_ _)|(with_reducible refine Kd.C_drew ?_)));(case side2=>exact HC0_2.out);rintro e w10 ⟨rfl,hb⟩;refine ⟨_,rfl,?_⟩;have n0_:=aK (ql_ (g:=gb485) (o:=.cells #[.int .i64 a0_0,.int .i64 a0_1,.slice A0_2 l0_2.length c0_2] 38 (0,0)) (by (with_reducible repeat (first|refine qg_ ?_ _|refine qi_ ?_|refine qe_ ?_ _));exact BK485.out) hb);have n1_:=aK (qf_ (by repeat (first|(with_reducible first|exact HB.out|apply qb_|apply qa_|apply qc_|refine qh_ ?_ GE485.out)|exact HB.out)) hb);clear BK485;clear HB;have BK485:=n0_;have HB:=n1_;clear n0_ n1_;(try clear hb);(try clear hb2);(try clear hk);(try clear hi)))
  go_ret
  exact ⟨by first|rfl|(simp [qn_,qm_] <;> rfl)|(simp [*,qn_,qm_] <;> rfl),by repeat (first|(with_reducible first|exact HB.out|apply qb_|apply qa_|apply qc_|refine qh_ ?_ GE485.out)|exact HB.out)⟩
end Go.Proofs.Ytaiefdhenikiiaa.Base
namespace Go.Proofs.Ytaiefdhenikiiaa.Base
open Go.RowKit Go.Proofs.YtaiefdhenikiiaaW.PrintWords Go.Proofs.YtaiefdhenikiiaaW.PrintLast Go.Proofs.YtaiefdhenikiiaaW.PrintMore
attribute [local go_sem] max2_int qp1_ max_two min_two max_three min_three max_four min_four Go.Proofs.YtaiefdhenikiiaaZ.qv_   -- for this text's walks alone
set_option linter.unusedVariables false
set_option linter.unusedSimpArgs false
mutual
def qq_.l0:Nat→Int→Int→List ByteArray→Option (List ByteArray)
 | 0,_,_,_=>none
 | k+1,x0,x1,x5=>if x1 > 0 then (qq_.l1 k x0 x1 x5 (([]:List ByteArray)) 0) else (some x5)
def qq_.l1:Nat→Int→Int→List ByteArray→List ByteArray→Int→Option (List ByteArray)
 | 0,_,_,_,_,_=>none
 | k+1,x0,x1,x5,x6,x7=>if x7 < (x5.length:Int) then (qq_.l2 k x0 x1 x5 x6 x7 0) else (qq_.l0 k x0 (wrap64 (x1 - 1)) x6)
def qq_.l2:Nat→Int→Int→List ByteArray→List ByteArray→Int→Int→Option (List ByteArray)
 | 0,_,_,_,_,_,_=>none
 | k+1,x0,x1,x5,x6,x7,x8=>if x8 < x0 then (if 0≤x7 then (if x7 < (x5.length:Int) then ((some (([(wrap64 (48+x8)) % 256]:List Int):List Int)).bind fun y655=>(if (rdOf ByteArray.empty x5 x7).size+(strOfNums y655).size≤9223372036854775807 then (if x6.length < 8796093022208 then (qq_.l2 k x0 x1 x5 (x6 ++ [(rdOf ByteArray.empty x5 x7) ++ (strOfNums y655)]) x7 (wrap64 (x8+1))) else (none)) else (none))) else (none)) else (none)) else (qq_.l1 k x0 x1 x5 x6 (wrap64 (x7+1)))
end
def qq_.f (k:Nat) (a0:Int) (a1:Int):Option (List ByteArray):=qq_.l0 k a0 a1 (([(⟨#[]⟩:ByteArray)]:List ByteArray))
theorem qq_.mono_l:∀ k,(∀ y0 y1 y2,LeO (qq_.l0 k y0 y1 y2) (qq_.l0 (k+1) y0 y1 y2))∧(∀ y0 y1 y2 y3 y4,LeO (qq_.l1 k y0 y1 y2 y3 y4) (qq_.l1 (k+1) y0 y1 y2 y3 y4))∧(∀ y0 y1 y2 y3 y4 y5,LeO (qq_.l2 k y0 y1 y2 y3 y4 y5) (qq_.l2 (k+1) y0 y1 y2 y3 y4 y5))
 | 0=>⟨fun _ _ _ r h=>by simp [qq_.l0] at h,fun _ _ _ _ _ r h=>by simp [qq_.l1] at h,fun _ _ _ _ _ _ r h=>by simp [qq_.l2] at h⟩
 | k+1=>by
  obtain ⟨ih0,ih1,ih2⟩:=qq_.mono_l k
  refine ⟨?_,?_,?_⟩
  ·intro y0 y1 y2
   unfold qq_.l0
   repeat' first
   | (with_reducible exact ih0 _ _ _)
   | (with_reducible exact ih1 _ _ _ _ _)
   | (with_reducible exact ih2 _ _ _ _ _ _)
   | (with_reducible exact LeO.refl _)
   | (with_reducible exact LeO.none _)
   | (with_reducible refine LeO.ite ?_ ?_)
   | (with_reducible refine LeO.bind ?_ (fun _=>?_))
   | exact ih0 _ _ _
   | exact ih1 _ _ _ _ _
   | exact ih2 _ _ _ _ _ _
   | exact LeO.none _
   | refine LeO.ite ?_ ?_
   | refine LeO.bind ?_ (fun _=>?_)
  ·intro y0 y1 y2 y3 y4
   unfold qq_.l1
   repeat' first
   | (with_reducible exact ih0 _ _ _)
   | (with_reducible exact ih1 _ _ _ _ _)
   | (with_reducible exact ih2 _ _ _ _ _ _)
   | (with_reducible exact LeO.refl _)
   | (with_reducible exact LeO.none _)
   | (with_reducible refine LeO.ite ?_ ?_)
   | (with_reducible refine LeO.bind ?_ (fun _=>?_))
   | exact ih0 _ _ _
   | exact ih1 _ _ _ _ _
   | exact ih2 _ _ _ _ _ _
   | exact LeO.none _
   | refine LeO.ite ?_ ?_
   | refine LeO.bind ?_ (fun _=>?_)
  ·intro y0 y1 y2 y3 y4 y5
   unfold qq_.l2
   repeat' first
   | (with_reducible exact ih0 _ _ _)
   | (with_reducible exact ih1 _ _ _ _ _)
   | (with_reducible exact ih2 _ _ _ _ _ _)
   | (with_reducible exact LeO.refl _)
   | (with_reducible exact LeO.none _)
   | (with_reducible refine LeO.ite ?_ ?_)
   | (with_reducible refine LeO.bind ?_ (fun _=>?_))
   | exact ih0 _ _ _
   | exact ih1 _ _ _ _ _
   | exact ih2 _ _ _ _ _ _
   | exact LeO.none _
   | refine LeO.ite ?_ ?_
   | refine LeO.bind ?_ (fun _=>?_)
theorem qq_.mono:∀ a0 a1 k,LeO (qq_.f k a0 a1) (qq_.f (k+1) a0 a1):=by
 intro a0 a1 k
 obtain ⟨ih0,ih1,ih2⟩:=qq_.mono_l k
 unfold qq_.f
 repeat' first
   | (with_reducible exact ih0 _ _ _)
   | (with_reducible exact ih1 _ _ _ _ _)
   | (with_reducible exact ih2 _ _ _ _ _ _)
   | (with_reducible exact LeO.refl _)
   | (with_reducible exact LeO.none _)
   | (with_reducible refine LeO.ite ?_ ?_)
   | (with_reducible refine LeO.bind ?_ (fun _=>?_))
   | exact ih0 _ _ _
   | exact ih1 _ _ _ _ _
   | exact ih2 _ _ _ _ _ _
   | exact LeO.none _
   | refine LeO.ite ?_ ?_
   | refine LeO.bind ?_ (fun _=>?_)
def qq_.T11:Bool × List (List Nat × List Nat):=(true,[([],[]),([],[]),([],[]),([1,2],[1,2]),([3],[3]),([],[]),([5],[5]),([6],[6]),([7],[7]),([8],[8]),([4,9],[4,9]),([10],[10]),([0,11],[0,11]),([12,12,0,1,2,3,4,5,6,7,8,9,10,11,12],[0,12])])
def qq_.B11:List Nat:=[0,0,0,6,14,0,32,96,224,480,1022,2046,4095,8191]
theorem qq_.tab11:rtab .any (opsOf Try.f185 11)=qq_.T11:=by kernel_rfl
theorem qq_.bits11:waitsOk qq_.T11.2 qq_.B11=true:=by kernel_rfl
set_option maxHeartbeats 8000000 in
set_option maxRecDepth 100000 in
theorem qq_.calls (k:Nat) (a0:Int) (a1:Int) (r:List ByteArray) (w:World) (h:qq_.f k a0 a1=some r) :
  Calls Try.prog 185 #[.int .i64 a0,.int .i64 a1] w fun e w'=>∃ v0_:Value,e=.returned (v0_)∧Kd.R Kd.string 9 w' w.heap.size (fun _=>True) v0_ r∧Below w.heap.size w w':=by
 have HB:=aK (Below.refl w.heap.size w)
 have H:(qq_.l0 k a0 a1 (([(⟨#[]⟩:ByteArray)]:List ByteArray)))=some r:=h
 clear h
 obtain ⟨y648,hy648⟩:∃ y_:List ByteArray,y_=(([(⟨#[]⟩:ByteArray)]:List ByteArray)):=⟨_,rfl⟩
 replace H:(qq_.l0 k a0 a1 y648)=some r:=by first|(rw [hy648];with_reducible exact H)|(have H2_:=(Option.bind_some _ _).symm.trans H;rw [hy648];with_reducible exact H2_)|(have H2_:=(Option.bind_some _ _).symm.trans H;with_reducible exact H2_)|with_reducible exact H|(rw [hy648];exact H)|exact H
 have Ny648:=aK hy648
 clear hy648
 have H':=aK H
 clear H
 go_enter Try.func185,Try.ntmps185
 go_wp2_with (first|((with_reducible refine qa1_ (N:=9) rfl ?_);refine Kd.R_lit Kd.string _ 9 ?hg (N:=9) ?hd (xs:=([(⟨#[]⟩:ByteArray)]:List ByteArray)) (inner:=[.string (⟨#[]⟩:ByteArray)]) (ok:=fun _=>True) (okp:=fun _=>True) ?hr ?hp (fun _ hk=>hk) trivial (Below.refl _ _) (Nat.le_refl _) (by simp) ?_;(case hd=>rfl);(case hg=>rfl);(case hr=>first|(go_simp;done)|(go_simp;rfl));(case hp=>exact (Reps.one (show Kd.M Kd.string _ _ _ (⟨#[]⟩:ByteArray) [.string (⟨#[]⟩:ByteArray)] from rfl) (Reps.none _ _)));intro v649 w3 ho4 hb hg_ hnew_;clear hg_ hnew_;(first|rw [← Ny648.out] at ho4|(simp only [Int.reduceToNat] at ho4;rw [← Ny648.out] at ho4));have n0_:=aK (Kd.qj2_ ho4 (qk_ (by repeat (first|(with_reducible first|exact HB.out|apply qb_|apply qa_|apply qc_)|exact HB.out))));have n1_:=aK (qf_ (by repeat (first|(with_reducible first|exact HB.out|apply qb_|apply qa_|apply qc_)|exact HB.out)) hb);clear HB;have HO650:=n0_;have HB:=n1_;clear n0_ n1_;clear hb ho4))
 go_loopg [1,5] k (fun kq v1 v5 w'=>∃ (x1_1:Int) (x5_1:List ByteArray),v1=.int .i64 x1_1∧Aside0 (qq_.l0 kq a0 x1_1 x5_1=some r)∧Aside0 (kq≤k)∧Aside0 (Kd.R Kd.string 9 w' w.heap.size (fun _=>True) v5 x5_1)∧Aside0 (Below w.heap.size w w'))
 case atStart=>exact ⟨(a1),(y648),(by first|rfl|(simp;done)|(simp [*];done)),H',⟨Nat.le_refl _⟩,⟨by (with_reducible repeat (first|apply Kd.qi1_|apply Kd.qv1_|apply Kd.R_drew));exact HO650.out⟩,⟨by repeat (first|(with_reducible first|exact HB.out|apply qb_|apply qa_|apply qc_)|exact HB.out)⟩⟩
 case round =>
  clear H'
  try clear c1
  try clear p2
  obtain ⟨x1_1,x5_1,rfl,HA,HK1,HO_5,HB⟩:=hrel
  cases gk with
  | zero=>exact absurd HA.out (by simp [qq_.l0])
  | succ k1 =>
   have H:=HA.out
   clear HA
   simp only [qq_.l0] at H
   by_cases c5:x1_1 > 0
   ·rw [if_pos c5] at H
    have c5b0:decide (0 < x1_1)=true:=decide_eq_true c5
    clear c5
    obtain ⟨y651,hy651⟩:∃ y_:List ByteArray,y_=(([]:List ByteArray)):=⟨_,rfl⟩
    replace H:(qq_.l1 k1 a0 x1_1 x5_1 y651 0)=some r:=by first|(rw [hy651];with_reducible exact H)|(have H2_:=(Option.bind_some _ _).symm.trans H;rw [hy651];with_reducible exact H2_)|(have H2_:=(Option.bind_some _ _).symm.trans H;with_reducible exact H2_)|with_reducible exact H|(rw [hy651];exact H)|exact H
    have Ny651:=aK hy651
    clear hy651
    have H':=aK H
    clear H
    go_wp2_with (first|((with_reducible refine qa1_ (N:=14) rfl ?_);refine Kd.R_lit Kd.string _ 9 ?hg (N:=14) ?hd (xs:=([]:List ByteArray)) (inner:=[]) (ok:=fun _=>True) (okp:=fun _=>True) ?hr ?hp (fun _ hk=>hk) trivial (Below.refl _ _) (Nat.le_refl _) (by simp) ?_;(case hd=>rfl);(case hg=>rfl);(case hr=>first|(go_simp;done)|(go_simp;rfl));(case hp=>exact (Reps.none _ _));intro v652 w6 ho7 hb hg_ hnew_;clear hg_ hnew_;(first|rw [← Ny651.out] at ho7|(simp only [Int.reduceToNat] at ho7;rw [← Ny651.out] at ho7));have n0_:=aK (Kd.R_elder' (by (with_reducible repeat (first|apply Kd.qi1_|apply Kd.qv1_|apply Kd.R_drew));exact HO_5.out) (Kd.R_base ho7) hb);have n1_:=aK (Kd.qj2_ (Kd.R_new' ho7 (Kd.R_lt (by (with_reducible repeat (first|apply Kd.qi1_|apply Kd.qv1_|apply Kd.R_drew));exact HO_5.out))) (qk_ (by repeat (first|(with_reducible first|exact HB.out|apply qb_|apply qa_|apply qc_)|exact HB.out))));have n2_:=aK (qf_ (by repeat (first|(with_reducible first|exact HB.out|apply qb_|apply qa_|apply qc_)|exact HB.out)) hb);clear HO_5;clear HB;have HO_5:=n0_;have HO653:=n1_;have HB:=n2_;clear n0_ n1_ n2_;clear hb ho7))
    go_loopg [6,7] k1 (fun kq v6 v7 w'=>∃ (x6_2:List ByteArray) (x7_2:Int),v7=.int .i64 x7_2∧Aside0 (qq_.l1 kq a0 x1_1 x5_1 x6_2 x7_2=some r)∧Aside0 (kq≤k1)∧Aside0 (Kd.R Kd.string 9 w' w.heap.size (fun k_=>some k_ ≠ (v6:Value).ownBlock) u5 x5_1)∧Aside0 (Kd.R Kd.string 9 w' w.heap.size (fun k_=>some k_ ≠ (u5:Value).ownBlock) v6 x6_2)∧Aside0 (Below w.heap.size w w'))
    case atStart=>exact ⟨(y651),(0),(by first|rfl|(simp;done)|(simp [*];done)),H',⟨Nat.le_refl _⟩,⟨by (with_reducible repeat (first|apply Kd.qi1_|apply Kd.qv1_|apply Kd.R_drew));exact Kd.R_mono HO_5.out (fun _ hk=>hk.2)⟩,⟨by (with_reducible repeat (first|apply Kd.qi1_|apply Kd.qv1_|apply Kd.R_drew));exact Kd.R_mono HO653.out (fun _ hk=>hk.2)⟩,⟨by repeat (first|(with_reducible first|exact HB.out|apply qb_|apply qa_|apply qc_)|exact HB.out)⟩⟩
    case round =>
     clear H'
     try clear c1
     try clear p2
     try clear c5
     try clear c5b0
     try clear p2
     obtain ⟨x6_2,x7_2,rfl,HA,HK2,HO_5,HO_6,HB⟩:=hrel
     cases gk with
     | zero=>exact absurd HA.out (by simp [qq_.l1])
     | succ k2 =>
      have H:=HA.out
      clear HA
      simp only [qq_.l1] at H
      by_cases c8:x7_2 < (x5_1.length:Int)
      ·rw [if_pos c8] at H
       have c8b0:decide (x7_2 < (x5_1.length:Int))=true:=decide_eq_true c8
       clear c8
       have H':=aK H
       clear H
       obtain ⟨Ao9,co9,eo9⟩:=Kd.qa2_ HO_5.out
       subst eo9
       go_wp2
       go_loopg [6,8] k2 (fun kq v6 v8 w'=>∃ (x6_3:List ByteArray) (x8_3:Int),v8=.int .i64 x8_3∧Aside0 (qq_.l2 kq a0 x1_1 x5_1 x6_3 x7_2 x8_3=some r)∧Aside0 (kq≤k2)∧Aside0 (Kd.R Kd.string 9 w' w.heap.size (fun k_=>some k_ ≠ (v6:Value).ownBlock) (.slice Ao9 x5_1.length co9) x5_1)∧Aside0 (Kd.R Kd.string 9 w' w.heap.size (fun k_=>some k_ ≠ ((.slice Ao9 x5_1.length co9):Value).ownBlock) v6 x6_3)∧Aside0 (Below w.heap.size w w'))
       case atStart=>exact ⟨(x6_2),(0),(by first|rfl|(simp;done)|(simp [*];done)),H',⟨Nat.le_refl _⟩,⟨by (with_reducible repeat (first|apply Kd.qi1_|apply Kd.qv1_|apply Kd.R_drew));exact HO_5.out⟩,⟨by (with_reducible repeat (first|apply Kd.qi1_|apply Kd.qv1_|apply Kd.R_drew));exact HO_6.out⟩,⟨by repeat (first|(with_reducible first|exact HB.out|apply qb_|apply qa_|apply qc_)|exact HB.out)⟩⟩
       case round =>
        clear H'
        try clear c1
        try clear p2
        try clear c5
        try clear c5b0
        try clear c8
        try clear c8b0
        try clear p2
        obtain ⟨x6_3,x8_3,rfl,HA,HK3,HO_5,HO_6,HB⟩:=hrel
        cases gk with
        | zero=>exact absurd HA.out (by simp [qq_.l2])
        | succ k3 =>
         have H:=HA.out
         clear HA
         simp only [qq_.l2] at H
         by_cases c10:x8_3 < a0
         ·rw [if_pos c10] at H
          have c10b0:decide (x8_3 < a0)=true:=decide_eq_true c10
          clear c10
          by_cases c11:0≤x7_2
          ·rw [if_pos c11] at H
           have c11b0:decide (0≤x7_2)=true:=decide_eq_true c11
           clear c11
           by_cases c12:x7_2 < (x5_1.length:Int)
           ·rw [if_pos c12] at H
            have c12b0:decide (x7_2 < (x5_1.length:Int))=true:=decide_eq_true c12
            clear c12
            obtain ⟨y655,hy655⟩:∃ y_:List Int,y_=(([(wrap64 (48+x8_3)) % 256]:List Int)):=⟨_,rfl⟩
            replace H:(if (rdOf ByteArray.empty x5_1 x7_2).size+(strOfNums y655).size≤9223372036854775807 then (if x6_3.length < 8796093022208 then (qq_.l2 k3 a0 x1_1 x5_1 (x6_3 ++ [(rdOf ByteArray.empty x5_1 x7_2) ++ (strOfNums y655)]) x7_2 (wrap64 (x8_3+1))) else (none)) else (none))=some r:=by first|(rw [hy655];with_reducible exact H)|(have H2_:=(Option.bind_some _ _).symm.trans H;rw [hy655];with_reducible exact H2_)|(have H2_:=(Option.bind_some _ _).symm.trans H;with_reducible exact H2_)|with_reducible exact H|(rw [hy655];exact H)|exact H
            have Ny655:=aK hy655
            clear hy655
            by_cases c13:(rdOf ByteArray.empty x5_1 x7_2).size+(strOfNums y655).size≤9223372036854775807
            ·rw [if_pos c13] at H
             have c13b0:=eq_true c13
             have c13b1:decide ((rdOf ByteArray.empty x5_1 x7_2).size+(strOfNums y655).size≤9223372036854775807)=true:=decide_eq_true c13
             try have c13b2:(9223372036854775807 < (rdOf ByteArray.empty x5_1 x7_2).size+(strOfNums y655).size)=False:=eq_false (Nat.not_lt.2 c13)
             by_cases c14:x6_3.length < 8796093022208
             ·rw [if_pos c14] at H
              have LMc14:=aK c14
              clear c14
              obtain ⟨y658,hy658⟩:∃ y_:List ByteArray,y_=(x6_3 ++ [(rdOf ByteArray.empty x5_1 x7_2) ++ (strOfNums y655)]):=⟨_,rfl⟩
              replace H:(qq_.l2 k3 a0 x1_1 x5_1 y658 x7_2 (wrap64 (x8_3+1)))=some r:=by first|(rw [hy658];with_reducible exact H)|(have H2_:=(Option.bind_some _ _).symm.trans H;rw [hy658];with_reducible exact H2_)|(have H2_:=(Option.bind_some _ _).symm.trans H;with_reducible exact H2_)|with_reducible exact H|(rw [hy658];exact H)|exact H
              have Ny658:=aK hy658
              clear hy658
              have H':=aK H
              clear H
              try go_wp2
              have n0_:=aK (Kd.R_drew HO_5.out)
              have n1_:=aK (Kd.R_drew HO_6.out)
              have n2_:=aK (qc_ HB.out)
              clear HO_5
              clear HO_6
              clear HB
              have HO_5:=n0_
              have HO_6:=n1_
              have HB:=n2_
              clear n0_ n1_ n2_
              have p654:0≤(x7_2:Int):=of_decide_eq_true (by first|(with_reducible assumption)|assumption)
              have q654:x7_2 < (x5_1.length:Int):=of_decide_eq_true (by first|(with_reducible assumption)|assumption)
              obtain ⟨ad654,e654,hx654_0⟩:=Kd.at_string (Kd.qg3_ HO_5.out).2.2 x7_2 p654 q654
              cases e654
              replace p654:=eq_true p654
              replace q654:=eq_true q654
              refine start_ (n:=14) (S:=fun w'=>w'.cell? (ad654.add (x7_2).toNat)=some (.string (rdOf ByteArray.empty x5_1 x7_2))) (ds:=[11,12]) #[fF,fF,fF,fF,fF,fF,fF,fF,fF,fF,fF,fF,fF,fF] (by kernel_rfl) rfl rfl (hx654_0) (fun hHeld=>?_);refine with_tabW qq_.tab11 qq_.bits11 (fun HT_ HW_=>?_)
              generalize wr.drew=w15 at HO_5 HO_6 HB hx654_0 hHeld ⊢
              refine pure_ (i:=0) (N:=some 26) (v:=?_) (a':=?_) #[tT,fF,fF,fF,fF,fF,fF,fF,fF,fF,fF,fF,fF,fF] rfl rfl (any_of HT_.out (by kernel_rfl)) (fun _ _ _ h=>h) (Or.inl ⟨by rfl,?_⟩) ?_ ?_
              rotate_left
              ·intro w'
               go_simp
               with_reducible rfl
              rotate_left
              ·simp only [Act.put,List.setIfInBounds_toArray,List.set_cons_zero,List.set_cons_succ,i64_w,i32_w]
               rfl
              refine pure_ (i:=1) (N:=some 27) (v:=?_) (a':=?_) #[tT,tT,fF,fF,fF,fF,fF,fF,fF,fF,fF,fF,fF,fF] rfl rfl (any_of HT_.out (by kernel_rfl)) (fun _ _ _ h=>h) (Or.inl ⟨by rfl,?_⟩) ?_ ?_
              rotate_left
              ·intro w'
               go_simp
               with_reducible rfl
              rotate_left
              ·simp only [Act.put,List.setIfInBounds_toArray,List.set_cons_zero,List.set_cons_succ,i64_w,i32_w]
               rfl
              refine pure_ (i:=2) (N:=some 28) (v:=?_) (a':=?_) #[tT,tT,tT,fF,fF,fF,fF,fF,fF,fF,fF,fF,fF,fF] rfl rfl (any_of HT_.out (by kernel_rfl)) (fun _ _ _ h=>h) (Or.inl ⟨by rfl,?_⟩) ?_ ?_
              rotate_left
              ·intro w'
               go_simp
               with_reducible rfl
              rotate_left
              ·simp only [Act.put,List.setIfInBounds_toArray,List.set_cons_zero,List.set_cons_succ,i64_w,i32_w]
               rfl
              refine pure_ (i:=3) (N:=some 29) (v:=?_) (a':=?_) #[tT,tT,tT,tT,fF,fF,fF,fF,fF,fF,fF,fF,fF,fF] rfl rfl (any_of HT_.out (by kernel_rfl)) (fun _ _ _ h=>h) (Or.inl ⟨by rfl,?_⟩) ?_ ?_
              rotate_left
              ·intro w'
               go_simp
               with_reducible rfl
              rotate_left
              ·simp only [Act.put,List.setIfInBounds_toArray,List.set_cons_zero,List.set_cons_succ,i64_w,i32_w]
               rfl
              refine pure_ (i:=5) (N:=some 31) (v:=?_) (a':=?_) #[tT,tT,tT,tT,fF,tT,fF,fF,fF,fF,fF,fF,fF,fF] rfl rfl (any_of HT_.out (by kernel_rfl)) (fun _ _ _ h=>h) (Or.inl ⟨by rfl,?_⟩) ?_ ?_
              rotate_left
              ·intro w'
               go_simp
               with_reducible rfl
              rotate_left
              ·simp only [Act.put,List.setIfInBounds_toArray,List.set_cons_zero,List.set_cons_succ,i64_w,i32_w]
               rfl
              refine pure_ (i:=6) (N:=some 32) (v:=?_) (a':=?_) #[tT,tT,tT,tT,fF,tT,tT,fF,fF,fF,fF,fF,fF,fF] rfl rfl (any_of HT_.out (by kernel_rfl)) (fun _ _ _ h=>h) (Or.inl ⟨by rfl,?_⟩) ?_ ?_
              rotate_left
              ·intro w'
               go_simp
               with_reducible rfl
              rotate_left
              ·simp only [Act.put,List.setIfInBounds_toArray,List.set_cons_zero,List.set_cons_succ,i64_w,i32_w]
               rfl
              refine pure_ (i:=7) (N:=some 33) (v:=?_) (a':=?_) #[tT,tT,tT,tT,fF,tT,tT,tT,fF,fF,fF,fF,fF,fF] rfl rfl (any_of HT_.out (by kernel_rfl)) (fun _ _ _ h=>h) (Or.inl ⟨by rfl,?_⟩) ?_ ?_
              rotate_left
              ·intro w'
               go_simp
               with_reducible rfl
              rotate_left
              ·simp only [Act.put,List.setIfInBounds_toArray,List.set_cons_zero,List.set_cons_succ,i64_w,i32_w]
               rfl
              refine take_ (i:=4) (N:=some 30) (v:=?_) (a':=?_) #[tT,tT,tT,tT,tT,tT,tT,tT,fF,fF,fF,fF,fF,fF] rfl rfl (take_ofW HT_.out HW_.out (by kernel_rfl)) (fun _ _ _ h=>h) (Or.inl ⟨by rfl,?_⟩) hHeld ?_ ?_
              rotate_left
              ·intro w' s0
               go_simp
               with_reducible rfl
              rotate_left
              ·simp only [Act.put,List.setIfInBounds_toArray,List.set_cons_zero,List.set_cons_succ,i64_w,i32_w]
               rfl
              refine one_ (i:=8) (N:=some 34) #[tT,tT,tT,tT,tT,tT,tT,tT,tT,fF,fF,fF,fF,fF] rfl rfl (one_of HT_.out (by kernel_rfl)) (by decide) (fun K hK=>?_)
              refine Kd.R_lit_step (Kd.int .u8) _ 5 ?hg (N:=34) ?hd (xs:=([(wrap64 (48+x8_3)) % 256]:List Int)) (inner:=[.int .u8 ((wrap64 (48+x8_3)) % 256)]) (ok:=fun _=>True) (okp:=fun _=>True) ?hr ?hp (fun _ hk=>hk) trivial (Below.refl _ _) (Nat.le_refl _) (by simp) ?_;(case hd=>rfl);(case hg=>rfl);(case hr=>first|(go_simp;done)|(go_simp;rfl));(case hp=>exact (Reps.one (show Kd.M (Kd.int .u8) _ _ _ ((wrap64 (48+x8_3)) % 256) [.int .u8 ((wrap64 (48+x8_3)) % 256)] from rfl) (Reps.none _ _)))
              intro v656 w16 ho17 hb hg_ hnew_
              have HS0_:=(hb.cell (World.block_lt_of_cell? _ _ (hHeld))).trans (hHeld)
              clear hg_ hnew_
              (first|rw [← Ny655.out] at ho17|(simp only [Int.reduceToNat] at ho17;rw [← Ny655.out] at ho17))
              have n0_:=aK (Kd.ql2_ (by (with_reducible repeat (first|apply Kd.qi1_|apply Kd.qv1_|apply Kd.R_drew));exact HO_5.out) hb)
              have n1_:=aK (Kd.ql2_ (by (with_reducible repeat (first|apply Kd.qi1_|apply Kd.qv1_|apply Kd.R_drew));exact HO_6.out) hb)
              have n2_:=aK (Kd.qj2_ ho17 (qk_ (by repeat (first|(with_reducible first|exact HB.out|apply qb_|apply qa_|apply qc_)|exact HB.out))))
              have n3_:=aK (qf_ (by repeat (first|(with_reducible first|exact HB.out|apply qb_|apply qa_|apply qc_)|exact HB.out)) hb)
              clear HO_5
              clear HO_6
              clear HB
              have HO_5:=n0_
              have HO_6:=n1_
              have HO657:=n2_
              have HB:=n3_
              clear n0_ n1_ n2_ n3_
              clear hb ho17
              refine hK.out _ _ (HS0_) (fun hHeld=>?_)
              clear hK K
              refine norm_ (a':=?_) ?_ ?_
              rotate_left
              ·show Act.put _ (some 34) _=_
               simp only [Act.put,List.setIfInBounds_toArray,List.set_cons_zero,List.set_cons_succ,i64_w,i32_w]
               rfl
              refine one_ (i:=9) (N:=some 35) #[tT,tT,tT,tT,tT,tT,tT,tT,tT,tT,fF,fF,fF,fF] rfl rfl (one_of HT_.out (by kernel_rfl)) (by decide) (fun K hK=>?_)
              have hcv18:=own_string (P:=Try.prog) Try.underlying140 Try.underlying5 Try.underlying9 (Kd.own_of_R HO657.out)
              refine value_ (w1:=?_) (v:=?_) (by rfl) rfl ?_ ?_
              rotate_left 2
              ·go_simp
               constructor
               ·rfl
               ·rfl
              clear hcv18
              refine hK.out _ _ (hHeld) (fun hHeld=>?_)
              clear hK K
              refine norm_ (a':=?_) ?_ ?_
              rotate_left
              ·show Act.put _ (some 35) _=_
               simp only [Act.put,List.setIfInBounds_toArray,List.set_cons_zero,List.set_cons_succ,i64_w,i32_w]
               rfl
              refine pure_ (i:=10) (N:=some 36) (v:=?_) (a':=?_) #[tT,tT,tT,tT,tT,tT,tT,tT,tT,tT,tT,fF,fF,fF] rfl rfl (any_of HT_.out (by kernel_rfl)) (fun _ _ _ h=>h) (Or.inl ⟨by rfl,?_⟩) ?_ ?_
              rotate_left
              ·intro w'
               go_simp
               with_reducible rfl
              rotate_left
              ·simp only [Act.put,List.setIfInBounds_toArray,List.set_cons_zero,List.set_cons_succ,i64_w,i32_w]
               rfl
              refine last_ (i:=11) (N:=some 37) #[tT,tT,tT,tT,tT,tT,tT,tT,tT,tT,tT,tT,fF,fF] rfl rfl (one_of HT_.out (by kernel_rfl)) (by decide) (fun K hK=>?_)
              refine value_ (w1:=?_) (v:=?_) (by rfl) rfl ?_ ?_
              rotate_left 2
              ·go_simp
               constructor
               ·rfl
               ·rfl
              refine hK.out _ _ ?_
              clear hK K
              refine norm_ (a':=?_) ?_ ?_
              rotate_left
              ·show Act.put _ (some 37) _=_
               simp only [Act.put,List.setIfInBounds_toArray,List.set_cons_zero,List.set_cons_succ,i64_w,i32_w]
               rfl
              refine last_ (i:=12) (N:=some 38) #[tT,tT,tT,tT,tT,tT,tT,tT,tT,tT,tT,tT,tT,fF] rfl rfl (one_of HT_.out (by kernel_rfl)) (by decide) (fun K hK=>?_)
              refine Kd.qf3_ Kd.string (w0:=w) w.heap.size (by rfl) (.tmp 26) (.tmp 37) 156 9 (.string ⟨#[]⟩) 16 rfl Try.underlying156 info9 rfl (by decide) (by omega) u6 x6_3 ((rdOf ByteArray.empty x5_1 x7_2) ++ (strOfNums y655)) [.string ((rdOf ByteArray.empty x5_1 x7_2) ++ (strOfNums y655))] (fun k_=>some k_ ≠ (.slice (some ad654) x5_1.length co9:Value).ownBlock) (fun _=>False) rfl rfl ?aP (fun _ hk=>hk.elim) ?aF ?aO ?aB ?aS ?aL ?_
              (case aP=>exact rfl)
              (case aB=>exact (by repeat (first|(with_reducible first|exact HB.out|apply qb_|apply qa_|apply qc_)|exact HB.out)))
              (case aF=>exact (fun k_ hk=>Kd.fresh' (Kd.R_lt (by (with_reducible repeat (first|apply Kd.qi1_|apply Kd.qv1_|apply Kd.R_drew));exact HO_5.out)) k_ hk))
              (case aO=>exact (by (with_reducible repeat (first|apply Kd.qi1_|apply Kd.qv1_|apply Kd.R_drew));exact HO_6.out))
              (case aS=>exact (qk_ (by repeat (first|(with_reducible first|exact HB.out|apply qb_|apply qa_|apply qc_)|exact HB.out))))
              (case aL=>have:=LMc14.out;omega)
              intro v659 w19 ho hb hg hat
              rw [← Ny658.out] at ho
              have n0_:=aK (Kd.R_after (ok:=(fun _=>True)) (by (with_reducible repeat (first|apply Kd.qi1_|apply Kd.qv1_|apply Kd.R_drew));exact Kd.R_mono HO_5.out (fun _ hk=>⟨trivial,hk⟩)) hg hat)
              have n1_:=aK (Kd.R_over' (by (with_reducible repeat (first|apply Kd.qi1_|apply Kd.qv1_|apply Kd.R_drew));exact HO657.out) (Kd.R_typed (by (with_reducible repeat (first|apply Kd.qi1_|apply Kd.qv1_|apply Kd.R_drew));exact HO_6.out)) (by decide) hg)
              have n2_:=aK (hb)
              have n3_:=aK (ho)
              clear HO_5
              clear HO657
              clear HB
              clear HO_6
              have HO_5:=n0_
              have HO657:=n1_
              have HB:=n2_
              have HO660:=n3_
              clear n0_ n1_ n2_ n3_
              clear ho hb hg hat
              refine hK.out _ _ ?_
              clear hK K
              refine norm_ (a':=?_) ?_ ?_
              rotate_left
              ·show Act.put _ (some 38) _=_
               simp only [Act.put,List.setIfInBounds_toArray,List.set_cons_zero,List.set_cons_succ,i64_w,i32_w]
               rfl
              refine pure_ (i:=13) (N:=some 6) (v:=?_) (a':=?_) #[tT,tT,tT,tT,tT,tT,tT,tT,tT,tT,tT,tT,tT,tT] rfl rfl (any_of HT_.out (by kernel_rfl)) (fun _ _ _ h=>h) (Or.inl ⟨by rfl,?_⟩) ?_ ?_
              rotate_left
              ·intro w'
               go_simp
               with_reducible rfl
              rotate_left
              ·simp only [Act.put,List.setIfInBounds_toArray,List.set_cons_zero,List.set_cons_succ,i64_w,i32_w]
               rfl
              refine done_ (done_of HT_.out (by kernel_rfl)) ?_
              try go_wp2
              go_roundg k3
              case measure=>have:=HK1.out;have:=HK2.out;have:=HK3.out;omega
              case rel=>exact ⟨(y658),(wrap64 (x8_3+1)),(by first|rfl|(simp;done)|(simp [*];done)),H',⟨by have:=HK1.out;have:=HK2.out;have:=HK3.out;omega⟩,⟨by (with_reducible repeat (first|apply Kd.qi1_|apply Kd.qv1_|apply Kd.R_drew));exact Kd.R_mono HO_5.out (fun _ hk=>hk.2)⟩,⟨by (with_reducible repeat (first|apply Kd.qi1_|apply Kd.qv1_|apply Kd.R_drew));exact HO660.out⟩,⟨by repeat (first|(with_reducible first|exact HB.out|apply qb_|apply qa_|apply qc_)|exact HB.out)⟩⟩
             ·rw [if_neg c14] at H
              exact absurd H (by simp)
            ·rw [if_neg c13] at H
             exact absurd H (by simp)
           ·rw [if_neg c12] at H
            exact absurd H (by simp)
          ·rw [if_neg c11] at H
           exact absurd H (by simp)
         ·rw [if_neg c10] at H
          have c10b0:decide (x8_3 < a0)=false:=decide_eq_false c10
          clear c10
          have H':=aK H
          clear H
          go_wp2
          go_roundg k3
          case measure=>have:=HK1.out;have:=HK2.out;have:=HK3.out;omega
          case rel=>exact ⟨(x6_3),(wrap64 (x7_2+1)),(by first|rfl|(simp;done)|(simp [*];done)),H',⟨by have:=HK1.out;have:=HK2.out;have:=HK3.out;omega⟩,⟨by (with_reducible repeat (first|apply Kd.qi1_|apply Kd.qv1_|apply Kd.R_drew));exact HO_5.out⟩,⟨by (with_reducible repeat (first|apply Kd.qi1_|apply Kd.qv1_|apply Kd.R_drew));exact HO_6.out⟩,⟨by repeat (first|(with_reducible first|exact HB.out|apply qb_|apply qa_|apply qc_)|exact HB.out)⟩⟩
      ·rw [if_neg c8] at H
       have c8b0:decide (x7_2 < (x5_1.length:Int))=false:=decide_eq_false c8
       clear c8
       have H':=aK H
       clear H
       obtain ⟨Ao20,co20,eo20⟩:=Kd.qa2_ HO_5.out
       subst eo20
       go_wp2
       go_roundg k2
       case measure=>have:=HK1.out;have:=HK2.out;omega
       case rel=>exact ⟨(wrap64 (x1_1 - 1)),(x6_2),(by first|rfl|(simp;done)|(simp [*];done)),H',⟨by have:=HK1.out;have:=HK2.out;omega⟩,⟨by (with_reducible repeat (first|apply Kd.qi1_|apply Kd.qv1_|apply Kd.R_drew));exact Kd.R_mono HO_6.out (fun _ hk=>trivial)⟩,⟨by repeat (first|(with_reducible first|exact HB.out|apply qb_|apply qa_|apply qc_)|exact HB.out)⟩⟩
   ·rw [if_neg c5] at H
    have c5b0:decide (0 < x1_1)=false:=decide_eq_false c5
    clear c5
    obtain rfl:=Option.some.inj H
    go_wp2
    go_ret
    exact ⟨_,by first|rfl|(simp [qn_,qm_] <;> rfl)|(simp [*,qn_,qm_] <;> rfl),by (with_reducible repeat (first|apply Kd.qi1_|apply Kd.qv1_|apply Kd.R_drew));exact HO_5.out,by repeat (first|(with_reducible first|exact HB.out|apply qb_|apply qa_|apply qc_)|exact HB.out)⟩
end Go.Proofs.Ytaiefdhenikiiaa.Base
namespace Go.Proofs.Ytaiefdhenikiiaa.Base
open Go.RowKit Go.Proofs.YtaiefdhenikiiaaW.PrintWords Go.Proofs.YtaiefdhenikiiaaW.PrintLast Go.Proofs.YtaiefdhenikiiaaW.PrintMore
attribute [local go_sem] max2_int qp1_ max_two min_two max_three min_three max_four min_four Go.Proofs.YtaiefdhenikiiaaZ.qv_   -- for this text's walks alone
set_option linter.unusedVariables false
set_option linter.unusedSimpArgs false
def qw2_.f (a0_0:Int) (a0_1:Int) (l0_2:List (S79)):Option (Int × Int × (List (S79))):=some (a0_0,a0_1,(([]:List (S79))))
set_option maxHeartbeats 8000000 in
set_option maxRecDepth 100000 in
theorem qw2_.calls (a0_0:Int) (a0_1:Int) (A0_2:Option Addr) (c0_2:Nat) (l0_2:List (S79)) (r1:Int) (r2:Int) (r3:List (S79)) (w:World) (hr0_2:Kd.C k79 w A0_2 l0_2.length l0_2) (hc0_2:l0_2.length≤c0_2) (h:qw2_.f a0_0 a0_1 l0_2=some (r1,r2,r3)) :
  Calls Try.prog 108 #[.agg #[.int .i64 a0_0,.int .i64 a0_1,.slice A0_2 l0_2.length c0_2]] w fun e w'=>∃ v2_:Value,e=.returned (.agg #[.int .i64 r1,.int .i64 r2,v2_])∧Kd.R k79 79 w' w.heap.size (fun _=>True) v2_ r3∧Below w.heap.size w w':=by
 have hu38:=Try.underlying38
 have HR0_2:=aK hr0_2
 have HC0_2:=aK hc0_2
 clear hr0_2 hc0_2
 have HB:=aK (Below.refl w.heap.size w)
 have H:(some (a0_0,a0_1,(([]:List (S79)))))=some (r1,r2,r3):=h
 clear h
 obtain ⟨y317,hy317⟩:∃ y_:List (S79),y_=(([]:List (S79))):=⟨_,rfl⟩
 replace H:(some (a0_0,a0_1,y317))=some (r1,r2,r3):=by first|(rw [hy317];with_reducible exact H)|(have H2_:=(Option.bind_some _ _).symm.trans H;rw [hy317];with_reducible exact H2_)|(have H2_:=(Option.bind_some _ _).symm.trans H;with_reducible exact H2_)|with_reducible exact H|(rw [hy317];exact H)|exact H
 have Ny317:=aK hy317
 clear hy317
 simp only [Option.some.injEq,Prod.mk.injEq] at H
 obtain ⟨rfl,rfl,rfl⟩:=H
 go_enter Try.func108,Try.ntmps108
 go_wp2_with (first|((with_reducible refine qa1_ (N:=1) rfl ?_);refine qx_ ?hg (N:=1) ?hd (cs:=#[.int .i64 a0_0,.int .i64 a0_1,.slice A0_2 l0_2.length c0_2]) (t:=38) ?hr ?_;(case hd=>rfl);(case hg=>rfl);(case hr=>first|(go_simp;done)|(go_simp;rfl));intro gb315 hg w2 hbox hb;have n0_:=aK (qf_ (by repeat (first|(with_reducible first|exact HB.out|apply qb_|apply qa_|apply qc_)|exact HB.out)) hb);have n1_:=aK (hbox);have n2_:=aK ((by rw [hg];exact (qk_ (by repeat (first|(with_reducible first|exact HB.out|apply qb_|apply qa_|apply qc_)|exact HB.out))):w.heap.size≤gb315));have n3_:=aK ((by rw [hg];exact (qk_ (by repeat (first|(with_reducible first|exact HB.out|apply qb_|apply qa_|apply qc_)|exact HB.out))):w.heap.size≤gb315));clear HB;have HB:=n0_;have BK315:=n1_;have GW315:=n2_;have GE315:=n3_;clear n0_ n1_ n2_ n3_;clear hb hbox hg)|((with_reducible refine qa1_ (N:=2) rfl ?_);refine qx_ ?hg (N:=2) ?hd (cs:=#[.int .i64 0,.int .i64 0,.slice none 0 0]) (t:=38) ?hr ?_;(case hd=>rfl);(case hg=>rfl);(case hr=>first|(go_simp;done)|(go_simp;rfl));intro gb316 hg w3 hbox hb;have n0_:=aK (ql_ (g:=gb315) (o:=.cells #[.int .i64 a0_0,.int .i64 a0_1,.slice A0_2 l0_2.length c0_2] 38 (0,0)) (by (with_reducible repeat (first|refine qg_ ?_ _|refine qi_ ?_|refine qe_ ?_ _));exact BK315.out) hb);have n1_:=aK (qf_ (by repeat (first|(with_reducible first|exact HB.out|apply qb_|apply qa_|apply qc_|refine qh_ ?_ GE315.out)|exact HB.out)) hb);have n2_:=aK (hbox);have n3_:=aK ((by rw [hg];exact (qk_ (by repeat (first|(with_reducible first|exact HB.out|apply qb_|apply qa_|apply qc_|refine qh_ ?_ GE315.out)|exact HB.out))):w.heap.size≤gb316));have n4_:=aK ((by rw [hg];exact (qk_ (by repeat (first|(with_reducible first|exact HB.out|apply qb_|apply qa_|apply qc_|refine qh_ ?_ GE315.out)|exact HB.out))):w.heap.size≤gb316));have n5_:=aK ((by rw [hg];exact Nat.ne_of_lt (blk_lt (g:=gb315) (o:=.cells #[.int .i64 a0_0,.int .i64 a0_1,.slice A0_2 l0_2.length c0_2] 38 (0,0)) (by (with_reducible repeat (first|refine qg_ ?_ _|refine qi_ ?_|refine qe_ ?_ _));exact BK315.out)):gb315 ≠ gb316));have n6_:=aK ((by rw [hg];exact Nat.ne_of_gt (blk_lt (g:=gb315) (o:=.cells #[.int .i64 a0_0,.int .i64 a0_1,.slice A0_2 l0_2.length c0_2] 38 (0,0)) (by (with_reducible repeat (first|refine qg_ ?_ _|refine qi_ ?_|refine qe_ ?_ _));exact BK315.out)):gb316 ≠ gb315));clear BK315;clear HB;have BK315:=n0_;have HB:=n1_;have BK316:=n2_;have GW316:=n3_;have GE316:=n4_;have NB315_316:=n5_;have NB316_315:=n6_;clear n0_ n1_ n2_ n3_ n4_ n5_ n6_;clear hb hbox hg;have hnb4:=NB315_316.out;have hnc4:=NB316_315.out;have hcz5_0:w3.cell? ⟨gb315,0,none⟩=some (.int .i64 a0_0):=(qj_ BK315.out 0).trans rfl;have hcz5_1:w3.cell? ⟨gb315,1,none⟩=some (.int .i64 a0_1):=(qj_ BK315.out 1).trans rfl;have hcz5_2:w3.cell? ⟨gb315,2,none⟩=some (.slice A0_2 l0_2.length c0_2):=(qj_ BK315.out 2).trans rfl;have hfz5_0:=qd_ BK315.out 0;have hfz5_1:=qd_ BK315.out 1;have hfz5_2:=qd_ BK315.out 2)|((with_reducible refine qa1_ (N:=7) rfl ?_);refine Kd.R_lit k79 _ 79 ?hg (N:=7) ?hd (xs:=([]:List (S79))) (inner:=[]) (ok:=fun _=>True) (okp:=fun _=>True) ?hr ?hp (fun _ hk=>hk) trivial (Below.refl _ _) (Nat.le_refl _) (by simp) ?_;(case hd=>rfl);(case hg=>rfl);(case hr=>first|(go_simp;done)|(go_simp;rfl));(case hp=>exact (Reps.none _ _));intro v318 w6 ho7 hb hg_ hnew_;clear hg_ hnew_;(first|rw [← Ny317.out] at ho7|(simp only [Int.reduceToNat] at ho7;rw [← Ny317.out] at ho7));have n0_:=aK (Kd.qj2_ ho7 (qk_ (by repeat (first|(with_reducible first|exact HB.out|apply qb_|apply qa_|apply qc_|refine qh_ ?_ GE315.out|refine qh_ ?_ GE316.out)|exact HB.out))));have n1_:=aK (ql_ (g:=gb315) (o:=.cells #[.int .i64 a0_0,.int .i64 a0_1,.slice A0_2 l0_2.length c0_2] 38 (0,0)) (by (with_reducible repeat (first|refine qg_ ?_ _|refine qi_ ?_|refine qe_ ?_ _));exact BK315.out) hb);have n2_:=aK (ql_ (g:=gb316) (o:=.cells #[.int .i64 0,.int .i64 0,.slice none 0 0] 38 (0,0)) (by (with_reducible repeat (first|refine qg_ ?_ _|refine qi_ ?_|refine qe_ ?_ _));exact BK316.out) hb);have n3_:=aK (qf_ (by repeat (first|(with_reducible first|exact HB.out|apply qb_|apply qa_|apply qc_|refine qh_ ?_ GE315.out|refine qh_ ?_ GE316.out)|exact HB.out)) hb);clear BK315;clear BK316;clear HB;have HO319:=n0_;have BK315:=n1_;have BK316:=n2_;have HB:=n3_;clear n0_ n1_ n2_ n3_;clear hb ho7;obtain ⟨Ao8,co8,eo8⟩:=Kd.qa2_ HO319.out;subst eo8;have hcz9_0:w6.cell? ⟨gb316,0,none⟩=some (.int .i64 0):=(qj_ BK316.out 0).trans rfl;have hcz9_1:w6.cell? ⟨gb316,1,none⟩=some (.int .i64 0):=(qj_ BK316.out 1).trans rfl;have hcz9_2:w6.cell? ⟨gb316,2,none⟩=some (.slice none 0 0):=(qj_ BK316.out 2).trans rfl;have hfz9_0:=qd_ BK316.out 0;have hfz9_1:=qd_ BK316.out 1;have hfz9_2:=qd_ BK316.out 2))
 refine bodyPost_ret (results_cell_row rfl _ _ gb316 38 #[.int .i64 a0_0,.int .i64 a0_1,.slice Ao8 y317.length co8] (0,0) _ rfl (by (with_reducible repeat (first|refine qg_ ?_ _|refine qi_ ?_|refine qe_ ?_ _));refine qm1_ (cs:=#[.int .i64 a0_0,.int .i64 a0_1,.slice none 0 0]) ?_ 2 _ rfl;(with_reducible repeat (first|refine qg_ ?_ _|refine qi_ ?_|refine qe_ ?_ _));refine qm1_ (cs:=#[.int .i64 a0_0,.int .i64 0,.slice none 0 0]) ?_ 1 _ rfl;(with_reducible repeat (first|refine qg_ ?_ _|refine qi_ ?_|refine qe_ ?_ _));refine qm1_ (cs:=#[.int .i64 0,.int .i64 0,.slice none 0 0]) ?_ 0 _ rfl;(with_reducible repeat (first|refine qg_ ?_ _|refine qi_ ?_|refine qe_ ?_ _));exact BK316.out) Try.underlying38 rfl (by kernel_rfl)) rfl ?_
 exact ⟨_,by first|rfl|(simp [qn_,qm_] <;> rfl)|(simp [*,qn_,qm_] <;> rfl),by (with_reducible repeat (first|apply Kd.qi1_|apply Kd.qv1_|apply Kd.R_drew));exact Kd.R_mono (Kd.R_far (p:=⟨gb316,2,none⟩) (Kd.R_far (p:=⟨gb316,1,none⟩) (Kd.R_far (p:=⟨gb316,0,none⟩) (Kd.R_types HO319.out BK316.out (by decide)) (fun _ hk=>hk.2) (.int .i64 a0_0)) (fun _ hk=>hk.2) (.int .i64 a0_1)) (fun _ hk=>hk.2) (.slice Ao8 y317.length co8)) (fun _ hk=>trivial),by repeat (first|(with_reducible first|exact HB.out|apply qb_|apply qa_|apply qc_|refine qh_ ?_ GE315.out|refine qh_ ?_ GE316.out)|exact HB.out)⟩
end Go.Proofs.Ytaiefdhenikiiaa.Base
namespace Go.Proofs.Ytaiefdhenikiiaa.Base
open Go.RowKit Go.Proofs.YtaiefdhenikiiaaW.PrintWords Go.Proofs.YtaiefdhenikiiaaW.PrintLast Go.Proofs.YtaiefdhenikiiaaW.PrintMore
attribute [local go_sem] max2_int qp1_ max_two min_two max_three min_three max_four min_four Go.Proofs.YtaiefdhenikiiaaZ.qv_   -- for this text's walks alone
set_option linter.unusedVariables false
set_option linter.unusedSimpArgs false
def qy2_.f (a0:Int):Option (Int × Int):=some (a0,1)
set_option maxHeartbeats 8000000 in
set_option maxRecDepth 100000 in
theorem qy2_.calls (a0:Int) (r1:Int) (r2:Int) (w:World) (h:qy2_.f a0=some (r1,r2)) :
  Calls Try.prog 124 #[.int .i64 a0] w fun e w'=>e=.returned (.agg #[.int .i64 r1,.int .i64 r2])∧Below w.heap.size w w':=by
 have hu77:=Try.underlying77
 have HB:=aK (Below.refl w.heap.size w)
 have H:(some (a0,1))=some (r1,r2):=h
 clear h
 simp only [Option.some.injEq,Prod.mk.injEq] at H
 obtain ⟨rfl,rfl⟩:=H
 go_enter Try.func124,Try.ntmps124
 go_wp2_with (first|((with_reducible refine qa1_ (N:=2) rfl ?_);refine qx_ ?hg (N:=2) ?hd (cs:=#[.int .i64 0,.int .i64 0]) (t:=77) ?hr ?_;(case hd=>rfl);(case hg=>rfl);(case hr=>first|(go_simp;done)|(go_simp;rfl));intro gb609 hg w2 hbox hb;have n0_:=aK (qf_ (by repeat (first|(with_reducible first|exact HB.out|apply qb_|apply qa_|apply qc_)|exact HB.out)) hb);have n1_:=aK (hbox);have n2_:=aK ((by rw [hg];exact (qk_ (by repeat (first|(with_reducible first|exact HB.out|apply qb_|apply qa_|apply qc_)|exact HB.out))):w.heap.size≤gb609));have n3_:=aK ((by rw [hg];exact (qk_ (by repeat (first|(with_reducible first|exact HB.out|apply qb_|apply qa_|apply qc_)|exact HB.out))):w.heap.size≤gb609));clear HB;have HB:=n0_;have BK609:=n1_;have GW609:=n2_;have GE609:=n3_;clear n0_ n1_ n2_ n3_;clear hb hbox hg;have hcz3_0:w2.cell? ⟨gb609,0,none⟩=some (.int .i64 0):=(qj_ BK609.out 0).trans rfl;have hcz3_1:w2.cell? ⟨gb609,1,none⟩=some (.int .i64 0):=(qj_ BK609.out 1).trans rfl;have hfz3_0:=qd_ BK609.out 0;have hfz3_1:=qd_ BK609.out 1))
 refine bodyPost_ret (results_cell_row rfl _ _ gb609 77 #[.int .i64 a0,.int .i64 1] (0,0) _ rfl (by (with_reducible repeat (first|refine qg_ ?_ _|refine qi_ ?_|refine qe_ ?_ _));refine qm1_ (cs:=#[.int .i64 a0,.int .i64 0]) ?_ 1 _ rfl;(with_reducible repeat (first|refine qg_ ?_ _|refine qi_ ?_|refine qe_ ?_ _));refine qm1_ (cs:=#[.int .i64 0,.int .i64 0]) ?_ 0 _ rfl;(with_reducible repeat (first|refine qg_ ?_ _|refine qi_ ?_|refine qe_ ?_ _));exact BK609.out) Try.underlying77 rfl (by kernel_rfl)) rfl ?_
 exact ⟨by first|rfl|(simp [qn_,qm_] <;> rfl)|(simp [*,qn_,qm_] <;> rfl),by repeat (first|(with_reducible first|exact HB.out|apply qb_|apply qa_|apply qc_|refine qh_ ?_ GE609.out)|exact HB.out)⟩
end Go.Proofs.Ytaiefdhenikiiaa.Base
namespace Go.Proofs.Ytaiefdhenikiiaa.Base
open Go.RowKit Go.Proofs.YtaiefdhenikiiaaW.PrintWords Go.Proofs.YtaiefdhenikiiaaW.PrintLast Go.Proofs.YtaiefdhenikiiaaW.PrintMore
attribute [local go_sem] max2_int qp1_ max_two min_two max_three min_three max_four min_four Go.Proofs.YtaiefdhenikiiaaZ.qv_   -- for this text's walks alone
set_option linter.unusedVariables false
set_option linter.unusedSimpArgs false
def qo2_.f (a0_0:Int) (a0_1:Int) (l0_2:List (S79)) (a1:ByteArray):Option (Int × Int × (List (S79))):=(qw2_.f a0_0 a0_1 l0_2).bind fun bt732=>((qy2_.f 1).bind fun bt738=>(if bt732.2.2.length < 4398046511104 then (some (bt732.1,bt732.2.1,(bt732.2.2 ++ [(⟨a1,(⟨bt738.1,bt738.2⟩:S77)⟩:S79)]))) else (none)))
def qo2_.T2:Bool × List (List Nat × List Nat):=(true,[([],[]),([0],[0]),([],[]),([],[]),([2,3],[2,3]),([4],[4]),([1,5,3],[1,5]),([0,1,2,3,4,5,6],[]),([7,6,6,0,1,2,3,4,5,6],[6,7])])
def qo2_.B2:List Nat:=[0,1,0,0,12,28,63,127,255]
theorem qo2_.tab2:rtab .any (opsOf Try.f162 2)=qo2_.T2:=by kernel_rfl
theorem qo2_.bits2:waitsOk qo2_.T2.2 qo2_.B2=true:=by kernel_rfl
set_option maxHeartbeats 8000000 in
set_option maxRecDepth 100000 in
theorem qo2_.calls (a0_0:Int) (a0_1:Int) (A0_2:Option Addr) (c0_2:Nat) (l0_2:List (S79)) (a1:ByteArray) (r1:Int) (r2:Int) (r3:List (S79)) (w:World) (hr0_2:Kd.C k79 w A0_2 l0_2.length l0_2) (hc0_2:l0_2.length≤c0_2) (h:qo2_.f a0_0 a0_1 l0_2 a1=some (r1,r2,r3)) :
  Calls Try.prog 162 #[.agg #[.int .i64 a0_0,.int .i64 a0_1,.slice A0_2 l0_2.length c0_2],.string a1] w fun e w'=>∃ v2_:Value,e=.returned (.agg #[.int .i64 r1,.int .i64 r2,v2_])∧Kd.R k79 79 w' w.heap.size (fun _=>True) v2_ r3∧Below w.heap.size w w':=by
 have hu38:=Try.underlying38
 have hu79:=Try.underlying79
 have HR0_2:=aK hr0_2
 have HC0_2:=aK hc0_2
 clear hr0_2 hc0_2
 have HB:=aK (Below.refl w.heap.size w)
 have H:((qw2_.f a0_0 a0_1 l0_2).bind fun bt732=>((qy2_.f 1).bind fun bt738=>(if bt732.2.2.length < 4398046511104 then (some (bt732.1,bt732.2.1,(bt732.2.2 ++ [(⟨a1,(⟨bt738.1,bt738.2⟩:S77)⟩:S79)]))) else (none))))=some (r1,r2,r3):=h
 clear h
 replace H:=Option.bind_eq_some_iff.mp H
 obtain ⟨⟨t732,t733,t734⟩,A30,H⟩:=H
 replace H:((qy2_.f 1).bind fun bt738=>(if t734.length < 4398046511104 then (some (t732,t733,(t734 ++ [(⟨a1,(⟨bt738.1,bt738.2⟩:S77)⟩:S79)]))) else (none)))=some (r1,r2,r3):=H
 have A3:=aK A30
 clear A30
 replace H:=Option.bind_eq_some_iff.mp H
 obtain ⟨⟨t738,t739⟩,A40,H⟩:=H
 replace H:(if t734.length < 4398046511104 then (some (t732,t733,(t734 ++ [(⟨a1,(⟨t738,t739⟩:S77)⟩:S79)]))) else (none))=some (r1,r2,r3):=H
 have A4:=aK A40
 clear A40
 by_cases c5:t734.length < 4398046511104
 ·rw [if_pos c5] at H
  have LMc5:=aK c5
  clear c5
  obtain ⟨y740,hy740⟩:∃ y_:List (S79),y_=(t734 ++ [(⟨a1,(⟨t738,t739⟩:S77)⟩:S79)]):=⟨_,rfl⟩
  replace H:(some (t732,t733,y740))=some (r1,r2,r3):=by first|(rw [hy740];with_reducible exact H)|(have H2_:=(Option.bind_some _ _).symm.trans H;rw [hy740];with_reducible exact H2_)|(have H2_:=(Option.bind_some _ _).symm.trans H;with_reducible exact H2_)|with_reducible exact H|(rw [hy740];exact H)|exact H
  have Ny740:=aK hy740
  clear hy740
  simp only [Option.some.injEq,Prod.mk.injEq] at H
  obtain ⟨rfl,rfl,rfl⟩:=H
  go_enter Try.func162,Try.ntmps162
  try go_wp2_with (first|((with_reducible refine qa1_ (N:=2) rfl ?_);refine qx_ ?hg (N:=2) ?hd (cs:=#[.int .i64 a0_0,.int .i64 a0_1,.slice A0_2 l0_2.length c0_2]) (t:=38) ?hr ?_;(case hd=>rfl);(case hg=>rfl);(case hr=>first|(go_simp;done)|(go_simp;rfl));intro gb730 hg w6 hbox hb;have n0_:=aK (qf_ (by repeat (first|(with_reducible first|exact HB.out|apply qb_|apply qa_|apply qc_)|exact HB.out)) hb);have n1_:=aK (hbox);have n2_:=aK ((by rw [hg];exact (qk_ (by repeat (first|(with_reducible first|exact HB.out|apply qb_|apply qa_|apply qc_)|exact HB.out))):w.heap.size≤gb730));have n3_:=aK ((by rw [hg];exact (qk_ (by repeat (first|(with_reducible first|exact HB.out|apply qb_|apply qa_|apply qc_)|exact HB.out))):w.heap.size≤gb730));clear HB;have HB:=n0_;have BK730:=n1_;have GW730:=n2_;have GE730:=n3_;clear n0_ n1_ n2_ n3_;clear hb hbox hg)|((with_reducible refine qa1_ (N:=4) rfl ?_);refine qx_ ?hg (N:=4) ?hd (cs:=#[.int .i64 0,.int .i64 0,.slice none 0 0]) (t:=38) ?hr ?_;(case hd=>rfl);(case hg=>rfl);(case hr=>first|(go_simp;done)|(go_simp;rfl));intro gb731 hg w7 hbox hb;have n0_:=aK (ql_ (g:=gb730) (o:=.cells #[.int .i64 a0_0,.int .i64 a0_1,.slice A0_2 l0_2.length c0_2] 38 (0,0)) (by (with_reducible repeat (first|refine qg_ ?_ _|refine qi_ ?_|refine qe_ ?_ _));exact BK730.out) hb);have n1_:=aK (qf_ (by repeat (first|(with_reducible first|exact HB.out|apply qb_|apply qa_|apply qc_|refine qh_ ?_ GE730.out)|exact HB.out)) hb);have n2_:=aK (hbox);have n3_:=aK ((by rw [hg];exact (qk_ (by repeat (first|(with_reducible first|exact HB.out|apply qb_|apply qa_|apply qc_|refine qh_ ?_ GE730.out)|exact HB.out))):w.heap.size≤gb731));have n4_:=aK ((by rw [hg];exact (qk_ (by repeat (first|(with_reducible first|exact HB.out|apply qb_|apply qa_|apply qc_|refine qh_ ?_ GE730.out)|exact HB.out))):w.heap.size≤gb731));have n5_:=aK ((by rw [hg];exact Nat.ne_of_lt (blk_lt (g:=gb730) (o:=.cells #[.int .i64 a0_0,.int .i64 a0_1,.slice A0_2 l0_2.length c0_2] 38 (0,0)) (by (with_reducible repeat (first|refine qg_ ?_ _|refine qi_ ?_|refine qe_ ?_ _));exact BK730.out)):gb730 ≠ gb731));have n6_:=aK ((by rw [hg];exact Nat.ne_of_gt (blk_lt (g:=gb730) (o:=.cells #[.int .i64 a0_0,.int .i64 a0_1,.slice A0_2 l0_2.length c0_2] 38 (0,0)) (by (with_reducible repeat (first|refine qg_ ?_ _|refine qi_ ?_|refine qe_ ?_ _));exact BK730.out)):gb731 ≠ gb730));clear BK730;clear HB;have BK730:=n0_;have HB:=n1_;have BK731:=n2_;have GW731:=n3_;have GE731:=n4_;have NB730_731:=n5_;have NB731_730:=n6_;clear n0_ n1_ n2_ n3_ n4_ n5_ n6_;clear hb hbox hg;have hnb8:=NB730_731.out;have hnc8:=NB731_730.out;have hcz9_0:w7.cell? ⟨gb730,0,none⟩=some (.int .i64 a0_0):=(qj_ BK730.out 0).trans rfl;have hcz9_1:w7.cell? ⟨gb730,1,none⟩=some (.int .i64 a0_1):=(qj_ BK730.out 1).trans rfl;have hcz9_2:w7.cell? ⟨gb730,2,none⟩=some (.slice A0_2 l0_2.length c0_2):=(qj_ BK730.out 2).trans rfl;have hfz9_0:=qd_ BK730.out 0;have hfz9_1:=qd_ BK730.out 1;have hfz9_2:=qd_ BK730.out 2)|((with_reducible refine qc1_ (f:=108) rfl ?_);refine goesL_ (some 7) rfl rfl Try.func108 (by kernel_rfl) rfl #[.agg #[.int .i64 a0_0,.int .i64 a0_1,.slice A0_2 l0_2.length c0_2]] rfl (by (try simp only [List.map_toArray,List.map_cons,List.map_nil]);first|done|rfl|(simp only [List.length_drop,List.length_take];rfl)) ?_;(with_reducible refine (qw2_.calls a0_0 a0_1 _ _ l0_2 t732 t733 t734 _ ?side1 ?side2 A3.out).mono ?_);(case side1=>repeat (first|exact (Kd.qt1_ HR0_2.out HB.out)|(with_reducible refine Kd.C_alloc ?_ _)|(with_reducible refine Kd.C_drewN ?_ _)|(with_reducible refine Kd.C_drew ?_)));(case side2=>exact HC0_2.out);rintro e w10 ⟨v735,rfl,ho0,hb⟩;refine ⟨_,rfl,?_⟩;have n0_:=aK (Kd.qj2_ ho0 (qk_ (by repeat (first|(with_reducible first|exact HB.out|apply qb_|apply qa_|apply qc_|refine qh_ ?_ GE730.out|refine qh_ ?_ GE731.out)|exact HB.out))));have n1_:=aK (ql_ (g:=gb730) (o:=.cells #[.int .i64 a0_0,.int .i64 a0_1,.slice A0_2 l0_2.length c0_2] 38 (0,0)) (by (with_reducible repeat (first|refine qg_ ?_ _|refine qi_ ?_|refine qe_ ?_ _));exact BK730.out) hb);have n2_:=aK (ql_ (g:=gb731) (o:=.cells #[.int .i64 0,.int .i64 0,.slice none 0 0] 38 (0,0)) (by (with_reducible repeat (first|refine qg_ ?_ _|refine qi_ ?_|refine qe_ ?_ _));exact BK731.out) hb);have n3_:=aK (qf_ (by repeat (first|(with_reducible first|exact HB.out|apply qb_|apply qa_|apply qc_|refine qh_ ?_ GE730.out|refine qh_ ?_ GE731.out)|exact HB.out)) hb);clear BK730;clear BK731;clear HB;have HO736:=n0_;have BK730:=n1_;have BK731:=n2_;have HB:=n3_;clear n0_ n1_ n2_ n3_;(try clear hb);(try clear hb2);(try clear hk);(try clear hi);(try clear ho0))|((with_reducible refine qa1_ (N:=5) rfl ?_);refine qx_ ?hg (N:=5) ?hd (cs:=#[.int .i64 0,.int .i64 0,.slice none 0 0]) (t:=38) ?hr ?_;(case hd=>rfl);(case hg=>rfl);(case hr=>first|(go_simp;done)|(go_simp;rfl));intro gb737 hg w11 hbox hb;have n0_:=aK (Kd.ql2_ (by (with_reducible repeat (first|apply Kd.qi1_|apply Kd.qv1_|apply Kd.R_drew));exact HO736.out) hb);have n1_:=aK (ql_ (g:=gb730) (o:=.cells #[.int .i64 a0_0,.int .i64 a0_1,.slice A0_2 l0_2.length c0_2] 38 (0,0)) (by (with_reducible repeat (first|refine qg_ ?_ _|refine qi_ ?_|refine qe_ ?_ _));exact BK730.out) hb);have n2_:=aK (ql_ (g:=gb731) (o:=.cells #[.int .i64 0,.int .i64 0,.slice none 0 0] 38 (0,0)) (by (with_reducible repeat (first|refine qg_ ?_ _|refine qi_ ?_|refine qe_ ?_ _));exact BK731.out) hb);have n3_:=aK (qf_ (by repeat (first|(with_reducible first|exact HB.out|apply qb_|apply qa_|apply qc_|refine qh_ ?_ GE730.out|refine qh_ ?_ GE731.out)|exact HB.out)) hb);have n4_:=aK (hbox);have n5_:=aK ((by rw [hg];exact (qk_ (by repeat (first|(with_reducible first|exact HB.out|apply qb_|apply qa_|apply qc_|refine qh_ ?_ GE730.out|refine qh_ ?_ GE731.out)|exact HB.out))):w.heap.size≤gb737));have n6_:=aK ((by rw [hg];exact (qk_ (by repeat (first|(with_reducible first|exact HB.out|apply qb_|apply qa_|apply qc_|refine qh_ ?_ GE730.out|refine qh_ ?_ GE731.out)|exact HB.out))):w.heap.size≤gb737));have n7_:=aK ((by rw [hg];exact Nat.ne_of_lt (blk_lt (g:=gb730) (o:=.cells #[.int .i64 a0_0,.int .i64 a0_1,.slice A0_2 l0_2.length c0_2] 38 (0,0)) (by (with_reducible repeat (first|refine qg_ ?_ _|refine qi_ ?_|refine qe_ ?_ _));exact BK730.out)):gb730 ≠ gb737));have n8_:=aK ((by rw [hg];exact Nat.ne_of_gt (blk_lt (g:=gb730) (o:=.cells #[.int .i64 a0_0,.int .i64 a0_1,.slice A0_2 l0_2.length c0_2] 38 (0,0)) (by (with_reducible repeat (first|refine qg_ ?_ _|refine qi_ ?_|refine qe_ ?_ _));exact BK730.out)):gb737 ≠ gb730));have n9_:=aK ((by rw [hg];exact Nat.ne_of_lt (blk_lt (g:=gb731) (o:=.cells #[.int .i64 0,.int .i64 0,.slice none 0 0] 38 (0,0)) (by (with_reducible repeat (first|refine qg_ ?_ _|refine qi_ ?_|refine qe_ ?_ _));exact BK731.out)):gb731 ≠ gb737));have n10_:=aK ((by rw [hg];exact Nat.ne_of_gt (blk_lt (g:=gb731) (o:=.cells #[.int .i64 0,.int .i64 0,.slice none 0 0] 38 (0,0)) (by (with_reducible repeat (first|refine qg_ ?_ _|refine qi_ ?_|refine qe_ ?_ _));exact BK731.out)):gb737 ≠ gb731));clear HO736;clear BK730;clear BK731;clear HB;have HO736:=n0_;have BK730:=n1_;have BK731:=n2_;have HB:=n3_;have BK737:=n4_;have GW737:=n5_;have GE737:=n6_;have NB730_737:=n7_;have NB737_730:=n8_;have NB731_737:=n9_;have NB737_731:=n10_;clear n0_ n1_ n2_ n3_ n4_ n5_ n6_ n7_ n8_ n9_ n10_;clear hb hbox hg;have hnb12:=NB737_730.out;have hnc12:=NB730_737.out;have hnb13:=NB737_731.out;have hnc13:=NB731_737.out;have hcz14_0:w11.cell? ⟨gb737,0,none⟩=some (.int .i64 0):=(qj_ BK737.out 0).trans rfl;have hcz14_1:w11.cell? ⟨gb737,1,none⟩=some (.int .i64 0):=(qj_ BK737.out 1).trans rfl;have hcz14_2:w11.cell? ⟨gb737,2,none⟩=some (.slice none 0 0):=(qj_ BK737.out 2).trans rfl;have hfz14_0:=qd_ BK737.out 0;have hfz14_1:=qd_ BK737.out 1;have hfz14_2:=qd_ BK737.out 2;obtain ⟨Ao15,co15,eo15⟩:=Kd.qa2_ HO736.out;subst eo15))
  have n0_:Aside0 (Kd.R k79 79 (((w11.setCell ⟨gb737,0,none⟩ (.int .i64 t732)).setCell ⟨gb737,1,none⟩ (.int .i64 t733)).setCell ⟨gb737,2,none⟩ (.slice Ao15 t734.length co15)) w.heap.size (fun _=>True) (.slice Ao15 t734.length co15) t734):=⟨by (with_reducible repeat (first|apply Kd.qi1_|apply Kd.qv1_|apply Kd.R_drew));exact Kd.R_mono (Kd.R_far (p:=⟨gb737,2,none⟩) (Kd.R_far (p:=⟨gb737,1,none⟩) (Kd.R_far (p:=⟨gb737,0,none⟩) (Kd.R_types HO736.out BK737.out (by decide)) (fun _ hk=>hk.2) (.int .i64 t732)) (fun _ hk=>hk.2) (.int .i64 t733)) (fun _ hk=>hk.2) (.slice Ao15 t734.length co15)) (fun _ hk=>trivial)⟩
  have n1_:Aside0 ((((w11.setCell ⟨gb737,0,none⟩ (.int .i64 t732)).setCell ⟨gb737,1,none⟩ (.int .i64 t733)).setCell ⟨gb737,2,none⟩ (.slice Ao15 t734.length co15)).heap[gb730]?=some (.cells #[.int .i64 a0_0,.int .i64 a0_1,.slice A0_2 l0_2.length c0_2] 38 (0,0))):=⟨by (with_reducible repeat (first|refine qg_ ?_ _|refine qi_ ?_|refine qe_ ?_ _));refine qy1_ ?_ NB730_737.out _;(with_reducible repeat (first|refine qg_ ?_ _|refine qi_ ?_|refine qe_ ?_ _));refine qy1_ ?_ NB730_737.out _;(with_reducible repeat (first|refine qg_ ?_ _|refine qi_ ?_|refine qe_ ?_ _));refine qy1_ ?_ NB730_737.out _;(with_reducible repeat (first|refine qg_ ?_ _|refine qi_ ?_|refine qe_ ?_ _));exact BK730.out⟩
  have n2_:Aside0 ((((w11.setCell ⟨gb737,0,none⟩ (.int .i64 t732)).setCell ⟨gb737,1,none⟩ (.int .i64 t733)).setCell ⟨gb737,2,none⟩ (.slice Ao15 t734.length co15)).heap[gb731]?=some (.cells #[.int .i64 0,.int .i64 0,.slice none 0 0] 38 (0,0))):=⟨by (with_reducible repeat (first|refine qg_ ?_ _|refine qi_ ?_|refine qe_ ?_ _));refine qy1_ ?_ NB731_737.out _;(with_reducible repeat (first|refine qg_ ?_ _|refine qi_ ?_|refine qe_ ?_ _));refine qy1_ ?_ NB731_737.out _;(with_reducible repeat (first|refine qg_ ?_ _|refine qi_ ?_|refine qe_ ?_ _));refine qy1_ ?_ NB731_737.out _;(with_reducible repeat (first|refine qg_ ?_ _|refine qi_ ?_|refine qe_ ?_ _));exact BK731.out⟩
  have n3_:Aside0 ((((w11.setCell ⟨gb737,0,none⟩ (.int .i64 t732)).setCell ⟨gb737,1,none⟩ (.int .i64 t733)).setCell ⟨gb737,2,none⟩ (.slice Ao15 t734.length co15)).heap[gb737]?=some (.cells #[.int .i64 t732,.int .i64 t733,.slice Ao15 t734.length co15] 38 (0,0))):=⟨by (with_reducible repeat (first|refine qg_ ?_ _|refine qi_ ?_|refine qe_ ?_ _));refine qm1_ (cs:=#[.int .i64 t732,.int .i64 t733,.slice none 0 0]) ?_ 2 _ rfl;(with_reducible repeat (first|refine qg_ ?_ _|refine qi_ ?_|refine qe_ ?_ _));refine qm1_ (cs:=#[.int .i64 t732,.int .i64 0,.slice none 0 0]) ?_ 1 _ rfl;(with_reducible repeat (first|refine qg_ ?_ _|refine qi_ ?_|refine qe_ ?_ _));refine qm1_ (cs:=#[.int .i64 0,.int .i64 0,.slice none 0 0]) ?_ 0 _ rfl;(with_reducible repeat (first|refine qg_ ?_ _|refine qi_ ?_|refine qe_ ?_ _));exact BK737.out⟩
  have n4_:Aside0 (Below w.heap.size w (((w11.setCell ⟨gb737,0,none⟩ (.int .i64 t732)).setCell ⟨gb737,1,none⟩ (.int .i64 t733)).setCell ⟨gb737,2,none⟩ (.slice Ao15 t734.length co15))):=⟨by repeat (first|(with_reducible first|exact HB.out|apply qb_|apply qa_|apply qc_|refine qh_ ?_ GE730.out|refine qh_ ?_ GE731.out|refine qh_ ?_ GE737.out)|exact HB.out)⟩
  (try clear HO736)
  (try clear BK730)
  (try clear BK731)
  (try clear BK737)
  (try clear HB)
  generalize (((w11.setCell ⟨gb737,0,none⟩ (.int .i64 t732)).setCell ⟨gb737,1,none⟩ (.int .i64 t733)).setCell ⟨gb737,2,none⟩ (.slice Ao15 t734.length co15))=w16 at n0_ n1_ n2_ n3_ n4_ ⊢
  have HO736:=n0_
  have BK730:=n1_
  have BK731:=n2_
  have BK737:=n3_
  have HB:=n4_
  clear n0_ n1_ n2_ n3_ n4_
  have n0_:=aK (Kd.R_drew HO736.out)
  have n1_:=aK (qi_ BK730.out)
  have n2_:=aK (qi_ BK731.out)
  have n3_:=aK (qi_ BK737.out)
  have n4_:=aK (qc_ HB.out)
  clear HO736
  clear BK730
  clear BK731
  clear BK737
  clear HB
  have HO736:=n0_
  have BK730:=n1_
  have BK731:=n2_
  have BK737:=n3_
  have HB:=n4_
  clear n0_ n1_ n2_ n3_ n4_
  refine start_ (n:=9) (S:=fun w'=>w'.cell? ⟨gb737,0,none⟩=some (.int .i64 t732)∧w'.cell? ⟨gb737,1,none⟩=some (.int .i64 t733)∧w'.cell? ⟨gb737,2,none⟩=some (.slice Ao15 t734.length co15)) (ds:=[8]) #[fF,fF,fF,fF,fF,fF,fF,fF,fF] (by kernel_rfl) rfl rfl ⟨(qj_ BK737.out 0).trans rfl,(qj_ BK737.out 1).trans rfl,(qj_ BK737.out 2).trans rfl⟩ (fun hHeld=>?_);refine with_tabW qo2_.tab2 qo2_.bits2 (fun HT_ HW_=>?_)
  generalize w16.drew=w17 at HO736 BK730 BK731 BK737 HB hHeld ⊢
  refine pure_ (i:=0) (N:=some 8) (v:=?_) (a':=?_) #[tT,fF,fF,fF,fF,fF,fF,fF,fF] rfl rfl (any_of HT_.out (by kernel_rfl)) (fun _ _ _ h=>h) (Or.inl ⟨by rfl,?_⟩) ?_ ?_
  rotate_left
  ·intro w'
   go_simp
   with_reducible rfl
  rotate_left
  ·simp only [Act.put,List.setIfInBounds_toArray,List.set_cons_zero,List.set_cons_succ,i64_w,i32_w]
   rfl
  refine pure_ (i:=2) (N:=some 10) (v:=?_) (a':=?_) #[tT,fF,tT,fF,fF,fF,fF,fF,fF] rfl rfl (any_of HT_.out (by kernel_rfl)) (fun _ _ _ h=>h) (Or.inl ⟨by rfl,?_⟩) ?_ ?_
  rotate_left
  ·intro w'
   go_simp
   with_reducible rfl
  rotate_left
  ·simp only [Act.put,List.setIfInBounds_toArray,List.set_cons_zero,List.set_cons_succ,i64_w,i32_w]
   rfl
  refine take_ (i:=1) (N:=some 9) (v:=?_) (a':=?_) #[tT,tT,tT,fF,fF,fF,fF,fF,fF] rfl rfl (take_ofW HT_.out HW_.out (by kernel_rfl)) (fun _ _ _ h=>h) (Or.inl ⟨by rfl,?_⟩) hHeld ?_ ?_
  rotate_left
  ·rintro w' ⟨s0,s1,s2⟩
   go_simp
   with_reducible rfl
  rotate_left
  ·simp only [Act.put,List.setIfInBounds_toArray,List.set_cons_zero,List.set_cons_succ,i64_w,i32_w]
   rfl
  refine one_ (i:=3) (N:=some 11) #[tT,tT,tT,tT,fF,fF,fF,fF,fF] rfl rfl (one_of HT_.out (by kernel_rfl)) (by decide) (fun K hK=>?_)
  refine goes_ Try.func124 (by kernel_rfl) rfl #[.int .i64 1] (by rfl) rfl rfl (by (try simp only [List.map_toArray,List.map_cons,List.map_nil]);first|done|rfl|(simp only [List.length_drop,List.length_take];rfl)) ?_
  with_reducible refine (qy2_.calls 1 t738 t739 _ A4.out).mono ?_
  rintro e w18 ⟨rfl,hb⟩
  refine ⟨_,rfl,?_⟩
  have n0_:=aK (Kd.ql2_ (by (with_reducible repeat (first|apply Kd.qi1_|apply Kd.qv1_|apply Kd.R_drew));exact HO736.out) hb)
  have n1_:=aK (ql_ (g:=gb730) (o:=.cells #[.int .i64 a0_0,.int .i64 a0_1,.slice A0_2 l0_2.length c0_2] 38 (0,0)) (by (with_reducible repeat (first|refine qg_ ?_ _|refine qi_ ?_|refine qe_ ?_ _));exact BK730.out) hb)
  have n2_:=aK (ql_ (g:=gb731) (o:=.cells #[.int .i64 0,.int .i64 0,.slice none 0 0] 38 (0,0)) (by (with_reducible repeat (first|refine qg_ ?_ _|refine qi_ ?_|refine qe_ ?_ _));exact BK731.out) hb)
  have n3_:=aK (ql_ (g:=gb737) (o:=.cells #[.int .i64 t732,.int .i64 t733,.slice Ao15 t734.length co15] 38 (0,0)) (by (with_reducible repeat (first|refine qg_ ?_ _|refine qi_ ?_|refine qe_ ?_ _));exact BK737.out) hb)
  have n4_:=aK (qf_ (by repeat (first|(with_reducible first|exact HB.out|apply qb_|apply qa_|apply qc_|refine qh_ ?_ GE730.out|refine qh_ ?_ GE731.out|refine qh_ ?_ GE737.out)|exact HB.out)) hb)
  clear HO736
  clear BK730
  clear BK731
  clear BK737
  clear HB
  have HO736:=n0_
  have BK730:=n1_
  have BK731:=n2_
  have BK737:=n3_
  have HB:=n4_
  clear n0_ n1_ n2_ n3_ n4_
  (try clear hb)
  (try clear hb2)
  (try clear hk)
  (try clear hi)
  refine hK.out _ _ ⟨(qj_ BK737.out 0).trans rfl,(qj_ BK737.out 1).trans rfl,(qj_ BK737.out 2).trans rfl⟩ (fun hHeld=>?_)
  clear hK K
  refine norm_ (a':=?_) ?_ ?_
  rotate_left
  ·show Act.put _ (some 11) _=_
   simp only [Act.put,List.setIfInBounds_toArray,List.set_cons_zero,List.set_cons_succ,i64_w,i32_w]
   rfl
  refine pure_ (i:=4) (N:=some 12) (v:=?_) (a':=?_) #[tT,tT,tT,tT,tT,fF,fF,fF,fF] rfl rfl (any_of HT_.out (by kernel_rfl)) (fun _ _ _ h=>h) (Or.inl ⟨by rfl,?_⟩) ?_ ?_
  rotate_left
  ·intro w'
   go_simp
   with_reducible rfl
  rotate_left
  ·simp only [Act.put,List.setIfInBounds_toArray,List.set_cons_zero,List.set_cons_succ,i64_w,i32_w]
   rfl
  refine one_ (i:=5) (N:=some 13) #[tT,tT,tT,tT,tT,tT,fF,fF,fF] rfl rfl (one_of HT_.out (by kernel_rfl)) (by decide) (fun K hK=>?_)
  refine value_ (w1:=?_) (v:=?_) (by rfl) rfl ?_ ?_
  rotate_left 2
  ·go_simp
   constructor
   ·rfl
   ·rfl
  refine hK.out _ _ ⟨(qj_ (qe_ BK737.out _) 0).trans rfl,(qj_ (qe_ BK737.out _) 1).trans rfl,(qj_ (qe_ BK737.out _) 2).trans rfl⟩ (fun hHeld=>?_)
  clear hK K
  refine norm_ (a':=?_) ?_ ?_
  rotate_left
  ·show Act.put _ (some 13) _=_
   simp only [Act.put,List.setIfInBounds_toArray,List.set_cons_zero,List.set_cons_succ,i64_w,i32_w]
   rfl
  refine one_ (i:=6) (N:=some 14) #[tT,tT,tT,tT,tT,tT,tT,fF,fF] rfl rfl (one_of HT_.out (by kernel_rfl)) (by decide) (fun K hK=>?_)
  refine Kd.qf3_ k79 (w0:=w) w.heap.size (by rfl) (.tmp 9) (.tmp 13) 24 79 (.agg #[(.string ⟨#[]⟩),(.int .i64 0),(.int .i64 0)]) 32 rfl Try.underlying24 info79 rfl (by decide) (by omega) (.slice Ao15 t734.length co15) t734 (⟨a1,(⟨t738,t739⟩:S77)⟩:S79) [.string a1,.int .i64 t738,.int .i64 t739] (fun _=>True) (fun _=>False) rfl rfl ?aP (fun _ hk=>hk.elim) ?aF ?aO ?aB ?aS ?aL ?_
  (case aP=>exact k79_mkM _ _ _ (⟨a1,(⟨t738,t739⟩:S77)⟩:S79))
  (case aB=>exact (by repeat (first|(with_reducible first|exact HB.out|apply qb_|apply qa_|apply qc_|refine qh_ ?_ GE730.out|refine qh_ ?_ GE731.out|refine qh_ ?_ GE737.out)|exact HB.out)))
  (case aF=>exact (fun _ _=>trivial))
  (case aO=>exact (by (with_reducible repeat (first|apply Kd.qi1_|apply Kd.qv1_|apply Kd.R_drew));exact HO736.out))
  (case aS=>exact (qk_ (by repeat (first|(with_reducible first|exact HB.out|apply qb_|apply qa_|apply qc_|refine qh_ ?_ GE730.out|refine qh_ ?_ GE731.out|refine qh_ ?_ GE737.out)|exact HB.out))))
  (case aL=>have:=LMc5.out;omega)
  intro v741 w19 ho hb hg hat
  rw [← Ny740.out] at ho
  have n0_:=aK (qe3_ (g:=gb730) (o:=.cells #[.int .i64 a0_0,.int .i64 a0_1,.slice A0_2 l0_2.length c0_2] 38 (0,0)) (by (with_reducible repeat (first|refine qg_ ?_ _|refine qi_ ?_|refine qe_ ?_ _));exact BK730.out) hg (Kd.R_ne HO736.out BK730.out (by decide)))
  have n1_:=aK (qe3_ (g:=gb731) (o:=.cells #[.int .i64 0,.int .i64 0,.slice none 0 0] 38 (0,0)) (by (with_reducible repeat (first|refine qg_ ?_ _|refine qi_ ?_|refine qe_ ?_ _));exact BK731.out) hg (Kd.R_ne HO736.out BK731.out (by decide)))
  have n2_:=aK (qe3_ (g:=gb737) (o:=.cells #[.int .i64 t732,.int .i64 t733,.slice Ao15 t734.length co15] 38 (0,0)) (by (with_reducible repeat (first|refine qg_ ?_ _|refine qi_ ?_|refine qe_ ?_ _));exact BK737.out) hg (Kd.R_ne HO736.out BK737.out (by decide)))
  have n3_:=aK (hb)
  have n4_:=aK (ho)
  clear BK730
  clear BK731
  clear BK737
  clear HB
  clear HO736
  have BK730:=n0_
  have BK731:=n1_
  have BK737:=n2_
  have HB:=n3_
  have HO742:=n4_
  clear n0_ n1_ n2_ n3_ n4_
  clear ho hb hg hat
  obtain ⟨Ao20,co20,eo20⟩:=Kd.qa2_ HO742.out
  (first|subst eo20|(injection eo20 with f1_ f2_ f3_;have f4_:=f1_.symm;have f5_:=f3_.symm;clear f1_ f2_ f3_;subst f4_;subst f5_))
  refine hK.out _ _ ⟨(qj_ BK737.out 0).trans rfl,(qj_ BK737.out 1).trans rfl,(qj_ BK737.out 2).trans rfl⟩ (fun hHeld=>?_)
  clear hK K
  refine norm_ (a':=?_) ?_ ?_
  rotate_left
  ·show Act.put _ (some 14) _=_
   simp only [Act.put,List.setIfInBounds_toArray,List.set_cons_zero,List.set_cons_succ,i64_w,i32_w]
   rfl
  refine pure_ (i:=7) (N:=some 15) (v:=?_) (a':=?_) #[tT,tT,tT,tT,tT,tT,tT,tT,fF] rfl rfl (any_of HT_.out (by kernel_rfl)) (fun _ _ _ h=>h) (Or.inl ⟨by rfl,?_⟩) ?_ ?_
  rotate_left
  ·intro w'
   go_simp
   with_reducible rfl
  rotate_left
  ·simp only [Act.put,List.setIfInBounds_toArray,List.set_cons_zero,List.set_cons_succ,i64_w,i32_w]
   rfl
  refine last_ (i:=8) (N:=none) #[tT,tT,tT,tT,tT,tT,tT,tT,tT] rfl rfl (one_of HT_.out (by kernel_rfl)) (by decide) (fun K hK=>?_)
  have hs21:w19.cell? ⟨gb737,2,none⟩=some (.slice Ao15 t734.length co15):=(qj_ BK737.out 2).trans rfl
  have hfs21:=qd_ BK737.out 2
  have hns21_0:=NB730_737.out
  have hns21_1:=NB731_737.out
  have hms21_0:=NB737_730.out
  have hms21_1:=NB737_731.out
  refine skip_ (w1:=?_) (by rfl) rfl ?_ ?_
  rotate_left
  ·go_simp
   rfl
  refine hK.out _ _ ?_
  clear hK K
  refine done_ (done_of HT_.out (by kernel_rfl)) ?_
  have hcz22_0:w19.cell? ⟨gb737,0,none⟩=some (.int .i64 t732):=(qj_ BK737.out 0).trans rfl
  have hcz22_1:w19.cell? ⟨gb737,1,none⟩=some (.int .i64 t733):=(qj_ BK737.out 1).trans rfl
  have hcz22_2:w19.cell? ⟨gb737,2,none⟩=some (.slice Ao15 t734.length co15):=(qj_ BK737.out 2).trans rfl
  have hfz22_0:=qd_ BK737.out 0
  have hfz22_1:=qd_ BK737.out 1
  have hfz22_2:=qd_ BK737.out 2
  have hcz23_0:w19.cell? ⟨gb731,0,none⟩=some (.int .i64 0):=(qj_ BK731.out 0).trans rfl
  have hcz23_1:w19.cell? ⟨gb731,1,none⟩=some (.int .i64 0):=(qj_ BK731.out 1).trans rfl
  have hcz23_2:w19.cell? ⟨gb731,2,none⟩=some (.slice none 0 0):=(qj_ BK731.out 2).trans rfl
  have hfz23_0:=qd_ BK731.out 0
  have hfz23_1:=qd_ BK731.out 1
  have hfz23_2:=qd_ BK731.out 2
  try go_wp2
  refine bodyPost_ret (results_cell_row rfl _ _ gb731 38 #[.int .i64 t732,.int .i64 t733,.slice Ao20 y740.length co20] (0,0) _ rfl (by (with_reducible repeat (first|refine qg_ ?_ _|refine qi_ ?_|refine qe_ ?_ _));refine qm1_ (cs:=#[.int .i64 t732,.int .i64 t733,.slice none 0 0]) ?_ 2 _ rfl;(with_reducible repeat (first|refine qg_ ?_ _|refine qi_ ?_|refine qe_ ?_ _));refine qm1_ (cs:=#[.int .i64 t732,.int .i64 0,.slice none 0 0]) ?_ 1 _ rfl;(with_reducible repeat (first|refine qg_ ?_ _|refine qi_ ?_|refine qe_ ?_ _));refine qm1_ (cs:=#[.int .i64 0,.int .i64 0,.slice none 0 0]) ?_ 0 _ rfl;(with_reducible repeat (first|refine qg_ ?_ _|refine qi_ ?_|refine qe_ ?_ _));refine qy1_ ?_ NB731_737.out _;(with_reducible repeat (first|refine qg_ ?_ _|refine qi_ ?_|refine qe_ ?_ _));exact BK731.out) Try.underlying38 rfl (by kernel_rfl)) rfl ?_
  exact ⟨_,by first|rfl|(simp [qn_,qm_] <;> rfl)|(simp [*,qn_,qm_] <;> rfl),by (with_reducible repeat (first|apply Kd.qi1_|apply Kd.qv1_|apply Kd.R_drew));exact Kd.R_mono (Kd.R_far (p:=⟨gb731,2,none⟩) (Kd.R_far (p:=⟨gb731,1,none⟩) (Kd.R_far (p:=⟨gb731,0,none⟩) (Kd.R_far (p:=⟨gb737,2,none⟩) (Kd.R_types (Kd.R_types HO742.out BK737.out (by decide)) BK731.out (by decide)) (fun _ hk=>hk.1.2) (.slice Ao20 y740.length co20)) (fun _ hk=>hk.2) (.int .i64 t732)) (fun _ hk=>hk.2) (.int .i64 t733)) (fun _ hk=>hk.2) (.slice Ao20 y740.length co20)) (fun _ hk=>trivial),by repeat (first|(with_reducible first|exact HB.out|apply qb_|apply qa_|apply qc_|refine qh_ ?_ GE730.out|refine qh_ ?_ GE731.out|refine qh_ ?_ GE737.out)|exact HB.out)⟩
 ·rw [if_neg c5] at H
  exact absurd H (by simp)
end Go.Proofs.Ytaiefdhenikiiaa.Base
namespace Go.Proofs.Ytaiefdhenikiiaa.Base
open Go.RowKit Go.Proofs.YtaiefdhenikiiaaW.PrintWords Go.Proofs.YtaiefdhenikiiaaW.PrintLast Go.Proofs.YtaiefdhenikiiaaW.PrintMore
attribute [local go_sem] max2_int qp1_ max_two min_two max_three min_three max_four min_four Go.Proofs.YtaiefdhenikiiaaZ.qv_   -- for this text's walks alone
set_option linter.unusedVariables false
set_option linter.unusedSimpArgs false
def qu2_.f (a0_0:Int) (a0_1:Int) (l0_2:List (S79)):Option (Int × Int × (List (S79))):=(qw2_.f a0_0 a0_1 l0_2).bind fun bt886=>((qy2_.f 1).bind fun bt892=>(if bt886.2.2.length < 4398046511104 then (some (bt886.1,bt886.2.1,(bt886.2.2 ++ [(⟨(⟨#[]⟩:ByteArray),(⟨bt892.1,bt892.2⟩:S77)⟩:S79)]))) else (none)))
def qu2_.T2:Bool × List (List Nat × List Nat):=(true,[([],[]),([0],[0]),([],[]),([2],[2]),([3],[3]),([1,4,2],[1,4]),([0,1,2,3,4,5],[]),([6,5,5,0,1,2,3,4,5],[5,6])])
def qu2_.B2:List Nat:=[0,1,0,4,12,31,63,127]
theorem qu2_.tab2:rtab .any (opsOf Try.f132 2)=qu2_.T2:=by kernel_rfl
theorem qu2_.bits2:waitsOk qu2_.T2.2 qu2_.B2=true:=by kernel_rfl
set_option maxHeartbeats 8000000 in
set_option maxRecDepth 100000 in
theorem qu2_.calls (a0_0:Int) (a0_1:Int) (A0_2:Option Addr) (c0_2:Nat) (l0_2:List (S79)) (r1:Int) (r2:Int) (r3:List (S79)) (w:World) (hr0_2:Kd.C k79 w A0_2 l0_2.length l0_2) (hc0_2:l0_2.length≤c0_2) (h:qu2_.f a0_0 a0_1 l0_2=some (r1,r2,r3)) :
  Calls Try.prog 132 #[.agg #[.int .i64 a0_0,.int .i64 a0_1,.slice A0_2 l0_2.length c0_2]] w fun e w'=>∃ v2_:Value,e=.returned (.agg #[.int .i64 r1,.int .i64 r2,v2_])∧Kd.R k79 79 w' w.heap.size (fun _=>True) v2_ r3∧Below w.heap.size w w':=by
 have hu38:=Try.underlying38
 have hu79:=Try.underlying79
 have HR0_2:=aK hr0_2
 have HC0_2:=aK hc0_2
 clear hr0_2 hc0_2
 have HB:=aK (Below.refl w.heap.size w)
 have H:((qw2_.f a0_0 a0_1 l0_2).bind fun bt886=>((qy2_.f 1).bind fun bt892=>(if bt886.2.2.length < 4398046511104 then (some (bt886.1,bt886.2.1,(bt886.2.2 ++ [(⟨(⟨#[]⟩:ByteArray),(⟨bt892.1,bt892.2⟩:S77)⟩:S79)]))) else (none))))=some (r1,r2,r3):=h
 clear h
 replace H:=Option.bind_eq_some_iff.mp H
 obtain ⟨⟨t886,t887,t888⟩,A20,H⟩:=H
 replace H:((qy2_.f 1).bind fun bt892=>(if t888.length < 4398046511104 then (some (t886,t887,(t888 ++ [(⟨(⟨#[]⟩:ByteArray),(⟨bt892.1,bt892.2⟩:S77)⟩:S79)]))) else (none)))=some (r1,r2,r3):=H
 have A2:=aK A20
 clear A20
 replace H:=Option.bind_eq_some_iff.mp H
 obtain ⟨⟨t892,t893⟩,A30,H⟩:=H
 replace H:(if t888.length < 4398046511104 then (some (t886,t887,(t888 ++ [(⟨(⟨#[]⟩:ByteArray),(⟨t892,t893⟩:S77)⟩:S79)]))) else (none))=some (r1,r2,r3):=H
 have A3:=aK A30
 clear A30
 by_cases c4:t888.length < 4398046511104
 ·rw [if_pos c4] at H
  have LMc4:=aK c4
  clear c4
  obtain ⟨y894,hy894⟩:∃ y_:List (S79),y_=(t888 ++ [(⟨(⟨#[]⟩:ByteArray),(⟨t892,t893⟩:S77)⟩:S79)]):=⟨_,rfl⟩
  replace H:(some (t886,t887,y894))=some (r1,r2,r3):=by first|(rw [hy894];with_reducible exact H)|(have H2_:=(Option.bind_some _ _).symm.trans H;rw [hy894];with_reducible exact H2_)|(have H2_:=(Option.bind_some _ _).symm.trans H;with_reducible exact H2_)|with_reducible exact H|(rw [hy894];exact H)|exact H
  have Ny894:=aK hy894
  clear hy894
  simp only [Option.some.injEq,Prod.mk.injEq] at H
  obtain ⟨rfl,rfl,rfl⟩:=H
  go_enter Try.func132,Try.ntmps132
  try go_wp2_with (first|((with_reducible refine qa1_ (N:=1) rfl ?_);refine qx_ ?hg (N:=1) ?hd (cs:=#[.int .i64 a0_0,.int .i64 a0_1,.slice A0_2 l0_2.length c0_2]) (t:=38) ?hr ?_;(case hd=>rfl);(case hg=>rfl);(case hr=>first|(go_simp;done)|(go_simp;rfl));intro gb884 hg w5 hbox hb;have n0_:=aK (qf_ (by repeat (first|(with_reducible first|exact HB.out|apply qb_|apply qa_|apply qc_)|exact HB.out)) hb);have n1_:=aK (hbox);have n2_:=aK ((by rw [hg];exact (qk_ (by repeat (first|(with_reducible first|exact HB.out|apply qb_|apply qa_|apply qc_)|exact HB.out))):w.heap.size≤gb884));have n3_:=aK ((by rw [hg];exact (qk_ (by repeat (first|(with_reducible first|exact HB.out|apply qb_|apply qa_|apply qc_)|exact HB.out))):w.heap.size≤gb884));clear HB;have HB:=n0_;have BK884:=n1_;have GW884:=n2_;have GE884:=n3_;clear n0_ n1_ n2_ n3_;clear hb hbox hg)|((with_reducible refine qa1_ (N:=2) rfl ?_);refine qx_ ?hg (N:=2) ?hd (cs:=#[.int .i64 0,.int .i64 0,.slice none 0 0]) (t:=38) ?hr ?_;(case hd=>rfl);(case hg=>rfl);(case hr=>first|(go_simp;done)|(go_simp;rfl));intro gb885 hg w6 hbox hb;have n0_:=aK (ql_ (g:=gb884) (o:=.cells #[.int .i64 a0_0,.int .i64 a0_1,.slice A0_2 l0_2.length c0_2] 38 (0,0)) (by (with_reducible repeat (first|refine qg_ ?_ _|refine qi_ ?_|refine qe_ ?_ _));exact BK884.out) hb);have n1_:=aK (qf_ (by repeat (first|(with_reducible first|exact HB.out|apply qb_|apply qa_|apply qc_|refine qh_ ?_ GE884.out)|exact HB.out)) hb);have n2_:=aK (hbox);have n3_:=aK ((by rw [hg];exact (qk_ (by repeat (first|(with_reducible first|exact HB.out|apply qb_|apply qa_|apply qc_|refine qh_ ?_ GE884.out)|exact HB.out))):w.heap.size≤gb885));have n4_:=aK ((by rw [hg];exact (qk_ (by repeat (first|(with_reducible first|exact HB.out|apply qb_|apply qa_|apply qc_|refine qh_ ?_ GE884.out)|exact HB.out))):w.heap.size≤gb885));have n5_:=aK ((by rw [hg];exact Nat.ne_of_lt (blk_lt (g:=gb884) (o:=.cells #[.int .i64 a0_0,.int .i64 a0_1,.slice A0_2 l0_2.length c0_2] 38 (0,0)) (by (with_reducible repeat (first|refine qg_ ?_ _|refine qi_ ?_|refine qe_ ?_ _));exact BK884.out)):gb884 ≠ gb885));have n6_:=aK ((by rw [hg];exact Nat.ne_of_gt (blk_lt (g:=gb884) (o:=.cells #[.int .i64 a0_0,.int .i64 a0_1,.slice A0_2 l0_2.length c0_2] 38 (0,0)) (by (with_reducible repeat (first|refine qg_ ?_ _|refine qi_ ?_|refine qe_ ?_ _));exact BK884.out)):gb885 ≠ gb884));clear BK884;clear HB;have BK884:=n0_;have HB:=n1_;have BK885:=n2_;have GW885:=n3_;have GE885:=n4_;have NB884_885:=n5_;have NB885_884:=n6_;clear n0_ n1_ n2_ n3_ n4_ n5_ n6_;clear hb hbox hg;have hnb7:=NB884_885.out;have hnc7:=NB885_884.out;have hcz8_0:w6.cell? ⟨gb884,0,none⟩=some (.int .i64 a0_0):=(qj_ BK884.out 0).trans rfl;have hcz8_1:w6.cell? ⟨gb884,1,none⟩=some (.int .i64 a0_1):=(qj_ BK884.out 1).trans rfl;have hcz8_2:w6.cell? ⟨gb884,2,none⟩=some (.slice A0_2 l0_2.length c0_2):=(qj_ BK884.out 2).trans rfl;have hfz8_0:=qd_ BK884.out 0;have hfz8_1:=qd_ BK884.out 1;have hfz8_2:=qd_ BK884.out 2)|((with_reducible refine qc1_ (f:=108) rfl ?_);refine goesL_ (some 5) rfl rfl Try.func108 (by kernel_rfl) rfl #[.agg #[.int .i64 a0_0,.int .i64 a0_1,.slice A0_2 l0_2.length c0_2]] rfl (by (try simp only [List.map_toArray,List.map_cons,List.map_nil]);first|done|rfl|(simp only [List.length_drop,List.length_take];rfl)) ?_;(with_reducible refine (qw2_.calls a0_0 a0_1 _ _ l0_2 t886 t887 t888 _ ?side1 ?side2 A2.out).mono ?_);(case side1=>repeat (first|exact (Kd.qt1_ HR0_2.out HB.out)|(with_reducible refine Kd.C_alloc ?_ _)|(with_reducible refine Kd.C_drewN ?_ _)|(with_reducible refine Kd.C_drew ?_)));(case side2=>exact HC0_2.out);rintro e w9 ⟨v889,rfl,ho0,hb⟩;refine ⟨_,rfl,?_⟩;have n0_:=aK (Kd.qj2_ ho0 (qk_ (by repeat (first|(with_reducible first|exact HB.out|apply qb_|apply qa_|apply qc_|refine qh_ ?_ GE884.out|refine qh_ ?_ GE885.out)|exact HB.out))));have n1_:=aK (ql_ (g:=gb884) (o:=.cells #[.int .i64 a0_0,.int .i64 a0_1,.slice A0_2 l0_2.length c0_2] 38 (0,0)) (by (with_reducible repeat (first|refine qg_ ?_ _|refine qi_ ?_|refine qe_ ?_ _));exact BK884.out) hb);have n2_:=aK (ql_ (g:=gb885) (o:=.cells #[.int .i64 0,.int .i64 0,.slice none 0 0] 38 (0,0)) (by (with_reducible repeat (first|refine qg_ ?_ _|refine qi_ ?_|refine qe_ ?_ _));exact BK885.out) hb);have n3_:=aK (qf_ (by repeat (first|(with_reducible first|exact HB.out|apply qb_|apply qa_|apply qc_|refine qh_ ?_ GE884.out|refine qh_ ?_ GE885.out)|exact HB.out)) hb);clear BK884;clear BK885;clear HB;have HO890:=n0_;have BK884:=n1_;have BK885:=n2_;have HB:=n3_;clear n0_ n1_ n2_ n3_;(try clear hb);(try clear hb2);(try clear hk);(try clear hi);(try clear ho0))|((with_reducible refine qa1_ (N:=3) rfl ?_);refine qx_ ?hg (N:=3) ?hd (cs:=#[.int .i64 0,.int .i64 0,.slice none 0 0]) (t:=38) ?hr ?_;(case hd=>rfl);(case hg=>rfl);(case hr=>first|(go_simp;done)|(go_simp;rfl));intro gb891 hg w10 hbox hb;have n0_:=aK (Kd.ql2_ (by (with_reducible repeat (first|apply Kd.qi1_|apply Kd.qv1_|apply Kd.R_drew));exact HO890.out) hb);have n1_:=aK (ql_ (g:=gb884) (o:=.cells #[.int .i64 a0_0,.int .i64 a0_1,.slice A0_2 l0_2.length c0_2] 38 (0,0)) (by (with_reducible repeat (first|refine qg_ ?_ _|refine qi_ ?_|refine qe_ ?_ _));exact BK884.out) hb);have n2_:=aK (ql_ (g:=gb885) (o:=.cells #[.int .i64 0,.int .i64 0,.slice none 0 0] 38 (0,0)) (by (with_reducible repeat (first|refine qg_ ?_ _|refine qi_ ?_|refine qe_ ?_ _));exact BK885.out) hb);have n3_:=aK (qf_ (by repeat (first|(with_reducible first|exact HB.out|apply qb_|apply qa_|apply qc_|refine qh_ ?_ GE884.out|refine qh_ ?_ GE885.out)|exact HB.out)) hb);have n4_:=aK (hbox);have n5_:=aK ((by rw [hg];exact (qk_ (by repeat (first|(with_reducible first|exact HB.out|apply qb_|apply qa_|apply qc_|refine qh_ ?_ GE884.out|refine qh_ ?_ GE885.out)|exact HB.out))):w.heap.size≤gb891));have n6_:=aK ((by rw [hg];exact (qk_ (by repeat (first|(with_reducible first|exact HB.out|apply qb_|apply qa_|apply qc_|refine qh_ ?_ GE884.out|refine qh_ ?_ GE885.out)|exact HB.out))):w.heap.size≤gb891));have n7_:=aK ((by rw [hg];exact Nat.ne_of_lt (blk_lt (g:=gb884) (o:=.cells #[.int .i64 a0_0,.int .i64 a0_1,.slice A0_2 l0_2.length c0_2] 38 (0,0)) (by (with_reducible repeat (first|refine qg_ ?_ _|refine qi_ ?_|refine qe_ ?_ _));exact BK884.out)):gb884 ≠ gb891));have n8_:=aK ((by rw [hg];exact Nat.ne_of_gt (blk_lt (g:=gb884) (o:=.cells #[.int .i64 a0_0,.int .i64 a0_1,.slice A0_2 l0_2.length c0_2] 38 (0,0)) (by (with_reducible repeat (first|refine qg_ ?_ _|refine qi_ ?_|refine qe_ ?_ _));exact BK884.out)):gb891 ≠ gb884));have n9_:=aK ((by rw [hg];exact Nat.ne_of_lt (blk_lt (g:=gb885) (o:=.cells #[.int .i64 0,.int .i64 0,.slice none 0 0] 38 (0,0)) (by (with_reducible repeat (first|refine qg_ ?_ _|refine qi_ ?_|refine qe_ ?_ _));exact BK885.out)):gb885 ≠ gb891));have n10_:=aK ((by rw [hg];exact Nat.ne_of_gt (blk_lt (g:=gb885) (o:=.cells #[.int .i64 0,.int .i64 0,.slice none 0 0] 38 (0,0)) (by (with_reducible repeat (first|refine qg_ ?_ _|refine qi_ ?_|refine qe_ ?_ _));exact BK885.out)):gb891 ≠ gb885));clear HO890;clear BK884;clear BK885;clear HB;have HO890:=n0_;have BK884:=n1_;have BK885:=n2_;have HB:=n3_;have BK891:=n4_;have GW891:=n5_;have GE891:=n6_;have NB884_891:=n7_;have NB891_884:=n8_;have NB885_891:=n9_;have NB891_885:=n10_;clear n0_ n1_ n2_ n3_ n4_ n5_ n6_ n7_ n8_ n9_ n10_;clear hb hbox hg;have hnb11:=NB891_884.out;have hnc11:=NB884_891.out;have hnb12:=NB891_885.out;have hnc12:=NB885_891.out;have hcz13_0:w10.cell? ⟨gb891,0,none⟩=some (.int .i64 0):=(qj_ BK891.out 0).trans rfl;have hcz13_1:w10.cell? ⟨gb891,1,none⟩=some (.int .i64 0):=(qj_ BK891.out 1).trans rfl;have hcz13_2:w10.cell? ⟨gb891,2,none⟩=some (.slice none 0 0):=(qj_ BK891.out 2).trans rfl;have hfz13_0:=qd_ BK891.out 0;have hfz13_1:=qd_ BK891.out 1;have hfz13_2:=qd_ BK891.out 2;obtain ⟨Ao14,co14,eo14⟩:=Kd.qa2_ HO890.out;subst eo14))
  have n0_:Aside0 (Kd.R k79 79 (((w10.setCell ⟨gb891,0,none⟩ (.int .i64 t886)).setCell ⟨gb891,1,none⟩ (.int .i64 t887)).setCell ⟨gb891,2,none⟩ (.slice Ao14 t888.length co14)) w.heap.size (fun _=>True) (.slice Ao14 t888.length co14) t888):=⟨by (with_reducible repeat (first|apply Kd.qi1_|apply Kd.qv1_|apply Kd.R_drew));exact Kd.R_mono (Kd.R_far (p:=⟨gb891,2,none⟩) (Kd.R_far (p:=⟨gb891,1,none⟩) (Kd.R_far (p:=⟨gb891,0,none⟩) (Kd.R_types HO890.out BK891.out (by decide)) (fun _ hk=>hk.2) (.int .i64 t886)) (fun _ hk=>hk.2) (.int .i64 t887)) (fun _ hk=>hk.2) (.slice Ao14 t888.length co14)) (fun _ hk=>trivial)⟩
  have n1_:Aside0 ((((w10.setCell ⟨gb891,0,none⟩ (.int .i64 t886)).setCell ⟨gb891,1,none⟩ (.int .i64 t887)).setCell ⟨gb891,2,none⟩ (.slice Ao14 t888.length co14)).heap[gb884]?=some (.cells #[.int .i64 a0_0,.int .i64 a0_1,.slice A0_2 l0_2.length c0_2] 38 (0,0))):=⟨by (with_reducible repeat (first|refine qg_ ?_ _|refine qi_ ?_|refine qe_ ?_ _));refine qy1_ ?_ NB884_891.out _;(with_reducible repeat (first|refine qg_ ?_ _|refine qi_ ?_|refine qe_ ?_ _));refine qy1_ ?_ NB884_891.out _;(with_reducible repeat (first|refine qg_ ?_ _|refine qi_ ?_|refine qe_ ?_ _));refine qy1_ ?_ NB884_891.out _;(with_reducible repeat (first|refine qg_ ?_ _|refine qi_ ?_|refine qe_ ?_ _));exact BK884.out⟩
  have n2_:Aside0 ((((w10.setCell ⟨gb891,0,none⟩ (.int .i64 t886)).setCell ⟨gb891,1,none⟩ (.int .i64 t887)).setCell ⟨gb891,2,none⟩ (.slice Ao14 t888.length co14)).heap[gb885]?=some (.cells #[.int .i64 0,.int .i64 0,.slice none 0 0] 38 (0,0))):=⟨by (with_reducible repeat (first|refine qg_ ?_ _|refine qi_ ?_|refine qe_ ?_ _));refine qy1_ ?_ NB885_891.out _;(with_reducible repeat (first|refine qg_ ?_ _|refine qi_ ?_|refine qe_ ?_ _));refine qy1_ ?_ NB885_891.out _;(with_reducible repeat (first|refine qg_ ?_ _|refine qi_ ?_|refine qe_ ?_ _));refine qy1_ ?_ NB885_891.out _;(with_reducible repeat (first|refine qg_ ?_ _|refine qi_ ?_|refine qe_ ?_ _));exact BK885.out⟩
  have n3_:Aside0 ((((w10.setCell ⟨gb891,0,none⟩ (.int .i64 t886)).setCell ⟨gb891,1,none⟩ (.int .i64 t887)).setCell ⟨gb891,2,none⟩ (.slice Ao14 t888.length co14)).heap[gb891]?=some (.cells #[.int .i64 t886,.int .i64 t887,.slice Ao14 t888.length co14] 38 (0,0))):=⟨by (with_reducible repeat (first|refine qg_ ?_ _|refine qi_ ?_|refine qe_ ?_ _));refine qm1_ (cs:=#[.int .i64 t886,.int .i64 t887,.slice none 0 0]) ?_ 2 _ rfl;(with_reducible repeat (first|refine qg_ ?_ _|refine qi_ ?_|refine qe_ ?_ _));refine qm1_ (cs:=#[.int .i64 t886,.int .i64 0,.slice none 0 0]) ?_ 1 _ rfl;(with_reducible repeat (first|refine qg_ ?_ _|refine qi_ ?_|refine qe_ ?_ _));refine qm1_ (cs:=#[.int .i64 0,.int .i64 0,.slice none 0 0]) ?_ 0 _ rfl;(with_reducible repeat (first|refine qg_ ?_ _|refine qi_ ?_|refine qe_ ?_ _));exact BK891.out⟩
  have n4_:Aside0 (Below w.heap.size w (((w10.setCell ⟨gb891,0,none⟩ (.int .i64 t886)).setCell ⟨gb891,1,none⟩ (.int .i64 t887)).setCell ⟨gb891,2,none⟩ (.slice Ao14 t888.length co14))):=⟨by repeat (first|(with_reducible first|exact HB.out|apply qb_|apply qa_|apply qc_|refine qh_ ?_ GE884.out|refine qh_ ?_ GE885.out|refine qh_ ?_ GE891.out)|exact HB.out)⟩
  (try clear HO890)
  (try clear BK884)
  (try clear BK885)
  (try clear BK891)
  (try clear HB)
  generalize (((w10.setCell ⟨gb891,0,none⟩ (.int .i64 t886)).setCell ⟨gb891,1,none⟩ (.int .i64 t887)).setCell ⟨gb891,2,none⟩ (.slice Ao14 t888.length co14))=w15 at n0_ n1_ n2_ n3_ n4_ ⊢
  have HO890:=n0_
  have BK884:=n1_
  have BK885:=n2_
  have BK891:=n3_
  have HB:=n4_
  clear n0_ n1_ n2_ n3_ n4_
  have n0_:=aK (Kd.R_drew HO890.out)
  have n1_:=aK (qi_ BK884.out)
  have n2_:=aK (qi_ BK885.out)
  have n3_:=aK (qi_ BK891.out)
  have n4_:=aK (qc_ HB.out)
  clear HO890
  clear BK884
  clear BK885
  clear BK891
  clear HB
  have HO890:=n0_
  have BK884:=n1_
  have BK885:=n2_
  have BK891:=n3_
  have HB:=n4_
  clear n0_ n1_ n2_ n3_ n4_
  refine start_ (n:=8) (S:=fun w'=>w'.cell? ⟨gb891,0,none⟩=some (.int .i64 t886)∧w'.cell? ⟨gb891,1,none⟩=some (.int .i64 t887)∧w'.cell? ⟨gb891,2,none⟩=some (.slice Ao14 t888.length co14)) (ds:=[7]) #[fF,fF,fF,fF,fF,fF,fF,fF] (by kernel_rfl) rfl rfl ⟨(qj_ BK891.out 0).trans rfl,(qj_ BK891.out 1).trans rfl,(qj_ BK891.out 2).trans rfl⟩ (fun hHeld=>?_);refine with_tabW qu2_.tab2 qu2_.bits2 (fun HT_ HW_=>?_)
  generalize w15.drew=w16 at HO890 BK884 BK885 BK891 HB hHeld ⊢
  refine pure_ (i:=0) (N:=some 6) (v:=?_) (a':=?_) #[tT,fF,fF,fF,fF,fF,fF,fF] rfl rfl (any_of HT_.out (by kernel_rfl)) (fun _ _ _ h=>h) (Or.inl ⟨by rfl,?_⟩) ?_ ?_
  rotate_left
  ·intro w'
   go_simp
   with_reducible rfl
  rotate_left
  ·simp only [Act.put,List.setIfInBounds_toArray,List.set_cons_zero,List.set_cons_succ,i64_w,i32_w]
   rfl
  refine take_ (i:=1) (N:=some 7) (v:=?_) (a':=?_) #[tT,tT,fF,fF,fF,fF,fF,fF] rfl rfl (take_ofW HT_.out HW_.out (by kernel_rfl)) (fun _ _ _ h=>h) (Or.inl ⟨by rfl,?_⟩) hHeld ?_ ?_
  rotate_left
  ·rintro w' ⟨s0,s1,s2⟩
   go_simp
   with_reducible rfl
  rotate_left
  ·simp only [Act.put,List.setIfInBounds_toArray,List.set_cons_zero,List.set_cons_succ,i64_w,i32_w]
   rfl
  refine one_ (i:=2) (N:=some 8) #[tT,tT,tT,fF,fF,fF,fF,fF] rfl rfl (one_of HT_.out (by kernel_rfl)) (by decide) (fun K hK=>?_)
  refine goes_ Try.func124 (by kernel_rfl) rfl #[.int .i64 1] (by rfl) rfl rfl (by (try simp only [List.map_toArray,List.map_cons,List.map_nil]);first|done|rfl|(simp only [List.length_drop,List.length_take];rfl)) ?_
  with_reducible refine (qy2_.calls 1 t892 t893 _ A3.out).mono ?_
  rintro e w17 ⟨rfl,hb⟩
  refine ⟨_,rfl,?_⟩
  have n0_:=aK (Kd.ql2_ (by (with_reducible repeat (first|apply Kd.qi1_|apply Kd.qv1_|apply Kd.R_drew));exact HO890.out) hb)
  have n1_:=aK (ql_ (g:=gb884) (o:=.cells #[.int .i64 a0_0,.int .i64 a0_1,.slice A0_2 l0_2.length c0_2] 38 (0,0)) (by (with_reducible repeat (first|refine qg_ ?_ _|refine qi_ ?_|refine qe_ ?_ _));exact BK884.out) hb)
  have n2_:=aK (ql_ (g:=gb885) (o:=.cells #[.int .i64 0,.int .i64 0,.slice none 0 0] 38 (0,0)) (by (with_reducible repeat (first|refine qg_ ?_ _|refine qi_ ?_|refine qe_ ?_ _));exact BK885.out) hb)
  have n3_:=aK (ql_ (g:=gb891) (o:=.cells #[.int .i64 t886,.int .i64 t887,.slice Ao14 t888.length co14] 38 (0,0)) (by (with_reducible repeat (first|refine qg_ ?_ _|refine qi_ ?_|refine qe_ ?_ _));exact BK891.out) hb)
  have n4_:=aK (qf_ (by repeat (first|(with_reducible first|exact HB.out|apply qb_|apply qa_|apply qc_|refine qh_ ?_ GE884.out|refine qh_ ?_ GE885.out|refine qh_ ?_ GE891.out)|exact HB.out)) hb)
  clear HO890
  clear BK884
  clear BK885
  clear BK891
  clear HB
  have HO890:=n0_
  have BK884:=n1_
  have BK885:=n2_
  have BK891:=n3_
  have HB:=n4_
  clear n0_ n1_ n2_ n3_ n4_
  (try clear hb)
  (try clear hb2)
  (try clear hk)
  (try clear hi)
  refine hK.out _ _ ⟨(qj_ BK891.out 0).trans rfl,(qj_ BK891.out 1).trans rfl,(qj_ BK891.out 2).trans rfl⟩ (fun hHeld=>?_)
  clear hK K
  refine norm_ (a':=?_) ?_ ?_
  rotate_left
  ·show Act.put _ (some 8) _=_
   simp only [Act.put,List.setIfInBounds_toArray,List.set_cons_zero,List.set_cons_succ,i64_w,i32_w]
   rfl
  refine pure_ (i:=3) (N:=some 9) (v:=?_) (a':=?_) #[tT,tT,tT,tT,fF,fF,fF,fF] rfl rfl (any_of HT_.out (by kernel_rfl)) (fun _ _ _ h=>h) (Or.inl ⟨by rfl,?_⟩) ?_ ?_
  rotate_left
  ·intro w'
   go_simp
   with_reducible rfl
  rotate_left
  ·simp only [Act.put,List.setIfInBounds_toArray,List.set_cons_zero,List.set_cons_succ,i64_w,i32_w]
   rfl
  refine one_ (i:=4) (N:=some 10) #[tT,tT,tT,tT,tT,fF,fF,fF] rfl rfl (one_of HT_.out (by kernel_rfl)) (by decide) (fun K hK=>?_)
  refine value_ (w1:=?_) (v:=?_) (by rfl) rfl ?_ ?_
  rotate_left 2
  ·go_simp
   constructor
   ·rfl
   ·rfl
  refine hK.out _ _ ⟨(qj_ (qe_ BK891.out _) 0).trans rfl,(qj_ (qe_ BK891.out _) 1).trans rfl,(qj_ (qe_ BK891.out _) 2).trans rfl⟩ (fun hHeld=>?_)
  clear hK K
  refine norm_ (a':=?_) ?_ ?_
  rotate_left
  ·show Act.put _ (some 10) _=_
   simp only [Act.put,List.setIfInBounds_toArray,List.set_cons_zero,List.set_cons_succ,i64_w,i32_w]
   rfl
  refine one_ (i:=5) (N:=some 11) #[tT,tT,tT,tT,tT,tT,fF,fF] rfl rfl (one_of HT_.out (by kernel_rfl)) (by decide) (fun K hK=>?_)
  refine Kd.qf3_ k79 (w0:=w) w.heap.size (by rfl) (.tmp 7) (.tmp 10) 24 79 (.agg #[(.string ⟨#[]⟩),(.int .i64 0),(.int .i64 0)]) 32 rfl Try.underlying24 info79 rfl (by decide) (by omega) (.slice Ao14 t888.length co14) t888 (⟨(⟨#[]⟩:ByteArray),(⟨t892,t893⟩:S77)⟩:S79) [.string (⟨#[]⟩:ByteArray),.int .i64 t892,.int .i64 t893] (fun _=>True) (fun _=>False) rfl rfl ?aP (fun _ hk=>hk.elim) ?aF ?aO ?aB ?aS ?aL ?_
  (case aP=>exact k79_mkM _ _ _ (⟨(⟨#[]⟩:ByteArray),(⟨t892,t893⟩:S77)⟩:S79))
  (case aB=>exact (by repeat (first|(with_reducible first|exact HB.out|apply qb_|apply qa_|apply qc_|refine qh_ ?_ GE884.out|refine qh_ ?_ GE885.out|refine qh_ ?_ GE891.out)|exact HB.out)))
  (case aF=>exact (fun _ _=>trivial))
  (case aO=>exact (by (with_reducible repeat (first|apply Kd.qi1_|apply Kd.qv1_|apply Kd.R_drew));exact HO890.out))
  (case aS=>exact (qk_ (by repeat (first|(with_reducible first|exact HB.out|apply qb_|apply qa_|apply qc_|refine qh_ ?_ GE884.out|refine qh_ ?_ GE885.out|refine qh_ ?_ GE891.out)|exact HB.out))))
  (case aL=>have:=LMc4.out;omega)
  intro v895 w18 ho hb hg hat
  rw [← Ny894.out] at ho
  have n0_:=aK (qe3_ (g:=gb884) (o:=.cells #[.int .i64 a0_0,.int .i64 a0_1,.slice A0_2 l0_2.length c0_2] 38 (0,0)) (by (with_reducible repeat (first|refine qg_ ?_ _|refine qi_ ?_|refine qe_ ?_ _));exact BK884.out) hg (Kd.R_ne HO890.out BK884.out (by decide)))
  have n1_:=aK (qe3_ (g:=gb885) (o:=.cells #[.int .i64 0,.int .i64 0,.slice none 0 0] 38 (0,0)) (by (with_reducible repeat (first|refine qg_ ?_ _|refine qi_ ?_|refine qe_ ?_ _));exact BK885.out) hg (Kd.R_ne HO890.out BK885.out (by decide)))
  have n2_:=aK (qe3_ (g:=gb891) (o:=.cells #[.int .i64 t886,.int .i64 t887,.slice Ao14 t888.length co14] 38 (0,0)) (by (with_reducible repeat (first|refine qg_ ?_ _|refine qi_ ?_|refine qe_ ?_ _));exact BK891.out) hg (Kd.R_ne HO890.out BK891.out (by decide)))
  have n3_:=aK (hb)
  have n4_:=aK (ho)
  clear BK884
  clear BK885
  clear BK891
  clear HB
  clear HO890
  have BK884:=n0_
  have BK885:=n1_
  have BK891:=n2_
  have HB:=n3_
  have HO896:=n4_
  clear n0_ n1_ n2_ n3_ n4_
  clear ho hb hg hat
  obtain ⟨Ao19,co19,eo19⟩:=Kd.qa2_ HO896.out
  (first|subst eo19|(injection eo19 with f1_ f2_ f3_;have f4_:=f1_.symm;have f5_:=f3_.symm;clear f1_ f2_ f3_;subst f4_;subst f5_))
  refine hK.out _ _ ⟨(qj_ BK891.out 0).trans rfl,(qj_ BK891.out 1).trans rfl,(qj_ BK891.out 2).trans rfl⟩ (fun hHeld=>?_)
  clear hK K
  refine norm_ (a':=?_) ?_ ?_
  rotate_left
  ·show Act.put _ (some 11) _=_
   simp only [Act.put,List.setIfInBounds_toArray,List.set_cons_zero,List.set_cons_succ,i64_w,i32_w]
   rfl
  refine pure_ (i:=6) (N:=some 12) (v:=?_) (a':=?_) #[tT,tT,tT,tT,tT,tT,tT,fF] rfl rfl (any_of HT_.out (by kernel_rfl)) (fun _ _ _ h=>h) (Or.inl ⟨by rfl,?_⟩) ?_ ?_
  rotate_left
  ·intro w'
   go_simp
   with_reducible rfl
  rotate_left
  ·simp only [Act.put,List.setIfInBounds_toArray,List.set_cons_zero,List.set_cons_succ,i64_w,i32_w]
   rfl
  refine last_ (i:=7) (N:=none) #[tT,tT,tT,tT,tT,tT,tT,tT] rfl rfl (one_of HT_.out (by kernel_rfl)) (by decide) (fun K hK=>?_)
  have hs20:w18.cell? ⟨gb891,2,none⟩=some (.slice Ao14 t888.length co14):=(qj_ BK891.out 2).trans rfl
  have hfs20:=qd_ BK891.out 2
  have hns20_0:=NB884_891.out
  have hns20_1:=NB885_891.out
  have hms20_0:=NB891_884.out
  have hms20_1:=NB891_885.out
  refine skip_ (w1:=?_) (by rfl) rfl ?_ ?_
  rotate_left
  ·go_simp
   rfl
  refine hK.out _ _ ?_
  clear hK K
  refine done_ (done_of HT_.out (by kernel_rfl)) ?_
  have hcz21_0:w18.cell? ⟨gb891,0,none⟩=some (.int .i64 t886):=(qj_ BK891.out 0).trans rfl
  have hcz21_1:w18.cell? ⟨gb891,1,none⟩=some (.int .i64 t887):=(qj_ BK891.out 1).trans rfl
  have hcz21_2:w18.cell? ⟨gb891,2,none⟩=some (.slice Ao14 t888.length co14):=(qj_ BK891.out 2).trans rfl
  have hfz21_0:=qd_ BK891.out 0
  have hfz21_1:=qd_ BK891.out 1
  have hfz21_2:=qd_ BK891.out 2
  have hcz22_0:w18.cell? ⟨gb885,0,none⟩=some (.int .i64 0):=(qj_ BK885.out 0).trans rfl
  have hcz22_1:w18.cell? ⟨gb885,1,none⟩=some (.int .i64 0):=(qj_ BK885.out 1).trans rfl
  have hcz22_2:w18.cell? ⟨gb885,2,none⟩=some (.slice none 0 0):=(qj_ BK885.out 2).trans rfl
  have hfz22_0:=qd_ BK885.out 0
  have hfz22_1:=qd_ BK885.out 1
  have hfz22_2:=qd_ BK885.out 2
  try go_wp2
  refine bodyPost_ret (results_cell_row rfl _ _ gb885 38 #[.int .i64 t886,.int .i64 t887,.slice Ao19 y894.length co19] (0,0) _ rfl (by (with_reducible repeat (first|refine qg_ ?_ _|refine qi_ ?_|refine qe_ ?_ _));refine qm1_ (cs:=#[.int .i64 t886,.int .i64 t887,.slice none 0 0]) ?_ 2 _ rfl;(with_reducible repeat (first|refine qg_ ?_ _|refine qi_ ?_|refine qe_ ?_ _));refine qm1_ (cs:=#[.int .i64 t886,.int .i64 0,.slice none 0 0]) ?_ 1 _ rfl;(with_reducible repeat (first|refine qg_ ?_ _|refine qi_ ?_|refine qe_ ?_ _));refine qm1_ (cs:=#[.int .i64 0,.int .i64 0,.slice none 0 0]) ?_ 0 _ rfl;(with_reducible repeat (first|refine qg_ ?_ _|refine qi_ ?_|refine qe_ ?_ _));refine qy1_ ?_ NB885_891.out _;(with_reducible repeat (first|refine qg_ ?_ _|refine qi_ ?_|refine qe_ ?_ _));exact BK885.out) Try.underlying38 rfl (by kernel_rfl)) rfl ?_
  exact ⟨_,by first|rfl|(simp [qn_,qm_] <;> rfl)|(simp [*,qn_,qm_] <;> rfl),by (with_reducible repeat (first|apply Kd.qi1_|apply Kd.qv1_|apply Kd.R_drew));exact Kd.R_mono (Kd.R_far (p:=⟨gb885,2,none⟩) (Kd.R_far (p:=⟨gb885,1,none⟩) (Kd.R_far (p:=⟨gb885,0,none⟩) (Kd.R_far (p:=⟨gb891,2,none⟩) (Kd.R_types (Kd.R_types HO896.out BK891.out (by decide)) BK885.out (by decide)) (fun _ hk=>hk.1.2) (.slice Ao19 y894.length co19)) (fun _ hk=>hk.2) (.int .i64 t886)) (fun _ hk=>hk.2) (.int .i64 t887)) (fun _ hk=>hk.2) (.slice Ao19 y894.length co19)) (fun _ hk=>trivial),by repeat (first|(with_reducible first|exact HB.out|apply qb_|apply qa_|apply qc_|refine qh_ ?_ GE884.out|refine qh_ ?_ GE885.out|refine qh_ ?_ GE891.out)|exact HB.out)⟩
 ·rw [if_neg c4] at H
  exact absurd H (by simp)
end Go.Proofs.Ytaiefdhenikiiaa.Base
