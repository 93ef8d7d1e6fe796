/- Texts that the proof of FnExactJoinedSeries needs, part 5. No condition. -/
import Derived.Test.YtaiefdhenikiiaaMFnExactJoinedSeries4
import Derived.Lib.Walk
import Derived.Shelf.Abstract
namespace Go.Proofs.YtaiefdhenikiiaaC
open Go.RowKit Go.Proofs.YtaiefdhenikiiaaW.PrintWords Go.Proofs.YtaiefdhenikiiaaW.PrintLast Go.Proofs.YtaiefdhenikiiaaW.PrintMore
set_option linter.unusedVariables false
set_option linter.unusedSimpArgs false
/-- What a function value answers at element j,in whatever world over w;what lay,lies. -/
def Test (g:Nat) (lb:Array Value) (v:Nat→Value) (p:Nat→Bool) (n:Nat) (w:World):Prop :=
  ∀ j,j<n→∀ W,Below w.heap.size w W→Calls Try.prog g (#[v j]++lb) W fun e w'=>e=.returned (.bool (p j))∧Below W.heap.size W w'
/-- Are these numbers of letters? -/
def letters (d:Int):Bool:=decide (1≤d) && decide (d≤3)
end Go.Proofs.YtaiefdhenikiiaaC
namespace Go.Proofs.Ytaiefdhenikiiaa.Base
open Go.RowKit Go.Proofs.YtaiefdhenikiiaaW.PrintWords Go.Proofs.YtaiefdhenikiiaaW.PrintLast Go.Proofs.YtaiefdhenikiiaaW.PrintMore
attribute [local go_sem] max2_int qp1_ max_two min_two max_three min_three max_four min_four Go.Proofs.YtaiefdhenikiiaaZ.qw_   -- for this text's walks alone
set_option linter.unusedVariables false
set_option linter.unusedSimpArgs false
def ql3_.f (a0:Int):Option (ByteArray):=some (strOfNums (([(48+((a0) % 256)) % 256]:List Int)))
set_option maxHeartbeats 8000000 in
set_option maxRecDepth 100000 in
theorem ql3_.calls (a0:Int) (r:ByteArray) (w:World) (h:ql3_.f a0=some r) :
  Calls Try.prog 225 #[.int .i64 a0] w fun e w'=>e=.returned (.string r)∧Below w.heap.size w w':=by
 have HB:=aK (Below.refl w.heap.size w)
 have H:(some (strOfNums (([(48+((a0) % 256)) % 256]:List Int))))=some r:=h
 clear h
 obtain ⟨y415,Y3⟩:∃ y_:List Int,y_=(([(48+((a0) % 256)) % 256]:List Int)):=⟨_,rfl⟩
 replace H:(some (strOfNums y415))=some r:=by first|(rw [Y3];with_reducible exact H)|(have H2_:=(Option.bind_some _ _).symm.trans H;rw [Y3];with_reducible exact H2_)|(have H2_:=(Option.bind_some _ _).symm.trans H;with_reducible exact H2_)|with_reducible exact H|(rw [Y3];exact H)|exact H
 have aZ1:=aK Y3
 clear Y3
 obtain rfl:=Option.some.inj H
 go_enter Try.func225,Try.ntmps225
 go_wp2_with (first|((with_reducible refine qt_ (N:=6) rfl ?_);refine Kd.R_lit (Kd.int .u8) _ 5 ?hg (N:=6) ?hd (xs:=([(48+((a0) % 256)) % 256]:List Int)) (inner:=[.int .u8 ((48+((a0) % 256)) % 256)]) (ok:=fun _=>True) (okp:=fun _=>True) ?hr ?hp (fun _ hk=>hk) trivial (Below.refl _ _) (Nat.le_refl _) (by simp) ?_;(case hd=>rfl);(case hg=>rfl);(case hr=>first|(go_simp;done)|(go_simp;rfl));(case hp=>exact (Reps.one (show Kd.M (Kd.int .u8) _ _ _ ((48+((a0) % 256)) % 256) [.int .u8 ((48+((a0) % 256)) % 256)] from rfl) (Reps.none _ _)));intro v416 w2 ho3 hb hg_ hnew_;clear hg_ hnew_;(first|rw [← aZ1.out] at ho3|(simp only [Int.reduceToNat] at ho3;rw [← aZ1.out] at ho3));have n0_:=aK (Kd.qn2_ ho3 (ql_ (by repeat (first|(with_reducible first|exact HB.out|apply qb_|apply qa_|apply qc_)|exact HB.out))));have n1_:=aK (qh_ (by repeat (first|(with_reducible first|exact HB.out|apply qb_|apply qa_|apply qc_)|exact HB.out)) hb);clear HB;have HO417:=n0_;have HB:=n1_;clear n0_ n1_;clear hb ho3;have hcv4:=own_string (P:=Try.prog) Try.underlying140 Try.underlying5 Try.underlying9 (Kd.own_of_R HO417.out)))
 go_ret
 exact ⟨by first|rfl|(simp [qn_,qo_] <;> rfl)|(simp [*,qn_,qo_] <;> rfl),by repeat (first|(with_reducible first|exact HB.out|apply qb_|apply qa_|apply qc_)|exact HB.out)⟩
end Go.Proofs.Ytaiefdhenikiiaa.Base
namespace Go.Proofs.Ytaiefdhenikiiaa.Base
open Go.RowKit Go.Proofs.YtaiefdhenikiiaaW.PrintWords Go.Proofs.YtaiefdhenikiiaaW.PrintLast Go.Proofs.YtaiefdhenikiiaaW.PrintMore
attribute [local go_sem] max2_int qp1_ max_two min_two max_three min_three max_four min_four Go.Proofs.YtaiefdhenikiiaaZ.qw_   -- for this text's walks alone
set_option linter.unusedVariables false
set_option linter.unusedSimpArgs false
mutual
def qa1_.l0:Nat→Int→List ByteArray→Int→Int→Option (List ByteArray)
 | 0,_,_,_,_=>none
 | k+1,x0,x5,x11,x12=>if x12<x11 then (qa1_.l1 k x0 ([]:List ByteArray) x11 x12 x5 (x5.length:Int) 0) else (some x5)
def qa1_.l1:Nat→Int→List ByteArray→Int→Int→List ByteArray→Int→Int→Option (List ByteArray)
 | 0,_,_,_,_,_,_,_=>none
 | k+1,x0,x6,x11,x12,x14,x15,x16=>if x16<x15 then (if 0≤x16 then (if x16<(x14.length:Int) then (qa1_.l2 k x0 x6 (rdOf ByteArray.empty x14 x16) x11 x12 x14 x15 x16 x0 0) else (none)) else (none)) else (qa1_.l0 k x0 x6 x11 (wrap64 (x12+1)))
def qa1_.l2:Nat→Int→List ByteArray→ByteArray→Int→Int→List ByteArray→Int→Int→Int→Int→Option (List ByteArray)
 | 0,_,_,_,_,_,_,_,_,_,_=>none
 | k+1,x0,x6,x8,x11,x12,x14,x15,x16,x20,x21=>if x21<x20 then ((ql3_.f x21).bind fun R8=>(if x8.size+R8.size≤9223372036854775807 then (if x6.length<8796093022208 then (qa1_.l2 k x0 (x6++[x8++R8]) x8 x11 x12 x14 x15 x16 x20 (wrap64 (x21+1))) else (none)) else (none))) else (qa1_.l1 k x0 x6 x11 x12 x14 x15 (wrap64 (x16+1)))
end
def qa1_.f (k:Nat) (a0:Int) (a1:Int):Option (List ByteArray):=qa1_.l0 k a0 (([(⟨#[]⟩:ByteArray)]:List ByteArray)) a1 0
theorem qa1_.mono_l:∀ k,(∀ y0 y1 y2 y3,LeO (qa1_.l0 k y0 y1 y2 y3) (qa1_.l0 (k+1) y0 y1 y2 y3))∧(∀ y0 y1 y2 y3 y4 y5 y6,LeO (qa1_.l1 k y0 y1 y2 y3 y4 y5 y6) (qa1_.l1 (k+1) y0 y1 y2 y3 y4 y5 y6))∧(∀ y0 y1 y2 y3 y4 y5 y6 y7 y8 y9,LeO (qa1_.l2 k y0 y1 y2 y3 y4 y5 y6 y7 y8 y9) (qa1_.l2 (k+1) y0 y1 y2 y3 y4 y5 y6 y7 y8 y9))
 | 0=>⟨fun _ _ _ _ r h=>by simp [qa1_.l0] at h,fun _ _ _ _ _ _ _ r h=>by simp [qa1_.l1] at h,fun _ _ _ _ _ _ _ _ _ _ r h=>by simp [qa1_.l2] at h⟩
 | k+1=>by
  obtain ⟨ih0,ih1,ih2⟩:=qa1_.mono_l k
  refine ⟨?_,?_,?_⟩
  ·intro y0 y1 y2 y3
   unfold qa1_.l0
   repeat' first
   | (with_reducible exact ih0 _ _ _ _)
   | (with_reducible exact ih1 _ _ _ _ _ _ _)
   | (with_reducible exact ih2 _ _ _ _ _ _ _ _ _ _)
   | (with_reducible exact LeO.refl _)
   | (with_reducible exact LeO.none _)
   | (with_reducible refine LeO.ite ?_ ?_)
   | (with_reducible refine LeO.bind ?_ (fun _=>?_))
   | exact ih0 _ _ _ _
   | exact ih1 _ _ _ _ _ _ _
   | exact ih2 _ _ _ _ _ _ _ _ _ _
   | exact LeO.none _
   | refine LeO.ite ?_ ?_
   | refine LeO.bind ?_ (fun _=>?_)
  ·intro y0 y1 y2 y3 y4 y5 y6
   unfold qa1_.l1
   repeat' first
   | (with_reducible exact ih0 _ _ _ _)
   | (with_reducible exact ih1 _ _ _ _ _ _ _)
   | (with_reducible exact ih2 _ _ _ _ _ _ _ _ _ _)
   | (with_reducible exact LeO.refl _)
   | (with_reducible exact LeO.none _)
   | (with_reducible refine LeO.ite ?_ ?_)
   | (with_reducible refine LeO.bind ?_ (fun _=>?_))
   | exact ih0 _ _ _ _
   | exact ih1 _ _ _ _ _ _ _
   | exact ih2 _ _ _ _ _ _ _ _ _ _
   | exact LeO.none _
   | refine LeO.ite ?_ ?_
   | refine LeO.bind ?_ (fun _=>?_)
  ·intro y0 y1 y2 y3 y4 y5 y6 y7 y8 y9
   unfold qa1_.l2
   repeat' first
   | (with_reducible exact ih0 _ _ _ _)
   | (with_reducible exact ih1 _ _ _ _ _ _ _)
   | (with_reducible exact ih2 _ _ _ _ _ _ _ _ _ _)
   | (with_reducible exact LeO.refl _)
   | (with_reducible exact LeO.none _)
   | (with_reducible refine LeO.ite ?_ ?_)
   | (with_reducible refine LeO.bind ?_ (fun _=>?_))
   | exact ih0 _ _ _ _
   | exact ih1 _ _ _ _ _ _ _
   | exact ih2 _ _ _ _ _ _ _ _ _ _
   | exact LeO.none _
   | refine LeO.ite ?_ ?_
   | refine LeO.bind ?_ (fun _=>?_)
theorem qa1_.mono:∀ a0 a1 k,LeO (qa1_.f k a0 a1) (qa1_.f (k+1) a0 a1):=by
 intro a0 a1 k
 obtain ⟨ih0,ih1,ih2⟩:=qa1_.mono_l k
 unfold qa1_.f
 repeat' first
   | (with_reducible exact ih0 _ _ _ _)
   | (with_reducible exact ih1 _ _ _ _ _ _ _)
   | (with_reducible exact ih2 _ _ _ _ _ _ _ _ _ _)
   | (with_reducible exact LeO.refl _)
   | (with_reducible exact LeO.none _)
   | (with_reducible refine LeO.ite ?_ ?_)
   | (with_reducible refine LeO.bind ?_ (fun _=>?_))
   | exact ih0 _ _ _ _
   | exact ih1 _ _ _ _ _ _ _
   | exact ih2 _ _ _ _ _ _ _ _ _ _
   | exact LeO.none _
   | refine LeO.ite ?_ ?_
   | refine LeO.bind ?_ (fun _=>?_)
set_option maxHeartbeats 8000000 in
set_option maxRecDepth 100000 in
theorem qa1_.calls (k:Nat) (a0:Int) (a1:Int) (r:List ByteArray) (w:World) (h:qa1_.f k a0 a1=some r) :
  Calls Try.prog 215 #[.int .i64 a0,.int .i64 a1] w fun e w'=>∃ v0_:Value,e=.returned (v0_)∧Kd.R Kd.string 9 w' w.heap.size (fun _=>True) v0_ r∧Below w.heap.size w w':=by
 have HB:=aK (Below.refl w.heap.size w)
 have H:(qa1_.l0 k a0 (([(⟨#[]⟩:ByteArray)]:List ByteArray)) a1 0)=some r:=h
 clear h
 obtain ⟨aX8,Y2⟩:∃ y_:List ByteArray,y_=(([(⟨#[]⟩:ByteArray)]:List ByteArray)):=⟨_,rfl⟩
 replace H:(qa1_.l0 k a0 aX8 a1 0)=some r:=by first|(rw [Y2];with_reducible exact H)|(have H2_:=(Option.bind_some _ _).symm.trans H;rw [Y2];with_reducible exact H2_)|(have H2_:=(Option.bind_some _ _).symm.trans H;with_reducible exact H2_)|with_reducible exact H|(rw [Y2];exact H)|exact H
 have aZ0:=aK Y2
 clear Y2
 have H':=aK H
 clear H
 go_enter Try.func215,Try.ntmps215
 go_wp2_with (first|((with_reducible refine qt_ (N:=10) rfl ?_);refine Kd.R_lit Kd.string _ 9 ?hg (N:=10) ?hd (xs:=([(⟨#[]⟩:ByteArray)]:List ByteArray)) (inner:=[.string (⟨#[]⟩:ByteArray)]) (ok:=fun _=>True) (okp:=fun _=>True) ?hr ?hp (fun _ hk=>hk) trivial (Below.refl _ _) (Nat.le_refl _) (by simp) ?_;(case hd=>rfl);(case hg=>rfl);(case hr=>first|(go_simp;done)|(go_simp;rfl));(case hp=>exact (Reps.one (show Kd.M Kd.string _ _ _ (⟨#[]⟩:ByteArray) [.string (⟨#[]⟩:ByteArray)] from rfl) (Reps.none _ _)));intro v419 w3 ho4 hb hg_ hnew_;clear hg_ hnew_;(first|rw [← aZ0.out] at ho4|(simp only [Int.reduceToNat] at ho4;rw [← aZ0.out] at ho4));have n0_:=aK (Kd.qn2_ ho4 (ql_ (by repeat (first|(with_reducible first|exact HB.out|apply qb_|apply qa_|apply qc_)|exact HB.out))));have n1_:=aK (qh_ (by repeat (first|(with_reducible first|exact HB.out|apply qb_|apply qa_|apply qc_)|exact HB.out)) hb);clear HB;have HO420:=n0_;have HB:=n1_;clear n0_ n1_;clear hb ho4))
 go_loopg [5,12] k (fun kq v5 v12 w'=>∃ (x5_1:List ByteArray) (M7:Int),v12=.int .i64 M7∧Aside0 (qa1_.l0 kq a0 x5_1 a1 M7=some r)∧Aside0 (kq≤k)∧Aside0 (Kd.R Kd.string 9 w' w.heap.size (fun _=>True) v5 x5_1)∧Aside0 (Below w.heap.size w w'))
 case atStart=>exact ⟨(aX8),(0),(by first|rfl|(simp;done)|(simp [*];done)),H',⟨Nat.le_refl _⟩,⟨by (with_reducible repeat (first|apply Kd.qs1_|apply Kd.qx1_|apply Kd.R_drew));exact HO420.out⟩,⟨by repeat (first|(with_reducible first|exact HB.out|apply qb_|apply qa_|apply qc_)|exact HB.out)⟩⟩
 case round =>
  clear H'
  try clear c2
  try clear p2
  obtain ⟨x5_1,M7,rfl,HA,HK1,z8,HB⟩:=hrel
  cases gk with
  | zero=>exact absurd HA.out (by simp [qa1_.l0])
  | succ k1 =>
   have H:=HA.out
   clear HA
   simp only [qa1_.l0] at H
   by_cases c5:M7<a1
   ·rw [if_pos c5] at H
    have c5b0:decide (M7<a1)=true:=decide_eq_true c5
    clear c5
    have H':=aK H
    clear H
    obtain ⟨Ao6,co6,eo6⟩:=Kd.qd2_ z8.out
    subst eo6
    go_wp2
    go_loopg [6,16] k1 (fun kq v6 v16 w'=>∃ (l6:List ByteArray) (u7:Int),v16=.int .i64 u7∧Aside0 (qa1_.l1 kq a0 l6 a1 M7 x5_1 (x5_1.length:Int) u7=some r)∧Aside0 (kq≤k1)∧Aside0 (Kd.R Kd.string 9 w' w.heap.size (fun k_=>some k_≠((.slice Ao6 x5_1.length co6):Value).ownBlock) v6 l6)∧Aside0 (Kd.R Kd.string 9 w' w.heap.size (fun k_=>some k_≠(v6:Value).ownBlock) (.slice Ao6 x5_1.length co6) x5_1)∧Aside0 (Below w.heap.size w w'))
    case atStart=>exact ⟨(([]:List ByteArray)),(0),(by first|rfl|(simp;done)|(simp [*];done)),H',⟨Nat.le_refl _⟩,⟨by first|exact Kd.R_nil _ _ _ _ _|exact Kd.N_nil _ _ _ _ _|exact Kd.V_nil _ _ _ _ _|exact Kd.Q_nil _ _ _ _ _|exact Kd.S_nil _ _ _ _ _⟩,⟨by (with_reducible repeat (first|apply Kd.qs1_|apply Kd.qx1_|apply Kd.R_drew));exact Kd.R_mono z8.out (fun _ hk=>(by simp [Value.ownBlock]))⟩,⟨by repeat (first|(with_reducible first|exact HB.out|apply qb_|apply qa_|apply qc_)|exact HB.out)⟩⟩
    case round =>
     clear H'
     try clear c2
     try clear p2
     try clear c5
     try clear c5b0
     try clear p2
     obtain ⟨l6,u7,rfl,HA,HK2,J5,M0,HB⟩:=hrel
     cases gk with
     | zero=>exact absurd HA.out (by simp [qa1_.l1])
     | succ k2 =>
      have H:=HA.out
      clear HA
      simp only [qa1_.l1] at H
      by_cases c7:u7<(x5_1.length:Int)
      ·rw [if_pos c7] at H
       have c7b0:decide (u7<(x5_1.length:Int))=true:=decide_eq_true c7
       clear c7
       by_cases c8:0≤u7
       ·rw [if_pos c8] at H
        have c8b0:decide (0≤u7)=true:=decide_eq_true c8
        clear c8
        by_cases c9:u7<(x5_1.length:Int)
        ·rw [if_pos c9] at H
         have c9b0:decide (u7<(x5_1.length:Int))=true:=decide_eq_true c9
         clear c9
         have H':=aK H
         clear H
         have aQ5:0≤(u7:Int):=of_decide_eq_true (by first|(with_reducible assumption)|assumption)
         have aQ4:u7<(x5_1.length:Int):=of_decide_eq_true (by first|(with_reducible assumption)|assumption)
         obtain ⟨aJ9,e421,hx421_0⟩:=Kd.at_string (Kd.qg3_ M0.out).2.2 u7 aQ5 aQ4
         cases e421
         replace aQ5:=eq_true aQ5
         replace aQ4:=eq_true aQ4
         go_wp2
         go_loopg [6,21] k2 (fun kq v6 v21 w'=>∃ (K9:List ByteArray) (M6:Int),v21=.int .i64 M6∧Aside0 (qa1_.l2 kq a0 K9 (rdOf ByteArray.empty x5_1 u7) a1 M7 x5_1 (x5_1.length:Int) u7 a0 M6=some r)∧Aside0 (kq≤k2)∧Aside0 (Kd.R Kd.string 9 w' w.heap.size (fun k_=>some k_≠((.slice (some aJ9) x5_1.length co6):Value).ownBlock) v6 K9)∧Aside0 (Kd.R Kd.string 9 w' w.heap.size (fun k_=>some k_≠(v6:Value).ownBlock) (.slice (some aJ9) x5_1.length co6) x5_1)∧Aside0 (Below w.heap.size w w'))
         case atStart=>exact ⟨(l6),(0),(by first|rfl|(simp;done)|(simp [*];done)),H',⟨Nat.le_refl _⟩,⟨by (with_reducible repeat (first|apply Kd.qs1_|apply Kd.qx1_|apply Kd.R_drew));exact J5.out⟩,⟨by (with_reducible repeat (first|apply Kd.qs1_|apply Kd.qx1_|apply Kd.R_drew));exact M0.out⟩,⟨by repeat (first|(with_reducible first|exact HB.out|apply qb_|apply qa_|apply qc_)|exact HB.out)⟩⟩
         case round =>
          clear H'
          try clear c2
          try clear p2
          try clear p4
          try clear q4
          try clear hx4
          try clear c5
          try clear c5b0
          try clear c7
          try clear c7b0
          try clear c8
          try clear c8b0
          try clear c9
          try clear c9b0
          try clear hx421_0
          try clear p2
          try clear aQ5
          try clear aQ4
          obtain ⟨K9,M6,rfl,HA,HK3,J5,M0,HB⟩:=hrel
          cases gk with
          | zero=>exact absurd HA.out (by simp [qa1_.l2])
          | succ k3 =>
           have H:=HA.out
           clear HA
           simp only [qa1_.l2] at H
           by_cases c10:M6<a0
           ·rw [if_pos c10] at H
            have c10b0:decide (M6<a0)=true:=decide_eq_true c10
            clear c10
            replace H:=Option.bind_eq_some_iff.mp H
            obtain ⟨R8,aY3,H⟩:=H
            replace H:(if (rdOf ByteArray.empty x5_1 u7).size+R8.size≤9223372036854775807 then (if K9.length<8796093022208 then (qa1_.l2 k3 a0 (K9++[(rdOf ByteArray.empty x5_1 u7)++R8]) (rdOf ByteArray.empty x5_1 u7) a1 M7 x5_1 (x5_1.length:Int) u7 a0 (wrap64 (M6+1))) else (none)) else (none))=some r:=H
            have A11:=aK aY3
            clear aY3
            by_cases c12:(rdOf ByteArray.empty x5_1 u7).size+R8.size≤9223372036854775807
            ·rw [if_pos c12] at H
             have c12b0:=eq_true c12
             have c12b1:decide ((rdOf ByteArray.empty x5_1 u7).size+R8.size≤9223372036854775807)=true:=decide_eq_true c12
             try have c12b2:(9223372036854775807<(rdOf ByteArray.empty x5_1 u7).size+R8.size)=False:=eq_false (Nat.not_lt.2 c12)
             by_cases c13:K9.length<8796093022208
             ·rw [if_pos c13] at H
              have LMc13:=aK c13
              clear c13
              obtain ⟨aX7,X9⟩:∃ y_:List ByteArray,y_=(K9++[(rdOf ByteArray.empty x5_1 u7)++R8]):=⟨_,rfl⟩
              replace H:(qa1_.l2 k3 a0 aX7 (rdOf ByteArray.empty x5_1 u7) a1 M7 x5_1 (x5_1.length:Int) u7 a0 (wrap64 (M6+1)))=some r:=by first|(rw [X9];with_reducible exact H)|(have H2_:=(Option.bind_some _ _).symm.trans H;rw [X9];with_reducible exact H2_)|(have H2_:=(Option.bind_some _ _).symm.trans H;with_reducible exact H2_)|with_reducible exact H|(rw [X9];exact H)|exact H
              have Ny423:=aK X9
              clear X9
              have H':=aK H
              clear H
              go_wp2_with (first|((with_reducible refine qy_ (f:=225) rfl ?_);refine goesL_ (some 27) rfl rfl Try.func225 (by kernel_rfl) rfl #[.int .i64 M6] rfl (by (try simp only [List.map_toArray,List.map_cons,List.map_nil]);first|done|rfl|(simp only [List.length_drop,List.length_take];rfl)) ?_;(with_reducible refine (ql3_.calls M6 R8 _ A11.out).mono ?_);rintro e w14 ⟨rfl,hb⟩;refine ⟨_,rfl,?_⟩;have n0_:=aK (Kd.ql2_ (by (with_reducible repeat (first|apply Kd.qs1_|apply Kd.qx1_|apply Kd.R_drew));exact J5.out) hb);have n1_:=aK (Kd.ql2_ (by (with_reducible repeat (first|apply Kd.qs1_|apply Kd.qx1_|apply Kd.R_drew));exact M0.out) hb);have n2_:=aK (qh_ (by repeat (first|(with_reducible first|exact HB.out|apply qb_|apply qa_|apply qc_)|exact HB.out)) hb);clear J5;clear M0;clear HB;have J5:=n0_;have M0:=n1_;have HB:=n2_;clear n0_ n1_ n2_;(try clear hb);(try clear hb2);(try clear hk);(try clear hi))|((with_reducible refine qi2_ (b:=.append) (xs:=#[.tmp 24,.tmp 29]) rfl ?_);at_builtin;refine Kd.R_append Kd.string (w0:=w) w.heap.size rfl (.tmp 24) (.tmp 29) 156 9 (.string ⟨#[]⟩) 16 rfl Try.underlying156 info9 rfl (by decide) (by omega) u6 K9 ((rdOf ByteArray.empty x5_1 u7)++R8) [.string ((rdOf ByteArray.empty x5_1 u7)++R8)] (fun k_=>some k_≠(.slice (some aJ9) x5_1.length co6:Value).ownBlock) (fun _=>False) rfl rfl ?aP (fun _ hk=>hk.elim) ?aF ?aO ?aB ?aS ?aL ?_;(case aP=>exact rfl);(case aB=>exact (by repeat (first|(with_reducible first|exact HB.out|apply qb_|apply qa_|apply qc_)|exact HB.out)));(case aF=>exact (fun k_ hk=>Kd.fresh' (Kd.R_lt (by (with_reducible repeat (first|apply Kd.qs1_|apply Kd.qx1_|apply Kd.R_drew));exact M0.out)) k_ hk));(case aO=>exact (by (with_reducible repeat (first|apply Kd.qs1_|apply Kd.qx1_|apply Kd.R_drew));exact J5.out));(case aS=>exact (ql_ (by repeat (first|(with_reducible first|exact HB.out|apply qb_|apply qa_|apply qc_)|exact HB.out))));(case aL=>have:=LMc13.out;omega);intro v424 w15 ho hb hg hat;rw [← Ny423.out] at ho;have n0_:=aK (Kd.R_after (ok:=(fun _=>True)) (by (with_reducible repeat (first|apply Kd.qs1_|apply Kd.qx1_|apply Kd.R_drew));exact Kd.R_mono M0.out (fun _ hk=>⟨trivial,hk⟩)) hg hat);have n1_:=aK (hb);have n2_:=aK (ho);clear M0;clear HB;clear J5;have M0:=n0_;have HB:=n1_;have HO425:=n2_;clear n0_ n1_ n2_;clear ho hb hg hat))
              go_roundg k3
              case measure=>have:=HK1.out;have:=HK2.out;have:=HK3.out;omega
              case rel=>exact ⟨(aX7),(wrap64 (M6+1)),(by first|rfl|(simp;done)|(simp [*];done)),H',⟨by have:=HK1.out;have:=HK2.out;have:=HK3.out;omega⟩,⟨by (with_reducible repeat (first|apply Kd.qs1_|apply Kd.qx1_|apply Kd.R_drew));exact HO425.out⟩,⟨by (with_reducible repeat (first|apply Kd.qs1_|apply Kd.qx1_|apply Kd.R_drew));exact Kd.R_mono M0.out (fun _ hk=>hk.2)⟩,⟨by repeat (first|(with_reducible first|exact HB.out|apply qb_|apply qa_|apply qc_)|exact HB.out)⟩⟩
             ·rw [if_neg c13] at H
              exact absurd H (by simp)
            ·rw [if_neg c12] at H
             exact absurd H (by simp)
           ·rw [if_neg c10] at H
            have c10b0:decide (M6<a0)=false:=decide_eq_false c10
            clear c10
            have H':=aK H
            clear H
            go_wp2
            go_roundg k3
            case measure=>have:=HK1.out;have:=HK2.out;have:=HK3.out;omega
            case rel=>exact ⟨(K9),(wrap64 (u7+1)),(by first|rfl|(simp;done)|(simp [*];done)),H',⟨by have:=HK1.out;have:=HK2.out;have:=HK3.out;omega⟩,⟨by (with_reducible repeat (first|apply Kd.qs1_|apply Kd.qx1_|apply Kd.R_drew));exact J5.out⟩,⟨by (with_reducible repeat (first|apply Kd.qs1_|apply Kd.qx1_|apply Kd.R_drew));exact M0.out⟩,⟨by repeat (first|(with_reducible first|exact HB.out|apply qb_|apply qa_|apply qc_)|exact HB.out)⟩⟩
        ·rw [if_neg c9] at H
         exact absurd H (by simp)
       ·rw [if_neg c8] at H
        exact absurd H (by simp)
      ·rw [if_neg c7] at H
       have c7b0:decide (u7<(x5_1.length:Int))=false:=decide_eq_false c7
       clear c7
       have H':=aK H
       clear H
       go_wp2
       go_roundg k2
       case measure=>have:=HK1.out;have:=HK2.out;omega
       case rel=>exact ⟨(l6),(wrap64 (M7+1)),(by first|rfl|(simp;done)|(simp [*];done)),H',⟨by have:=HK1.out;have:=HK2.out;omega⟩,⟨by (with_reducible repeat (first|apply Kd.qs1_|apply Kd.qx1_|apply Kd.R_drew));exact Kd.R_mono J5.out (fun _ hk=>trivial)⟩,⟨by repeat (first|(with_reducible first|exact HB.out|apply qb_|apply qa_|apply qc_)|exact HB.out)⟩⟩
   ·rw [if_neg c5] at H
    have c5b0:decide (M7<a1)=false:=decide_eq_false c5
    clear c5
    obtain rfl:=Option.some.inj H
    go_wp2
    go_ret
    exact ⟨_,by first|rfl|(simp [qn_,qo_] <;> rfl)|(simp [*,qn_,qo_] <;> rfl),by (with_reducible repeat (first|apply Kd.qs1_|apply Kd.qx1_|apply Kd.R_drew));exact z8.out,by repeat (first|(with_reducible first|exact HB.out|apply qb_|apply qa_|apply qc_)|exact HB.out)⟩
end Go.Proofs.Ytaiefdhenikiiaa.Base
namespace Go.Proofs.Ytaiefdhenikiiaa.Base
open Go.RowKit Go.Proofs.YtaiefdhenikiiaaW.PrintWords Go.Proofs.YtaiefdhenikiiaaW.PrintLast Go.Proofs.YtaiefdhenikiiaaW.PrintMore
attribute [local go_sem] max2_int qp1_ max_two min_two max_three min_three max_four min_four Go.Proofs.YtaiefdhenikiiaaZ.qw_   -- for this text's walks alone
set_option linter.unusedVariables false
set_option linter.unusedSimpArgs false
def qq1_.l0:Nat→Int→List ByteArray→Int→Int→Option (List ByteArray)
 | 0,_,_,_,_=>none
 | k+1,x0,x5,x8,x9=>if x9<x8 then ((qa1_.f k x0 x9).bind fun U7=>(if x5.length+U7.length<8796093022208 then (qq1_.l0 k x0 (x5++U7) x8 (wrap64 (x9+1))) else (none))) else (some x5)
def qq1_.f (k:Nat) (a0:Int) (a1:Int):Option (List ByteArray):=qq1_.l0 k a0 ([]:List ByteArray) (wrap64 (a1+1)) 0
theorem qq1_.mono_l:∀ k,(∀ y0 y1 y2 y3,LeO (qq1_.l0 k y0 y1 y2 y3) (qq1_.l0 (k+1) y0 y1 y2 y3))
 | 0=>fun _ _ _ _ r h=>by simp [qq1_.l0] at h
 | k+1=>by
  have ih0:=qq1_.mono_l k
  ·intro y0 y1 y2 y3
   unfold qq1_.l0
   repeat' first
   | (with_reducible exact ih0 _ _ _ _)
   | (with_reducible exact qa1_.mono _ _ _)
   | (with_reducible exact LeO.refl _)
   | (with_reducible exact LeO.none _)
   | (with_reducible refine LeO.ite ?_ ?_)
   | (with_reducible refine LeO.bind ?_ (fun _=>?_))
   | exact ih0 _ _ _ _
   | exact qa1_.mono _ _ _
   | exact LeO.none _
   | refine LeO.ite ?_ ?_
   | refine LeO.bind ?_ (fun _=>?_)
theorem qq1_.mono:∀ a0 a1 k,LeO (qq1_.f k a0 a1) (qq1_.f (k+1) a0 a1):=by
 intro a0 a1 k
 have ih0:=qq1_.mono_l k
 unfold qq1_.f
 repeat' first
   | (with_reducible exact ih0 _ _ _ _)
   | (with_reducible exact qa1_.mono _ _ _)
   | (with_reducible exact LeO.refl _)
   | (with_reducible exact LeO.none _)
   | (with_reducible refine LeO.ite ?_ ?_)
   | (with_reducible refine LeO.bind ?_ (fun _=>?_))
   | exact ih0 _ _ _ _
   | exact qa1_.mono _ _ _
   | exact LeO.none _
   | refine LeO.ite ?_ ?_
   | refine LeO.bind ?_ (fun _=>?_)
set_option maxHeartbeats 8000000 in
set_option maxRecDepth 100000 in
theorem qq1_.calls (k:Nat) (a0:Int) (a1:Int) (r:List ByteArray) (w:World) (h:qq1_.f k a0 a1=some r) :
  Calls Try.prog 175 #[.int .i64 a0,.int .i64 a1] w fun e w'=>∃ v0_:Value,e=.returned (v0_)∧Kd.R Kd.string 9 w' w.heap.size (fun _=>True) v0_ r∧Below w.heap.size w w':=by
 have HB:=aK (Below.refl w.heap.size w)
 have H:(qq1_.l0 k a0 ([]:List ByteArray) (wrap64 (a1+1)) 0)=some r:=h
 clear h
 have H':=aK H
 clear H
 go_enter Try.func175,Try.ntmps175
 go_wp2
 go_loopg [5,9] k (fun kq v5 v9 w'=>∃ (x5_1:List ByteArray) (S9:Int),v9=.int .i64 S9∧Aside0 (qq1_.l0 kq a0 x5_1 (wrap64 (a1+1)) S9=some r)∧Aside0 (kq≤k)∧Aside0 (Kd.R Kd.string 9 w' w.heap.size (fun _=>True) v5 x5_1)∧Aside0 (Below w.heap.size w w'))
 case atStart=>exact ⟨(([]:List ByteArray)),(0),(by first|rfl|(simp;done)|(simp [*];done)),H',⟨Nat.le_refl _⟩,⟨by first|exact Kd.R_nil _ _ _ _ _|exact Kd.N_nil _ _ _ _ _|exact Kd.V_nil _ _ _ _ _|exact Kd.Q_nil _ _ _ _ _|exact Kd.S_nil _ _ _ _ _⟩,⟨by repeat (first|(with_reducible first|exact HB.out|apply qb_|apply qa_|apply qc_)|exact HB.out)⟩⟩
 case round =>
  clear H'
  try clear c1
  try clear p2
  obtain ⟨x5_1,S9,rfl,HA,HK1,z8,HB⟩:=hrel
  cases gk with
  | zero=>exact absurd HA.out (by simp [qq1_.l0])
  | succ k1 =>
   have H:=HA.out
   clear HA
   simp only [qq1_.l0] at H
   by_cases c3:S9<(wrap64 (a1+1))
   ·rw [if_pos c3] at H
    have c3b0:decide (S9<(wrap64 (a1+1)))=true:=decide_eq_true c3
    clear c3
    replace H:=Option.bind_eq_some_iff.mp H
    obtain ⟨U7,A40,H⟩:=H
    replace H:(if x5_1.length+U7.length<8796093022208 then (qq1_.l0 k1 a0 (x5_1++U7) (wrap64 (a1+1)) (wrap64 (S9+1))) else (none))=some r:=H
    have A4:=aK A40
    clear A40
    by_cases c5:x5_1.length+U7.length<8796093022208
    ·rw [if_pos c5] at H
     have LMc5:=aK c5
     clear c5
     obtain ⟨aX6,X8⟩:∃ y_:List ByteArray,y_=(x5_1++U7):=⟨_,rfl⟩
     replace H:(qq1_.l0 k1 a0 aX6 (wrap64 (a1+1)) (wrap64 (S9+1)))=some r:=by first|(rw [X8];with_reducible exact H)|(have H2_:=(Option.bind_some _ _).symm.trans H;rw [X8];with_reducible exact H2_)|(have H2_:=(Option.bind_some _ _).symm.trans H;with_reducible exact H2_)|with_reducible exact H|(rw [X8];exact H)|exact H
     have Ny429:=aK X8
     clear X8
     have H':=aK H
     clear H
     go_wp2_with (first|((with_reducible refine qy_ (f:=215) rfl ?_);refine goesL_ (some 15) rfl rfl Try.func215 (by kernel_rfl) rfl #[.int .i64 a0,.int .i64 S9] rfl (by (try simp only [List.map_toArray,List.map_cons,List.map_nil]);first|done|rfl|(simp only [List.length_drop,List.length_take];rfl)) ?_;(with_reducible refine (qa1_.calls k1 a0 S9 U7 _ A4.out).mono ?_);rintro e w6 ⟨v427,rfl,ho0,hb⟩;refine ⟨_,rfl,?_⟩;have n0_:=aK (Kd.R_elder' (by (with_reducible repeat (first|apply Kd.qs1_|apply Kd.qx1_|apply Kd.R_drew));exact z8.out) (Kd.R_base ho0) hb);have n1_:=aK (Kd.qn2_ (Kd.R_new' ho0 (Kd.R_lt (by (with_reducible repeat (first|apply Kd.qs1_|apply Kd.qx1_|apply Kd.R_drew));exact z8.out))) (ql_ (by repeat (first|(with_reducible first|exact HB.out|apply qb_|apply qa_|apply qc_)|exact HB.out))));have n2_:=aK (qh_ (by repeat (first|(with_reducible first|exact HB.out|apply qb_|apply qa_|apply qc_)|exact HB.out)) hb);clear z8;clear HB;have z8:=n0_;have V4:=n1_;have HB:=n2_;clear n0_ n1_ n2_;(try clear hb);(try clear hb2);(try clear hk);(try clear hi);(try clear ho0);obtain ⟨Ao8,co8,eo8⟩:=Kd.qd2_ V4.out;subst eo8)|((with_reducible refine qi2_ (b:=.append) (xs:=#[.tmp 12,.tmp 15]) rfl ?_);at_builtin;refine Kd.qp2_ Kd.string (w0:=w) w.heap.size rfl (.tmp 12) (.tmp 15) 156 9 (.string ⟨#[]⟩) 16 rfl Try.underlying156 info9 rfl (by decide) (by omega) u5 x5_1 U7 _ _ _ (fun k_=>some k_≠(.slice Ao8 U7.length co8:Value).ownBlock) (fun _=>False) rfl rfl ?aO ?aR (fun _ _ h=>h) (fun _ h=>h.elim) ?aF ?aB ?aS ?aL ?_;(case aR=>repeat (first|exact (Kd.qg3_ V4.out).2.2|(with_reducible refine Kd.qx2_ ?_ _)|(with_reducible refine Kd.qw2_ ?_ _)|(with_reducible refine Kd.C_drew ?_)));(case aB=>exact (by repeat (first|(with_reducible first|exact HB.out|apply qb_|apply qa_|apply qc_)|exact HB.out)));(case aF=>exact (fun k_ hk=>Kd.fresh' (Kd.R_lt (by (with_reducible repeat (first|apply Kd.qs1_|apply Kd.qx1_|apply Kd.R_drew));exact V4.out)) k_ hk));(case aO=>exact (by (with_reducible repeat (first|apply Kd.qs1_|apply Kd.qx1_|apply Kd.R_drew));exact Kd.R_mono z8.out (fun _ hk=>hk.2)));(case aS=>exact (ql_ (by repeat (first|(with_reducible first|exact HB.out|apply qb_|apply qa_|apply qc_)|exact HB.out))));(case aL=>have:=LMc5.out;omega);intro v430 w7 ho hb hg hat;rw [← Ny429.out] at ho;have n0_:=aK (Kd.R_after (ok:=(fun _=>True)) (by (with_reducible repeat (first|apply Kd.qs1_|apply Kd.qx1_|apply Kd.R_drew));exact V4.out) hg hat);have n1_:=aK (hb);have n2_:=aK (ho);clear V4;clear HB;clear z8;have V4:=n0_;have HB:=n1_;have HO431:=n2_;clear n0_ n1_ n2_;clear ho hb hg hat))
     go_roundg k1
     case measure=>have:=HK1.out;omega
     case rel=>exact ⟨(aX6),(wrap64 (S9+1)),(by first|rfl|(simp;done)|(simp [*];done)),H',⟨by have:=HK1.out;omega⟩,⟨by (with_reducible repeat (first|apply Kd.qs1_|apply Kd.qx1_|apply Kd.R_drew));exact Kd.R_mono HO431.out (fun _ hk=>trivial)⟩,⟨by repeat (first|(with_reducible first|exact HB.out|apply qb_|apply qa_|apply qc_)|exact HB.out)⟩⟩
    ·rw [if_neg c5] at H
     exact absurd H (by simp)
   ·rw [if_neg c3] at H
    have c3b0:decide (S9<(wrap64 (a1+1)))=false:=decide_eq_false c3
    clear c3
    obtain rfl:=Option.some.inj H
    go_wp2
    go_ret
    exact ⟨_,by first|rfl|(simp [qn_,qo_] <;> rfl)|(simp [*,qn_,qo_] <;> rfl),by (with_reducible repeat (first|apply Kd.qs1_|apply Kd.qx1_|apply Kd.R_drew));exact z8.out,by repeat (first|(with_reducible first|exact HB.out|apply qb_|apply qa_|apply qc_)|exact HB.out)⟩
end Go.Proofs.Ytaiefdhenikiiaa.Base
namespace Go.Proofs.Ytaiefdhenikiiaa.Base
open Go.RowKit Go.Proofs.YtaiefdhenikiiaaW.PrintWords Go.Proofs.YtaiefdhenikiiaaW.PrintLast Go.Proofs.YtaiefdhenikiiaaW.PrintMore
attribute [local go_sem] max2_int qp1_ max_two min_two max_three min_three max_four min_four Go.Proofs.YtaiefdhenikiiaaZ.qw_   -- for this text's walks alone
set_option linter.unusedVariables false
set_option linter.unusedSimpArgs false
def bits_Mul64.f (a0:Int) (a1:Int):Option (Int × Int):=some (IntKind.u64.wrap ((IntKind.u64.wrap ((IntKind.u64.wrap ((a0 / 4294967296)*(a1 / 4294967296)))+((IntKind.u64.wrap ((IntKind.u64.wrap ((a0 / 4294967296)*(Go.bits .and .u64 a1 4294967295)))+((IntKind.u64.wrap ((Go.bits .and .u64 a0 4294967295)*(Go.bits .and .u64 a1 4294967295))) / 4294967296))) / 4294967296)))+((IntKind.u64.wrap ((Go.bits .and .u64 (IntKind.u64.wrap ((IntKind.u64.wrap ((a0 / 4294967296)*(Go.bits .and .u64 a1 4294967295)))+((IntKind.u64.wrap ((Go.bits .and .u64 a0 4294967295)*(Go.bits .and .u64 a1 4294967295))) / 4294967296))) 4294967295)+(IntKind.u64.wrap ((Go.bits .and .u64 a0 4294967295)*(a1 / 4294967296))))) / 4294967296)),IntKind.u64.wrap (a0*a1))
set_option maxHeartbeats 8000000 in
set_option maxRecDepth 100000 in
theorem bits_Mul64.calls (a0:Int) (a1:Int) (r1:Int) (r2:Int) (w:World) (h:bits_Mul64.f a0 a1=some (r1,r2)) :
  Calls Try.prog 227 #[.int .u64 a0,.int .u64 a1] w fun e w'=>e=.returned (.tuple #[.int .u64 r1,.int .u64 r2])∧Drawn0 w w':=by
 have H:(some (IntKind.u64.wrap ((IntKind.u64.wrap ((IntKind.u64.wrap ((a0 / 4294967296)*(a1 / 4294967296)))+((IntKind.u64.wrap ((IntKind.u64.wrap ((a0 / 4294967296)*(Go.bits .and .u64 a1 4294967295)))+((IntKind.u64.wrap ((Go.bits .and .u64 a0 4294967295)*(Go.bits .and .u64 a1 4294967295))) / 4294967296))) / 4294967296)))+((IntKind.u64.wrap ((Go.bits .and .u64 (IntKind.u64.wrap ((IntKind.u64.wrap ((a0 / 4294967296)*(Go.bits .and .u64 a1 4294967295)))+((IntKind.u64.wrap ((Go.bits .and .u64 a0 4294967295)*(Go.bits .and .u64 a1 4294967295))) / 4294967296))) 4294967295)+(IntKind.u64.wrap ((Go.bits .and .u64 a0 4294967295)*(a1 / 4294967296))))) / 4294967296)),IntKind.u64.wrap (a0*a1)))=some (r1,r2):=h
 clear h
 simp only [Option.some.injEq,Prod.mk.injEq] at H
 obtain ⟨rfl,rfl⟩:=H
 go_enter Try.func227,Try.ntmps227
 go_wp2
 go_ret2
 exact ⟨by first|rfl|(simp;done)|(simp [*];done)|(simp [Go.Proofs.YtaiefdhenikiiaaZ.bne_nil];done),by repeat (first|exact Drawn0.refl _|apply Drawn0.step)⟩
end Go.Proofs.Ytaiefdhenikiiaa.Base
namespace Go.Proofs.Ytaiefdhenikiiaa.Base
open Go.RowKit Go.Proofs.YtaiefdhenikiiaaW.PrintWords Go.Proofs.YtaiefdhenikiiaaW.PrintLast Go.Proofs.YtaiefdhenikiiaaW.PrintMore
attribute [local go_sem] max2_int qp1_ max_two min_two max_three min_three max_four min_four Go.Proofs.YtaiefdhenikiiaaZ.qw_   -- for this text's walks alone
set_option linter.unusedVariables false
set_option linter.unusedSimpArgs false
def bits_Mul.f (a0:Int) (a1:Int):Option (Int × Int):=(bits_Mul64.f a0 a1).bind fun Y7=>(some (Y7.1,Y7.2))
set_option maxHeartbeats 8000000 in
set_option maxRecDepth 100000 in
theorem bits_Mul.calls (a0:Int) (a1:Int) (r1:Int) (r2:Int) (w:World) (h:bits_Mul.f a0 a1=some (r1,r2)) :
  Calls Try.prog 216 #[.int .u64 a0,.int .u64 a1] w fun e w'=>e=.returned (.tuple #[.int .u64 r1,.int .u64 r2])∧Drawn0 w w':=by
 have H:((bits_Mul64.f a0 a1).bind fun Y7=>(some (Y7.1,Y7.2)))=some (r1,r2):=h
 clear h
 replace H:=Option.bind_eq_some_iff.mp H
 obtain ⟨⟨aY0,aX9⟩,A30,H⟩:=H
 replace H:(some (aY0,aX9))=some (r1,r2):=H
 have A3:=aK A30
 clear A30
 simp only [Option.some.injEq,Prod.mk.injEq] at H
 obtain ⟨rfl,rfl⟩:=H
 go_enter Try.func216,Try.ntmps216
 go_wp2_with (first|((with_reducible refine qy_ (f:=227) rfl ?_);refine goesL_ (some 25) rfl rfl Try.func227 (by kernel_rfl) rfl #[.int .u64 a0,.int .u64 a1] rfl (by (try simp only [List.map_toArray,List.map_cons,List.map_nil]);first|done|rfl|(simp only [List.length_drop,List.length_take];rfl)) ?_;(with_reducible refine (bits_Mul64.calls a0 a1 aY0 aX9 _ A3.out).mono ?_);rintro e w' ⟨rfl,⟨nd,rfl⟩⟩;refine ⟨_,rfl,?_⟩))
 go_ret2
 exact ⟨by first|rfl|(simp;done)|(simp [*];done)|(simp [Go.Proofs.YtaiefdhenikiiaaZ.bne_nil];done),by repeat (first|exact Drawn0.refl _|apply Drawn0.step)⟩
end Go.Proofs.Ytaiefdhenikiiaa.Base
namespace Go.Proofs.Ytaiefdhenikiiaa.Base
open Go.RowKit Go.Proofs.YtaiefdhenikiiaaW.PrintWords Go.Proofs.YtaiefdhenikiiaaW.PrintLast Go.Proofs.YtaiefdhenikiiaaW.PrintMore
attribute [local go_sem] max2_int qp1_ max_two min_two max_three min_three max_four min_four Go.Proofs.YtaiefdhenikiiaaZ.qw_   -- for this text's walks alone
set_option linter.unusedVariables false
set_option linter.unusedSimpArgs false
def impl_whole.f (a0:Int):Option (Int × Int):=some (a0,1)
set_option maxHeartbeats 8000000 in
set_option maxRecDepth 100000 in
theorem impl_whole.calls (a0:Int) (r1:Int) (r2:Int) (w:World) (h:impl_whole.f a0=some (r1,r2)) :
  Calls Try.prog 165 #[.int .i64 a0] w fun e w'=>e=.returned (.agg #[.int .i64 r1,.int .i64 r2])∧Below w.heap.size w w':=by
 have hu77:=Try.underlying77
 have HB:=aK (Below.refl w.heap.size w)
 have H:(some (a0,1))=some (r1,r2):=h
 clear h
 simp only [Option.some.injEq,Prod.mk.injEq] at H
 obtain ⟨rfl,rfl⟩:=H
 go_enter Try.func165,Try.ntmps165
 go_wp2_with (first|((with_reducible refine qt_ (N:=2) rfl ?_);refine qr_ ?hg (N:=2) ?hd (cs:=#[.int .i64 0,.int .i64 0]) (t:=77) ?hr ?_;(case hd=>rfl);(case hg=>rfl);(case hr=>first|(go_simp;done)|(go_simp;rfl));intro Y5 hg w2 hbox hb;have n0_:=aK (qh_ (by repeat (first|(with_reducible first|exact HB.out|apply qb_|apply qa_|apply qc_)|exact HB.out)) hb);have n1_:=aK (hbox);have n2_:=aK ((by rw [hg];exact (ql_ (by repeat (first|(with_reducible first|exact HB.out|apply qb_|apply qa_|apply qc_)|exact HB.out))):w.heap.size≤Y5));have n3_:=aK ((by rw [hg];exact (ql_ (by repeat (first|(with_reducible first|exact HB.out|apply qb_|apply qa_|apply qc_)|exact HB.out))):w.heap.size≤Y5));clear HB;have HB:=n0_;have Z4:=n1_;have GW790:=n2_;have GE790:=n3_;clear n0_ n1_ n2_ n3_;clear hb hbox hg;have hcz3_0:w2.cell? ⟨Y5,0,none⟩=some (.int .i64 0):=(qe_ Z4.out 0).trans rfl;have hcz3_1:w2.cell? ⟨Y5,1,none⟩=some (.int .i64 0):=(qe_ Z4.out 1).trans rfl;have hfz3_0:=qd_ Z4.out 0;have hfz3_1:=qd_ Z4.out 1))
 refine bodyPost_ret (results_cell_row rfl _ _ Y5 77 #[.int .i64 a0,.int .i64 1] (0,0) _ rfl (by (with_reducible repeat (first|refine qg_ ?_ _|refine qj_ ?_|refine qf_ ?_ _));refine ql1_ (cs:=#[.int .i64 a0,.int .i64 0]) ?_ 1 _ rfl;(with_reducible repeat (first|refine qg_ ?_ _|refine qj_ ?_|refine qf_ ?_ _));refine ql1_ (cs:=#[.int .i64 0,.int .i64 0]) ?_ 0 _ rfl;(with_reducible repeat (first|refine qg_ ?_ _|refine qj_ ?_|refine qf_ ?_ _));exact Z4.out) Try.underlying77 rfl (by kernel_rfl)) rfl ?_
 exact ⟨by first|rfl|(simp [qn_,qo_] <;> rfl)|(simp [*,qn_,qo_] <;> rfl),by repeat (first|(with_reducible first|exact HB.out|apply qb_|apply qa_|apply qc_|refine qi_ ?_ GE790.out)|exact HB.out)⟩
end Go.Proofs.Ytaiefdhenikiiaa.Base
namespace Go.Proofs.Ytaiefdhenikiiaa.Base
open Go.RowKit Go.Proofs.YtaiefdhenikiiaaW.PrintWords Go.Proofs.YtaiefdhenikiiaaW.PrintLast Go.Proofs.YtaiefdhenikiiaaW.PrintMore
attribute [local go_sem] max2_int qp1_ max_two min_two max_three min_three max_four min_four Go.Proofs.YtaiefdhenikiiaaZ.qw_   -- for this text's walks alone
set_option linter.unusedVariables false
set_option linter.unusedSimpArgs false
def qc2_.f (k:Nat) (a0_0:Int) (a0_1:Int) (l0_2:List (S79)) (a1_0:Int) (a1_1:Int) (l1_2:List (S79)):Option (Bool):=if a0_0=a1_0 then (if a0_1=a1_1 then ((qc1_.f k l0_2 l1_2).bind fun aJ5=>(if aJ5=true then (some true) else (some false))) else (some false)) else (some false)
theorem qc2_.mono:∀ a0 a1 a2 a3 a4 a5 k,LeO (qc2_.f k a0 a1 a2 a3 a4 a5) (qc2_.f (k+1) a0 a1 a2 a3 a4 a5):=by
 intro a0 a1 a2 a3 a4 a5 k
 unfold qc2_.f
 repeat' first
   | (with_reducible exact qc1_.mono _ _ _)
   | (with_reducible exact LeO.refl _)
   | (with_reducible exact LeO.none _)
   | (with_reducible refine LeO.ite ?_ ?_)
   | (with_reducible refine LeO.bind ?_ (fun _=>?_))
   | exact qc1_.mono _ _ _
   | exact LeO.none _
   | refine LeO.ite ?_ ?_
   | refine LeO.bind ?_ (fun _=>?_)
set_option maxHeartbeats 8000000 in
set_option maxRecDepth 100000 in
theorem qc2_.calls (k:Nat) (a0_0:Int) (a0_1:Int) (A0_2:Option Addr) (c0_2:Nat) (l0_2:List (S79)) (a1_0:Int) (a1_1:Int) (A1_2:Option Addr) (c1_2:Nat) (l1_2:List (S79)) (r:Bool) (w:World) (hr0_2:Kd.C k79 w A0_2 l0_2.length l0_2) (hc0_2:l0_2.length≤c0_2) (hr1_2:Kd.C k79 w A1_2 l1_2.length l1_2) (hc1_2:l1_2.length≤c1_2) (h:qc2_.f k a0_0 a0_1 l0_2 a1_0 a1_1 l1_2=some r) :
  Calls Try.prog 33 #[.agg #[.int .i64 a0_0,.int .i64 a0_1,.slice A0_2 l0_2.length c0_2],.agg #[.int .i64 a1_0,.int .i64 a1_1,.slice A1_2 l1_2.length c1_2]] w fun e w'=>e=.returned (.bool r)∧Below w.heap.size w w':=by
 have hu38:=Try.underlying38
 have HR0_2:=aK hr0_2
 have HC0_2:=aK hc0_2
 clear hr0_2 hc0_2
 have HR1_2:=aK hr1_2
 have HC1_2:=aK hc1_2
 clear hr1_2 hc1_2
 have HB:=aK (Below.refl w.heap.size w)
 have H:(if a0_0=a1_0 then (if a0_1=a1_1 then ((qc1_.f k l0_2 l1_2).bind fun aJ5=>(if aJ5=true then (some true) else (some false))) else (some false)) else (some false))=some r:=h
 clear h
 by_cases c3:a0_0=a1_0
 ·rw [if_pos c3] at H
  have c3b0:(a0_0==a1_0)=true:=beq_iff_eq.mpr c3
  have c3b1:(a0_0 != a1_0)=false:=bne_eq_false_iff_eq.mpr c3
  clear c3
  by_cases c4:a0_1=a1_1
  ·rw [if_pos c4] at H
   have c4b0:(a0_1==a1_1)=true:=beq_iff_eq.mpr c4
   have c4b1:(a0_1 != a1_1)=false:=bne_eq_false_iff_eq.mpr c4
   clear c4
   replace H:=Option.bind_eq_some_iff.mp H
   obtain ⟨aJ5,A50,H⟩:=H
   replace H:(if aJ5=true then (some true) else (some false))=some r:=H
   have A5:=aK A50
   clear A50
   by_cases c6:aJ5=true
   ·subst c6
    have H1:(some true)=some r:=by rw [if_pos rfl] at H;exact H
    clear H
    have H:=H1
    clear H1
    obtain rfl:=Option.some.inj H
    go_enter Try.func33,Try.ntmps33
    go_wp2_with (first|((with_reducible refine qt_ (N:=2) rfl ?_);refine qr_ ?hg (N:=2) ?hd (cs:=#[.int .i64 a0_0,.int .i64 a0_1,.slice A0_2 l0_2.length c0_2]) (t:=38) ?hr ?_;(case hd=>rfl);(case hg=>rfl);(case hr=>first|(go_simp;done)|(go_simp;rfl));intro j5 hg w7 hbox hb;have n0_:=aK (qh_ (by repeat (first|(with_reducible first|exact HB.out|apply qb_|apply qa_|apply qc_)|exact HB.out)) hb);have n1_:=aK (hbox);have n2_:=aK ((by rw [hg];exact (ql_ (by repeat (first|(with_reducible first|exact HB.out|apply qb_|apply qa_|apply qc_)|exact HB.out))):w.heap.size≤j5));have n3_:=aK ((by rw [hg];exact (ql_ (by repeat (first|(with_reducible first|exact HB.out|apply qb_|apply qa_|apply qc_)|exact HB.out))):w.heap.size≤j5));clear HB;have HB:=n0_;have j4:=n1_;have aQ1:=n2_;have D7:=n3_;clear n0_ n1_ n2_ n3_;clear hb hbox hg)|((with_reducible refine qt_ (N:=3) rfl ?_);refine qr_ ?hg (N:=3) ?hd (cs:=#[.int .i64 a1_0,.int .i64 a1_1,.slice A1_2 l1_2.length c1_2]) (t:=38) ?hr ?_;(case hd=>rfl);(case hg=>rfl);(case hr=>first|(go_simp;done)|(go_simp;rfl));intro l8 hg w8 hbox hb;have n0_:=aK (qk_ (g:=j5) (o:=.cells #[.int .i64 a0_0,.int .i64 a0_1,.slice A0_2 l0_2.length c0_2] 38 (0,0)) (by (with_reducible repeat (first|refine qg_ ?_ _|refine qj_ ?_|refine qf_ ?_ _));exact j4.out) hb);have n1_:=aK (qh_ (by repeat (first|(with_reducible first|exact HB.out|apply qb_|apply qa_|apply qc_|refine qi_ ?_ D7.out)|exact HB.out)) hb);have n2_:=aK (hbox);have n3_:=aK ((by rw [hg];exact (ql_ (by repeat (first|(with_reducible first|exact HB.out|apply qb_|apply qa_|apply qc_|refine qi_ ?_ D7.out)|exact HB.out))):w.heap.size≤l8));have n4_:=aK ((by rw [hg];exact (ql_ (by repeat (first|(with_reducible first|exact HB.out|apply qb_|apply qa_|apply qc_|refine qi_ ?_ D7.out)|exact HB.out))):w.heap.size≤l8));have n5_:=aK ((by rw [hg];exact Nat.ne_of_lt (blk_lt (g:=j5) (o:=.cells #[.int .i64 a0_0,.int .i64 a0_1,.slice A0_2 l0_2.length c0_2] 38 (0,0)) (by (with_reducible repeat (first|refine qg_ ?_ _|refine qj_ ?_|refine qf_ ?_ _));exact j4.out)):j5≠l8));have n6_:=aK ((by rw [hg];exact Nat.ne_of_gt (blk_lt (g:=j5) (o:=.cells #[.int .i64 a0_0,.int .i64 a0_1,.slice A0_2 l0_2.length c0_2] 38 (0,0)) (by (with_reducible repeat (first|refine qg_ ?_ _|refine qj_ ?_|refine qf_ ?_ _));exact j4.out)):l8≠j5));clear j4;clear HB;have j4:=n0_;have HB:=n1_;have o6:=n2_;have aQ0:=n3_;have Q7:=n4_;have H9:=n5_;have H7:=n6_;clear n0_ n1_ n2_ n3_ n4_ n5_ n6_;clear hb hbox hg;have hnb9:=H9.out;have hnc9:=H7.out;have hcz10_0:w8.cell? ⟨j5,0,none⟩=some (.int .i64 a0_0):=(qe_ j4.out 0).trans rfl;have hcz10_1:w8.cell? ⟨j5,1,none⟩=some (.int .i64 a0_1):=(qe_ j4.out 1).trans rfl;have hcz10_2:w8.cell? ⟨j5,2,none⟩=some (.slice A0_2 l0_2.length c0_2):=(qe_ j4.out 2).trans rfl;have hfz10_0:=qd_ j4.out 0;have hfz10_1:=qd_ j4.out 1;have hfz10_2:=qd_ j4.out 2;have hcz11_0:w8.cell? ⟨l8,0,none⟩=some (.int .i64 a1_0):=(qe_ o6.out 0).trans rfl;have hcz11_1:w8.cell? ⟨l8,1,none⟩=some (.int .i64 a1_1):=(qe_ o6.out 1).trans rfl;have hcz11_2:w8.cell? ⟨l8,2,none⟩=some (.slice A1_2 l1_2.length c1_2):=(qe_ o6.out 2).trans rfl;have hfz11_0:=qd_ o6.out 0;have hfz11_1:=qd_ o6.out 1;have hfz11_2:=qd_ o6.out 2)|((with_reducible refine qy_ (f:=25) rfl ?_);refine goesL_ (some 19) rfl rfl Try.func25 (by kernel_rfl) rfl #[.slice A0_2 l0_2.length c0_2,.slice A1_2 l1_2.length c1_2] rfl (by (try simp only [List.map_toArray,List.map_cons,List.map_nil]);first|done|rfl|(simp only [List.length_drop,List.length_take];rfl)) ?_;(with_reducible refine (qc1_.calls k _ _ l0_2 _ _ l1_2 true _ ?side1 ?side2 ?side3 ?side4 A5.out).mono ?_);(case side1=>repeat (first|exact (Kd.qd1_ HR0_2.out HB.out)|(with_reducible refine Kd.qx2_ ?_ _)|(with_reducible refine Kd.qw2_ ?_ _)|(with_reducible refine Kd.C_drew ?_)));(case side2=>exact HC0_2.out);(case side3=>repeat (first|exact (Kd.qd1_ HR1_2.out HB.out)|(with_reducible refine Kd.qx2_ ?_ _)|(with_reducible refine Kd.qw2_ ?_ _)|(with_reducible refine Kd.C_drew ?_)));(case side4=>exact HC1_2.out);rintro e w12 ⟨rfl,hb⟩;refine ⟨_,rfl,?_⟩;have n0_:=aK (qk_ (g:=j5) (o:=.cells #[.int .i64 a0_0,.int .i64 a0_1,.slice A0_2 l0_2.length c0_2] 38 (0,0)) (by (with_reducible repeat (first|refine qg_ ?_ _|refine qj_ ?_|refine qf_ ?_ _));exact j4.out) hb);have n1_:=aK (qk_ (g:=l8) (o:=.cells #[.int .i64 a1_0,.int .i64 a1_1,.slice A1_2 l1_2.length c1_2] 38 (0,0)) (by (with_reducible repeat (first|refine qg_ ?_ _|refine qj_ ?_|refine qf_ ?_ _));exact o6.out) hb);have n2_:=aK (qh_ (by repeat (first|(with_reducible first|exact HB.out|apply qb_|apply qa_|apply qc_|refine qi_ ?_ D7.out|refine qi_ ?_ Q7.out)|exact HB.out)) hb);clear j4;clear o6;clear HB;have j4:=n0_;have o6:=n1_;have HB:=n2_;clear n0_ n1_ n2_;(try clear hb);(try clear hb2);(try clear hk);(try clear hi)))
    go_ret
    exact ⟨by first|rfl|(simp [qn_,qo_] <;> rfl)|(simp [*,qn_,qo_] <;> rfl),by repeat (first|(with_reducible first|exact HB.out|apply qb_|apply qa_|apply qc_|refine qi_ ?_ D7.out|refine qi_ ?_ Q7.out)|exact HB.out)⟩
   ·replace c6:=Bool.eq_false_iff.mpr c6
    subst c6
    have H1:(some false)=some r:=by rw [if_neg (show ¬ (false=true) by decide)] at H;exact H
    clear H
    have H:=H1
    clear H1
    obtain rfl:=Option.some.inj H
    go_enter Try.func33,Try.ntmps33
    go_wp2_with (first|((with_reducible refine qt_ (N:=2) rfl ?_);refine qr_ ?hg (N:=2) ?hd (cs:=#[.int .i64 a0_0,.int .i64 a0_1,.slice A0_2 l0_2.length c0_2]) (t:=38) ?hr ?_;(case hd=>rfl);(case hg=>rfl);(case hr=>first|(go_simp;done)|(go_simp;rfl));intro j5 hg w13 hbox hb;have n0_:=aK (qh_ (by repeat (first|(with_reducible first|exact HB.out|apply qb_|apply qa_|apply qc_)|exact HB.out)) hb);have n1_:=aK (hbox);have n2_:=aK ((by rw [hg];exact (ql_ (by repeat (first|(with_reducible first|exact HB.out|apply qb_|apply qa_|apply qc_)|exact HB.out))):w.heap.size≤j5));have n3_:=aK ((by rw [hg];exact (ql_ (by repeat (first|(with_reducible first|exact HB.out|apply qb_|apply qa_|apply qc_)|exact HB.out))):w.heap.size≤j5));clear HB;have HB:=n0_;have j4:=n1_;have aQ1:=n2_;have D7:=n3_;clear n0_ n1_ n2_ n3_;clear hb hbox hg)|((with_reducible refine qt_ (N:=3) rfl ?_);refine qr_ ?hg (N:=3) ?hd (cs:=#[.int .i64 a1_0,.int .i64 a1_1,.slice A1_2 l1_2.length c1_2]) (t:=38) ?hr ?_;(case hd=>rfl);(case hg=>rfl);(case hr=>first|(go_simp;done)|(go_simp;rfl));intro l8 hg w14 hbox hb;have n0_:=aK (qk_ (g:=j5) (o:=.cells #[.int .i64 a0_0,.int .i64 a0_1,.slice A0_2 l0_2.length c0_2] 38 (0,0)) (by (with_reducible repeat (first|refine qg_ ?_ _|refine qj_ ?_|refine qf_ ?_ _));exact j4.out) hb);have n1_:=aK (qh_ (by repeat (first|(with_reducible first|exact HB.out|apply qb_|apply qa_|apply qc_|refine qi_ ?_ D7.out)|exact HB.out)) hb);have n2_:=aK (hbox);have n3_:=aK ((by rw [hg];exact (ql_ (by repeat (first|(with_reducible first|exact HB.out|apply qb_|apply qa_|apply qc_|refine qi_ ?_ D7.out)|exact HB.out))):w.heap.size≤l8));have n4_:=aK ((by rw [hg];exact (ql_ (by repeat (first|(with_reducible first|exact HB.out|apply qb_|apply qa_|apply qc_|refine qi_ ?_ D7.out)|exact HB.out))):w.heap.size≤l8));have n5_:=aK ((by rw [hg];exact Nat.ne_of_lt (blk_lt (g:=j5) (o:=.cells #[.int .i64 a0_0,.int .i64 a0_1,.slice A0_2 l0_2.length c0_2] 38 (0,0)) (by (with_reducible repeat (first|refine qg_ ?_ _|refine qj_ ?_|refine qf_ ?_ _));exact j4.out)):j5≠l8));have n6_:=aK ((by rw [hg];exact Nat.ne_of_gt (blk_lt (g:=j5) (o:=.cells #[.int .i64 a0_0,.int .i64 a0_1,.slice A0_2 l0_2.length c0_2] 38 (0,0)) (by (with_reducible repeat (first|refine qg_ ?_ _|refine qj_ ?_|refine qf_ ?_ _));exact j4.out)):l8≠j5));clear j4;clear HB;have j4:=n0_;have HB:=n1_;have o6:=n2_;have aQ0:=n3_;have Q7:=n4_;have H9:=n5_;have H7:=n6_;clear n0_ n1_ n2_ n3_ n4_ n5_ n6_;clear hb hbox hg;have hnb15:=H9.out;have hnc15:=H7.out;have hcz16_0:w14.cell? ⟨j5,0,none⟩=some (.int .i64 a0_0):=(qe_ j4.out 0).trans rfl;have hcz16_1:w14.cell? ⟨j5,1,none⟩=some (.int .i64 a0_1):=(qe_ j4.out 1).trans rfl;have hcz16_2:w14.cell? ⟨j5,2,none⟩=some (.slice A0_2 l0_2.length c0_2):=(qe_ j4.out 2).trans rfl;have hfz16_0:=qd_ j4.out 0;have hfz16_1:=qd_ j4.out 1;have hfz16_2:=qd_ j4.out 2;have hcz17_0:w14.cell? ⟨l8,0,none⟩=some (.int .i64 a1_0):=(qe_ o6.out 0).trans rfl;have hcz17_1:w14.cell? ⟨l8,1,none⟩=some (.int .i64 a1_1):=(qe_ o6.out 1).trans rfl;have hcz17_2:w14.cell? ⟨l8,2,none⟩=some (.slice A1_2 l1_2.length c1_2):=(qe_ o6.out 2).trans rfl;have hfz17_0:=qd_ o6.out 0;have hfz17_1:=qd_ o6.out 1;have hfz17_2:=qd_ o6.out 2)|((with_reducible refine qy_ (f:=25) rfl ?_);refine goesL_ (some 19) rfl rfl Try.func25 (by kernel_rfl) rfl #[.slice A0_2 l0_2.length c0_2,.slice A1_2 l1_2.length c1_2] rfl (by (try simp only [List.map_toArray,List.map_cons,List.map_nil]);first|done|rfl|(simp only [List.length_drop,List.length_take];rfl)) ?_;(with_reducible refine (qc1_.calls k _ _ l0_2 _ _ l1_2 false _ ?side1 ?side2 ?side3 ?side4 A5.out).mono ?_);(case side1=>repeat (first|exact (Kd.qd1_ HR0_2.out HB.out)|(with_reducible refine Kd.qx2_ ?_ _)|(with_reducible refine Kd.qw2_ ?_ _)|(with_reducible refine Kd.C_drew ?_)));(case side2=>exact HC0_2.out);(case side3=>repeat (first|exact (Kd.qd1_ HR1_2.out HB.out)|(with_reducible refine Kd.qx2_ ?_ _)|(with_reducible refine Kd.qw2_ ?_ _)|(with_reducible refine Kd.C_drew ?_)));(case side4=>exact HC1_2.out);rintro e w18 ⟨rfl,hb⟩;refine ⟨_,rfl,?_⟩;have n0_:=aK (qk_ (g:=j5) (o:=.cells #[.int .i64 a0_0,.int .i64 a0_1,.slice A0_2 l0_2.length c0_2] 38 (0,0)) (by (with_reducible repeat (first|refine qg_ ?_ _|refine qj_ ?_|refine qf_ ?_ _));exact j4.out) hb);have n1_:=aK (qk_ (g:=l8) (o:=.cells #[.int .i64 a1_0,.int .i64 a1_1,.slice A1_2 l1_2.length c1_2] 38 (0,0)) (by (with_reducible repeat (first|refine qg_ ?_ _|refine qj_ ?_|refine qf_ ?_ _));exact o6.out) hb);have n2_:=aK (qh_ (by repeat (first|(with_reducible first|exact HB.out|apply qb_|apply qa_|apply qc_|refine qi_ ?_ D7.out|refine qi_ ?_ Q7.out)|exact HB.out)) hb);clear j4;clear o6;clear HB;have j4:=n0_;have o6:=n1_;have HB:=n2_;clear n0_ n1_ n2_;(try clear hb);(try clear hb2);(try clear hk);(try clear hi)))
    go_ret
    exact ⟨by first|rfl|(simp [qn_,qo_] <;> rfl)|(simp [*,qn_,qo_] <;> rfl),by repeat (first|(with_reducible first|exact HB.out|apply qb_|apply qa_|apply qc_|refine qi_ ?_ D7.out|refine qi_ ?_ Q7.out)|exact HB.out)⟩
  ·rw [if_neg c4] at H
   have c4b0:(a0_1==a1_1)=false:=beq_eq_false_iff_ne.mpr c4
   have c4b1:(a0_1 != a1_1)=true:=bne_iff_ne.mpr c4
   obtain rfl:=Option.some.inj H
   go_enter Try.func33,Try.ntmps33
   go_wp2_with (first|((with_reducible refine qt_ (N:=2) rfl ?_);refine qr_ ?hg (N:=2) ?hd (cs:=#[.int .i64 a0_0,.int .i64 a0_1,.slice A0_2 l0_2.length c0_2]) (t:=38) ?hr ?_;(case hd=>rfl);(case hg=>rfl);(case hr=>first|(go_simp;done)|(go_simp;rfl));intro j5 hg w19 hbox hb;have n0_:=aK (qh_ (by repeat (first|(with_reducible first|exact HB.out|apply qb_|apply qa_|apply qc_)|exact HB.out)) hb);have n1_:=aK (hbox);have n2_:=aK ((by rw [hg];exact (ql_ (by repeat (first|(with_reducible first|exact HB.out|apply qb_|apply qa_|apply qc_)|exact HB.out))):w.heap.size≤j5));have n3_:=aK ((by rw [hg];exact (ql_ (by repeat (first|(with_reducible first|exact HB.out|apply qb_|apply qa_|apply qc_)|exact HB.out))):w.heap.size≤j5));clear HB;have HB:=n0_;have j4:=n1_;have aQ1:=n2_;have D7:=n3_;clear n0_ n1_ n2_ n3_;clear hb hbox hg)|((with_reducible refine qt_ (N:=3) rfl ?_);refine qr_ ?hg (N:=3) ?hd (cs:=#[.int .i64 a1_0,.int .i64 a1_1,.slice A1_2 l1_2.length c1_2]) (t:=38) ?hr ?_;(case hd=>rfl);(case hg=>rfl);(case hr=>first|(go_simp;done)|(go_simp;rfl));intro l8 hg w20 hbox hb;have n0_:=aK (qk_ (g:=j5) (o:=.cells #[.int .i64 a0_0,.int .i64 a0_1,.slice A0_2 l0_2.length c0_2] 38 (0,0)) (by (with_reducible repeat (first|refine qg_ ?_ _|refine qj_ ?_|refine qf_ ?_ _));exact j4.out) hb);have n1_:=aK (qh_ (by repeat (first|(with_reducible first|exact HB.out|apply qb_|apply qa_|apply qc_|refine qi_ ?_ D7.out)|exact HB.out)) hb);have n2_:=aK (hbox);have n3_:=aK ((by rw [hg];exact (ql_ (by repeat (first|(with_reducible first|exact HB.out|apply qb_|apply qa_|apply qc_|refine qi_ ?_ D7.out)|exact HB.out))):w.heap.size≤l8));have n4_:=aK ((by rw [hg];exact (ql_ (by repeat (first|(with_reducible first|exact HB.out|apply qb_|apply qa_|apply qc_|refine qi_ ?_ D7.out)|exact HB.out))):w.heap.size≤l8));have n5_:=aK ((by rw [hg];exact Nat.ne_of_lt (blk_lt (g:=j5) (o:=.cells #[.int .i64 a0_0,.int .i64 a0_1,.slice A0_2 l0_2.length c0_2] 38 (0,0)) (by (with_reducible repeat (first|refine qg_ ?_ _|refine qj_ ?_|refine qf_ ?_ _));exact j4.out)):j5≠l8));have n6_:=aK ((by rw [hg];exact Nat.ne_of_gt (blk_lt (g:=j5) (o:=.cells #[.int .i64 a0_0,.int .i64 a0_1,.slice A0_2 l0_2.length c0_2] 38 (0,0)) (by (with_reducible repeat (first|refine qg_ ?_ _|refine qj_ ?_|refine qf_ ?_ _));exact j4.out)):l8≠j5));clear j4;clear HB;have j4:=n0_;have HB:=n1_;have o6:=n2_;have aQ0:=n3_;have Q7:=n4_;have H9:=n5_;have H7:=n6_;clear n0_ n1_ n2_ n3_ n4_ n5_ n6_;clear hb hbox hg;have hnb21:=H9.out;have hnc21:=H7.out;have hcz22_0:w20.cell? ⟨j5,0,none⟩=some (.int .i64 a0_0):=(qe_ j4.out 0).trans rfl;have hcz22_1:w20.cell? ⟨j5,1,none⟩=some (.int .i64 a0_1):=(qe_ j4.out 1).trans rfl;have hcz22_2:w20.cell? ⟨j5,2,none⟩=some (.slice A0_2 l0_2.length c0_2):=(qe_ j4.out 2).trans rfl;have hfz22_0:=qd_ j4.out 0;have hfz22_1:=qd_ j4.out 1;have hfz22_2:=qd_ j4.out 2;have hcz23_0:w20.cell? ⟨l8,0,none⟩=some (.int .i64 a1_0):=(qe_ o6.out 0).trans rfl;have hcz23_1:w20.cell? ⟨l8,1,none⟩=some (.int .i64 a1_1):=(qe_ o6.out 1).trans rfl;have hcz23_2:w20.cell? ⟨l8,2,none⟩=some (.slice A1_2 l1_2.length c1_2):=(qe_ o6.out 2).trans rfl;have hfz23_0:=qd_ o6.out 0;have hfz23_1:=qd_ o6.out 1;have hfz23_2:=qd_ o6.out 2))
   go_ret
   exact ⟨by first|rfl|(simp [qn_,qo_] <;> rfl)|(simp [*,qn_,qo_] <;> rfl),by repeat (first|(with_reducible first|exact HB.out|apply qb_|apply qa_|apply qc_|refine qi_ ?_ D7.out|refine qi_ ?_ Q7.out)|exact HB.out)⟩
 ·rw [if_neg c3] at H
  have c3b0:(a0_0==a1_0)=false:=beq_eq_false_iff_ne.mpr c3
  have c3b1:(a0_0 != a1_0)=true:=bne_iff_ne.mpr c3
  obtain rfl:=Option.some.inj H
  go_enter Try.func33,Try.ntmps33
  go_wp2_with (first|((with_reducible refine qt_ (N:=2) rfl ?_);refine qr_ ?hg (N:=2) ?hd (cs:=#[.int .i64 a0_0,.int .i64 a0_1,.slice A0_2 l0_2.length c0_2]) (t:=38) ?hr ?_;(case hd=>rfl);(case hg=>rfl);(case hr=>first|(go_simp;done)|(go_simp;rfl));intro j5 hg w24 hbox hb;have n0_:=aK (qh_ (by repeat (first|(with_reducible first|exact HB.out|apply qb_|apply qa_|apply qc_)|exact HB.out)) hb);have n1_:=aK (hbox);have n2_:=aK ((by rw [hg];exact (ql_ (by repeat (first|(with_reducible first|exact HB.out|apply qb_|apply qa_|apply qc_)|exact HB.out))):w.heap.size≤j5));have n3_:=aK ((by rw [hg];exact (ql_ (by repeat (first|(with_reducible first|exact HB.out|apply qb_|apply qa_|apply qc_)|exact HB.out))):w.heap.size≤j5));clear HB;have HB:=n0_;have j4:=n1_;have aQ1:=n2_;have D7:=n3_;clear n0_ n1_ n2_ n3_;clear hb hbox hg)|((with_reducible refine qt_ (N:=3) rfl ?_);refine qr_ ?hg (N:=3) ?hd (cs:=#[.int .i64 a1_0,.int .i64 a1_1,.slice A1_2 l1_2.length c1_2]) (t:=38) ?hr ?_;(case hd=>rfl);(case hg=>rfl);(case hr=>first|(go_simp;done)|(go_simp;rfl));intro l8 hg w25 hbox hb;have n0_:=aK (qk_ (g:=j5) (o:=.cells #[.int .i64 a0_0,.int .i64 a0_1,.slice A0_2 l0_2.length c0_2] 38 (0,0)) (by (with_reducible repeat (first|refine qg_ ?_ _|refine qj_ ?_|refine qf_ ?_ _));exact j4.out) hb);have n1_:=aK (qh_ (by repeat (first|(with_reducible first|exact HB.out|apply qb_|apply qa_|apply qc_|refine qi_ ?_ D7.out)|exact HB.out)) hb);have n2_:=aK (hbox);have n3_:=aK ((by rw [hg];exact (ql_ (by repeat (first|(with_reducible first|exact HB.out|apply qb_|apply qa_|apply qc_|refine qi_ ?_ D7.out)|exact HB.out))):w.heap.size≤l8));have n4_:=aK ((by rw [hg];exact (ql_ (by repeat (first|(with_reducible first|exact HB.out|apply qb_|apply qa_|apply qc_|refine qi_ ?_ D7.out)|exact HB.out))):w.heap.size≤l8));have n5_:=aK ((by rw [hg];exact Nat.ne_of_lt (blk_lt (g:=j5) (o:=.cells #[.int .i64 a0_0,.int .i64 a0_1,.slice A0_2 l0_2.length c0_2] 38 (0,0)) (by (with_reducible repeat (first|refine qg_ ?_ _|refine qj_ ?_|refine qf_ ?_ _));exact j4.out)):j5≠l8));have n6_:=aK ((by rw [hg];exact Nat.ne_of_gt (blk_lt (g:=j5) (o:=.cells #[.int .i64 a0_0,.int .i64 a0_1,.slice A0_2 l0_2.length c0_2] 38 (0,0)) (by (with_reducible repeat (first|refine qg_ ?_ _|refine qj_ ?_|refine qf_ ?_ _));exact j4.out)):l8≠j5));clear j4;clear HB;have j4:=n0_;have HB:=n1_;have o6:=n2_;have aQ0:=n3_;have Q7:=n4_;have H9:=n5_;have H7:=n6_;clear n0_ n1_ n2_ n3_ n4_ n5_ n6_;clear hb hbox hg;have hnb26:=H9.out;have hnc26:=H7.out;have hcz27_0:w25.cell? ⟨j5,0,none⟩=some (.int .i64 a0_0):=(qe_ j4.out 0).trans rfl;have hcz27_1:w25.cell? ⟨j5,1,none⟩=some (.int .i64 a0_1):=(qe_ j4.out 1).trans rfl;have hcz27_2:w25.cell? ⟨j5,2,none⟩=some (.slice A0_2 l0_2.length c0_2):=(qe_ j4.out 2).trans rfl;have hfz27_0:=qd_ j4.out 0;have hfz27_1:=qd_ j4.out 1;have hfz27_2:=qd_ j4.out 2;have hcz28_0:w25.cell? ⟨l8,0,none⟩=some (.int .i64 a1_0):=(qe_ o6.out 0).trans rfl;have hcz28_1:w25.cell? ⟨l8,1,none⟩=some (.int .i64 a1_1):=(qe_ o6.out 1).trans rfl;have hcz28_2:w25.cell? ⟨l8,2,none⟩=some (.slice A1_2 l1_2.length c1_2):=(qe_ o6.out 2).trans rfl;have hfz28_0:=qd_ o6.out 0;have hfz28_1:=qd_ o6.out 1;have hfz28_2:=qd_ o6.out 2))
  go_ret
  exact ⟨by first|rfl|(simp [qn_,qo_] <;> rfl)|(simp [*,qn_,qo_] <;> rfl),by repeat (first|(with_reducible first|exact HB.out|apply qb_|apply qa_|apply qc_|refine qi_ ?_ D7.out|refine qi_ ?_ Q7.out)|exact HB.out)⟩
end Go.Proofs.Ytaiefdhenikiiaa.Base
namespace Go.Proofs.Ytaiefdhenikiiaa.Base
open Go.RowKit Go.Proofs.YtaiefdhenikiiaaW.PrintWords Go.Proofs.YtaiefdhenikiiaaW.PrintLast Go.Proofs.YtaiefdhenikiiaaW.PrintMore
attribute [local go_sem] max2_int qp1_ max_two min_two max_three min_three max_four min_four Go.Proofs.YtaiefdhenikiiaaZ.qw_   -- for this text's walks alone
set_option linter.unusedVariables false
set_option linter.unusedSimpArgs false
def qk2_.f (k:Nat) (a0_0:Int) (a0_1:Int) (l0_2:List (S79)) (a1:Int):Option (Int):=(qv_.f k l0_2 a1).bind fun Q9=>(if Q9<0 then (some (-1)) else (some Q9))
theorem qk2_.mono:∀ a0 a1 a2 a3 k,LeO (qk2_.f k a0 a1 a2 a3) (qk2_.f (k+1) a0 a1 a2 a3):=by
 intro a0 a1 a2 a3 k
 unfold qk2_.f
 repeat' first
   | (with_reducible exact qv_.mono _ _ _)
   | (with_reducible exact LeO.refl _)
   | (with_reducible exact LeO.none _)
   | (with_reducible refine LeO.ite ?_ ?_)
   | (with_reducible refine LeO.bind ?_ (fun _=>?_))
   | exact qv_.mono _ _ _
   | exact LeO.none _
   | refine LeO.ite ?_ ?_
   | refine LeO.bind ?_ (fun _=>?_)
set_option maxHeartbeats 8000000 in
set_option maxRecDepth 100000 in
theorem qk2_.calls (k:Nat) (a0_0:Int) (a0_1:Int) (A0_2:Option Addr) (c0_2:Nat) (l0_2:List (S79)) (a1:Int) (r:Int) (w:World) (hr0_2:Kd.C k79 w A0_2 l0_2.length l0_2) (hc0_2:l0_2.length≤c0_2) (h:qk2_.f k a0_0 a0_1 l0_2 a1=some r) :
  Calls Try.prog 39 #[.agg #[.int .i64 a0_0,.int .i64 a0_1,.slice A0_2 l0_2.length c0_2],.int .i64 a1] w fun e w'=>e=.returned (.int .i64 r)∧Below w.heap.size w w':=by
 have hu38:=Try.underlying38
 have HR0_2:=aK hr0_2
 have HC0_2:=aK hc0_2
 clear hr0_2 hc0_2
 have HB:=aK (Below.refl w.heap.size w)
 have H:((qv_.f k l0_2 a1).bind fun Q9=>(if Q9<0 then (some (-1)) else (some Q9)))=some r:=h
 clear h
 replace H:=Option.bind_eq_some_iff.mp H
 obtain ⟨Q9,A30,H⟩:=H
 replace H:(if Q9<0 then (some (-1)) else (some Q9))=some r:=H
 have A3:=aK A30
 clear A30
 by_cases c4:Q9<0
 ·rw [if_pos c4] at H
  have c4b0:decide (Q9<0)=true:=decide_eq_true c4
  clear c4
  obtain rfl:=Option.some.inj H
  go_enter Try.func39,Try.ntmps39
  go_wp2_with (first|((with_reducible refine qt_ (N:=2) rfl ?_);refine qr_ ?hg (N:=2) ?hd (cs:=#[.int .i64 a0_0,.int .i64 a0_1,.slice A0_2 l0_2.length c0_2]) (t:=38) ?hr ?_;(case hd=>rfl);(case hg=>rfl);(case hr=>first|(go_simp;done)|(go_simp;rfl));intro K5 hg w5 hbox hb;have n0_:=aK (qh_ (by repeat (first|(with_reducible first|exact HB.out|apply qb_|apply qa_|apply qc_)|exact HB.out)) hb);have n1_:=aK (hbox);have n2_:=aK ((by rw [hg];exact (ql_ (by repeat (first|(with_reducible first|exact HB.out|apply qb_|apply qa_|apply qc_)|exact HB.out))):w.heap.size≤K5));have n3_:=aK ((by rw [hg];exact (ql_ (by repeat (first|(with_reducible first|exact HB.out|apply qb_|apply qa_|apply qc_)|exact HB.out))):w.heap.size≤K5));clear HB;have HB:=n0_;have G8:=n1_;have GW485:=n2_;have Y9:=n3_;clear n0_ n1_ n2_ n3_;clear hb hbox hg;have hcz6_0:w5.cell? ⟨K5,0,none⟩=some (.int .i64 a0_0):=(qe_ G8.out 0).trans rfl;have hcz6_1:w5.cell? ⟨K5,1,none⟩=some (.int .i64 a0_1):=(qe_ G8.out 1).trans rfl;have hcz6_2:w5.cell? ⟨K5,2,none⟩=some (.slice A0_2 l0_2.length c0_2):=(qe_ G8.out 2).trans rfl;have hfz6_0:=qd_ G8.out 0;have hfz6_1:=qd_ G8.out 1;have hfz6_2:=qd_ G8.out 2)|((with_reducible refine qy_ (f:=27) rfl ?_);refine goesL_ (some 8) rfl rfl Try.func27 (by kernel_rfl) rfl #[.slice A0_2 l0_2.length c0_2,.int .i64 a1] rfl (by (try simp only [List.map_toArray,List.map_cons,List.map_nil]);first|done|rfl|(simp only [List.length_drop,List.length_take];rfl)) ?_;(with_reducible refine (qv_.calls k _ _ l0_2 a1 Q9 _ ?side1 ?side2 A3.out).mono ?_);(case side1=>repeat (first|exact (Kd.qd1_ HR0_2.out HB.out)|(with_reducible refine Kd.qx2_ ?_ _)|(with_reducible refine Kd.qw2_ ?_ _)|(with_reducible refine Kd.C_drew ?_)));(case side2=>exact HC0_2.out);rintro e w7 ⟨rfl,hb⟩;refine ⟨_,rfl,?_⟩;have n0_:=aK (qk_ (g:=K5) (o:=.cells #[.int .i64 a0_0,.int .i64 a0_1,.slice A0_2 l0_2.length c0_2] 38 (0,0)) (by (with_reducible repeat (first|refine qg_ ?_ _|refine qj_ ?_|refine qf_ ?_ _));exact G8.out) hb);have n1_:=aK (qh_ (by repeat (first|(with_reducible first|exact HB.out|apply qb_|apply qa_|apply qc_|refine qi_ ?_ Y9.out)|exact HB.out)) hb);clear G8;clear HB;have G8:=n0_;have HB:=n1_;clear n0_ n1_;(try clear hb);(try clear hb2);(try clear hk);(try clear hi)))
  go_ret
  exact ⟨by first|rfl|(simp [qn_,qo_] <;> rfl)|(simp [*,qn_,qo_] <;> rfl),by repeat (first|(with_reducible first|exact HB.out|apply qb_|apply qa_|apply qc_|refine qi_ ?_ Y9.out)|exact HB.out)⟩
 ·rw [if_neg c4] at H
  have c4b0:decide (Q9<0)=false:=decide_eq_false c4
  clear c4
  obtain rfl:=Option.some.inj H
  go_enter Try.func39,Try.ntmps39
  go_wp2_with (first|((with_reducible refine qt_ (N:=2) rfl ?_);refine qr_ ?hg (N:=2) ?hd (cs:=#[.int .i64 a0_0,.int .i64 a0_1,.slice A0_2 l0_2.length c0_2]) (t:=38) ?hr ?_;(case hd=>rfl);(case hg=>rfl);(case hr=>first|(go_simp;done)|(go_simp;rfl));intro K5 hg w8 hbox hb;have n0_:=aK (qh_ (by repeat (first|(with_reducible first|exact HB.out|apply qb_|apply qa_|apply qc_)|exact HB.out)) hb);have n1_:=aK (hbox);have n2_:=aK ((by rw [hg];exact (ql_ (by repeat (first|(with_reducible first|exact HB.out|apply qb_|apply qa_|apply qc_)|exact HB.out))):w.heap.size≤K5));have n3_:=aK ((by rw [hg];exact (ql_ (by repeat (first|(with_reducible first|exact HB.out|apply qb_|apply qa_|apply qc_)|exact HB.out))):w.heap.size≤K5));clear HB;have HB:=n0_;have G8:=n1_;have GW485:=n2_;have Y9:=n3_;clear n0_ n1_ n2_ n3_;clear hb hbox hg;have hcz9_0:w8.cell? ⟨K5,0,none⟩=some (.int .i64 a0_0):=(qe_ G8.out 0).trans rfl;have hcz9_1:w8.cell? ⟨K5,1,none⟩=some (.int .i64 a0_1):=(qe_ G8.out 1).trans rfl;have hcz9_2:w8.cell? ⟨K5,2,none⟩=some (.slice A0_2 l0_2.length c0_2):=(qe_ G8.out 2).trans rfl;have hfz9_0:=qd_ G8.out 0;have hfz9_1:=qd_ G8.out 1;have hfz9_2:=qd_ G8.out 2)|((with_reducible refine qy_ (f:=27) rfl ?_);refine goesL_ (some 8) rfl rfl Try.func27 (by kernel_rfl) rfl #[.slice A0_2 l0_2.length c0_2,.int .i64 a1] rfl (by (try simp only [List.map_toArray,List.map_cons,List.map_nil]);first|done|rfl|(simp only [List.length_drop,List.length_take];rfl)) ?_;(with_reducible refine (qv_.calls k _ _ l0_2 a1 Q9 _ ?side1 ?side2 A3.out).mono ?_);(case side1=>repeat (first|exact (Kd.qd1_ HR0_2.out HB.out)|(with_reducible refine Kd.qx2_ ?_ _)|(with_reducible refine Kd.qw2_ ?_ _)|(with_reducible refine Kd.C_drew ?_)));(case side2=>exact HC0_2.out);rintro e w10 ⟨rfl,hb⟩;refine ⟨_,rfl,?_⟩;have n0_:=aK (qk_ (g:=K5) (o:=.cells #[.int .i64 a0_0,.int .i64 a0_1,.slice A0_2 l0_2.length c0_2] 38 (0,0)) (by (with_reducible repeat (first|refine qg_ ?_ _|refine qj_ ?_|refine qf_ ?_ _));exact G8.out) hb);have n1_:=aK (qh_ (by repeat (first|(with_reducible first|exact HB.out|apply qb_|apply qa_|apply qc_|refine qi_ ?_ Y9.out)|exact HB.out)) hb);clear G8;clear HB;have G8:=n0_;have HB:=n1_;clear n0_ n1_;(try clear hb);(try clear hb2);(try clear hk);(try clear hi)))
  go_ret
  exact ⟨by first|rfl|(simp [qn_,qo_] <;> rfl)|(simp [*,qn_,qo_] <;> rfl),by repeat (first|(with_reducible first|exact HB.out|apply qb_|apply qa_|apply qc_|refine qi_ ?_ Y9.out)|exact HB.out)⟩
end Go.Proofs.Ytaiefdhenikiiaa.Base
namespace Go.Proofs.Ytaiefdhenikiiaa.Base
open Go.RowKit Go.Proofs.YtaiefdhenikiiaaW.PrintWords Go.Proofs.YtaiefdhenikiiaaW.PrintLast Go.Proofs.YtaiefdhenikiiaaW.PrintMore
attribute [local go_sem] max2_int qp1_ max_two min_two max_three min_three max_four min_four Go.Proofs.YtaiefdhenikiiaaZ.qw_   -- for this text's walks alone
set_option linter.unusedVariables false
set_option linter.unusedSimpArgs false
def qf2_.f (k:Nat) (a0_0:Int) (a0_1:Int) (l0_2:List (S75)) (a1:Int):Option (Int):=(qm1_.f k l0_2 a1).bind fun R3=>(if R3<0 then (some (-1)) else (some R3))
theorem qf2_.mono:∀ a0 a1 a2 a3 k,LeO (qf2_.f k a0 a1 a2 a3) (qf2_.f (k+1) a0 a1 a2 a3):=by
 intro a0 a1 a2 a3 k
 unfold qf2_.f
 repeat' first
   | (with_reducible exact qm1_.mono _ _ _)
   | (with_reducible exact LeO.refl _)
   | (with_reducible exact LeO.none _)
   | (with_reducible refine LeO.ite ?_ ?_)
   | (with_reducible refine LeO.bind ?_ (fun _=>?_))
   | exact qm1_.mono _ _ _
   | exact LeO.none _
   | refine LeO.ite ?_ ?_
   | refine LeO.bind ?_ (fun _=>?_)
set_option maxHeartbeats 8000000 in
set_option maxRecDepth 100000 in
theorem qf2_.calls (k:Nat) (a0_0:Int) (a0_1:Int) (A0_2:Option Addr) (c0_2:Nat) (l0_2:List (S75)) (a1:Int) (r:Int) (w:World) (hr0_2:Kd.C k75 w A0_2 l0_2.length l0_2) (hc0_2:l0_2.length≤c0_2) (h:qf2_.f k a0_0 a0_1 l0_2 a1=some r) :
  Calls Try.prog 28 #[.agg #[.int .i64 a0_0,.int .i64 a0_1,.slice A0_2 l0_2.length c0_2],.int .i64 a1] w fun e w'=>e=.returned (.int .i64 r)∧Below w.heap.size w w':=by
 have hu32:=Try.underlying32
 have HR0_2:=aK hr0_2
 have HC0_2:=aK hc0_2
 clear hr0_2 hc0_2
 have HB:=aK (Below.refl w.heap.size w)
 have H:((qm1_.f k l0_2 a1).bind fun R3=>(if R3<0 then (some (-1)) else (some R3)))=some r:=h
 clear h
 replace H:=Option.bind_eq_some_iff.mp H
 obtain ⟨R3,A30,H⟩:=H
 replace H:(if R3<0 then (some (-1)) else (some R3))=some r:=H
 have A3:=aK A30
 clear A30
 by_cases c4:R3<0
 ·rw [if_pos c4] at H
  have c4b0:decide (R3<0)=true:=decide_eq_true c4
  clear c4
  obtain rfl:=Option.some.inj H
  go_enter Try.func28,Try.ntmps28
  go_wp2_with (first|((with_reducible refine qt_ (N:=2) rfl ?_);refine qr_ ?hg (N:=2) ?hd (cs:=#[.int .i64 a0_0,.int .i64 a0_1,.slice A0_2 l0_2.length c0_2]) (t:=32) ?hr ?_;(case hd=>rfl);(case hg=>rfl);(case hr=>first|(go_simp;done)|(go_simp;rfl));intro K6 hg w5 hbox hb;have n0_:=aK (qh_ (by repeat (first|(with_reducible first|exact HB.out|apply qb_|apply qa_|apply qc_)|exact HB.out)) hb);have n1_:=aK (hbox);have n2_:=aK ((by rw [hg];exact (ql_ (by repeat (first|(with_reducible first|exact HB.out|apply qb_|apply qa_|apply qc_)|exact HB.out))):w.heap.size≤K6));have n3_:=aK ((by rw [hg];exact (ql_ (by repeat (first|(with_reducible first|exact HB.out|apply qb_|apply qa_|apply qc_)|exact HB.out))):w.heap.size≤K6));clear HB;have HB:=n0_;have H5:=n1_;have GW203:=n2_;have Z0:=n3_;clear n0_ n1_ n2_ n3_;clear hb hbox hg;have hcz6_0:w5.cell? ⟨K6,0,none⟩=some (.int .i64 a0_0):=(qe_ H5.out 0).trans rfl;have hcz6_1:w5.cell? ⟨K6,1,none⟩=some (.int .i64 a0_1):=(qe_ H5.out 1).trans rfl;have hcz6_2:w5.cell? ⟨K6,2,none⟩=some (.slice A0_2 l0_2.length c0_2):=(qe_ H5.out 2).trans rfl;have hfz6_0:=qd_ H5.out 0;have hfz6_1:=qd_ H5.out 1;have hfz6_2:=qd_ H5.out 2)|((with_reducible refine qy_ (f:=21) rfl ?_);refine goesL_ (some 8) rfl rfl Try.func21 (by kernel_rfl) rfl #[.slice A0_2 l0_2.length c0_2,.int .i64 a1] rfl (by (try simp only [List.map_toArray,List.map_cons,List.map_nil]);first|done|rfl|(simp only [List.length_drop,List.length_take];rfl)) ?_;(with_reducible refine (qm1_.calls k _ _ l0_2 a1 R3 _ ?side1 ?side2 A3.out).mono ?_);(case side1=>repeat (first|exact (Kd.qd1_ HR0_2.out HB.out)|(with_reducible refine Kd.qx2_ ?_ _)|(with_reducible refine Kd.qw2_ ?_ _)|(with_reducible refine Kd.C_drew ?_)));(case side2=>exact HC0_2.out);rintro e w7 ⟨rfl,hb⟩;refine ⟨_,rfl,?_⟩;have n0_:=aK (qk_ (g:=K6) (o:=.cells #[.int .i64 a0_0,.int .i64 a0_1,.slice A0_2 l0_2.length c0_2] 32 (0,0)) (by (with_reducible repeat (first|refine qg_ ?_ _|refine qj_ ?_|refine qf_ ?_ _));exact H5.out) hb);have n1_:=aK (qh_ (by repeat (first|(with_reducible first|exact HB.out|apply qb_|apply qa_|apply qc_|refine qi_ ?_ Z0.out)|exact HB.out)) hb);clear H5;clear HB;have H5:=n0_;have HB:=n1_;clear n0_ n1_;(try clear hb);(try clear hb2);(try clear hk);(try clear hi)))
  go_ret
  exact ⟨by first|rfl|(simp [qn_,qo_] <;> rfl)|(simp [*,qn_,qo_] <;> rfl),by repeat (first|(with_reducible first|exact HB.out|apply qb_|apply qa_|apply qc_|refine qi_ ?_ Z0.out)|exact HB.out)⟩
 ·rw [if_neg c4] at H
  have c4b0:decide (R3<0)=false:=decide_eq_false c4
  clear c4
  obtain rfl:=Option.some.inj H
  go_enter Try.func28,Try.ntmps28
  go_wp2_with (first|((with_reducible refine qt_ (N:=2) rfl ?_);refine qr_ ?hg (N:=2) ?hd (cs:=#[.int .i64 a0_0,.int .i64 a0_1,.slice A0_2 l0_2.length c0_2]) (t:=32) ?hr ?_;(case hd=>rfl);(case hg=>rfl);(case hr=>first|(go_simp;done)|(go_simp;rfl));intro K6 hg w8 hbox hb;have n0_:=aK (qh_ (by repeat (first|(with_reducible first|exact HB.out|apply qb_|apply qa_|apply qc_)|exact HB.out)) hb);have n1_:=aK (hbox);have n2_:=aK ((by rw [hg];exact (ql_ (by repeat (first|(with_reducible first|exact HB.out|apply qb_|apply qa_|apply qc_)|exact HB.out))):w.heap.size≤K6));have n3_:=aK ((by rw [hg];exact (ql_ (by repeat (first|(with_reducible first|exact HB.out|apply qb_|apply qa_|apply qc_)|exact HB.out))):w.heap.size≤K6));clear HB;have HB:=n0_;have H5:=n1_;have GW203:=n2_;have Z0:=n3_;clear n0_ n1_ n2_ n3_;clear hb hbox hg;have hcz9_0:w8.cell? ⟨K6,0,none⟩=some (.int .i64 a0_0):=(qe_ H5.out 0).trans rfl;have hcz9_1:w8.cell? ⟨K6,1,none⟩=some (.int .i64 a0_1):=(qe_ H5.out 1).trans rfl;have hcz9_2:w8.cell? ⟨K6,2,none⟩=some (.slice A0_2 l0_2.length c0_2):=(qe_ H5.out 2).trans rfl;have hfz9_0:=qd_ H5.out 0;have hfz9_1:=qd_ H5.out 1;have hfz9_2:=qd_ H5.out 2)|((with_reducible refine qy_ (f:=21) rfl ?_);refine goesL_ (some 8) rfl rfl Try.func21 (by kernel_rfl) rfl #[.slice A0_2 l0_2.length c0_2,.int .i64 a1] rfl (by (try simp only [List.map_toArray,List.map_cons,List.map_nil]);first|done|rfl|(simp only [List.length_drop,List.length_take];rfl)) ?_;(with_reducible refine (qm1_.calls k _ _ l0_2 a1 R3 _ ?side1 ?side2 A3.out).mono ?_);(case side1=>repeat (first|exact (Kd.qd1_ HR0_2.out HB.out)|(with_reducible refine Kd.qx2_ ?_ _)|(with_reducible refine Kd.qw2_ ?_ _)|(with_reducible refine Kd.C_drew ?_)));(case side2=>exact HC0_2.out);rintro e w10 ⟨rfl,hb⟩;refine ⟨_,rfl,?_⟩;have n0_:=aK (qk_ (g:=K6) (o:=.cells #[.int .i64 a0_0,.int .i64 a0_1,.slice A0_2 l0_2.length c0_2] 32 (0,0)) (by (with_reducible repeat (first|refine qg_ ?_ _|refine qj_ ?_|refine qf_ ?_ _));exact H5.out) hb);have n1_:=aK (qh_ (by repeat (first|(with_reducible first|exact HB.out|apply qb_|apply qa_|apply qc_|refine qi_ ?_ Z0.out)|exact HB.out)) hb);clear H5;clear HB;have H5:=n0_;have HB:=n1_;clear n0_ n1_;(try clear hb);(try clear hb2);(try clear hk);(try clear hi)))
  go_ret
  exact ⟨by first|rfl|(simp [qn_,qo_] <;> rfl)|(simp [*,qn_,qo_] <;> rfl),by repeat (first|(with_reducible first|exact HB.out|apply qb_|apply qa_|apply qc_|refine qi_ ?_ Z0.out)|exact HB.out)⟩
end Go.Proofs.Ytaiefdhenikiiaa.Base
namespace Go.Proofs.Ytaiefdhenikiiaa.Base
open Go.RowKit Go.Proofs.YtaiefdhenikiiaaW.PrintWords Go.Proofs.YtaiefdhenikiiaaW.PrintLast Go.Proofs.YtaiefdhenikiiaaW.PrintMore
attribute [local go_sem] max2_int qp1_ max_two min_two max_three min_three max_four min_four Go.Proofs.YtaiefdhenikiiaaZ.qw_   -- for this text's walks alone
set_option linter.unusedVariables false
set_option linter.unusedSimpArgs false
def qv1_.f (k:Nat) (a0_0:Int) (a0_1:Int) (l0_2:List (S75)):Option (Int × Int × (List (S79))):=(qo1_.f k l0_2).bind fun t234=>(some (a0_0,a0_1,t234))
theorem qv1_.mono:∀ a0 a1 a2 k,LeO (qv1_.f k a0 a1 a2) (qv1_.f (k+1) a0 a1 a2):=by
 intro a0 a1 a2 k
 unfold qv1_.f
 repeat' first
   | (with_reducible exact qo1_.mono _ _)
   | (with_reducible exact LeO.refl _)
   | (with_reducible exact LeO.none _)
   | (with_reducible refine LeO.ite ?_ ?_)
   | (with_reducible refine LeO.bind ?_ (fun _=>?_))
   | exact qo1_.mono _ _
   | exact LeO.none _
   | refine LeO.ite ?_ ?_
   | refine LeO.bind ?_ (fun _=>?_)
set_option maxHeartbeats 8000000 in
set_option maxRecDepth 100000 in
theorem qv1_.calls (k:Nat) (a0_0:Int) (a0_1:Int) (A0_2:Option Addr) (c0_2:Nat) (l0_2:List (S75)) (r1:Int) (r2:Int) (r3:List (S79)) (w:World) (hr0_2:Kd.C k75 w A0_2 l0_2.length l0_2) (hc0_2:l0_2.length≤c0_2) (h:qv1_.f k a0_0 a0_1 l0_2=some (r1,r2,r3)) :
  Calls Try.prog 30 #[.agg #[.int .i64 a0_0,.int .i64 a0_1,.slice A0_2 l0_2.length c0_2]] w fun e w'=>∃ v2_:Value,e=.returned (.agg #[.int .i64 r1,.int .i64 r2,v2_])∧Kd.R k79 79 w' w.heap.size (fun _=>True) v2_ r3∧Below w.heap.size w w':=by
 have hu32:=Try.underlying32
 have hu38:=Try.underlying38
 have HR0_2:=aK hr0_2
 have HC0_2:=aK hc0_2
 clear hr0_2 hc0_2
 have HB:=aK (Below.refl w.heap.size w)
 have H:((qo1_.f k l0_2).bind fun t234=>(some (a0_0,a0_1,t234)))=some (r1,r2,r3):=h
 clear h
 replace H:=Option.bind_eq_some_iff.mp H
 obtain ⟨t234,A20,H⟩:=H
 replace H:(some (a0_0,a0_1,t234))=some (r1,r2,r3):=H
 have A2:=aK A20
 clear A20
 simp only [Option.some.injEq,Prod.mk.injEq] at H
 obtain ⟨rfl,rfl,rfl⟩:=H
 go_enter Try.func30,Try.ntmps30
 go_wp2_with (first|((with_reducible refine qt_ (N:=1) rfl ?_);refine qr_ ?hg (N:=1) ?hd (cs:=#[.int .i64 a0_0,.int .i64 a0_1,.slice A0_2 l0_2.length c0_2]) (t:=32) ?hr ?_;(case hd=>rfl);(case hg=>rfl);(case hr=>first|(go_simp;done)|(go_simp;rfl));intro I9 hg w3 hbox hb;have n0_:=aK (qh_ (by repeat (first|(with_reducible first|exact HB.out|apply qb_|apply qa_|apply qc_)|exact HB.out)) hb);have n1_:=aK (hbox);have n2_:=aK ((by rw [hg];exact (ql_ (by repeat (first|(with_reducible first|exact HB.out|apply qb_|apply qa_|apply qc_)|exact HB.out))):w.heap.size≤I9));have n3_:=aK ((by rw [hg];exact (ql_ (by repeat (first|(with_reducible first|exact HB.out|apply qb_|apply qa_|apply qc_)|exact HB.out))):w.heap.size≤I9));clear HB;have HB:=n0_;have G9:=n1_;have GW231:=n2_;have P9:=n3_;clear n0_ n1_ n2_ n3_;clear hb hbox hg)|((with_reducible refine qt_ (N:=2) rfl ?_);refine qr_ ?hg (N:=2) ?hd (cs:=#[.int .i64 0,.int .i64 0,.slice none 0 0]) (t:=38) ?hr ?_;(case hd=>rfl);(case hg=>rfl);(case hr=>first|(go_simp;done)|(go_simp;rfl));intro I8 hg w4 hbox hb;have n0_:=aK (qk_ (g:=I9) (o:=.cells #[.int .i64 a0_0,.int .i64 a0_1,.slice A0_2 l0_2.length c0_2] 32 (0,0)) (by (with_reducible repeat (first|refine qg_ ?_ _|refine qj_ ?_|refine qf_ ?_ _));exact G9.out) hb);have n1_:=aK (qh_ (by repeat (first|(with_reducible first|exact HB.out|apply qb_|apply qa_|apply qc_|refine qi_ ?_ P9.out)|exact HB.out)) hb);have n2_:=aK (hbox);have n3_:=aK ((by rw [hg];exact (ql_ (by repeat (first|(with_reducible first|exact HB.out|apply qb_|apply qa_|apply qc_|refine qi_ ?_ P9.out)|exact HB.out))):w.heap.size≤I8));have n4_:=aK ((by rw [hg];exact (ql_ (by repeat (first|(with_reducible first|exact HB.out|apply qb_|apply qa_|apply qc_|refine qi_ ?_ P9.out)|exact HB.out))):w.heap.size≤I8));have n5_:=aK ((by rw [hg];exact Nat.ne_of_lt (blk_lt (g:=I9) (o:=.cells #[.int .i64 a0_0,.int .i64 a0_1,.slice A0_2 l0_2.length c0_2] 32 (0,0)) (by (with_reducible repeat (first|refine qg_ ?_ _|refine qj_ ?_|refine qf_ ?_ _));exact G9.out)):I9≠I8));have n6_:=aK ((by rw [hg];exact Nat.ne_of_gt (blk_lt (g:=I9) (o:=.cells #[.int .i64 a0_0,.int .i64 a0_1,.slice A0_2 l0_2.length c0_2] 32 (0,0)) (by (with_reducible repeat (first|refine qg_ ?_ _|refine qj_ ?_|refine qf_ ?_ _));exact G9.out)):I8≠I9));clear G9;clear HB;have G9:=n0_;have HB:=n1_;have J3:=n2_;have GW232:=n3_;have U6:=n4_;have NB231_232:=n5_;have NB232_231:=n6_;clear n0_ n1_ n2_ n3_ n4_ n5_ n6_;clear hb hbox hg)|((with_reducible refine qt_ (N:=3) rfl ?_);refine qr_ ?hg (N:=3) ?hd (cs:=#[.int .i64 0,.int .i64 0,.slice none 0 0]) (t:=38) ?hr ?_;(case hd=>rfl);(case hg=>rfl);(case hr=>first|(go_simp;done)|(go_simp;rfl));intro J9 hg w5 hbox hb;have n0_:=aK (qk_ (g:=I9) (o:=.cells #[.int .i64 a0_0,.int .i64 a0_1,.slice A0_2 l0_2.length c0_2] 32 (0,0)) (by (with_reducible repeat (first|refine qg_ ?_ _|refine qj_ ?_|refine qf_ ?_ _));exact G9.out) hb);have n1_:=aK (qk_ (g:=I8) (o:=.cells #[.int .i64 0,.int .i64 0,.slice none 0 0] 38 (0,0)) (by (with_reducible repeat (first|refine qg_ ?_ _|refine qj_ ?_|refine qf_ ?_ _));exact J3.out) hb);have n2_:=aK (qh_ (by repeat (first|(with_reducible first|exact HB.out|apply qb_|apply qa_|apply qc_|refine qi_ ?_ P9.out|refine qi_ ?_ U6.out)|exact HB.out)) hb);have n3_:=aK (hbox);have n4_:=aK ((by rw [hg];exact (ql_ (by repeat (first|(with_reducible first|exact HB.out|apply qb_|apply qa_|apply qc_|refine qi_ ?_ P9.out|refine qi_ ?_ U6.out)|exact HB.out))):w.heap.size≤J9));have n5_:=aK ((by rw [hg];exact (ql_ (by repeat (first|(with_reducible first|exact HB.out|apply qb_|apply qa_|apply qc_|refine qi_ ?_ P9.out|refine qi_ ?_ U6.out)|exact HB.out))):w.heap.size≤J9));have n6_:=aK ((by rw [hg];exact Nat.ne_of_lt (blk_lt (g:=I9) (o:=.cells #[.int .i64 a0_0,.int .i64 a0_1,.slice A0_2 l0_2.length c0_2] 32 (0,0)) (by (with_reducible repeat (first|refine qg_ ?_ _|refine qj_ ?_|refine qf_ ?_ _));exact G9.out)):I9≠J9));have n7_:=aK ((by rw [hg];exact Nat.ne_of_gt (blk_lt (g:=I9) (o:=.cells #[.int .i64 a0_0,.int .i64 a0_1,.slice A0_2 l0_2.length c0_2] 32 (0,0)) (by (with_reducible repeat (first|refine qg_ ?_ _|refine qj_ ?_|refine qf_ ?_ _));exact G9.out)):J9≠I9));have n8_:=aK ((by rw [hg];exact Nat.ne_of_lt (blk_lt (g:=I8) (o:=.cells #[.int .i64 0,.int .i64 0,.slice none 0 0] 38 (0,0)) (by (with_reducible repeat (first|refine qg_ ?_ _|refine qj_ ?_|refine qf_ ?_ _));exact J3.out)):I8≠J9));have n9_:=aK ((by rw [hg];exact Nat.ne_of_gt (blk_lt (g:=I8) (o:=.cells #[.int .i64 0,.int .i64 0,.slice none 0 0] 38 (0,0)) (by (with_reducible repeat (first|refine qg_ ?_ _|refine qj_ ?_|refine qf_ ?_ _));exact J3.out)):J9≠I8));clear G9;clear J3;clear HB;have G9:=n0_;have J3:=n1_;have HB:=n2_;have J2:=n3_;have GW233:=n4_;have aJ2:=n5_;have R4:=n6_;have NB233_231:=n7_;have P7:=n8_;have NB233_232:=n9_;clear n0_ n1_ n2_ n3_ n4_ n5_ n6_ n7_ n8_ n9_;clear hb hbox hg;have hnb6:=NB231_232.out;have hnc6:=NB232_231.out;have hnb7:=R4.out;have hnc7:=NB233_231.out;have hcz8_0:w5.cell? ⟨I9,0,none⟩=some (.int .i64 a0_0):=(qe_ G9.out 0).trans rfl;have hcz8_1:w5.cell? ⟨I9,1,none⟩=some (.int .i64 a0_1):=(qe_ G9.out 1).trans rfl;have hcz8_2:w5.cell? ⟨I9,2,none⟩=some (.slice A0_2 l0_2.length c0_2):=(qe_ G9.out 2).trans rfl;have hfz8_0:=qd_ G9.out 0;have hfz8_1:=qd_ G9.out 1;have hfz8_2:=qd_ G9.out 2;have hnb9:=NB233_232.out;have hnc9:=P7.out;have hcz10_0:w5.cell? ⟨J9,0,none⟩=some (.int .i64 0):=(qe_ J2.out 0).trans rfl;have hcz10_1:w5.cell? ⟨J9,1,none⟩=some (.int .i64 0):=(qe_ J2.out 1).trans rfl;have hcz10_2:w5.cell? ⟨J9,2,none⟩=some (.slice none 0 0):=(qe_ J2.out 2).trans rfl;have hfz10_0:=qd_ J2.out 0;have hfz10_1:=qd_ J2.out 1;have hfz10_2:=qd_ J2.out 2)|((with_reducible refine qy_ (f:=23) rfl ?_);refine goesL_ (some 12) rfl rfl Try.func23 (by kernel_rfl) rfl #[.slice A0_2 l0_2.length c0_2] rfl (by (try simp only [List.map_toArray,List.map_cons,List.map_nil]);first|done|rfl|(simp only [List.length_drop,List.length_take];rfl)) ?_;(with_reducible refine (qo1_.calls k _ _ l0_2 t234 _ ?side1 ?side2 A2.out).mono ?_);(case side1=>exact Kd.qd1_ HR0_2.out (by repeat (first|(with_reducible first|exact HB.out|apply qb_|apply qa_|apply qc_|refine qi_ ?_ P9.out|refine qi_ ?_ U6.out|refine qi_ ?_ aJ2.out)|exact HB.out)));(case side2=>exact HC0_2.out);rintro e w11 ⟨v235,rfl,ho0,hb⟩;refine ⟨_,rfl,?_⟩;have n0_:=aK (Kd.qn2_ ho0 (ql_ (by repeat (first|(with_reducible first|exact HB.out|apply qb_|apply qa_|apply qc_|refine qi_ ?_ P9.out|refine qi_ ?_ U6.out|refine qi_ ?_ aJ2.out)|exact HB.out))));have n1_:=aK (qk_ (g:=I9) (o:=.cells #[.int .i64 a0_0,.int .i64 a0_1,.slice A0_2 l0_2.length c0_2] 32 (0,0)) (by (with_reducible repeat (first|refine qg_ ?_ _|refine qj_ ?_|refine qf_ ?_ _));refine qr1_ ?_ R4.out _;(with_reducible repeat (first|refine qg_ ?_ _|refine qj_ ?_|refine qf_ ?_ _));refine qr1_ ?_ R4.out _;(with_reducible repeat (first|refine qg_ ?_ _|refine qj_ ?_|refine qf_ ?_ _));exact G9.out) hb);have n2_:=aK (qk_ (g:=I8) (o:=.cells #[.int .i64 0,.int .i64 0,.slice none 0 0] 38 (0,0)) (by (with_reducible repeat (first|refine qg_ ?_ _|refine qj_ ?_|refine qf_ ?_ _));refine qr1_ ?_ P7.out _;(with_reducible repeat (first|refine qg_ ?_ _|refine qj_ ?_|refine qf_ ?_ _));refine qr1_ ?_ P7.out _;(with_reducible repeat (first|refine qg_ ?_ _|refine qj_ ?_|refine qf_ ?_ _));exact J3.out) hb);have n3_:=aK (qk_ (g:=J9) (o:=.cells #[.int .i64 a0_0,.int .i64 a0_1,.slice none 0 0] 38 (0,0)) (by (with_reducible repeat (first|refine qg_ ?_ _|refine qj_ ?_|refine qf_ ?_ _));refine ql1_ (cs:=#[.int .i64 a0_0,.int .i64 0,.slice none 0 0]) ?_ 1 _ rfl;(with_reducible repeat (first|refine qg_ ?_ _|refine qj_ ?_|refine qf_ ?_ _));refine ql1_ (cs:=#[.int .i64 0,.int .i64 0,.slice none 0 0]) ?_ 0 _ rfl;(with_reducible repeat (first|refine qg_ ?_ _|refine qj_ ?_|refine qf_ ?_ _));exact J2.out) hb);have n4_:=aK (qh_ (by repeat (first|(with_reducible first|exact HB.out|apply qb_|apply qa_|apply qc_|refine qi_ ?_ P9.out|refine qi_ ?_ U6.out|refine qi_ ?_ aJ2.out)|exact HB.out)) hb);clear G9;clear J3;clear J2;clear HB;have aZ5:=n0_;have G9:=n1_;have J3:=n2_;have J2:=n3_;have HB:=n4_;clear n0_ n1_ n2_ n3_ n4_;(try clear hb);(try clear hb2);(try clear hk);(try clear hi);(try clear ho0);obtain ⟨aX2,aX0,eo12⟩:=Kd.qd2_ aZ5.out;subst eo12;have hcz13_0:w11.cell? ⟨J9,0,none⟩=some (.int .i64 a0_0):=(qe_ J2.out 0).trans rfl;have hcz13_1:w11.cell? ⟨J9,1,none⟩=some (.int .i64 a0_1):=(qe_ J2.out 1).trans rfl;have hcz13_2:w11.cell? ⟨J9,2,none⟩=some (.slice none 0 0):=(qe_ J2.out 2).trans rfl;have hfz13_0:=qd_ J2.out 0;have hfz13_1:=qd_ J2.out 1;have hfz13_2:=qd_ J2.out 2;have hcz14_0:w11.cell? ⟨I8,0,none⟩=some (.int .i64 0):=(qe_ J3.out 0).trans rfl;have hcz14_1:w11.cell? ⟨I8,1,none⟩=some (.int .i64 0):=(qe_ J3.out 1).trans rfl;have hcz14_2:w11.cell? ⟨I8,2,none⟩=some (.slice none 0 0):=(qe_ J3.out 2).trans rfl;have hfz14_0:=qd_ J3.out 0;have hfz14_1:=qd_ J3.out 1;have hfz14_2:=qd_ J3.out 2))
 refine bodyPost_ret (results_cell_row rfl _ _ I8 38 #[.int .i64 a0_0,.int .i64 a0_1,.slice aX2 t234.length aX0] (0,0) _ rfl (by (with_reducible repeat (first|refine qg_ ?_ _|refine qj_ ?_|refine qf_ ?_ _));refine ql1_ (cs:=#[.int .i64 a0_0,.int .i64 a0_1,.slice none 0 0]) ?_ 2 _ rfl;(with_reducible repeat (first|refine qg_ ?_ _|refine qj_ ?_|refine qf_ ?_ _));refine ql1_ (cs:=#[.int .i64 a0_0,.int .i64 0,.slice none 0 0]) ?_ 1 _ rfl;(with_reducible repeat (first|refine qg_ ?_ _|refine qj_ ?_|refine qf_ ?_ _));refine ql1_ (cs:=#[.int .i64 0,.int .i64 0,.slice none 0 0]) ?_ 0 _ rfl;(with_reducible repeat (first|refine qg_ ?_ _|refine qj_ ?_|refine qf_ ?_ _));refine qr1_ ?_ P7.out _;(with_reducible repeat (first|refine qg_ ?_ _|refine qj_ ?_|refine qf_ ?_ _));exact J3.out) Try.underlying38 rfl (by kernel_rfl)) rfl ?_
 exact ⟨_,by first|rfl|(simp [qn_,qo_] <;> rfl)|(simp [*,qn_,qo_] <;> rfl),by (with_reducible repeat (first|apply Kd.qs1_|apply Kd.qx1_|apply Kd.R_drew));exact Kd.R_mono (Kd.R_far (p:=⟨I8,2,none⟩) (Kd.R_far (p:=⟨I8,1,none⟩) (Kd.R_far (p:=⟨I8,0,none⟩) (Kd.R_far (p:=⟨J9,2,none⟩) (Kd.R_types (Kd.R_types aZ5.out J2.out (by decide)) J3.out (by decide)) (fun _ hk=>hk.1.2) (.slice aX2 t234.length aX0)) (fun _ hk=>hk.2) (.int .i64 a0_0)) (fun _ hk=>hk.2) (.int .i64 a0_1)) (fun _ hk=>hk.2) (.slice aX2 t234.length aX0)) (fun _ hk=>trivial),by repeat (first|(with_reducible first|exact HB.out|apply qb_|apply qa_|apply qc_|refine qi_ ?_ P9.out|refine qi_ ?_ U6.out|refine qi_ ?_ aJ2.out)|exact HB.out)⟩
end Go.Proofs.Ytaiefdhenikiiaa.Base
namespace Go.Proofs.Ytaiefdhenikiiaa.Base
open Go.RowKit Go.Proofs.YtaiefdhenikiiaaW.PrintWords Go.Proofs.YtaiefdhenikiiaaW.PrintLast Go.Proofs.YtaiefdhenikiiaaW.PrintMore
attribute [local go_sem] max2_int qp1_ max_two min_two max_three min_three max_four min_four Go.Proofs.YtaiefdhenikiiaaZ.qw_   -- for this text's walks alone
set_option linter.unusedVariables false
set_option linter.unusedSimpArgs false
mutual
def qp_.l0:Nat→Int→Int→List ByteArray→Option (List ByteArray)
 | 0,_,_,_=>none
 | k+1,x0,x1,x5=>if x1 > 0 then (qp_.l1 k x0 x1 x5 (([]:List ByteArray)) 0) else (some x5)
def qp_.l1:Nat→Int→Int→List ByteArray→List ByteArray→Int→Option (List ByteArray)
 | 0,_,_,_,_,_=>none
 | k+1,x0,x1,x5,x6,x7=>if x7<(x5.length:Int) then (qp_.l2 k x0 x1 x5 x6 x7 0) else (qp_.l0 k x0 (wrap64 (x1 - 1)) x6)
def qp_.l2:Nat→Int→Int→List ByteArray→List ByteArray→Int→Int→Option (List ByteArray)
 | 0,_,_,_,_,_,_=>none
 | k+1,x0,x1,x5,x6,x7,x8=>if x8<x0 then (if 0≤x7 then (if x7<(x5.length:Int) then ((some (([(wrap64 (48+x8)) % 256]:List Int):List Int)).bind fun R9=>(if (rdOf ByteArray.empty x5 x7).size+(strOfNums R9).size≤9223372036854775807 then (if x6.length<8796093022208 then (qp_.l2 k x0 x1 x5 (x6++[(rdOf ByteArray.empty x5 x7)++(strOfNums R9)]) x7 (wrap64 (x8+1))) else (none)) else (none))) else (none)) else (none)) else (qp_.l1 k x0 x1 x5 x6 (wrap64 (x7+1)))
end
def qp_.f (k:Nat) (a0:Int) (a1:Int):Option (List ByteArray):=qp_.l0 k a0 a1 (([(⟨#[]⟩:ByteArray)]:List ByteArray))
theorem qp_.mono_l:∀ k,(∀ y0 y1 y2,LeO (qp_.l0 k y0 y1 y2) (qp_.l0 (k+1) y0 y1 y2))∧(∀ y0 y1 y2 y3 y4,LeO (qp_.l1 k y0 y1 y2 y3 y4) (qp_.l1 (k+1) y0 y1 y2 y3 y4))∧(∀ y0 y1 y2 y3 y4 y5,LeO (qp_.l2 k y0 y1 y2 y3 y4 y5) (qp_.l2 (k+1) y0 y1 y2 y3 y4 y5))
 | 0=>⟨fun _ _ _ r h=>by simp [qp_.l0] at h,fun _ _ _ _ _ r h=>by simp [qp_.l1] at h,fun _ _ _ _ _ _ r h=>by simp [qp_.l2] at h⟩
 | k+1=>by
  obtain ⟨ih0,ih1,ih2⟩:=qp_.mono_l k
  refine ⟨?_,?_,?_⟩
  ·intro y0 y1 y2
   unfold qp_.l0
   repeat' first
   | (with_reducible exact ih0 _ _ _)
   | (with_reducible exact ih1 _ _ _ _ _)
   | (with_reducible exact ih2 _ _ _ _ _ _)
   | (with_reducible exact LeO.refl _)
   | (with_reducible exact LeO.none _)
   | (with_reducible refine LeO.ite ?_ ?_)
   | (with_reducible refine LeO.bind ?_ (fun _=>?_))
   | exact ih0 _ _ _
   | exact ih1 _ _ _ _ _
   | exact ih2 _ _ _ _ _ _
   | exact LeO.none _
   | refine LeO.ite ?_ ?_
   | refine LeO.bind ?_ (fun _=>?_)
  ·intro y0 y1 y2 y3 y4
   unfold qp_.l1
   repeat' first
   | (with_reducible exact ih0 _ _ _)
   | (with_reducible exact ih1 _ _ _ _ _)
   | (with_reducible exact ih2 _ _ _ _ _ _)
   | (with_reducible exact LeO.refl _)
   | (with_reducible exact LeO.none _)
   | (with_reducible refine LeO.ite ?_ ?_)
   | (with_reducible refine LeO.bind ?_ (fun _=>?_))
   | exact ih0 _ _ _
   | exact ih1 _ _ _ _ _
   | exact ih2 _ _ _ _ _ _
   | exact LeO.none _
   | refine LeO.ite ?_ ?_
   | refine LeO.bind ?_ (fun _=>?_)
  ·intro y0 y1 y2 y3 y4 y5
   unfold qp_.l2
   repeat' first
   | (with_reducible exact ih0 _ _ _)
   | (with_reducible exact ih1 _ _ _ _ _)
   | (with_reducible exact ih2 _ _ _ _ _ _)
   | (with_reducible exact LeO.refl _)
   | (with_reducible exact LeO.none _)
   | (with_reducible refine LeO.ite ?_ ?_)
   | (with_reducible refine LeO.bind ?_ (fun _=>?_))
   | exact ih0 _ _ _
   | exact ih1 _ _ _ _ _
   | exact ih2 _ _ _ _ _ _
   | exact LeO.none _
   | refine LeO.ite ?_ ?_
   | refine LeO.bind ?_ (fun _=>?_)
theorem qp_.mono:∀ a0 a1 k,LeO (qp_.f k a0 a1) (qp_.f (k+1) a0 a1):=by
 intro a0 a1 k
 obtain ⟨ih0,ih1,ih2⟩:=qp_.mono_l k
 unfold qp_.f
 repeat' first
   | (with_reducible exact ih0 _ _ _)
   | (with_reducible exact ih1 _ _ _ _ _)
   | (with_reducible exact ih2 _ _ _ _ _ _)
   | (with_reducible exact LeO.refl _)
   | (with_reducible exact LeO.none _)
   | (with_reducible refine LeO.ite ?_ ?_)
   | (with_reducible refine LeO.bind ?_ (fun _=>?_))
   | exact ih0 _ _ _
   | exact ih1 _ _ _ _ _
   | exact ih2 _ _ _ _ _ _
   | exact LeO.none _
   | refine LeO.ite ?_ ?_
   | refine LeO.bind ?_ (fun _=>?_)
def qp_.T11:Bool × List (List Nat × List Nat):=(true,[([],[]),([],[]),([],[]),([1,2],[1,2]),([3],[3]),([],[]),([5],[5]),([6],[6]),([7],[7]),([8],[8]),([4,9],[4,9]),([10],[10]),([0,11],[0,11]),([12,12,0,1,2,3,4,5,6,7,8,9,10,11,12],[0,12])])
def qp_.B11:List Nat:=[0,0,0,6,14,0,32,96,224,480,1022,2046,4095,8191]
theorem qp_.tab11:rtab .any (opsOf Try.f185 11)=qp_.T11:=by kernel_rfl
theorem qp_.bits11:waitsOk qp_.T11.2 qp_.B11=true:=by kernel_rfl
set_option maxHeartbeats 8000000 in
set_option maxRecDepth 100000 in
theorem qp_.calls (k:Nat) (a0:Int) (a1:Int) (r:List ByteArray) (w:World) (h:qp_.f k a0 a1=some r) :
  Calls Try.prog 185 #[.int .i64 a0,.int .i64 a1] w fun e w'=>∃ v0_:Value,e=.returned (v0_)∧Kd.R Kd.string 9 w' w.heap.size (fun _=>True) v0_ r∧Below w.heap.size w w':=by
 have HB:=aK (Below.refl w.heap.size w)
 have H:(qp_.l0 k a0 a1 (([(⟨#[]⟩:ByteArray)]:List ByteArray)))=some r:=h
 clear h
 obtain ⟨aX5,X7⟩:∃ y_:List ByteArray,y_=(([(⟨#[]⟩:ByteArray)]:List ByteArray)):=⟨_,rfl⟩
 replace H:(qp_.l0 k a0 a1 aX5)=some r:=by first|(rw [X7];with_reducible exact H)|(have H2_:=(Option.bind_some _ _).symm.trans H;rw [X7];with_reducible exact H2_)|(have H2_:=(Option.bind_some _ _).symm.trans H;with_reducible exact H2_)|with_reducible exact H|(rw [X7];exact H)|exact H
 have aQ9:=aK X7
 clear X7
 have H':=aK H
 clear H
 go_enter Try.func185,Try.ntmps185
 go_wp2_with (first|((with_reducible refine qt_ (N:=9) rfl ?_);refine Kd.R_lit Kd.string _ 9 ?hg (N:=9) ?hd (xs:=([(⟨#[]⟩:ByteArray)]:List ByteArray)) (inner:=[.string (⟨#[]⟩:ByteArray)]) (ok:=fun _=>True) (okp:=fun _=>True) ?hr ?hp (fun _ hk=>hk) trivial (Below.refl _ _) (Nat.le_refl _) (by simp) ?_;(case hd=>rfl);(case hg=>rfl);(case hr=>first|(go_simp;done)|(go_simp;rfl));(case hp=>exact (Reps.one (show Kd.M Kd.string _ _ _ (⟨#[]⟩:ByteArray) [.string (⟨#[]⟩:ByteArray)] from rfl) (Reps.none _ _)));intro v649 w3 ho4 hb hg_ hnew_;clear hg_ hnew_;(first|rw [← aQ9.out] at ho4|(simp only [Int.reduceToNat] at ho4;rw [← aQ9.out] at ho4));have n0_:=aK (Kd.qn2_ ho4 (ql_ (by repeat (first|(with_reducible first|exact HB.out|apply qb_|apply qa_|apply qc_)|exact HB.out))));have n1_:=aK (qh_ (by repeat (first|(with_reducible first|exact HB.out|apply qb_|apply qa_|apply qc_)|exact HB.out)) hb);clear HB;have HO650:=n0_;have HB:=n1_;clear n0_ n1_;clear hb ho4))
 go_loopg [1,5] k (fun kq v1 v5 w'=>∃ (x1_1:Int) (x5_1:List ByteArray),v1=.int .i64 x1_1∧Aside0 (qp_.l0 kq a0 x1_1 x5_1=some r)∧Aside0 (kq≤k)∧Aside0 (Kd.R Kd.string 9 w' w.heap.size (fun _=>True) v5 x5_1)∧Aside0 (Below w.heap.size w w'))
 case atStart=>exact ⟨(a1),(aX5),(by first|rfl|(simp;done)|(simp [*];done)),H',⟨Nat.le_refl _⟩,⟨by (with_reducible repeat (first|apply Kd.qs1_|apply Kd.qx1_|apply Kd.R_drew));exact HO650.out⟩,⟨by repeat (first|(with_reducible first|exact HB.out|apply qb_|apply qa_|apply qc_)|exact HB.out)⟩⟩
 case round =>
  clear H'
  try clear c1
  try clear p2
  obtain ⟨x1_1,x5_1,rfl,HA,HK1,z8,HB⟩:=hrel
  cases gk with
  | zero=>exact absurd HA.out (by simp [qp_.l0])
  | succ k1 =>
   have H:=HA.out
   clear HA
   simp only [qp_.l0] at H
   by_cases c5:x1_1 > 0
   ·rw [if_pos c5] at H
    have c5b0:decide (0<x1_1)=true:=decide_eq_true c5
    clear c5
    obtain ⟨aX4,X5⟩:∃ y_:List ByteArray,y_=(([]:List ByteArray)):=⟨_,rfl⟩
    replace H:(qp_.l1 k1 a0 x1_1 x5_1 aX4 0)=some r:=by first|(rw [X5];with_reducible exact H)|(have H2_:=(Option.bind_some _ _).symm.trans H;rw [X5];with_reducible exact H2_)|(have H2_:=(Option.bind_some _ _).symm.trans H;with_reducible exact H2_)|with_reducible exact H|(rw [X5];exact H)|exact H
    have aQ8:=aK X5
    clear X5
    have H':=aK H
    clear H
    go_wp2_with (first|((with_reducible refine qt_ (N:=14) rfl ?_);refine Kd.R_lit Kd.string _ 9 ?hg (N:=14) ?hd (xs:=([]:List ByteArray)) (inner:=[]) (ok:=fun _=>True) (okp:=fun _=>True) ?hr ?hp (fun _ hk=>hk) trivial (Below.refl _ _) (Nat.le_refl _) (by simp) ?_;(case hd=>rfl);(case hg=>rfl);(case hr=>first|(go_simp;done)|(go_simp;rfl));(case hp=>exact (Reps.none _ _));intro v652 w6 ho7 hb hg_ hnew_;clear hg_ hnew_;(first|rw [← aQ8.out] at ho7|(simp only [Int.reduceToNat] at ho7;rw [← aQ8.out] at ho7));have n0_:=aK (Kd.R_elder' (by (with_reducible repeat (first|apply Kd.qs1_|apply Kd.qx1_|apply Kd.R_drew));exact z8.out) (Kd.R_base ho7) hb);have n1_:=aK (Kd.qn2_ (Kd.R_new' ho7 (Kd.R_lt (by (with_reducible repeat (first|apply Kd.qs1_|apply Kd.qx1_|apply Kd.R_drew));exact z8.out))) (ql_ (by repeat (first|(with_reducible first|exact HB.out|apply qb_|apply qa_|apply qc_)|exact HB.out))));have n2_:=aK (qh_ (by repeat (first|(with_reducible first|exact HB.out|apply qb_|apply qa_|apply qc_)|exact HB.out)) hb);clear z8;clear HB;have z8:=n0_;have HO653:=n1_;have HB:=n2_;clear n0_ n1_ n2_;clear hb ho7))
    go_loopg [6,7] k1 (fun kq v6 v7 w'=>∃ (l6:List ByteArray) (H6:Int),v7=.int .i64 H6∧Aside0 (qp_.l1 kq a0 x1_1 x5_1 l6 H6=some r)∧Aside0 (kq≤k1)∧Aside0 (Kd.R Kd.string 9 w' w.heap.size (fun k_=>some k_≠(v6:Value).ownBlock) u5 x5_1)∧Aside0 (Kd.R Kd.string 9 w' w.heap.size (fun k_=>some k_≠(u5:Value).ownBlock) v6 l6)∧Aside0 (Below w.heap.size w w'))
    case atStart=>exact ⟨(aX4),(0),(by first|rfl|(simp;done)|(simp [*];done)),H',⟨Nat.le_refl _⟩,⟨by (with_reducible repeat (first|apply Kd.qs1_|apply Kd.qx1_|apply Kd.R_drew));exact Kd.R_mono z8.out (fun _ hk=>hk.2)⟩,⟨by (with_reducible repeat (first|apply Kd.qs1_|apply Kd.qx1_|apply Kd.R_drew));exact Kd.R_mono HO653.out (fun _ hk=>hk.2)⟩,⟨by repeat (first|(with_reducible first|exact HB.out|apply qb_|apply qa_|apply qc_)|exact HB.out)⟩⟩
    case round =>
     clear H'
     try clear c1
     try clear p2
     try clear c5
     try clear c5b0
     try clear p2
     obtain ⟨l6,H6,rfl,HA,HK2,z8,J5,HB⟩:=hrel
     cases gk with
     | zero=>exact absurd HA.out (by simp [qp_.l1])
     | succ k2 =>
      have H:=HA.out
      clear HA
      simp only [qp_.l1] at H
      by_cases c8:H6<(x5_1.length:Int)
      ·rw [if_pos c8] at H
       have c8b0:decide (H6<(x5_1.length:Int))=true:=decide_eq_true c8
       clear c8
       have H':=aK H
       clear H
       obtain ⟨Ao9,co9,eo9⟩:=Kd.qd2_ z8.out
       subst eo9
       go_wp2
       go_loopg [6,8] k2 (fun kq v6 v8 w'=>∃ (K9:List ByteArray) (Q4:Int),v8=.int .i64 Q4∧Aside0 (qp_.l2 kq a0 x1_1 x5_1 K9 H6 Q4=some r)∧Aside0 (kq≤k2)∧Aside0 (Kd.R Kd.string 9 w' w.heap.size (fun k_=>some k_≠(v6:Value).ownBlock) (.slice Ao9 x5_1.length co9) x5_1)∧Aside0 (Kd.R Kd.string 9 w' w.heap.size (fun k_=>some k_≠((.slice Ao9 x5_1.length co9):Value).ownBlock) v6 K9)∧Aside0 (Below w.heap.size w w'))
       case atStart=>exact ⟨(l6),(0),(by first|rfl|(simp;done)|(simp [*];done)),H',⟨Nat.le_refl _⟩,⟨by (with_reducible repeat (first|apply Kd.qs1_|apply Kd.qx1_|apply Kd.R_drew));exact z8.out⟩,⟨by (with_reducible repeat (first|apply Kd.qs1_|apply Kd.qx1_|apply Kd.R_drew));exact J5.out⟩,⟨by repeat (first|(with_reducible first|exact HB.out|apply qb_|apply qa_|apply qc_)|exact HB.out)⟩⟩
       case round =>
        clear H'
        try clear c1
        try clear p2
        try clear c5
        try clear c5b0
        try clear c8
        try clear c8b0
        try clear p2
        obtain ⟨K9,Q4,rfl,HA,HK3,z8,J5,HB⟩:=hrel
        cases gk with
        | zero=>exact absurd HA.out (by simp [qp_.l2])
        | succ k3 =>
         have H:=HA.out
         clear HA
         simp only [qp_.l2] at H
         by_cases c10:Q4<a0
         ·rw [if_pos c10] at H
          have c10b0:decide (Q4<a0)=true:=decide_eq_true c10
          clear c10
          by_cases c11:0≤H6
          ·rw [if_pos c11] at H
           have c11b0:decide (0≤H6)=true:=decide_eq_true c11
           clear c11
           by_cases c12:H6<(x5_1.length:Int)
           ·rw [if_pos c12] at H
            have c12b0:decide (H6<(x5_1.length:Int))=true:=decide_eq_true c12
            clear c12
            obtain ⟨R9,W9⟩:∃ y_:List Int,y_=(([(wrap64 (48+Q4)) % 256]:List Int)):=⟨_,rfl⟩
            replace H:(if (rdOf ByteArray.empty x5_1 H6).size+(strOfNums R9).size≤9223372036854775807 then (if K9.length<8796093022208 then (qp_.l2 k3 a0 x1_1 x5_1 (K9++[(rdOf ByteArray.empty x5_1 H6)++(strOfNums R9)]) H6 (wrap64 (Q4+1))) else (none)) else (none))=some r:=by first|(rw [W9];with_reducible exact H)|(have H2_:=(Option.bind_some _ _).symm.trans H;rw [W9];with_reducible exact H2_)|(have H2_:=(Option.bind_some _ _).symm.trans H;with_reducible exact H2_)|with_reducible exact H|(rw [W9];exact H)|exact H
            have aQ7:=aK W9
            clear W9
            by_cases c13:(rdOf ByteArray.empty x5_1 H6).size+(strOfNums R9).size≤9223372036854775807
            ·rw [if_pos c13] at H
             have c13b0:=eq_true c13
             have c13b1:decide ((rdOf ByteArray.empty x5_1 H6).size+(strOfNums R9).size≤9223372036854775807)=true:=decide_eq_true c13
             try have c13b2:(9223372036854775807<(rdOf ByteArray.empty x5_1 H6).size+(strOfNums R9).size)=False:=eq_false (Nat.not_lt.2 c13)
             by_cases c14:K9.length<8796093022208
             ·rw [if_pos c14] at H
              have LMc14:=aK c14
              clear c14
              obtain ⟨aX3,V9⟩:∃ y_:List ByteArray,y_=(K9++[(rdOf ByteArray.empty x5_1 H6)++(strOfNums R9)]):=⟨_,rfl⟩
              replace H:(qp_.l2 k3 a0 x1_1 x5_1 aX3 H6 (wrap64 (Q4+1)))=some r:=by first|(rw [V9];with_reducible exact H)|(have H2_:=(Option.bind_some _ _).symm.trans H;rw [V9];with_reducible exact H2_)|(have H2_:=(Option.bind_some _ _).symm.trans H;with_reducible exact H2_)|with_reducible exact H|(rw [V9];exact H)|exact H
              have Ny658:=aK V9
              clear V9
              have H':=aK H
              clear H
              try go_wp2
              have n0_:=aK (Kd.R_drew z8.out)
              have n1_:=aK (Kd.R_drew J5.out)
              have n2_:=aK (qc_ HB.out)
              clear z8
              clear J5
              clear HB
              have z8:=n0_
              have J5:=n1_
              have HB:=n2_
              clear n0_ n1_ n2_
              have aZ8:0≤(H6:Int):=of_decide_eq_true (by first|(with_reducible assumption)|assumption)
              have aZ7:H6<(x5_1.length:Int):=of_decide_eq_true (by first|(with_reducible assumption)|assumption)
              obtain ⟨aQ6,e654,aJ0⟩:=Kd.at_string (Kd.qg3_ z8.out).2.2 H6 aZ8 aZ7
              cases e654
              replace aZ8:=eq_true aZ8
              replace aZ7:=eq_true aZ7
              refine start_ (n:=14) (S:=fun w'=>w'.cell? (aQ6.add (H6).toNat)=some (.string (rdOf ByteArray.empty x5_1 H6))) (ds:=[11,12]) #[fF,fF,fF,fF,fF,fF,fF,fF,fF,fF,fF,fF,fF,fF] (by kernel_rfl) rfl rfl (aJ0) (fun hHeld=>?_);refine with_tabW qp_.tab11 qp_.bits11 (fun HT_ HW_=>?_)
              generalize wr.drew=w15 at z8 J5 HB aJ0 hHeld ⊢
              refine pure_ (i:=0) (N:=some 26) (v:=?_) (a':=?_) #[tT,fF,fF,fF,fF,fF,fF,fF,fF,fF,fF,fF,fF,fF] rfl rfl (any_of HT_.out (by kernel_rfl)) (fun _ _ _ h=>h) (Or.inl ⟨by rfl,?_⟩) ?_ ?_
              rotate_left
              ·intro w'
               go_simp
               with_reducible rfl
              rotate_left
              ·simp only [Act.put,List.setIfInBounds_toArray,List.set_cons_zero,List.set_cons_succ,i64_w,i32_w]
               rfl
              refine pure_ (i:=1) (N:=some 27) (v:=?_) (a':=?_) #[tT,tT,fF,fF,fF,fF,fF,fF,fF,fF,fF,fF,fF,fF] rfl rfl (any_of HT_.out (by kernel_rfl)) (fun _ _ _ h=>h) (Or.inl ⟨by rfl,?_⟩) ?_ ?_
              rotate_left
              ·intro w'
               go_simp
               with_reducible rfl
              rotate_left
              ·simp only [Act.put,List.setIfInBounds_toArray,List.set_cons_zero,List.set_cons_succ,i64_w,i32_w]
               rfl
              refine pure_ (i:=2) (N:=some 28) (v:=?_) (a':=?_) #[tT,tT,tT,fF,fF,fF,fF,fF,fF,fF,fF,fF,fF,fF] rfl rfl (any_of HT_.out (by kernel_rfl)) (fun _ _ _ h=>h) (Or.inl ⟨by rfl,?_⟩) ?_ ?_
              rotate_left
              ·intro w'
               go_simp
               with_reducible rfl
              rotate_left
              ·simp only [Act.put,List.setIfInBounds_toArray,List.set_cons_zero,List.set_cons_succ,i64_w,i32_w]
               rfl
              refine pure_ (i:=3) (N:=some 29) (v:=?_) (a':=?_) #[tT,tT,tT,tT,fF,fF,fF,fF,fF,fF,fF,fF,fF,fF] rfl rfl (any_of HT_.out (by kernel_rfl)) (fun _ _ _ h=>h) (Or.inl ⟨by rfl,?_⟩) ?_ ?_
              rotate_left
              ·intro w'
               go_simp
               with_reducible rfl
              rotate_left
              ·simp only [Act.put,List.setIfInBounds_toArray,List.set_cons_zero,List.set_cons_succ,i64_w,i32_w]
               rfl
              refine pure_ (i:=5) (N:=some 31) (v:=?_) (a':=?_) #[tT,tT,tT,tT,fF,tT,fF,fF,fF,fF,fF,fF,fF,fF] rfl rfl (any_of HT_.out (by kernel_rfl)) (fun _ _ _ h=>h) (Or.inl ⟨by rfl,?_⟩) ?_ ?_
              rotate_left
              ·intro w'
               go_simp
               with_reducible rfl
              rotate_left
              ·simp only [Act.put,List.setIfInBounds_toArray,List.set_cons_zero,List.set_cons_succ,i64_w,i32_w]
               rfl
              refine pure_ (i:=6) (N:=some 32) (v:=?_) (a':=?_) #[tT,tT,tT,tT,fF,tT,tT,fF,fF,fF,fF,fF,fF,fF] rfl rfl (any_of HT_.out (by kernel_rfl)) (fun _ _ _ h=>h) (Or.inl ⟨by rfl,?_⟩) ?_ ?_
              rotate_left
              ·intro w'
               go_simp
               with_reducible rfl
              rotate_left
              ·simp only [Act.put,List.setIfInBounds_toArray,List.set_cons_zero,List.set_cons_succ,i64_w,i32_w]
               rfl
              refine pure_ (i:=7) (N:=some 33) (v:=?_) (a':=?_) #[tT,tT,tT,tT,fF,tT,tT,tT,fF,fF,fF,fF,fF,fF] rfl rfl (any_of HT_.out (by kernel_rfl)) (fun _ _ _ h=>h) (Or.inl ⟨by rfl,?_⟩) ?_ ?_
              rotate_left
              ·intro w'
               go_simp
               with_reducible rfl
              rotate_left
              ·simp only [Act.put,List.setIfInBounds_toArray,List.set_cons_zero,List.set_cons_succ,i64_w,i32_w]
               rfl
              refine take_ (i:=4) (N:=some 30) (v:=?_) (a':=?_) #[tT,tT,tT,tT,tT,tT,tT,tT,fF,fF,fF,fF,fF,fF] rfl rfl (take_ofW HT_.out HW_.out (by kernel_rfl)) (fun _ _ _ h=>h) (Or.inl ⟨by rfl,?_⟩) hHeld ?_ ?_
              rotate_left
              ·intro w' s0
               go_simp
               with_reducible rfl
              rotate_left
              ·simp only [Act.put,List.setIfInBounds_toArray,List.set_cons_zero,List.set_cons_succ,i64_w,i32_w]
               rfl
              refine one_ (i:=8) (N:=some 34) #[tT,tT,tT,tT,tT,tT,tT,tT,tT,fF,fF,fF,fF,fF] rfl rfl (one_of HT_.out (by kernel_rfl)) (by decide) (fun K hK=>?_)
              refine Kd.R_lit_step (Kd.int .u8) _ 5 ?hg (N:=34) ?hd (xs:=([(wrap64 (48+Q4)) % 256]:List Int)) (inner:=[.int .u8 ((wrap64 (48+Q4)) % 256)]) (ok:=fun _=>True) (okp:=fun _=>True) ?hr ?hp (fun _ hk=>hk) trivial (Below.refl _ _) (Nat.le_refl _) (by simp) ?_;(case hd=>rfl);(case hg=>rfl);(case hr=>first|(go_simp;done)|(go_simp;rfl));(case hp=>exact (Reps.one (show Kd.M (Kd.int .u8) _ _ _ ((wrap64 (48+Q4)) % 256) [.int .u8 ((wrap64 (48+Q4)) % 256)] from rfl) (Reps.none _ _)))
              intro v656 w16 aJ6 hb hg_ hnew_
              have HS0_:=(hb.cell (World.block_lt_of_cell? _ _ (hHeld))).trans (hHeld)
              clear hg_ hnew_
              (first|rw [← aQ7.out] at aJ6|(simp only [Int.reduceToNat] at aJ6;rw [← aQ7.out] at aJ6))
              have n0_:=aK (Kd.ql2_ (by (with_reducible repeat (first|apply Kd.qs1_|apply Kd.qx1_|apply Kd.R_drew));exact z8.out) hb)
              have n1_:=aK (Kd.ql2_ (by (with_reducible repeat (first|apply Kd.qs1_|apply Kd.qx1_|apply Kd.R_drew));exact J5.out) hb)
              have n2_:=aK (Kd.qn2_ aJ6 (ql_ (by repeat (first|(with_reducible first|exact HB.out|apply qb_|apply qa_|apply qc_)|exact HB.out))))
              have n3_:=aK (qh_ (by repeat (first|(with_reducible first|exact HB.out|apply qb_|apply qa_|apply qc_)|exact HB.out)) hb)
              clear z8
              clear J5
              clear HB
              have z8:=n0_
              have J5:=n1_
              have aJ1:=n2_
              have HB:=n3_
              clear n0_ n1_ n2_ n3_
              clear hb aJ6
              refine hK.out _ _ (HS0_) (fun hHeld=>?_)
              clear hK K
              refine norm_ (a':=?_) ?_ ?_
              rotate_left
              ·show Act.put _ (some 34) _=_
               simp only [Act.put,List.setIfInBounds_toArray,List.set_cons_zero,List.set_cons_succ,i64_w,i32_w]
               rfl
              refine one_ (i:=9) (N:=some 35) #[tT,tT,tT,tT,tT,tT,tT,tT,tT,tT,fF,fF,fF,fF] rfl rfl (one_of HT_.out (by kernel_rfl)) (by decide) (fun K hK=>?_)
              have hcv18:=own_string (P:=Try.prog) Try.underlying140 Try.underlying5 Try.underlying9 (Kd.own_of_R aJ1.out)
              refine value_ (w1:=?_) (v:=?_) (by rfl) rfl ?_ ?_
              rotate_left 2
              ·go_simp
               constructor
               ·rfl
               ·rfl
              clear hcv18
              refine hK.out _ _ (hHeld) (fun hHeld=>?_)
              clear hK K
              refine norm_ (a':=?_) ?_ ?_
              rotate_left
              ·show Act.put _ (some 35) _=_
               simp only [Act.put,List.setIfInBounds_toArray,List.set_cons_zero,List.set_cons_succ,i64_w,i32_w]
               rfl
              refine pure_ (i:=10) (N:=some 36) (v:=?_) (a':=?_) #[tT,tT,tT,tT,tT,tT,tT,tT,tT,tT,tT,fF,fF,fF] rfl rfl (any_of HT_.out (by kernel_rfl)) (fun _ _ _ h=>h) (Or.inl ⟨by rfl,?_⟩) ?_ ?_
              rotate_left
              ·intro w'
               go_simp
               with_reducible rfl
              rotate_left
              ·simp only [Act.put,List.setIfInBounds_toArray,List.set_cons_zero,List.set_cons_succ,i64_w,i32_w]
               rfl
              refine last_ (i:=11) (N:=some 37) #[tT,tT,tT,tT,tT,tT,tT,tT,tT,tT,tT,tT,fF,fF] rfl rfl (one_of HT_.out (by kernel_rfl)) (by decide) (fun K hK=>?_)
              refine value_ (w1:=?_) (v:=?_) (by rfl) rfl ?_ ?_
              rotate_left 2
              ·go_simp
               constructor
               ·rfl
               ·rfl
              refine hK.out _ _ ?_
              clear hK K
              refine norm_ (a':=?_) ?_ ?_
              rotate_left
              ·show Act.put _ (some 37) _=_
               simp only [Act.put,List.setIfInBounds_toArray,List.set_cons_zero,List.set_cons_succ,i64_w,i32_w]
               rfl
              refine last_ (i:=12) (N:=some 38) #[tT,tT,tT,tT,tT,tT,tT,tT,tT,tT,tT,tT,tT,fF] rfl rfl (one_of HT_.out (by kernel_rfl)) (by decide) (fun K hK=>?_)
              refine Kd.qk3_ Kd.string (w0:=w) w.heap.size (by rfl) (.tmp 26) (.tmp 37) 156 9 (.string ⟨#[]⟩) 16 rfl Try.underlying156 info9 rfl (by decide) (by omega) u6 K9 ((rdOf ByteArray.empty x5_1 H6)++(strOfNums R9)) [.string ((rdOf ByteArray.empty x5_1 H6)++(strOfNums R9))] (fun k_=>some k_≠(.slice (some aQ6) x5_1.length co9:Value).ownBlock) (fun _=>False) rfl rfl ?aP (fun _ hk=>hk.elim) ?aF ?aO ?aB ?aS ?aL ?_
              (case aP=>exact rfl)
              (case aB=>exact (by repeat (first|(with_reducible first|exact HB.out|apply qb_|apply qa_|apply qc_)|exact HB.out)))
              (case aF=>exact (fun k_ hk=>Kd.fresh' (Kd.R_lt (by (with_reducible repeat (first|apply Kd.qs1_|apply Kd.qx1_|apply Kd.R_drew));exact z8.out)) k_ hk))
              (case aO=>exact (by (with_reducible repeat (first|apply Kd.qs1_|apply Kd.qx1_|apply Kd.R_drew));exact J5.out))
              (case aS=>exact (ql_ (by repeat (first|(with_reducible first|exact HB.out|apply qb_|apply qa_|apply qc_)|exact HB.out))))
              (case aL=>have:=LMc14.out;omega)
              intro v659 w19 ho hb hg hat
              rw [← Ny658.out] at ho
              have n0_:=aK (Kd.R_after (ok:=(fun _=>True)) (by (with_reducible repeat (first|apply Kd.qs1_|apply Kd.qx1_|apply Kd.R_drew));exact Kd.R_mono z8.out (fun _ hk=>⟨trivial,hk⟩)) hg hat)
              have n1_:=aK (Kd.R_over' (by (with_reducible repeat (first|apply Kd.qs1_|apply Kd.qx1_|apply Kd.R_drew));exact aJ1.out) (Kd.R_typed (by (with_reducible repeat (first|apply Kd.qs1_|apply Kd.qx1_|apply Kd.R_drew));exact J5.out)) (by decide) hg)
              have n2_:=aK (hb)
              have n3_:=aK (ho)
              clear z8
              clear aJ1
              clear HB
              clear J5
              have z8:=n0_
              have aJ1:=n1_
              have HB:=n2_
              have HO660:=n3_
              clear n0_ n1_ n2_ n3_
              clear ho hb hg hat
              refine hK.out _ _ ?_
              clear hK K
              refine norm_ (a':=?_) ?_ ?_
              rotate_left
              ·show Act.put _ (some 38) _=_
               simp only [Act.put,List.setIfInBounds_toArray,List.set_cons_zero,List.set_cons_succ,i64_w,i32_w]
               rfl
              refine pure_ (i:=13) (N:=some 6) (v:=?_) (a':=?_) #[tT,tT,tT,tT,tT,tT,tT,tT,tT,tT,tT,tT,tT,tT] rfl rfl (any_of HT_.out (by kernel_rfl)) (fun _ _ _ h=>h) (Or.inl ⟨by rfl,?_⟩) ?_ ?_
              rotate_left
              ·intro w'
               go_simp
               with_reducible rfl
              rotate_left
              ·simp only [Act.put,List.setIfInBounds_toArray,List.set_cons_zero,List.set_cons_succ,i64_w,i32_w]
               rfl
              refine done_ (done_of HT_.out (by kernel_rfl)) ?_
              try go_wp2
              go_roundg k3
              case measure=>have:=HK1.out;have:=HK2.out;have:=HK3.out;omega
              case rel=>exact ⟨(aX3),(wrap64 (Q4+1)),(by first|rfl|(simp;done)|(simp [*];done)),H',⟨by have:=HK1.out;have:=HK2.out;have:=HK3.out;omega⟩,⟨by (with_reducible repeat (first|apply Kd.qs1_|apply Kd.qx1_|apply Kd.R_drew));exact Kd.R_mono z8.out (fun _ hk=>hk.2)⟩,⟨by (with_reducible repeat (first|apply Kd.qs1_|apply Kd.qx1_|apply Kd.R_drew));exact HO660.out⟩,⟨by repeat (first|(with_reducible first|exact HB.out|apply qb_|apply qa_|apply qc_)|exact HB.out)⟩⟩
             ·rw [if_neg c14] at H
              exact absurd H (by simp)
            ·rw [if_neg c13] at H
             exact absurd H (by simp)
           ·rw [if_neg c12] at H
            exact absurd H (by simp)
          ·rw [if_neg c11] at H
           exact absurd H (by simp)
         ·rw [if_neg c10] at H
          have c10b0:decide (Q4<a0)=false:=decide_eq_false c10
          clear c10
          have H':=aK H
          clear H
          go_wp2
          go_roundg k3
          case measure=>have:=HK1.out;have:=HK2.out;have:=HK3.out;omega
          case rel=>exact ⟨(K9),(wrap64 (H6+1)),(by first|rfl|(simp;done)|(simp [*];done)),H',⟨by have:=HK1.out;have:=HK2.out;have:=HK3.out;omega⟩,⟨by (with_reducible repeat (first|apply Kd.qs1_|apply Kd.qx1_|apply Kd.R_drew));exact z8.out⟩,⟨by (with_reducible repeat (first|apply Kd.qs1_|apply Kd.qx1_|apply Kd.R_drew));exact J5.out⟩,⟨by repeat (first|(with_reducible first|exact HB.out|apply qb_|apply qa_|apply qc_)|exact HB.out)⟩⟩
      ·rw [if_neg c8] at H
       have c8b0:decide (H6<(x5_1.length:Int))=false:=decide_eq_false c8
       clear c8
       have H':=aK H
       clear H
       obtain ⟨Ao20,co20,eo20⟩:=Kd.qd2_ z8.out
       subst eo20
       go_wp2
       go_roundg k2
       case measure=>have:=HK1.out;have:=HK2.out;omega
       case rel=>exact ⟨(wrap64 (x1_1 - 1)),(l6),(by first|rfl|(simp;done)|(simp [*];done)),H',⟨by have:=HK1.out;have:=HK2.out;omega⟩,⟨by (with_reducible repeat (first|apply Kd.qs1_|apply Kd.qx1_|apply Kd.R_drew));exact Kd.R_mono J5.out (fun _ hk=>trivial)⟩,⟨by repeat (first|(with_reducible first|exact HB.out|apply qb_|apply qa_|apply qc_)|exact HB.out)⟩⟩
   ·rw [if_neg c5] at H
    have c5b0:decide (0<x1_1)=false:=decide_eq_false c5
    clear c5
    obtain rfl:=Option.some.inj H
    go_wp2
    go_ret
    exact ⟨_,by first|rfl|(simp [qn_,qo_] <;> rfl)|(simp [*,qn_,qo_] <;> rfl),by (with_reducible repeat (first|apply Kd.qs1_|apply Kd.qx1_|apply Kd.R_drew));exact z8.out,by repeat (first|(with_reducible first|exact HB.out|apply qb_|apply qa_|apply qc_)|exact HB.out)⟩
end Go.Proofs.Ytaiefdhenikiiaa.Base
namespace Go.Proofs.Ytaiefdhenikiiaa.Base
open Go.RowKit Go.Proofs.YtaiefdhenikiiaaW.PrintWords Go.Proofs.YtaiefdhenikiiaaW.PrintLast Go.Proofs.YtaiefdhenikiiaaW.PrintMore
attribute [local go_sem] max2_int qp1_ max_two min_two max_three min_three max_four min_four Go.Proofs.YtaiefdhenikiiaaZ.qw_   -- for this text's walks alone
set_option linter.unusedVariables false
set_option linter.unusedSimpArgs false
def qf3_.f (a0_0:Int) (a0_1:Int) (l0_2:List (S79)):Option (Int × Int × (List (S79))):=some (a0_0,a0_1,(([]:List (S79))))
set_option maxHeartbeats 8000000 in
set_option maxRecDepth 100000 in
theorem qf3_.calls (a0_0:Int) (a0_1:Int) (A0_2:Option Addr) (c0_2:Nat) (l0_2:List (S79)) (r1:Int) (r2:Int) (r3:List (S79)) (w:World) (hr0_2:Kd.C k79 w A0_2 l0_2.length l0_2) (hc0_2:l0_2.length≤c0_2) (h:qf3_.f a0_0 a0_1 l0_2=some (r1,r2,r3)) :
  Calls Try.prog 108 #[.agg #[.int .i64 a0_0,.int .i64 a0_1,.slice A0_2 l0_2.length c0_2]] w fun e w'=>∃ v2_:Value,e=.returned (.agg #[.int .i64 r1,.int .i64 r2,v2_])∧Kd.R k79 79 w' w.heap.size (fun _=>True) v2_ r3∧Below w.heap.size w w':=by
 have hu38:=Try.underlying38
 have HR0_2:=aK hr0_2
 have HC0_2:=aK hc0_2
 clear hr0_2 hc0_2
 have HB:=aK (Below.refl w.heap.size w)
 have H:(some (a0_0,a0_1,(([]:List (S79)))))=some (r1,r2,r3):=h
 clear h
 obtain ⟨aZ6,Y4⟩:∃ y_:List (S79),y_=(([]:List (S79))):=⟨_,rfl⟩
 replace H:(some (a0_0,a0_1,aZ6))=some (r1,r2,r3):=by first|(rw [Y4];with_reducible exact H)|(have H2_:=(Option.bind_some _ _).symm.trans H;rw [Y4];with_reducible exact H2_)|(have H2_:=(Option.bind_some _ _).symm.trans H;with_reducible exact H2_)|with_reducible exact H|(rw [Y4];exact H)|exact H
 have aZ2:=aK Y4
 clear Y4
 simp only [Option.some.injEq,Prod.mk.injEq] at H
 obtain ⟨rfl,rfl,rfl⟩:=H
 go_enter Try.func108,Try.ntmps108
 go_wp2_with (first|((with_reducible refine qt_ (N:=1) rfl ?_);refine qr_ ?hg (N:=1) ?hd (cs:=#[.int .i64 a0_0,.int .i64 a0_1,.slice A0_2 l0_2.length c0_2]) (t:=38) ?hr ?_;(case hd=>rfl);(case hg=>rfl);(case hr=>first|(go_simp;done)|(go_simp;rfl));intro O5 hg w2 hbox hb;have n0_:=aK (qh_ (by repeat (first|(with_reducible first|exact HB.out|apply qb_|apply qa_|apply qc_)|exact HB.out)) hb);have n1_:=aK (hbox);have n2_:=aK ((by rw [hg];exact (ql_ (by repeat (first|(with_reducible first|exact HB.out|apply qb_|apply qa_|apply qc_)|exact HB.out))):w.heap.size≤O5));have n3_:=aK ((by rw [hg];exact (ql_ (by repeat (first|(with_reducible first|exact HB.out|apply qb_|apply qa_|apply qc_)|exact HB.out))):w.heap.size≤O5));clear HB;have HB:=n0_;have K3:=n1_;have GW315:=n2_;have V5:=n3_;clear n0_ n1_ n2_ n3_;clear hb hbox hg)|((with_reducible refine qt_ (N:=2) rfl ?_);refine qr_ ?hg (N:=2) ?hd (cs:=#[.int .i64 0,.int .i64 0,.slice none 0 0]) (t:=38) ?hr ?_;(case hd=>rfl);(case hg=>rfl);(case hr=>first|(go_simp;done)|(go_simp;rfl));intro L9 hg w3 hbox hb;have n0_:=aK (qk_ (g:=O5) (o:=.cells #[.int .i64 a0_0,.int .i64 a0_1,.slice A0_2 l0_2.length c0_2] 38 (0,0)) (by (with_reducible repeat (first|refine qg_ ?_ _|refine qj_ ?_|refine qf_ ?_ _));exact K3.out) hb);have n1_:=aK (qh_ (by repeat (first|(with_reducible first|exact HB.out|apply qb_|apply qa_|apply qc_|refine qi_ ?_ V5.out)|exact HB.out)) hb);have n2_:=aK (hbox);have n3_:=aK ((by rw [hg];exact (ql_ (by repeat (first|(with_reducible first|exact HB.out|apply qb_|apply qa_|apply qc_|refine qi_ ?_ V5.out)|exact HB.out))):w.heap.size≤L9));have n4_:=aK ((by rw [hg];exact (ql_ (by repeat (first|(with_reducible first|exact HB.out|apply qb_|apply qa_|apply qc_|refine qi_ ?_ V5.out)|exact HB.out))):w.heap.size≤L9));have n5_:=aK ((by rw [hg];exact Nat.ne_of_lt (blk_lt (g:=O5) (o:=.cells #[.int .i64 a0_0,.int .i64 a0_1,.slice A0_2 l0_2.length c0_2] 38 (0,0)) (by (with_reducible repeat (first|refine qg_ ?_ _|refine qj_ ?_|refine qf_ ?_ _));exact K3.out)):O5≠L9));have n6_:=aK ((by rw [hg];exact Nat.ne_of_gt (blk_lt (g:=O5) (o:=.cells #[.int .i64 a0_0,.int .i64 a0_1,.slice A0_2 l0_2.length c0_2] 38 (0,0)) (by (with_reducible repeat (first|refine qg_ ?_ _|refine qj_ ?_|refine qf_ ?_ _));exact K3.out)):L9≠O5));clear K3;clear HB;have K3:=n0_;have HB:=n1_;have P6:=n2_;have GW316:=n3_;have aQ2:=n4_;have NB315_316:=n5_;have NB316_315:=n6_;clear n0_ n1_ n2_ n3_ n4_ n5_ n6_;clear hb hbox hg;have hnb4:=NB315_316.out;have hnc4:=NB316_315.out;have hcz5_0:w3.cell? ⟨O5,0,none⟩=some (.int .i64 a0_0):=(qe_ K3.out 0).trans rfl;have hcz5_1:w3.cell? ⟨O5,1,none⟩=some (.int .i64 a0_1):=(qe_ K3.out 1).trans rfl;have hcz5_2:w3.cell? ⟨O5,2,none⟩=some (.slice A0_2 l0_2.length c0_2):=(qe_ K3.out 2).trans rfl;have hfz5_0:=qd_ K3.out 0;have hfz5_1:=qd_ K3.out 1;have hfz5_2:=qd_ K3.out 2)|((with_reducible refine qt_ (N:=7) rfl ?_);refine Kd.R_lit k79 _ 79 ?hg (N:=7) ?hd (xs:=([]:List (S79))) (inner:=[]) (ok:=fun _=>True) (okp:=fun _=>True) ?hr ?hp (fun _ hk=>hk) trivial (Below.refl _ _) (Nat.le_refl _) (by simp) ?_;(case hd=>rfl);(case hg=>rfl);(case hr=>first|(go_simp;done)|(go_simp;rfl));(case hp=>exact (Reps.none _ _));intro v318 w6 ho7 hb hg_ hnew_;clear hg_ hnew_;(first|rw [← aZ2.out] at ho7|(simp only [Int.reduceToNat] at ho7;rw [← aZ2.out] at ho7));have n0_:=aK (Kd.qn2_ ho7 (ql_ (by repeat (first|(with_reducible first|exact HB.out|apply qb_|apply qa_|apply qc_|refine qi_ ?_ V5.out|refine qi_ ?_ aQ2.out)|exact HB.out))));have n1_:=aK (qk_ (g:=O5) (o:=.cells #[.int .i64 a0_0,.int .i64 a0_1,.slice A0_2 l0_2.length c0_2] 38 (0,0)) (by (with_reducible repeat (first|refine qg_ ?_ _|refine qj_ ?_|refine qf_ ?_ _));exact K3.out) hb);have n2_:=aK (qk_ (g:=L9) (o:=.cells #[.int .i64 0,.int .i64 0,.slice none 0 0] 38 (0,0)) (by (with_reducible repeat (first|refine qg_ ?_ _|refine qj_ ?_|refine qf_ ?_ _));exact P6.out) hb);have n3_:=aK (qh_ (by repeat (first|(with_reducible first|exact HB.out|apply qb_|apply qa_|apply qc_|refine qi_ ?_ V5.out|refine qi_ ?_ aQ2.out)|exact HB.out)) hb);clear K3;clear P6;clear HB;have aZ4:=n0_;have K3:=n1_;have P6:=n2_;have HB:=n3_;clear n0_ n1_ n2_ n3_;clear hb ho7;obtain ⟨Ao8,co8,eo8⟩:=Kd.qd2_ aZ4.out;subst eo8;have hcz9_0:w6.cell? ⟨L9,0,none⟩=some (.int .i64 0):=(qe_ P6.out 0).trans rfl;have hcz9_1:w6.cell? ⟨L9,1,none⟩=some (.int .i64 0):=(qe_ P6.out 1).trans rfl;have hcz9_2:w6.cell? ⟨L9,2,none⟩=some (.slice none 0 0):=(qe_ P6.out 2).trans rfl;have hfz9_0:=qd_ P6.out 0;have hfz9_1:=qd_ P6.out 1;have hfz9_2:=qd_ P6.out 2))
 refine bodyPost_ret (results_cell_row rfl _ _ L9 38 #[.int .i64 a0_0,.int .i64 a0_1,.slice Ao8 aZ6.length co8] (0,0) _ rfl (by (with_reducible repeat (first|refine qg_ ?_ _|refine qj_ ?_|refine qf_ ?_ _));refine ql1_ (cs:=#[.int .i64 a0_0,.int .i64 a0_1,.slice none 0 0]) ?_ 2 _ rfl;(with_reducible repeat (first|refine qg_ ?_ _|refine qj_ ?_|refine qf_ ?_ _));refine ql1_ (cs:=#[.int .i64 a0_0,.int .i64 0,.slice none 0 0]) ?_ 1 _ rfl;(with_reducible repeat (first|refine qg_ ?_ _|refine qj_ ?_|refine qf_ ?_ _));refine ql1_ (cs:=#[.int .i64 0,.int .i64 0,.slice none 0 0]) ?_ 0 _ rfl;(with_reducible repeat (first|refine qg_ ?_ _|refine qj_ ?_|refine qf_ ?_ _));exact P6.out) Try.underlying38 rfl (by kernel_rfl)) rfl ?_
 exact ⟨_,by first|rfl|(simp [qn_,qo_] <;> rfl)|(simp [*,qn_,qo_] <;> rfl),by (with_reducible repeat (first|apply Kd.qs1_|apply Kd.qx1_|apply Kd.R_drew));exact Kd.R_mono (Kd.R_far (p:=⟨L9,2,none⟩) (Kd.R_far (p:=⟨L9,1,none⟩) (Kd.R_far (p:=⟨L9,0,none⟩) (Kd.R_types aZ4.out P6.out (by decide)) (fun _ hk=>hk.2) (.int .i64 a0_0)) (fun _ hk=>hk.2) (.int .i64 a0_1)) (fun _ hk=>hk.2) (.slice Ao8 aZ6.length co8)) (fun _ hk=>trivial),by repeat (first|(with_reducible first|exact HB.out|apply qb_|apply qa_|apply qc_|refine qi_ ?_ V5.out|refine qi_ ?_ aQ2.out)|exact HB.out)⟩
end Go.Proofs.Ytaiefdhenikiiaa.Base
namespace Go.Proofs.Ytaiefdhenikiiaa.Base
open Go.RowKit Go.Proofs.YtaiefdhenikiiaaW.PrintWords Go.Proofs.YtaiefdhenikiiaaW.PrintLast Go.Proofs.YtaiefdhenikiiaaW.PrintMore
attribute [local go_sem] max2_int qp1_ max_two min_two max_three min_three max_four min_four Go.Proofs.YtaiefdhenikiiaaZ.qw_   -- for this text's walks alone
set_option linter.unusedVariables false
set_option linter.unusedSimpArgs false
def qh3_.f (a0:Int):Option (Int × Int):=some (a0,1)
set_option maxHeartbeats 8000000 in
set_option maxRecDepth 100000 in
theorem qh3_.calls (a0:Int) (r1:Int) (r2:Int) (w:World) (h:qh3_.f a0=some (r1,r2)) :
  Calls Try.prog 124 #[.int .i64 a0] w fun e w'=>e=.returned (.agg #[.int .i64 r1,.int .i64 r2])∧Below w.heap.size w w':=by
 have hu77:=Try.underlying77
 have HB:=aK (Below.refl w.heap.size w)
 have H:(some (a0,1))=some (r1,r2):=h
 clear h
 simp only [Option.some.injEq,Prod.mk.injEq] at H
 obtain ⟨rfl,rfl⟩:=H
 go_enter Try.func124,Try.ntmps124
 go_wp2_with (first|((with_reducible refine qt_ (N:=2) rfl ?_);refine qr_ ?hg (N:=2) ?hd (cs:=#[.int .i64 0,.int .i64 0]) (t:=77) ?hr ?_;(case hd=>rfl);(case hg=>rfl);(case hr=>first|(go_simp;done)|(go_simp;rfl));intro Y6 hg w2 hbox hb;have n0_:=aK (qh_ (by repeat (first|(with_reducible first|exact HB.out|apply qb_|apply qa_|apply qc_)|exact HB.out)) hb);have n1_:=aK (hbox);have n2_:=aK ((by rw [hg];exact (ql_ (by repeat (first|(with_reducible first|exact HB.out|apply qb_|apply qa_|apply qc_)|exact HB.out))):w.heap.size≤Y6));have n3_:=aK ((by rw [hg];exact (ql_ (by repeat (first|(with_reducible first|exact HB.out|apply qb_|apply qa_|apply qc_)|exact HB.out))):w.heap.size≤Y6));clear HB;have HB:=n0_;have Z5:=n1_;have GW609:=n2_;have GE609:=n3_;clear n0_ n1_ n2_ n3_;clear hb hbox hg;have hcz3_0:w2.cell? ⟨Y6,0,none⟩=some (.int .i64 0):=(qe_ Z5.out 0).trans rfl;have hcz3_1:w2.cell? ⟨Y6,1,none⟩=some (.int .i64 0):=(qe_ Z5.out 1).trans rfl;have hfz3_0:=qd_ Z5.out 0;have hfz3_1:=qd_ Z5.out 1))
 refine bodyPost_ret (results_cell_row rfl _ _ Y6 77 #[.int .i64 a0,.int .i64 1] (0,0) _ rfl (by (with_reducible repeat (first|refine qg_ ?_ _|refine qj_ ?_|refine qf_ ?_ _));refine ql1_ (cs:=#[.int .i64 a0,.int .i64 0]) ?_ 1 _ rfl;(with_reducible repeat (first|refine qg_ ?_ _|refine qj_ ?_|refine qf_ ?_ _));refine ql1_ (cs:=#[.int .i64 0,.int .i64 0]) ?_ 0 _ rfl;(with_reducible repeat (first|refine qg_ ?_ _|refine qj_ ?_|refine qf_ ?_ _));exact Z5.out) Try.underlying77 rfl (by kernel_rfl)) rfl ?_
 exact ⟨by first|rfl|(simp [qn_,qo_] <;> rfl)|(simp [*,qn_,qo_] <;> rfl),by repeat (first|(with_reducible first|exact HB.out|apply qb_|apply qa_|apply qc_|refine qi_ ?_ GE609.out)|exact HB.out)⟩
end Go.Proofs.Ytaiefdhenikiiaa.Base
namespace Go.Proofs.Ytaiefdhenikiiaa.Base
open Go.RowKit Go.Proofs.YtaiefdhenikiiaaW.PrintWords Go.Proofs.YtaiefdhenikiiaaW.PrintLast Go.Proofs.YtaiefdhenikiiaaW.PrintMore
attribute [local go_sem] max2_int qp1_ max_two min_two max_three min_three max_four min_four Go.Proofs.YtaiefdhenikiiaaZ.qw_   -- for this text's walks alone
set_option linter.unusedVariables false
set_option linter.unusedSimpArgs false
def qd3_.f (a0_0:Int) (a0_1:Int) (l0_2:List (S79)) (a1_0:Int) (a1_1:Int) (l1_2:List (S79)):Option (Bool):=if a0_0=a1_0 then (some (a0_1==a1_1)) else (some false)
set_option maxHeartbeats 8000000 in
set_option maxRecDepth 100000 in
theorem qd3_.calls (a0_0:Int) (a0_1:Int) (A0_2:Option Addr) (c0_2:Nat) (l0_2:List (S79)) (a1_0:Int) (a1_1:Int) (A1_2:Option Addr) (c1_2:Nat) (l1_2:List (S79)) (r:Bool) (w:World) (hr0_2:Kd.C k79 w A0_2 l0_2.length l0_2) (hc0_2:l0_2.length≤c0_2) (hr1_2:Kd.C k79 w A1_2 l1_2.length l1_2) (hc1_2:l1_2.length≤c1_2) (h:qd3_.f a0_0 a0_1 l0_2 a1_0 a1_1 l1_2=some r) :
  Calls Try.prog 110 #[.agg #[.int .i64 a0_0,.int .i64 a0_1,.slice A0_2 l0_2.length c0_2],.agg #[.int .i64 a1_0,.int .i64 a1_1,.slice A1_2 l1_2.length c1_2]] w fun e w'=>e=.returned (.bool r)∧Below w.heap.size w w':=by
 have hu38:=Try.underlying38
 have HR0_2:=aK hr0_2
 have HC0_2:=aK hc0_2
 clear hr0_2 hc0_2
 have HR1_2:=aK hr1_2
 have HC1_2:=aK hc1_2
 clear hr1_2 hc1_2
 have HB:=aK (Below.refl w.heap.size w)
 have H:(if a0_0=a1_0 then (some (a0_1==a1_1)) else (some false))=some r:=h
 clear h
 by_cases c3:a0_0=a1_0
 ·rw [if_pos c3] at H
  have c3b0:(a0_0==a1_0)=true:=beq_iff_eq.mpr c3
  have c3b1:(a0_0 != a1_0)=false:=bne_eq_false_iff_eq.mpr c3
  clear c3
  obtain rfl:=Option.some.inj H
  go_enter Try.func110,Try.ntmps110
  go_wp2_with (first|((with_reducible refine qt_ (N:=2) rfl ?_);refine qr_ ?hg (N:=2) ?hd (cs:=#[.int .i64 a0_0,.int .i64 a0_1,.slice A0_2 l0_2.length c0_2]) (t:=38) ?hr ?_;(case hd=>rfl);(case hg=>rfl);(case hr=>first|(go_simp;done)|(go_simp;rfl));intro q8 hg w4 hbox hb;have n0_:=aK (qh_ (by repeat (first|(with_reducible first|exact HB.out|apply qb_|apply qa_|apply qc_)|exact HB.out)) hb);have n1_:=aK (hbox);have n2_:=aK ((by rw [hg];exact (ql_ (by repeat (first|(with_reducible first|exact HB.out|apply qb_|apply qa_|apply qc_)|exact HB.out))):w.heap.size≤q8));have n3_:=aK ((by rw [hg];exact (ql_ (by repeat (first|(with_reducible first|exact HB.out|apply qb_|apply qa_|apply qc_)|exact HB.out))):w.heap.size≤q8));clear HB;have HB:=n0_;have o7:=n1_;have GW1037:=n2_;have L6:=n3_;clear n0_ n1_ n2_ n3_;clear hb hbox hg)|((with_reducible refine qt_ (N:=3) rfl ?_);refine qr_ ?hg (N:=3) ?hd (cs:=#[.int .i64 a1_0,.int .i64 a1_1,.slice A1_2 l1_2.length c1_2]) (t:=38) ?hr ?_;(case hd=>rfl);(case hg=>rfl);(case hr=>first|(go_simp;done)|(go_simp;rfl));intro D8 hg w5 hbox hb;have n0_:=aK (qk_ (g:=q8) (o:=.cells #[.int .i64 a0_0,.int .i64 a0_1,.slice A0_2 l0_2.length c0_2] 38 (0,0)) (by (with_reducible repeat (first|refine qg_ ?_ _|refine qj_ ?_|refine qf_ ?_ _));exact o7.out) hb);have n1_:=aK (qh_ (by repeat (first|(with_reducible first|exact HB.out|apply qb_|apply qa_|apply qc_|refine qi_ ?_ L6.out)|exact HB.out)) hb);have n2_:=aK (hbox);have n3_:=aK ((by rw [hg];exact (ql_ (by repeat (first|(with_reducible first|exact HB.out|apply qb_|apply qa_|apply qc_|refine qi_ ?_ L6.out)|exact HB.out))):w.heap.size≤D8));have n4_:=aK ((by rw [hg];exact (ql_ (by repeat (first|(with_reducible first|exact HB.out|apply qb_|apply qa_|apply qc_|refine qi_ ?_ L6.out)|exact HB.out))):w.heap.size≤D8));have n5_:=aK ((by rw [hg];exact Nat.ne_of_lt (blk_lt (g:=q8) (o:=.cells #[.int .i64 a0_0,.int .i64 a0_1,.slice A0_2 l0_2.length c0_2] 38 (0,0)) (by (with_reducible repeat (first|refine qg_ ?_ _|refine qj_ ?_|refine qf_ ?_ _));exact o7.out)):q8≠D8));have n6_:=aK ((by rw [hg];exact Nat.ne_of_gt (blk_lt (g:=q8) (o:=.cells #[.int .i64 a0_0,.int .i64 a0_1,.slice A0_2 l0_2.length c0_2] 38 (0,0)) (by (with_reducible repeat (first|refine qg_ ?_ _|refine qj_ ?_|refine qf_ ?_ _));exact o7.out)):D8≠q8));clear o7;clear HB;have o7:=n0_;have HB:=n1_;have I1:=n2_;have GW1038:=n3_;have Z6:=n4_;have O7:=n5_;have O6:=n6_;clear n0_ n1_ n2_ n3_ n4_ n5_ n6_;clear hb hbox hg;have hnb6:=O7.out;have hnc6:=O6.out;have hcz7_0:w5.cell? ⟨q8,0,none⟩=some (.int .i64 a0_0):=(qe_ o7.out 0).trans rfl;have hcz7_1:w5.cell? ⟨q8,1,none⟩=some (.int .i64 a0_1):=(qe_ o7.out 1).trans rfl;have hcz7_2:w5.cell? ⟨q8,2,none⟩=some (.slice A0_2 l0_2.length c0_2):=(qe_ o7.out 2).trans rfl;have hfz7_0:=qd_ o7.out 0;have hfz7_1:=qd_ o7.out 1;have hfz7_2:=qd_ o7.out 2;have hcz8_0:w5.cell? ⟨D8,0,none⟩=some (.int .i64 a1_0):=(qe_ I1.out 0).trans rfl;have hcz8_1:w5.cell? ⟨D8,1,none⟩=some (.int .i64 a1_1):=(qe_ I1.out 1).trans rfl;have hcz8_2:w5.cell? ⟨D8,2,none⟩=some (.slice A1_2 l1_2.length c1_2):=(qe_ I1.out 2).trans rfl;have hfz8_0:=qd_ I1.out 0;have hfz8_1:=qd_ I1.out 1;have hfz8_2:=qd_ I1.out 2))
  go_ret
  exact ⟨by first|rfl|(simp [qn_,qo_] <;> rfl)|(simp [*,qn_,qo_] <;> rfl),by repeat (first|(with_reducible first|exact HB.out|apply qb_|apply qa_|apply qc_|refine qi_ ?_ L6.out|refine qi_ ?_ Z6.out)|exact HB.out)⟩
 ·rw [if_neg c3] at H
  have c3b0:(a0_0==a1_0)=false:=beq_eq_false_iff_ne.mpr c3
  have c3b1:(a0_0 != a1_0)=true:=bne_iff_ne.mpr c3
  obtain rfl:=Option.some.inj H
  go_enter Try.func110,Try.ntmps110
  go_wp2_with (first|((with_reducible refine qt_ (N:=2) rfl ?_);refine qr_ ?hg (N:=2) ?hd (cs:=#[.int .i64 a0_0,.int .i64 a0_1,.slice A0_2 l0_2.length c0_2]) (t:=38) ?hr ?_;(case hd=>rfl);(case hg=>rfl);(case hr=>first|(go_simp;done)|(go_simp;rfl));intro q8 hg w9 hbox hb;have n0_:=aK (qh_ (by repeat (first|(with_reducible first|exact HB.out|apply qb_|apply qa_|apply qc_)|exact HB.out)) hb);have n1_:=aK (hbox);have n2_:=aK ((by rw [hg];exact (ql_ (by repeat (first|(with_reducible first|exact HB.out|apply qb_|apply qa_|apply qc_)|exact HB.out))):w.heap.size≤q8));have n3_:=aK ((by rw [hg];exact (ql_ (by repeat (first|(with_reducible first|exact HB.out|apply qb_|apply qa_|apply qc_)|exact HB.out))):w.heap.size≤q8));clear HB;have HB:=n0_;have o7:=n1_;have GW1037:=n2_;have L6:=n3_;clear n0_ n1_ n2_ n3_;clear hb hbox hg)|((with_reducible refine qt_ (N:=3) rfl ?_);refine qr_ ?hg (N:=3) ?hd (cs:=#[.int .i64 a1_0,.int .i64 a1_1,.slice A1_2 l1_2.length c1_2]) (t:=38) ?hr ?_;(case hd=>rfl);(case hg=>rfl);(case hr=>first|(go_simp;done)|(go_simp;rfl));intro D8 hg w10 hbox hb;have n0_:=aK (qk_ (g:=q8) (o:=.cells #[.int .i64 a0_0,.int .i64 a0_1,.slice A0_2 l0_2.length c0_2] 38 (0,0)) (by (with_reducible repeat (first|refine qg_ ?_ _|refine qj_ ?_|refine qf_ ?_ _));exact o7.out) hb);have n1_:=aK (qh_ (by repeat (first|(with_reducible first|exact HB.out|apply qb_|apply qa_|apply qc_|refine qi_ ?_ L6.out)|exact HB.out)) hb);have n2_:=aK (hbox);have n3_:=aK ((by rw [hg];exact (ql_ (by repeat (first|(with_reducible first|exact HB.out|apply qb_|apply qa_|apply qc_|refine qi_ ?_ L6.out)|exact HB.out))):w.heap.size≤D8));have n4_:=aK ((by rw [hg];exact (ql_ (by repeat (first|(with_reducible first|exact HB.out|apply qb_|apply qa_|apply qc_|refine qi_ ?_ L6.out)|exact HB.out))):w.heap.size≤D8));have n5_:=aK ((by rw [hg];exact Nat.ne_of_lt (blk_lt (g:=q8) (o:=.cells #[.int .i64 a0_0,.int .i64 a0_1,.slice A0_2 l0_2.length c0_2] 38 (0,0)) (by (with_reducible repeat (first|refine qg_ ?_ _|refine qj_ ?_|refine qf_ ?_ _));exact o7.out)):q8≠D8));have n6_:=aK ((by rw [hg];exact Nat.ne_of_gt (blk_lt (g:=q8) (o:=.cells #[.int .i64 a0_0,.int .i64 a0_1,.slice A0_2 l0_2.length c0_2] 38 (0,0)) (by (with_reducible repeat (first|refine qg_ ?_ _|refine qj_ ?_|refine qf_ ?_ _));exact o7.out)):D8≠q8));clear o7;clear HB;have o7:=n0_;have HB:=n1_;have I1:=n2_;have GW1038:=n3_;have Z6:=n4_;have O7:=n5_;have O6:=n6_;clear n0_ n1_ n2_ n3_ n4_ n5_ n6_;clear hb hbox hg;have hnb11:=O7.out;have hnc11:=O6.out;have hcz12_0:w10.cell? ⟨q8,0,none⟩=some (.int .i64 a0_0):=(qe_ o7.out 0).trans rfl;have hcz12_1:w10.cell? ⟨q8,1,none⟩=some (.int .i64 a0_1):=(qe_ o7.out 1).trans rfl;have hcz12_2:w10.cell? ⟨q8,2,none⟩=some (.slice A0_2 l0_2.length c0_2):=(qe_ o7.out 2).trans rfl;have hfz12_0:=qd_ o7.out 0;have hfz12_1:=qd_ o7.out 1;have hfz12_2:=qd_ o7.out 2;have hcz13_0:w10.cell? ⟨D8,0,none⟩=some (.int .i64 a1_0):=(qe_ I1.out 0).trans rfl;have hcz13_1:w10.cell? ⟨D8,1,none⟩=some (.int .i64 a1_1):=(qe_ I1.out 1).trans rfl;have hcz13_2:w10.cell? ⟨D8,2,none⟩=some (.slice A1_2 l1_2.length c1_2):=(qe_ I1.out 2).trans rfl;have hfz13_0:=qd_ I1.out 0;have hfz13_1:=qd_ I1.out 1;have hfz13_2:=qd_ I1.out 2))
  go_ret
  exact ⟨by first|rfl|(simp [qn_,qo_] <;> rfl)|(simp [*,qn_,qo_] <;> rfl),by repeat (first|(with_reducible first|exact HB.out|apply qb_|apply qa_|apply qc_|refine qi_ ?_ L6.out|refine qi_ ?_ Z6.out)|exact HB.out)⟩
end Go.Proofs.Ytaiefdhenikiiaa.Base
namespace Go.Proofs.Ytaiefdhenikiiaa.Base
open Go.RowKit Go.Proofs.YtaiefdhenikiiaaW.PrintWords Go.Proofs.YtaiefdhenikiiaaW.PrintLast Go.Proofs.YtaiefdhenikiiaaW.PrintMore
attribute [local go_sem] max2_int qp1_ max_two min_two max_three min_three max_four min_four Go.Proofs.YtaiefdhenikiiaaZ.qw_   -- for this text's walks alone
set_option linter.unusedVariables false
set_option linter.unusedSimpArgs false
def qc3_.f (a0_0:Int) (a0_1:Int) (l0_2:List (S79)) (a1_0:Int) (a1_1:Int) (l1_2:List (S79)):Option (Bool):=if a0_0=a1_0 then (some (a0_1==a1_1)) else (some false)
set_option maxHeartbeats 8000000 in
set_option maxRecDepth 100000 in
theorem qc3_.calls (a0_0:Int) (a0_1:Int) (A0_2:Option Addr) (c0_2:Nat) (l0_2:List (S79)) (a1_0:Int) (a1_1:Int) (A1_2:Option Addr) (c1_2:Nat) (l1_2:List (S79)) (r:Bool) (w:World) (hr0_2:Kd.C k79 w A0_2 l0_2.length l0_2) (hc0_2:l0_2.length≤c0_2) (hr1_2:Kd.C k79 w A1_2 l1_2.length l1_2) (hc1_2:l1_2.length≤c1_2) (h:qc3_.f a0_0 a0_1 l0_2 a1_0 a1_1 l1_2=some r) :
  Calls Try.prog 170 #[.agg #[.int .i64 a0_0,.int .i64 a0_1,.slice A0_2 l0_2.length c0_2],.agg #[.int .i64 a1_0,.int .i64 a1_1,.slice A1_2 l1_2.length c1_2]] w fun e w'=>e=.returned (.bool r)∧Below w.heap.size w w':=by
 have hu38:=Try.underlying38
 have HR0_2:=aK hr0_2
 have HC0_2:=aK hc0_2
 clear hr0_2 hc0_2
 have HR1_2:=aK hr1_2
 have HC1_2:=aK hc1_2
 clear hr1_2 hc1_2
 have HB:=aK (Below.refl w.heap.size w)
 have H:(if a0_0=a1_0 then (some (a0_1==a1_1)) else (some false))=some r:=h
 clear h
 by_cases c3:a0_0=a1_0
 ·rw [if_pos c3] at H
  have c3b0:(a0_0==a1_0)=true:=beq_iff_eq.mpr c3
  have c3b1:(a0_0 != a1_0)=false:=bne_eq_false_iff_eq.mpr c3
  clear c3
  obtain rfl:=Option.some.inj H
  go_enter Try.func170,Try.ntmps170
  go_wp2_with (first|((with_reducible refine qt_ (N:=2) rfl ?_);refine qr_ ?hg (N:=2) ?hd (cs:=#[.int .i64 a0_0,.int .i64 a0_1,.slice A0_2 l0_2.length c0_2]) (t:=38) ?hr ?_;(case hd=>rfl);(case hg=>rfl);(case hr=>first|(go_simp;done)|(go_simp;rfl));intro r9 hg w4 hbox hb;have n0_:=aK (qh_ (by repeat (first|(with_reducible first|exact HB.out|apply qb_|apply qa_|apply qc_)|exact HB.out)) hb);have n1_:=aK (hbox);have n2_:=aK ((by rw [hg];exact (ql_ (by repeat (first|(with_reducible first|exact HB.out|apply qb_|apply qa_|apply qc_)|exact HB.out))):w.heap.size≤r9));have n3_:=aK ((by rw [hg];exact (ql_ (by repeat (first|(with_reducible first|exact HB.out|apply qb_|apply qa_|apply qc_)|exact HB.out))):w.heap.size≤r9));clear HB;have HB:=n0_;have o8:=n1_;have GW1005:=n2_;have L8:=n3_;clear n0_ n1_ n2_ n3_;clear hb hbox hg)|((with_reducible refine qt_ (N:=3) rfl ?_);refine qr_ ?hg (N:=3) ?hd (cs:=#[.int .i64 a1_0,.int .i64 a1_1,.slice A1_2 l1_2.length c1_2]) (t:=38) ?hr ?_;(case hd=>rfl);(case hg=>rfl);(case hr=>first|(go_simp;done)|(go_simp;rfl));intro F3 hg w5 hbox hb;have n0_:=aK (qk_ (g:=r9) (o:=.cells #[.int .i64 a0_0,.int .i64 a0_1,.slice A0_2 l0_2.length c0_2] 38 (0,0)) (by (with_reducible repeat (first|refine qg_ ?_ _|refine qj_ ?_|refine qf_ ?_ _));exact o8.out) hb);have n1_:=aK (qh_ (by repeat (first|(with_reducible first|exact HB.out|apply qb_|apply qa_|apply qc_|refine qi_ ?_ L8.out)|exact HB.out)) hb);have n2_:=aK (hbox);have n3_:=aK ((by rw [hg];exact (ql_ (by repeat (first|(with_reducible first|exact HB.out|apply qb_|apply qa_|apply qc_|refine qi_ ?_ L8.out)|exact HB.out))):w.heap.size≤F3));have n4_:=aK ((by rw [hg];exact (ql_ (by repeat (first|(with_reducible first|exact HB.out|apply qb_|apply qa_|apply qc_|refine qi_ ?_ L8.out)|exact HB.out))):w.heap.size≤F3));have n5_:=aK ((by rw [hg];exact Nat.ne_of_lt (blk_lt (g:=r9) (o:=.cells #[.int .i64 a0_0,.int .i64 a0_1,.slice A0_2 l0_2.length c0_2] 38 (0,0)) (by (with_reducible repeat (first|refine qg_ ?_ _|refine qj_ ?_|refine qf_ ?_ _));exact o8.out)):r9≠F3));have n6_:=aK ((by rw [hg];exact Nat.ne_of_gt (blk_lt (g:=r9) (o:=.cells #[.int .i64 a0_0,.int .i64 a0_1,.slice A0_2 l0_2.length c0_2] 38 (0,0)) (by (with_reducible repeat (first|refine qg_ ?_ _|refine qj_ ?_|refine qf_ ?_ _));exact o8.out)):F3≠r9));clear o8;clear HB;have o8:=n0_;have HB:=n1_;have I4:=n2_;have GW1006:=n3_;have Z7:=n4_;have O9:=n5_;have O8:=n6_;clear n0_ n1_ n2_ n3_ n4_ n5_ n6_;clear hb hbox hg;have hnb6:=O9.out;have hnc6:=O8.out;have hcz7_0:w5.cell? ⟨r9,0,none⟩=some (.int .i64 a0_0):=(qe_ o8.out 0).trans rfl;have hcz7_1:w5.cell? ⟨r9,1,none⟩=some (.int .i64 a0_1):=(qe_ o8.out 1).trans rfl;have hcz7_2:w5.cell? ⟨r9,2,none⟩=some (.slice A0_2 l0_2.length c0_2):=(qe_ o8.out 2).trans rfl;have hfz7_0:=qd_ o8.out 0;have hfz7_1:=qd_ o8.out 1;have hfz7_2:=qd_ o8.out 2;have hcz8_0:w5.cell? ⟨F3,0,none⟩=some (.int .i64 a1_0):=(qe_ I4.out 0).trans rfl;have hcz8_1:w5.cell? ⟨F3,1,none⟩=some (.int .i64 a1_1):=(qe_ I4.out 1).trans rfl;have hcz8_2:w5.cell? ⟨F3,2,none⟩=some (.slice A1_2 l1_2.length c1_2):=(qe_ I4.out 2).trans rfl;have hfz8_0:=qd_ I4.out 0;have hfz8_1:=qd_ I4.out 1;have hfz8_2:=qd_ I4.out 2))
  go_ret
  exact ⟨by first|rfl|(simp [qn_,qo_] <;> rfl)|(simp [*,qn_,qo_] <;> rfl),by repeat (first|(with_reducible first|exact HB.out|apply qb_|apply qa_|apply qc_|refine qi_ ?_ L8.out|refine qi_ ?_ Z7.out)|exact HB.out)⟩
 ·rw [if_neg c3] at H
  have c3b0:(a0_0==a1_0)=false:=beq_eq_false_iff_ne.mpr c3
  have c3b1:(a0_0 != a1_0)=true:=bne_iff_ne.mpr c3
  obtain rfl:=Option.some.inj H
  go_enter Try.func170,Try.ntmps170
  go_wp2_with (first|((with_reducible refine qt_ (N:=2) rfl ?_);refine qr_ ?hg (N:=2) ?hd (cs:=#[.int .i64 a0_0,.int .i64 a0_1,.slice A0_2 l0_2.length c0_2]) (t:=38) ?hr ?_;(case hd=>rfl);(case hg=>rfl);(case hr=>first|(go_simp;done)|(go_simp;rfl));intro r9 hg w9 hbox hb;have n0_:=aK (qh_ (by repeat (first|(with_reducible first|exact HB.out|apply qb_|apply qa_|apply qc_)|exact HB.out)) hb);have n1_:=aK (hbox);have n2_:=aK ((by rw [hg];exact (ql_ (by repeat (first|(with_reducible first|exact HB.out|apply qb_|apply qa_|apply qc_)|exact HB.out))):w.heap.size≤r9));have n3_:=aK ((by rw [hg];exact (ql_ (by repeat (first|(with_reducible first|exact HB.out|apply qb_|apply qa_|apply qc_)|exact HB.out))):w.heap.size≤r9));clear HB;have HB:=n0_;have o8:=n1_;have GW1005:=n2_;have L8:=n3_;clear n0_ n1_ n2_ n3_;clear hb hbox hg)|((with_reducible refine qt_ (N:=3) rfl ?_);refine qr_ ?hg (N:=3) ?hd (cs:=#[.int .i64 a1_0,.int .i64 a1_1,.slice A1_2 l1_2.length c1_2]) (t:=38) ?hr ?_;(case hd=>rfl);(case hg=>rfl);(case hr=>first|(go_simp;done)|(go_simp;rfl));intro F3 hg w10 hbox hb;have n0_:=aK (qk_ (g:=r9) (o:=.cells #[.int .i64 a0_0,.int .i64 a0_1,.slice A0_2 l0_2.length c0_2] 38 (0,0)) (by (with_reducible repeat (first|refine qg_ ?_ _|refine qj_ ?_|refine qf_ ?_ _));exact o8.out) hb);have n1_:=aK (qh_ (by repeat (first|(with_reducible first|exact HB.out|apply qb_|apply qa_|apply qc_|refine qi_ ?_ L8.out)|exact HB.out)) hb);have n2_:=aK (hbox);have n3_:=aK ((by rw [hg];exact (ql_ (by repeat (first|(with_reducible first|exact HB.out|apply qb_|apply qa_|apply qc_|refine qi_ ?_ L8.out)|exact HB.out))):w.heap.size≤F3));have n4_:=aK ((by rw [hg];exact (ql_ (by repeat (first|(with_reducible first|exact HB.out|apply qb_|apply qa_|apply qc_|refine qi_ ?_ L8.out)|exact HB.out))):w.heap.size≤F3));have n5_:=aK ((by rw [hg];exact Nat.ne_of_lt (blk_lt (g:=r9) (o:=.cells #[.int .i64 a0_0,.int .i64 a0_1,.slice A0_2 l0_2.length c0_2] 38 (0,0)) (by (with_reducible repeat (first|refine qg_ ?_ _|refine qj_ ?_|refine qf_ ?_ _));exact o8.out)):r9≠F3));have n6_:=aK ((by rw [hg];exact Nat.ne_of_gt (blk_lt (g:=r9) (o:=.cells #[.int .i64 a0_0,.int .i64 a0_1,.slice A0_2 l0_2.length c0_2] 38 (0,0)) (by (with_reducible repeat (first|refine qg_ ?_ _|refine qj_ ?_|refine qf_ ?_ _));exact o8.out)):F3≠r9));clear o8;clear HB;have o8:=n0_;have HB:=n1_;have I4:=n2_;have GW1006:=n3_;have Z7:=n4_;have O9:=n5_;have O8:=n6_;clear n0_ n1_ n2_ n3_ n4_ n5_ n6_;clear hb hbox hg;have hnb11:=O9.out;have hnc11:=O8.out;have hcz12_0:w10.cell? ⟨r9,0,none⟩=some (.int .i64 a0_0):=(qe_ o8.out 0).trans rfl;have hcz12_1:w10.cell? ⟨r9,1,none⟩=some (.int .i64 a0_1):=(qe_ o8.out 1).trans rfl;have hcz12_2:w10.cell? ⟨r9,2,none⟩=some (.slice A0_2 l0_2.length c0_2):=(qe_ o8.out 2).trans rfl;have hfz12_0:=qd_ o8.out 0;have hfz12_1:=qd_ o8.out 1;have hfz12_2:=qd_ o8.out 2;have hcz13_0:w10.cell? ⟨F3,0,none⟩=some (.int .i64 a1_0):=(qe_ I4.out 0).trans rfl;have hcz13_1:w10.cell? ⟨F3,1,none⟩=some (.int .i64 a1_1):=(qe_ I4.out 1).trans rfl;have hcz13_2:w10.cell? ⟨F3,2,none⟩=some (.slice A1_2 l1_2.length c1_2):=(qe_ I4.out 2).trans rfl;have hfz13_0:=qd_ I4.out 0;have hfz13_1:=qd_ I4.out 1;have hfz13_2:=qd_ I4.out 2))
  go_ret
  exact ⟨by first|rfl|(simp [qn_,qo_] <;> rfl)|(simp [*,qn_,qo_] <;> rfl),by repeat (first|(with_reducible first|exact HB.out|apply qb_|apply qa_|apply qc_|refine qi_ ?_ L8.out|refine qi_ ?_ Z7.out)|exact HB.out)⟩
end Go.Proofs.Ytaiefdhenikiiaa.Base
namespace Go.Proofs.Ytaiefdhenikiiaa.Base
open Go.RowKit Go.Proofs.YtaiefdhenikiiaaW.PrintWords Go.Proofs.YtaiefdhenikiiaaW.PrintLast Go.Proofs.YtaiefdhenikiiaaW.PrintMore
attribute [local go_sem] max2_int qp1_ max_two min_two max_three min_three max_four min_four Go.Proofs.YtaiefdhenikiiaaZ.qw_   -- for this text's walks alone
set_option linter.unusedVariables false
set_option linter.unusedSimpArgs false
mutual
def qz_.l0:Nat→List (S38)→Int→Int→Int→List (S79)→Option (Int)
 | 0,_,_,_,_,_=>none
 | k+1,x1,x5,N7,M9,M8=>if x5<(x1.length:Int) then (if 0≤x5 then ((qs_.f k ((rd_T38 x1 x5).f0) ((rd_T38 x1 x5).f1) ((rd_T38 x1 x5).f2)).bind fun Z9=>(if Z9=true then (qz_.l0 k x1 (wrap64 (x5+1)) N7 M9 M8) else (some 1))) else (none)) else (qz_.l1 k x1 0 N7 M9 M8)
def qz_.l1:Nat→List (S38)→Int→Int→Int→List (S79)→Option (Int)
 | 0,_,_,_,_,_=>none
 | k+1,x1,x6,N7,M9,M8=>if x6<(x1.length:Int) then (if 0≤x6 then ((qc3_.f N7 M9 M8 ((rd_T38 x1 x6).f0) ((rd_T38 x1 x6).f1) ((rd_T38 x1 x6).f2)).bind fun Z8=>(if Z8=true then (qz_.l1 k x1 (wrap64 (x6+1)) N7 M9 M8) else (some 2))) else (none)) else (some 0)
end
def qz_.f (k:Nat) (a0_0:Int) (a0_1:Int) (l0_2:List (S79)) (l1:List (S38)):Option (Int):=(qs_.f k a0_0 a0_1 l0_2).bind fun U8=>(if U8=true then (qz_.l0 k l1 0 a0_0 a0_1 l0_2) else (some 1))
theorem qz_.mono_l:∀ k,(∀ y0 y1 y2 y3 y4,LeO (qz_.l0 k y0 y1 y2 y3 y4) (qz_.l0 (k+1) y0 y1 y2 y3 y4))∧(∀ y0 y1 y2 y3 y4,LeO (qz_.l1 k y0 y1 y2 y3 y4) (qz_.l1 (k+1) y0 y1 y2 y3 y4))
 | 0=>⟨fun _ _ _ _ _ r h=>by simp [qz_.l0] at h,fun _ _ _ _ _ r h=>by simp [qz_.l1] at h⟩
 | k+1=>by
  obtain ⟨ih0,ih1⟩:=qz_.mono_l k
  refine ⟨?_,?_⟩
  ·intro y0 y1 y2 y3 y4
   unfold qz_.l0
   repeat' first
   | (with_reducible exact ih0 _ _ _ _ _)
   | (with_reducible exact ih1 _ _ _ _ _)
   | (with_reducible exact qs_.mono _ _ _ _)
   | (with_reducible exact LeO.refl _)
   | (with_reducible exact LeO.none _)
   | (with_reducible refine LeO.ite ?_ ?_)
   | (with_reducible refine LeO.bind ?_ (fun _=>?_))
   | exact ih0 _ _ _ _ _
   | exact ih1 _ _ _ _ _
   | exact qs_.mono _ _ _ _
   | exact LeO.none _
   | refine LeO.ite ?_ ?_
   | refine LeO.bind ?_ (fun _=>?_)
  ·intro y0 y1 y2 y3 y4
   unfold qz_.l1
   repeat' first
   | (with_reducible exact ih0 _ _ _ _ _)
   | (with_reducible exact ih1 _ _ _ _ _)
   | (with_reducible exact qs_.mono _ _ _ _)
   | (with_reducible exact LeO.refl _)
   | (with_reducible exact LeO.none _)
   | (with_reducible refine LeO.ite ?_ ?_)
   | (with_reducible refine LeO.bind ?_ (fun _=>?_))
   | exact ih0 _ _ _ _ _
   | exact ih1 _ _ _ _ _
   | exact qs_.mono _ _ _ _
   | exact LeO.none _
   | refine LeO.ite ?_ ?_
   | refine LeO.bind ?_ (fun _=>?_)
theorem qz_.mono:∀ a0 a1 a2 a3 k,LeO (qz_.f k a0 a1 a2 a3) (qz_.f (k+1) a0 a1 a2 a3):=by
 intro a0 a1 a2 a3 k
 obtain ⟨ih0,ih1⟩:=qz_.mono_l k
 unfold qz_.f
 repeat' first
   | (with_reducible exact ih0 _ _ _ _ _)
   | (with_reducible exact ih1 _ _ _ _ _)
   | (with_reducible exact qs_.mono _ _ _ _)
   | (with_reducible exact LeO.refl _)
   | (with_reducible exact LeO.none _)
   | (with_reducible refine LeO.ite ?_ ?_)
   | (with_reducible refine LeO.bind ?_ (fun _=>?_))
   | exact ih0 _ _ _ _ _
   | exact ih1 _ _ _ _ _
   | exact qs_.mono _ _ _ _
   | exact LeO.none _
   | refine LeO.ite ?_ ?_
   | refine LeO.bind ?_ (fun _=>?_)
set_option maxHeartbeats 8000000 in
set_option maxRecDepth 100000 in
theorem qz_.calls (k:Nat) (a0_0:Int) (a0_1:Int) (A0_2:Option Addr) (c0_2:Nat) (l0_2:List (S79)) (A1:Option Addr) (c1:Nat) (l1:List (S38)) (r:Int) (w:World) (hr0_2:Kd.C k79 w A0_2 l0_2.length l0_2) (hc0_2:l0_2.length≤c0_2) (hr1:Kd.C k38 w A1 l1.length l1) (hc1:l1.length≤c1) (h:qz_.f k a0_0 a0_1 l0_2 l1=some r) :
  Calls Try.prog 106 #[.agg #[.int .i64 a0_0,.int .i64 a0_1,.slice A0_2 l0_2.length c0_2],.slice A1 l1.length c1] w fun e w'=>e=.returned (.int .i64 r)∧Below w.heap.size w w':=by
 have hu38:=Try.underlying38
 have HR0_2:=aK hr0_2
 have HC0_2:=aK hc0_2
 clear hr0_2 hc0_2
 have HR1:=aK hr1
 have HC1:=aK hc1
 clear hr1 hc1
 have HB:=aK (Below.refl w.heap.size w)
 have H:((qs_.f k a0_0 a0_1 l0_2).bind fun U8=>(if U8=true then (qz_.l0 k l1 0 a0_0 a0_1 l0_2) else (some 1)))=some r:=h
 clear h
 replace H:=Option.bind_eq_some_iff.mp H
 obtain ⟨U8,A30,H⟩:=H
 replace H:(if U8=true then (qz_.l0 k l1 0 a0_0 a0_1 l0_2) else (some 1))=some r:=H
 have A3:=aK A30
 clear A30
 by_cases c4:U8=true
 ·subst c4
  have H1:(qz_.l0 k l1 0 a0_0 a0_1 l0_2)=some r:=by rw [if_pos rfl] at H;exact H
  clear H
  have H:=H1
  clear H1
  have H':=aK H
  clear H
  go_enter Try.func106,Try.ntmps106
  go_wp2_with (first|((with_reducible refine qt_ (N:=2) rfl ?_);refine qr_ ?hg (N:=2) ?hd (cs:=#[.int .i64 a0_0,.int .i64 a0_1,.slice A0_2 l0_2.length c0_2]) (t:=38) ?hr ?_;(case hd=>rfl);(case hg=>rfl);(case hr=>first|(go_simp;done)|(go_simp;rfl));intro l7 hg w5 hbox hb;have n0_:=aK (qh_ (by repeat (first|(with_reducible first|exact HB.out|apply qb_|apply qa_|apply qc_)|exact HB.out)) hb);have n1_:=aK (hbox);have n2_:=aK ((by rw [hg];exact (ql_ (by repeat (first|(with_reducible first|exact HB.out|apply qb_|apply qa_|apply qc_)|exact HB.out))):w.heap.size≤l7));have n3_:=aK ((by rw [hg];exact (ql_ (by repeat (first|(with_reducible first|exact HB.out|apply qb_|apply qa_|apply qc_)|exact HB.out))):w.heap.size≤l7));clear HB;have HB:=n0_;have j3:=n1_;have GW1007:=n2_;have F4:=n3_;clear n0_ n1_ n2_ n3_;clear hb hbox hg;have hcz6_0:w5.cell? ⟨l7,0,none⟩=some (.int .i64 a0_0):=(qe_ j3.out 0).trans rfl;have hcz6_1:w5.cell? ⟨l7,1,none⟩=some (.int .i64 a0_1):=(qe_ j3.out 1).trans rfl;have hcz6_2:w5.cell? ⟨l7,2,none⟩=some (.slice A0_2 l0_2.length c0_2):=(qe_ j3.out 2).trans rfl;have hfz6_0:=qd_ j3.out 0;have hfz6_1:=qd_ j3.out 1;have hfz6_2:=qd_ j3.out 2)|((with_reducible refine qy_ (f:=82) rfl ?_);refine goesL_ (some 8) rfl rfl Try.func82 (by kernel_rfl) rfl #[.agg #[.int .i64 a0_0,.int .i64 a0_1,.slice A0_2 l0_2.length c0_2]] rfl (by (try simp only [List.map_toArray,List.map_cons,List.map_nil]);first|done|rfl|(simp only [List.length_drop,List.length_take];rfl)) ?_;(with_reducible refine (qs_.calls k a0_0 a0_1 _ _ l0_2 true _ ?side1 ?side2 A3.out).mono ?_);(case side1=>repeat (first|exact (Kd.qd1_ HR0_2.out HB.out)|(with_reducible refine Kd.qx2_ ?_ _)|(with_reducible refine Kd.qw2_ ?_ _)|(with_reducible refine Kd.C_drew ?_)));(case side2=>exact HC0_2.out);rintro e w7 ⟨rfl,hb⟩;refine ⟨_,rfl,?_⟩;have n0_:=aK (qk_ (g:=l7) (o:=.cells #[.int .i64 a0_0,.int .i64 a0_1,.slice A0_2 l0_2.length c0_2] 38 (0,0)) (by (with_reducible repeat (first|refine qg_ ?_ _|refine qj_ ?_|refine qf_ ?_ _));exact j3.out) hb);have n1_:=aK (qh_ (by repeat (first|(with_reducible first|exact HB.out|apply qb_|apply qa_|apply qc_|refine qi_ ?_ F4.out)|exact HB.out)) hb);clear j3;clear HB;have j3:=n0_;have HB:=n1_;clear n0_ n1_;(try clear hb);(try clear hb2);(try clear hk);(try clear hi)))
  go_loopg [5] k (fun kq v5 w'=>∃ (x5_1:Int),v5=.int .i64 x5_1∧Aside0 (qz_.l0 kq l1 x5_1 a0_0 a0_1 l0_2=some r)∧Aside0 (kq≤k)∧Aside0 (w'.heap[l7]?=some (.cells #[.int .i64 a0_0,.int .i64 a0_1,(.slice A0_2 l0_2.length c0_2)] 38 (0,0)))∧Aside0 (Below w.heap.size w w'))
  case atStart=>exact ⟨(0),(by first|rfl|(simp;done)|(simp [*];done)),H',⟨Nat.le_refl _⟩,⟨by (with_reducible repeat (first|refine qg_ ?_ _|refine qj_ ?_|refine qf_ ?_ _));exact j3.out⟩,⟨by repeat (first|(with_reducible first|exact HB.out|apply qb_|apply qa_|apply qc_|refine qi_ ?_ F4.out)|exact HB.out)⟩⟩
  case round =>
   clear H'
   try clear c1
   try clear p2
   try clear c4
   try clear hcz6_0
   try clear hcz6_1
   try clear hcz6_2
   try clear hfz6_0
   try clear hfz6_1
   try clear hfz6_2
   obtain ⟨x5_1,rfl,HA,HK1,j3,HB⟩:=hrel
   cases gk with
   | zero=>exact absurd HA.out (by simp [qz_.l0])
   | succ k1 =>
    have H:=HA.out
    clear HA
    simp only [qz_.l0] at H
    by_cases c8:x5_1<(l1.length:Int)
    ·rw [if_pos c8] at H
     have c8b0:decide (x5_1<(l1.length:Int))=true:=decide_eq_true c8
     clear c8
     by_cases c9:0≤x5_1
     ·rw [if_pos c9] at H
      have c9b0:decide (0≤x5_1)=true:=decide_eq_true c9
      clear c9
      replace H:=Option.bind_eq_some_iff.mp H
      obtain ⟨Z9,aY4,H⟩:=H
      replace H:(if Z9=true then (qz_.l0 k1 l1 (wrap64 (x5_1+1)) a0_0 a0_1 l0_2) else (some 1))=some r:=H
      have A10:=aK aY4
      clear aY4
      by_cases c11:Z9=true
      ·subst c11
       have H1:(qz_.l0 k1 l1 (wrap64 (x5_1+1)) a0_0 a0_1 l0_2)=some r:=by rw [if_pos rfl] at H;exact H
       clear H
       have H:=H1
       clear H1
       have H':=aK H
       clear H
       have R6:0≤(x5_1:Int):=of_decide_eq_true (by first|(with_reducible assumption)|assumption)
       have R5:x5_1<(l1.length:Int):=of_decide_eq_true (by first|(with_reducible assumption)|assumption)
       obtain ⟨ad1009,V7,V6,aJ8,I7,I6,I5,O0,O4⟩:=at_T38 HR1.out x5_1 R6 R5
       cases aJ8
       replace I7:=(HB.out.cell (World.block_lt_of_cell? w _ I7)).trans I7
       replace I6:=(HB.out.cell (World.block_lt_of_cell? w _ I6)).trans I6
       replace I5:=(HB.out.cell (World.block_lt_of_cell? w _ I5)).trans I5
       have U1:=aK O4
       have U5:=aK O0
       clear O4 O0
       replace R6:=eq_true R6
       replace R5:=eq_true R5
       go_wp2_with (first|((with_reducible refine qy_ (f:=82) rfl ?_);refine goesL_ (some 20) rfl rfl Try.func82 (by kernel_rfl) rfl #[.agg #[.int .i64 ((rd_T38 l1 x5_1).f0),.int .i64 ((rd_T38 l1 x5_1).f1),.slice V7 ((rd_T38 l1 x5_1).f2).length V6]] rfl (by (try simp only [List.map_toArray,List.map_cons,List.map_nil]);first|done|rfl|(simp only [List.length_drop,List.length_take];rfl)) ?_;(with_reducible refine (qs_.calls k1 ((rd_T38 l1 x5_1).f0) ((rd_T38 l1 x5_1).f1) _ _ ((rd_T38 l1 x5_1).f2) true _ ?side1 ?side2 A10.out).mono ?_);(case side1=>repeat (first|exact (Kd.qd1_ U1.out HB.out)|(with_reducible refine Kd.qx2_ ?_ _)|(with_reducible refine Kd.qw2_ ?_ _)|(with_reducible refine Kd.C_drew ?_)));(case side2=>exact U5.out);rintro e w12 ⟨rfl,hb⟩;refine ⟨_,rfl,?_⟩;have n0_:=aK (qk_ (g:=l7) (o:=.cells #[.int .i64 a0_0,.int .i64 a0_1,.slice A0_2 l0_2.length c0_2] 38 (0,0)) (by (with_reducible repeat (first|refine qg_ ?_ _|refine qj_ ?_|refine qf_ ?_ _));exact j3.out) hb);have n1_:=aK (qh_ (by repeat (first|(with_reducible first|exact HB.out|apply qb_|apply qa_|apply qc_|refine qi_ ?_ F4.out)|exact HB.out)) hb);clear j3;clear HB;have j3:=n0_;have HB:=n1_;clear n0_ n1_;(try clear hb);(try clear hb2);(try clear hk);(try clear hi)))
       go_roundg k1
       case measure=>have:=HK1.out;omega
       case rel=>exact ⟨(wrap64 (x5_1+1)),(by first|rfl|(simp;done)|(simp [*];done)),H',⟨by have:=HK1.out;omega⟩,⟨by (with_reducible repeat (first|refine qg_ ?_ _|refine qj_ ?_|refine qf_ ?_ _));exact j3.out⟩,⟨by repeat (first|(with_reducible first|exact HB.out|apply qb_|apply qa_|apply qc_|refine qi_ ?_ F4.out)|exact HB.out)⟩⟩
      ·replace c11:=Bool.eq_false_iff.mpr c11
       subst c11
       have H1:(some 1)=some r:=by rw [if_neg (show ¬ (false=true) by decide)] at H;exact H
       clear H
       have H:=H1
       clear H1
       obtain rfl:=Option.some.inj H
       have R6:0≤(x5_1:Int):=of_decide_eq_true (by first|(with_reducible assumption)|assumption)
       have R5:x5_1<(l1.length:Int):=of_decide_eq_true (by first|(with_reducible assumption)|assumption)
       obtain ⟨ad1009,V7,V6,aJ8,I7,I6,I5,O0,O4⟩:=at_T38 HR1.out x5_1 R6 R5
       cases aJ8
       replace I7:=(HB.out.cell (World.block_lt_of_cell? w _ I7)).trans I7
       replace I6:=(HB.out.cell (World.block_lt_of_cell? w _ I6)).trans I6
       replace I5:=(HB.out.cell (World.block_lt_of_cell? w _ I5)).trans I5
       have U1:=aK O4
       have U5:=aK O0
       clear O4 O0
       replace R6:=eq_true R6
       replace R5:=eq_true R5
       go_wp2_with (first|((with_reducible refine qy_ (f:=82) rfl ?_);refine goesL_ (some 20) rfl rfl Try.func82 (by kernel_rfl) rfl #[.agg #[.int .i64 ((rd_T38 l1 x5_1).f0),.int .i64 ((rd_T38 l1 x5_1).f1),.slice V7 ((rd_T38 l1 x5_1).f2).length V6]] rfl (by (try simp only [List.map_toArray,List.map_cons,List.map_nil]);first|done|rfl|(simp only [List.length_drop,List.length_take];rfl)) ?_;(with_reducible refine (qs_.calls k1 ((rd_T38 l1 x5_1).f0) ((rd_T38 l1 x5_1).f1) _ _ ((rd_T38 l1 x5_1).f2) false _ ?side1 ?side2 A10.out).mono ?_);(case side1=>repeat (first|exact (Kd.qd1_ U1.out HB.out)|(with_reducible refine Kd.qx2_ ?_ _)|(with_reducible refine Kd.qw2_ ?_ _)|(with_reducible refine Kd.C_drew ?_)));(case side2=>exact U5.out);rintro e w13 ⟨rfl,hb⟩;refine ⟨_,rfl,?_⟩;have n0_:=aK (qk_ (g:=l7) (o:=.cells #[.int .i64 a0_0,.int .i64 a0_1,.slice A0_2 l0_2.length c0_2] 38 (0,0)) (by (with_reducible repeat (first|refine qg_ ?_ _|refine qj_ ?_|refine qf_ ?_ _));exact j3.out) hb);have n1_:=aK (qh_ (by repeat (first|(with_reducible first|exact HB.out|apply qb_|apply qa_|apply qc_|refine qi_ ?_ F4.out)|exact HB.out)) hb);clear j3;clear HB;have j3:=n0_;have HB:=n1_;clear n0_ n1_;(try clear hb);(try clear hb2);(try clear hk);(try clear hi)))
       go_ret
       exact ⟨by first|rfl|(simp [qn_,qo_] <;> rfl)|(simp [*,qn_,qo_] <;> rfl),by repeat (first|(with_reducible first|exact HB.out|apply qb_|apply qa_|apply qc_|refine qi_ ?_ F4.out)|exact HB.out)⟩
     ·rw [if_neg c9] at H
      exact absurd H (by simp)
    ·rw [if_neg c8] at H
     have c8b0:decide (x5_1<(l1.length:Int))=false:=decide_eq_false c8
     clear c8
     have H':=aK H
     clear H
     go_wp2
     go_loopg [6] k1 (fun kq v6 w'=>∃ (l6:Int),v6=.int .i64 l6∧Aside0 (qz_.l1 kq l1 l6 a0_0 a0_1 l0_2=some r)∧Aside0 (kq≤k1)∧Aside0 (w'.heap[l7]?=some (.cells #[.int .i64 a0_0,.int .i64 a0_1,(.slice A0_2 l0_2.length c0_2)] 38 (0,0)))∧Aside0 (Below w.heap.size w w'))
     case atStart=>exact ⟨(0),(by first|rfl|(simp;done)|(simp [*];done)),H',⟨Nat.le_refl _⟩,⟨by (with_reducible repeat (first|refine qg_ ?_ _|refine qj_ ?_|refine qf_ ?_ _));exact j3.out⟩,⟨by repeat (first|(with_reducible first|exact HB.out|apply qb_|apply qa_|apply qc_|refine qi_ ?_ F4.out)|exact HB.out)⟩⟩
     case round =>
      clear H'
      try clear c1
      try clear p1
      try clear q1
      try clear hx1
      try clear p2
      try clear c4
      try clear p6
      try clear c8
      try clear c8b0
      try clear c9
      try clear c9b0
      try clear c10
      try clear p10
      try clear q10
      try clear hx10
      try clear c11
      try clear hcz6_0
      try clear hcz6_1
      try clear hcz6_2
      try clear hfz6_0
      try clear hfz6_1
      try clear hfz6_2
      try clear I7
      try clear I6
      try clear I5
      try clear R6
      try clear p2
      try clear R5
      obtain ⟨l6,rfl,HA,HK2,j3,HB⟩:=hrel
      cases gk with
      | zero=>exact absurd HA.out (by simp [qz_.l1])
      | succ k2 =>
       have H:=HA.out
       clear HA
       simp only [qz_.l1] at H
       by_cases c14:l6<(l1.length:Int)
       ·rw [if_pos c14] at H
        have c14b0:decide (l6<(l1.length:Int))=true:=decide_eq_true c14
        clear c14
        by_cases c15:0≤l6
        ·rw [if_pos c15] at H
         have c15b0:decide (0≤l6)=true:=decide_eq_true c15
         clear c15
         replace H:=Option.bind_eq_some_iff.mp H
         obtain ⟨Z8,aY2,H⟩:=H
         replace H:(if Z8=true then (qz_.l1 k2 l1 (wrap64 (l6+1)) a0_0 a0_1 l0_2) else (some 2))=some r:=H
         have A16:=aK aY2
         clear aY2
         by_cases c17:Z8=true
         ·subst c17
          have H1:(qz_.l1 k2 l1 (wrap64 (l6+1)) a0_0 a0_1 l0_2)=some r:=by rw [if_pos rfl] at H;exact H
          clear H
          have H:=H1
          clear H1
          have H':=aK H
          clear H
          try go_wp2
          have n0_:=aK (qj_ j3.out)
          have n1_:=aK (qc_ HB.out)
          clear j3
          clear HB
          have j3:=n0_
          have HB:=n1_
          clear n0_ n1_
          have U0:0≤(l6:Int):=of_decide_eq_true (by first|(with_reducible assumption)|assumption)
          have T9:l6<(l1.length:Int):=of_decide_eq_true (by first|(with_reducible assumption)|assumption)
          obtain ⟨J7,Q8,Q5,aJ7,D5,C9,C8,N8,O1⟩:=at_T38 HR1.out l6 U0 T9
          have F6:=C8
          have F7:=C9
          have G5:=D5
          cases aJ7
          replace D5:=(HB.out.cell (World.block_lt_of_cell? w _ D5)).trans D5
          replace C9:=(HB.out.cell (World.block_lt_of_cell? w _ C9)).trans C9
          replace C8:=(HB.out.cell (World.block_lt_of_cell? w _ C8)).trans C8
          have P5:=aK O1
          have U4:=aK N8
          clear O1 N8
          replace U0:=eq_true U0
          replace T9:=eq_true T9
          refine start_ (n:=7) (S:=fun w'=>w'.cell? ⟨l7,0,none⟩=some (.int .i64 a0_0)∧w'.cell? ⟨l7,1,none⟩=some (.int .i64 a0_1)∧w'.cell? ⟨l7,2,none⟩=some (.slice A0_2 l0_2.length c0_2)∧w'.cell? (J7.add ((l6).toNat*3))=some (.int .i64 ((rd_T38 l1 l6).f0))∧w'.cell? ⟨(J7.add ((l6).toNat*3)).block,(J7.add ((l6).toNat*3)).off+1,none⟩=some (.int .i64 ((rd_T38 l1 l6).f1))∧w'.cell? ⟨(J7.add ((l6).toNat*3)).block,(J7.add ((l6).toNat*3)).off+2,none⟩=some (.slice Q8 ((rd_T38 l1 l6).f2).length Q5)) (ds:=[]) #[fF,fF,fF,fF,fF,fF,fF] (by kernel_rfl) rfl rfl ⟨(qe_ j3.out 0).trans rfl,(qe_ j3.out 1).trans rfl,(qe_ j3.out 2).trans rfl,((HB.out.cell (World.block_lt_of_cell? w _ G5)).trans G5),((HB.out.cell (World.block_lt_of_cell? w _ F7)).trans F7),((HB.out.cell (World.block_lt_of_cell? w _ F6)).trans F6)⟩ (fun hHeld=>?_)
          generalize wr.drew=w18 at j3 HB P5 D5 C9 C8 hHeld ⊢
          refine pure_ (i:=1) (N:=some 29) (v:=?_) (a':=?_) #[fF,tT,fF,fF,fF,fF,fF] rfl rfl (by kernel_rfl) (fun _ _ _ h=>h) (Or.inl ⟨by rfl,?_⟩) ?_ ?_
          rotate_left
          ·intro w'
           go_simp
           with_reducible rfl
          rotate_left
          ·simp only [Act.put,List.setIfInBounds_toArray,List.set_cons_zero,List.set_cons_succ,i64_w,i32_w]
           rfl
          refine pure_ (i:=2) (N:=some 30) (v:=?_) (a':=?_) #[fF,tT,tT,fF,fF,fF,fF] rfl rfl (by kernel_rfl) (fun _ _ _ h=>h) (Or.inl ⟨by rfl,?_⟩) ?_ ?_
          rotate_left
          ·intro w'
           go_simp
           with_reducible rfl
          rotate_left
          ·simp only [Act.put,List.setIfInBounds_toArray,List.set_cons_zero,List.set_cons_succ,i64_w,i32_w]
           rfl
          refine pure_ (i:=3) (N:=some 31) (v:=?_) (a':=?_) #[fF,tT,tT,tT,fF,fF,fF] rfl rfl (by kernel_rfl) (fun _ _ _ h=>h) (Or.inl ⟨by rfl,?_⟩) ?_ ?_
          rotate_left
          ·intro w'
           go_simp
           with_reducible rfl
          rotate_left
          ·simp only [Act.put,List.setIfInBounds_toArray,List.set_cons_zero,List.set_cons_succ,i64_w,i32_w]
           rfl
          refine take_ (i:=0) (N:=some 28) (v:=?_) (a':=?_) #[tT,tT,tT,tT,fF,fF,fF] rfl rfl (by kernel_rfl) (fun _ _ _ h=>h) (Or.inl ⟨by rfl,?_⟩) hHeld ?_ ?_
          rotate_left
          ·rintro w' ⟨s0,s1,s2,s3,s4,s5⟩
           go_simp
           with_reducible rfl
          rotate_left
          ·simp only [Act.put,List.setIfInBounds_toArray,List.set_cons_zero,List.set_cons_succ,i64_w,i32_w]
           rfl
          refine take_ (i:=4) (N:=some 32) (v:=?_) (a':=?_) #[tT,tT,tT,tT,tT,fF,fF] rfl rfl (by kernel_rfl) (fun _ _ _ h=>h) (Or.inl ⟨by rfl,?_⟩) hHeld ?_ ?_
          rotate_left
          ·rintro w' ⟨s0,s1,s2,s3,s4,s5⟩
           go_simp
           with_reducible rfl
          rotate_left
          ·simp only [Act.put,List.setIfInBounds_toArray,List.set_cons_zero,List.set_cons_succ,i64_w,i32_w]
           rfl
          refine one_ (i:=5) (N:=some 33) #[tT,tT,tT,tT,tT,tT,fF] rfl rfl (by kernel_rfl) (by decide) (fun K hK=>?_)
          refine goes_ Try.func170 (by kernel_rfl) rfl #[.agg #[.int .i64 a0_0,.int .i64 a0_1,.slice A0_2 l0_2.length c0_2],.agg #[.int .i64 ((rd_T38 l1 l6).f0),.int .i64 ((rd_T38 l1 l6).f1),.slice Q8 ((rd_T38 l1 l6).f2).length Q5]] (by rfl) rfl rfl (by (try simp only [List.map_toArray,List.map_cons,List.map_nil]);first|done|rfl|(simp only [List.length_drop,List.length_take];rfl)) ?_
          with_reducible refine (qc3_.calls a0_0 a0_1 _ _ l0_2 ((rd_T38 l1 l6).f0) ((rd_T38 l1 l6).f1) _ _ ((rd_T38 l1 l6).f2) true _ ?side1 ?side2 ?side3 ?side4 A16.out).mono ?_
          (case side1=>repeat (first|exact (Kd.qd1_ HR0_2.out HB.out)|(with_reducible refine Kd.qx2_ ?_ _)|(with_reducible refine Kd.qw2_ ?_ _)|(with_reducible refine Kd.C_drew ?_)))
          (case side2=>exact HC0_2.out)
          (case side3=>repeat (first|exact (Kd.qd1_ P5.out HB.out)|(with_reducible refine Kd.qx2_ ?_ _)|(with_reducible refine Kd.qw2_ ?_ _)|(with_reducible refine Kd.C_drew ?_)))
          (case side4=>exact U4.out)
          rintro e w19 ⟨rfl,hb⟩
          refine ⟨_,rfl,?_⟩
          have n0_:=aK (qk_ (g:=l7) (o:=.cells #[.int .i64 a0_0,.int .i64 a0_1,.slice A0_2 l0_2.length c0_2] 38 (0,0)) (by (with_reducible repeat (first|refine qg_ ?_ _|refine qj_ ?_|refine qf_ ?_ _));exact j3.out) hb)
          have n1_:=aK (qh_ (by repeat (first|(with_reducible first|exact HB.out|apply qb_|apply qa_|apply qc_|refine qi_ ?_ F4.out)|exact HB.out)) hb)
          clear j3
          clear HB
          have j3:=n0_
          have HB:=n1_
          clear n0_ n1_
          (try clear hb)
          (try clear hb2)
          (try clear hk)
          (try clear hi)
          refine hK.out _ _ ⟨(qe_ j3.out 0).trans rfl,(qe_ j3.out 1).trans rfl,(qe_ j3.out 2).trans rfl,((HB.out.cell (World.block_lt_of_cell? w _ G5)).trans G5),((HB.out.cell (World.block_lt_of_cell? w _ F7)).trans F7),((HB.out.cell (World.block_lt_of_cell? w _ F6)).trans F6)⟩ (fun hHeld=>?_)
          clear hK K
          refine norm_ (a':=?_) ?_ ?_
          rotate_left
          ·show Act.put _ (some 33) _=_
           simp only [Act.put,List.setIfInBounds_toArray,List.set_cons_zero,List.set_cons_succ,i64_w,i32_w]
           rfl
          refine pure_ (i:=6) (N:=some 34) (v:=?_) (a':=?_) #[tT,tT,tT,tT,tT,tT,tT] rfl rfl (by kernel_rfl) (fun _ _ _ h=>h) (Or.inl ⟨by rfl,?_⟩) ?_ ?_
          rotate_left
          ·intro w'
           go_simp
           with_reducible rfl
          rotate_left
          ·simp only [Act.put,List.setIfInBounds_toArray,List.set_cons_zero,List.set_cons_succ,i64_w,i32_w]
           rfl
          refine done_ (by kernel_rfl) ?_
          try go_wp2
          go_roundg k2
          case measure=>have:=HK1.out;have:=HK2.out;omega
          case rel=>exact ⟨(wrap64 (l6+1)),(by first|rfl|(simp;done)|(simp [*];done)),H',⟨by have:=HK1.out;have:=HK2.out;omega⟩,⟨by (with_reducible repeat (first|refine qg_ ?_ _|refine qj_ ?_|refine qf_ ?_ _));exact j3.out⟩,⟨by repeat (first|(with_reducible first|exact HB.out|apply qb_|apply qa_|apply qc_|refine qi_ ?_ F4.out)|exact HB.out)⟩⟩
         ·replace c17:=Bool.eq_false_iff.mpr c17
          subst c17
          have H1:(some 2)=some r:=by rw [if_neg (show ¬ (false=true) by decide)] at H;exact H
          clear H
          have H:=H1
          clear H1
          obtain rfl:=Option.some.inj H
          try go_wp2
          have n0_:=aK (qj_ j3.out)
          have n1_:=aK (qc_ HB.out)
          clear j3
          clear HB
          have j3:=n0_
          have HB:=n1_
          clear n0_ n1_
          have U0:0≤(l6:Int):=of_decide_eq_true (by first|(with_reducible assumption)|assumption)
          have T9:l6<(l1.length:Int):=of_decide_eq_true (by first|(with_reducible assumption)|assumption)
          obtain ⟨J7,Q8,Q5,aJ7,D5,C9,C8,N8,O1⟩:=at_T38 HR1.out l6 U0 T9
          have F6:=C8
          have F7:=C9
          have G5:=D5
          cases aJ7
          replace D5:=(HB.out.cell (World.block_lt_of_cell? w _ D5)).trans D5
          replace C9:=(HB.out.cell (World.block_lt_of_cell? w _ C9)).trans C9
          replace C8:=(HB.out.cell (World.block_lt_of_cell? w _ C8)).trans C8
          have P5:=aK O1
          have U4:=aK N8
          clear O1 N8
          replace U0:=eq_true U0
          replace T9:=eq_true T9
          refine start_ (n:=7) (S:=fun w'=>w'.cell? ⟨l7,0,none⟩=some (.int .i64 a0_0)∧w'.cell? ⟨l7,1,none⟩=some (.int .i64 a0_1)∧w'.cell? ⟨l7,2,none⟩=some (.slice A0_2 l0_2.length c0_2)∧w'.cell? (J7.add ((l6).toNat*3))=some (.int .i64 ((rd_T38 l1 l6).f0))∧w'.cell? ⟨(J7.add ((l6).toNat*3)).block,(J7.add ((l6).toNat*3)).off+1,none⟩=some (.int .i64 ((rd_T38 l1 l6).f1))∧w'.cell? ⟨(J7.add ((l6).toNat*3)).block,(J7.add ((l6).toNat*3)).off+2,none⟩=some (.slice Q8 ((rd_T38 l1 l6).f2).length Q5)) (ds:=[]) #[fF,fF,fF,fF,fF,fF,fF] (by kernel_rfl) rfl rfl ⟨(qe_ j3.out 0).trans rfl,(qe_ j3.out 1).trans rfl,(qe_ j3.out 2).trans rfl,((HB.out.cell (World.block_lt_of_cell? w _ G5)).trans G5),((HB.out.cell (World.block_lt_of_cell? w _ F7)).trans F7),((HB.out.cell (World.block_lt_of_cell? w _ F6)).trans F6)⟩ (fun hHeld=>?_)
          generalize wr.drew=w20 at j3 HB P5 D5 C9 C8 hHeld ⊢
          refine pure_ (i:=1) (N:=some 29) (v:=?_) (a':=?_) #[fF,tT,fF,fF,fF,fF,fF] rfl rfl (by kernel_rfl) (fun _ _ _ h=>h) (Or.inl ⟨by rfl,?_⟩) ?_ ?_
          rotate_left
          ·intro w'
           go_simp
           with_reducible rfl
          rotate_left
          ·simp only [Act.put,List.setIfInBounds_toArray,List.set_cons_zero,List.set_cons_succ,i64_w,i32_w]
           rfl
          refine pure_ (i:=2) (N:=some 30) (v:=?_) (a':=?_) #[fF,tT,tT,fF,fF,fF,fF] rfl rfl (by kernel_rfl) (fun _ _ _ h=>h) (Or.inl ⟨by rfl,?_⟩) ?_ ?_
          rotate_left
          ·intro w'
           go_simp
           with_reducible rfl
          rotate_left
          ·simp only [Act.put,List.setIfInBounds_toArray,List.set_cons_zero,List.set_cons_succ,i64_w,i32_w]
           rfl
          refine pure_ (i:=3) (N:=some 31) (v:=?_) (a':=?_) #[fF,tT,tT,tT,fF,fF,fF] rfl rfl (by kernel_rfl) (fun _ _ _ h=>h) (Or.inl ⟨by rfl,?_⟩) ?_ ?_
          rotate_left
          ·intro w'
           go_simp
           with_reducible rfl
          rotate_left
          ·simp only [Act.put,List.setIfInBounds_toArray,List.set_cons_zero,List.set_cons_succ,i64_w,i32_w]
           rfl
          refine take_ (i:=0) (N:=some 28) (v:=?_) (a':=?_) #[tT,tT,tT,tT,fF,fF,fF] rfl rfl (by kernel_rfl) (fun _ _ _ h=>h) (Or.inl ⟨by rfl,?_⟩) hHeld ?_ ?_
          rotate_left
          ·rintro w' ⟨s0,s1,s2,s3,s4,s5⟩
           go_simp
           with_reducible rfl
          rotate_left
          ·simp only [Act.put,List.setIfInBounds_toArray,List.set_cons_zero,List.set_cons_succ,i64_w,i32_w]
           rfl
          refine take_ (i:=4) (N:=some 32) (v:=?_) (a':=?_) #[tT,tT,tT,tT,tT,fF,fF] rfl rfl (by kernel_rfl) (fun _ _ _ h=>h) (Or.inl ⟨by rfl,?_⟩) hHeld ?_ ?_
          rotate_left
          ·rintro w' ⟨s0,s1,s2,s3,s4,s5⟩
           go_simp
           with_reducible rfl
          rotate_left
          ·simp only [Act.put,List.setIfInBounds_toArray,List.set_cons_zero,List.set_cons_succ,i64_w,i32_w]
           rfl
          refine one_ (i:=5) (N:=some 33) #[tT,tT,tT,tT,tT,tT,fF] rfl rfl (by kernel_rfl) (by decide) (fun K hK=>?_)
          refine goes_ Try.func170 (by kernel_rfl) rfl #[.agg #[.int .i64 a0_0,.int .i64 a0_1,.slice A0_2 l0_2.length c0_2],.agg #[.int .i64 ((rd_T38 l1 l6).f0),.int .i64 ((rd_T38 l1 l6).f1),.slice Q8 ((rd_T38 l1 l6).f2).length Q5]] (by rfl) rfl rfl (by (try simp only [List.map_toArray,List.map_cons,List.map_nil]);first|done|rfl|(simp only [List.length_drop,List.length_take];rfl)) ?_
          with_reducible refine (qc3_.calls a0_0 a0_1 _ _ l0_2 ((rd_T38 l1 l6).f0) ((rd_T38 l1 l6).f1) _ _ ((rd_T38 l1 l6).f2) false _ ?side1 ?side2 ?side3 ?side4 A16.out).mono ?_
          (case side1=>repeat (first|exact (Kd.qd1_ HR0_2.out HB.out)|(with_reducible refine Kd.qx2_ ?_ _)|(with_reducible refine Kd.qw2_ ?_ _)|(with_reducible refine Kd.C_drew ?_)))
          (case side2=>exact HC0_2.out)
          (case side3=>repeat (first|exact (Kd.qd1_ P5.out HB.out)|(with_reducible refine Kd.qx2_ ?_ _)|(with_reducible refine Kd.qw2_ ?_ _)|(with_reducible refine Kd.C_drew ?_)))
          (case side4=>exact U4.out)
          rintro e w21 ⟨rfl,hb⟩
          refine ⟨_,rfl,?_⟩
          have n0_:=aK (qk_ (g:=l7) (o:=.cells #[.int .i64 a0_0,.int .i64 a0_1,.slice A0_2 l0_2.length c0_2] 38 (0,0)) (by (with_reducible repeat (first|refine qg_ ?_ _|refine qj_ ?_|refine qf_ ?_ _));exact j3.out) hb)
          have n1_:=aK (qh_ (by repeat (first|(with_reducible first|exact HB.out|apply qb_|apply qa_|apply qc_|refine qi_ ?_ F4.out)|exact HB.out)) hb)
          clear j3
          clear HB
          have j3:=n0_
          have HB:=n1_
          clear n0_ n1_
          (try clear hb)
          (try clear hb2)
          (try clear hk)
          (try clear hi)
          refine hK.out _ _ ⟨(qe_ j3.out 0).trans rfl,(qe_ j3.out 1).trans rfl,(qe_ j3.out 2).trans rfl,((HB.out.cell (World.block_lt_of_cell? w _ G5)).trans G5),((HB.out.cell (World.block_lt_of_cell? w _ F7)).trans F7),((HB.out.cell (World.block_lt_of_cell? w _ F6)).trans F6)⟩ (fun hHeld=>?_)
          clear hK K
          refine norm_ (a':=?_) ?_ ?_
          rotate_left
          ·show Act.put _ (some 33) _=_
           simp only [Act.put,List.setIfInBounds_toArray,List.set_cons_zero,List.set_cons_succ,i64_w,i32_w]
           rfl
          refine pure_ (i:=6) (N:=some 34) (v:=?_) (a':=?_) #[tT,tT,tT,tT,tT,tT,tT] rfl rfl (by kernel_rfl) (fun _ _ _ h=>h) (Or.inl ⟨by rfl,?_⟩) ?_ ?_
          rotate_left
          ·intro w'
           go_simp
           with_reducible rfl
          rotate_left
          ·simp only [Act.put,List.setIfInBounds_toArray,List.set_cons_zero,List.set_cons_succ,i64_w,i32_w]
           rfl
          refine done_ (by kernel_rfl) ?_
          try go_wp2
          go_ret
          exact ⟨by first|rfl|(simp [qn_,qo_] <;> rfl)|(simp [*,qn_,qo_] <;> rfl),by repeat (first|(with_reducible first|exact HB.out|apply qb_|apply qa_|apply qc_|refine qi_ ?_ F4.out)|exact HB.out)⟩
        ·rw [if_neg c15] at H
         exact absurd H (by simp)
       ·rw [if_neg c14] at H
        have c14b0:decide (l6<(l1.length:Int))=false:=decide_eq_false c14
        clear c14
        obtain rfl:=Option.some.inj H
        go_wp2
        go_ret
        exact ⟨by first|rfl|(simp [qn_,qo_] <;> rfl)|(simp [*,qn_,qo_] <;> rfl),by repeat (first|(with_reducible first|exact HB.out|apply qb_|apply qa_|apply qc_|refine qi_ ?_ F4.out)|exact HB.out)⟩
 ·replace c4:=Bool.eq_false_iff.mpr c4
  subst c4
  have H1:(some 1)=some r:=by rw [if_neg (show ¬ (false=true) by decide)] at H;exact H
  clear H
  have H:=H1
  clear H1
  obtain rfl:=Option.some.inj H
  go_enter Try.func106,Try.ntmps106
  go_wp2_with (first|((with_reducible refine qt_ (N:=2) rfl ?_);refine qr_ ?hg (N:=2) ?hd (cs:=#[.int .i64 a0_0,.int .i64 a0_1,.slice A0_2 l0_2.length c0_2]) (t:=38) ?hr ?_;(case hd=>rfl);(case hg=>rfl);(case hr=>first|(go_simp;done)|(go_simp;rfl));intro l7 hg w22 hbox hb;have n0_:=aK (qh_ (by repeat (first|(with_reducible first|exact HB.out|apply qb_|apply qa_|apply qc_)|exact HB.out)) hb);have n1_:=aK (hbox);have n2_:=aK ((by rw [hg];exact (ql_ (by repeat (first|(with_reducible first|exact HB.out|apply qb_|apply qa_|apply qc_)|exact HB.out))):w.heap.size≤l7));have n3_:=aK ((by rw [hg];exact (ql_ (by repeat (first|(with_reducible first|exact HB.out|apply qb_|apply qa_|apply qc_)|exact HB.out))):w.heap.size≤l7));clear HB;have HB:=n0_;have j3:=n1_;have GW1007:=n2_;have F4:=n3_;clear n0_ n1_ n2_ n3_;clear hb hbox hg;have hcz23_0:w22.cell? ⟨l7,0,none⟩=some (.int .i64 a0_0):=(qe_ j3.out 0).trans rfl;have hcz23_1:w22.cell? ⟨l7,1,none⟩=some (.int .i64 a0_1):=(qe_ j3.out 1).trans rfl;have hcz23_2:w22.cell? ⟨l7,2,none⟩=some (.slice A0_2 l0_2.length c0_2):=(qe_ j3.out 2).trans rfl;have hfz23_0:=qd_ j3.out 0;have hfz23_1:=qd_ j3.out 1;have hfz23_2:=qd_ j3.out 2)|((with_reducible refine qy_ (f:=82) rfl ?_);refine goesL_ (some 8) rfl rfl Try.func82 (by kernel_rfl) rfl #[.agg #[.int .i64 a0_0,.int .i64 a0_1,.slice A0_2 l0_2.length c0_2]] rfl (by (try simp only [List.map_toArray,List.map_cons,List.map_nil]);first|done|rfl|(simp only [List.length_drop,List.length_take];rfl)) ?_;(with_reducible refine (qs_.calls k a0_0 a0_1 _ _ l0_2 false _ ?side1 ?side2 A3.out).mono ?_);(case side1=>repeat (first|exact (Kd.qd1_ HR0_2.out HB.out)|(with_reducible refine Kd.qx2_ ?_ _)|(with_reducible refine Kd.qw2_ ?_ _)|(with_reducible refine Kd.C_drew ?_)));(case side2=>exact HC0_2.out);rintro e w24 ⟨rfl,hb⟩;refine ⟨_,rfl,?_⟩;have n0_:=aK (qk_ (g:=l7) (o:=.cells #[.int .i64 a0_0,.int .i64 a0_1,.slice A0_2 l0_2.length c0_2] 38 (0,0)) (by (with_reducible repeat (first|refine qg_ ?_ _|refine qj_ ?_|refine qf_ ?_ _));exact j3.out) hb);have n1_:=aK (qh_ (by repeat (first|(with_reducible first|exact HB.out|apply qb_|apply qa_|apply qc_|refine qi_ ?_ F4.out)|exact HB.out)) hb);clear j3;clear HB;have j3:=n0_;have HB:=n1_;clear n0_ n1_;(try clear hb);(try clear hb2);(try clear hk);(try clear hi)))
  go_ret
  exact ⟨by first|rfl|(simp [qn_,qo_] <;> rfl)|(simp [*,qn_,qo_] <;> rfl),by repeat (first|(with_reducible first|exact HB.out|apply qb_|apply qa_|apply qc_|refine qi_ ?_ F4.out)|exact HB.out)⟩
end Go.Proofs.Ytaiefdhenikiiaa.Base
namespace Go.Proofs.Ytaiefdhenikiiaa.Base
open Go.RowKit Go.Proofs.YtaiefdhenikiiaaW.PrintWords Go.Proofs.YtaiefdhenikiiaaW.PrintLast Go.Proofs.YtaiefdhenikiiaaW.PrintMore
attribute [local go_sem] max2_int qp1_ max_two min_two max_three min_three max_four min_four Go.Proofs.YtaiefdhenikiiaaZ.qw_   -- for this text's walks alone
set_option linter.unusedVariables false
set_option linter.unusedSimpArgs false
def qs2_.f (a0_0:Int) (a0_1:Int) (l0_2:List (S79)):Option (Int × Int × (List (S79))):=(qf3_.f a0_0 a0_1 l0_2).bind fun Q6=>((qh3_.f 1).bind fun R7=>(if Q6.2.2.length<4398046511104 then (some (Q6.1,Q6.2.1,(Q6.2.2++[(⟨(⟨#[]⟩:ByteArray),(⟨R7.1,R7.2⟩:S77)⟩:S79)]))) else (none)))
def qs2_.T2:Bool × List (List Nat × List Nat):=(true,[([],[]),([0],[0]),([],[]),([2],[2]),([3],[3]),([1,4,2],[1,4]),([0,1,2,3,4,5],[]),([6,5,5,0,1,2,3,4,5],[5,6])])
def qs2_.B2:List Nat:=[0,1,0,4,12,31,63,127]
theorem qs2_.tab2:rtab .any (opsOf Try.f132 2)=qs2_.T2:=by kernel_rfl
theorem qs2_.bits2:waitsOk qs2_.T2.2 qs2_.B2=true:=by kernel_rfl
set_option maxHeartbeats 8000000 in
set_option maxRecDepth 100000 in
theorem qs2_.calls (a0_0:Int) (a0_1:Int) (A0_2:Option Addr) (c0_2:Nat) (l0_2:List (S79)) (r1:Int) (r2:Int) (r3:List (S79)) (w:World) (hr0_2:Kd.C k79 w A0_2 l0_2.length l0_2) (hc0_2:l0_2.length≤c0_2) (h:qs2_.f a0_0 a0_1 l0_2=some (r1,r2,r3)) :
  Calls Try.prog 132 #[.agg #[.int .i64 a0_0,.int .i64 a0_1,.slice A0_2 l0_2.length c0_2]] w fun e w'=>∃ v2_:Value,e=.returned (.agg #[.int .i64 r1,.int .i64 r2,v2_])∧Kd.R k79 79 w' w.heap.size (fun _=>True) v2_ r3∧Below w.heap.size w w':=by
 have hu38:=Try.underlying38
 have hu79:=Try.underlying79
 have HR0_2:=aK hr0_2
 have HC0_2:=aK hc0_2
 clear hr0_2 hc0_2
 have HB:=aK (Below.refl w.heap.size w)
 have H:((qf3_.f a0_0 a0_1 l0_2).bind fun Q6=>((qh3_.f 1).bind fun R7=>(if Q6.2.2.length<4398046511104 then (some (Q6.1,Q6.2.1,(Q6.2.2++[(⟨(⟨#[]⟩:ByteArray),(⟨R7.1,R7.2⟩:S77)⟩:S79)]))) else (none))))=some (r1,r2,r3):=h
 clear h
 replace H:=Option.bind_eq_some_iff.mp H
 obtain ⟨⟨J8,K4,J4⟩,A20,H⟩:=H
 replace H:((qh3_.f 1).bind fun R7=>(if J4.length<4398046511104 then (some (J8,K4,(J4++[(⟨(⟨#[]⟩:ByteArray),(⟨R7.1,R7.2⟩:S77)⟩:S79)]))) else (none)))=some (r1,r2,r3):=H
 have A2:=aK A20
 clear A20
 replace H:=Option.bind_eq_some_iff.mp H
 obtain ⟨⟨aJ4,aJ3⟩,A30,H⟩:=H
 replace H:(if J4.length<4398046511104 then (some (J8,K4,(J4++[(⟨(⟨#[]⟩:ByteArray),(⟨aJ4,aJ3⟩:S77)⟩:S79)]))) else (none))=some (r1,r2,r3):=H
 have A3:=aK A30
 clear A30
 by_cases c4:J4.length<4398046511104
 ·rw [if_pos c4] at H
  have LMc4:=aK c4
  clear c4
  obtain ⟨aQ3,V8⟩:∃ y_:List (S79),y_=(J4++[(⟨(⟨#[]⟩:ByteArray),(⟨aJ4,aJ3⟩:S77)⟩:S79)]):=⟨_,rfl⟩
  replace H:(some (J8,K4,aQ3))=some (r1,r2,r3):=by first|(rw [V8];with_reducible exact H)|(have H2_:=(Option.bind_some _ _).symm.trans H;rw [V8];with_reducible exact H2_)|(have H2_:=(Option.bind_some _ _).symm.trans H;with_reducible exact H2_)|with_reducible exact H|(rw [V8];exact H)|exact H
  have Ny894:=aK V8
  clear V8
  simp only [Option.some.injEq,Prod.mk.injEq] at H
  obtain ⟨rfl,rfl,rfl⟩:=H
  go_enter Try.func132,Try.ntmps132
  try go_wp2_with (first|((with_reducible refine qt_ (N:=1) rfl ?_);refine qr_ ?hg (N:=1) ?hd (cs:=#[.int .i64 a0_0,.int .i64 a0_1,.slice A0_2 l0_2.length c0_2]) (t:=38) ?hr ?_;(case hd=>rfl);(case hg=>rfl);(case hr=>first|(go_simp;done)|(go_simp;rfl));intro G6 hg w5 hbox hb;have n0_:=aK (qh_ (by repeat (first|(with_reducible first|exact HB.out|apply qb_|apply qa_|apply qc_)|exact HB.out)) hb);have n1_:=aK (hbox);have n2_:=aK ((by rw [hg];exact (ql_ (by repeat (first|(with_reducible first|exact HB.out|apply qb_|apply qa_|apply qc_)|exact HB.out))):w.heap.size≤G6));have n3_:=aK ((by rw [hg];exact (ql_ (by repeat (first|(with_reducible first|exact HB.out|apply qb_|apply qa_|apply qc_)|exact HB.out))):w.heap.size≤G6));clear HB;have HB:=n0_;have o5:=n1_;have GW884:=n2_;have K8:=n3_;clear n0_ n1_ n2_ n3_;clear hb hbox hg)|((with_reducible refine qt_ (N:=2) rfl ?_);refine qr_ ?hg (N:=2) ?hd (cs:=#[.int .i64 0,.int .i64 0,.slice none 0 0]) (t:=38) ?hr ?_;(case hd=>rfl);(case hg=>rfl);(case hr=>first|(go_simp;done)|(go_simp;rfl));intro F5 hg w6 hbox hb;have n0_:=aK (qk_ (g:=G6) (o:=.cells #[.int .i64 a0_0,.int .i64 a0_1,.slice A0_2 l0_2.length c0_2] 38 (0,0)) (by (with_reducible repeat (first|refine qg_ ?_ _|refine qj_ ?_|refine qf_ ?_ _));exact o5.out) hb);have n1_:=aK (qh_ (by repeat (first|(with_reducible first|exact HB.out|apply qb_|apply qa_|apply qc_|refine qi_ ?_ K8.out)|exact HB.out)) hb);have n2_:=aK (hbox);have n3_:=aK ((by rw [hg];exact (ql_ (by repeat (first|(with_reducible first|exact HB.out|apply qb_|apply qa_|apply qc_|refine qi_ ?_ K8.out)|exact HB.out))):w.heap.size≤F5));have n4_:=aK ((by rw [hg];exact (ql_ (by repeat (first|(with_reducible first|exact HB.out|apply qb_|apply qa_|apply qc_|refine qi_ ?_ K8.out)|exact HB.out))):w.heap.size≤F5));have n5_:=aK ((by rw [hg];exact Nat.ne_of_lt (blk_lt (g:=G6) (o:=.cells #[.int .i64 a0_0,.int .i64 a0_1,.slice A0_2 l0_2.length c0_2] 38 (0,0)) (by (with_reducible repeat (first|refine qg_ ?_ _|refine qj_ ?_|refine qf_ ?_ _));exact o5.out)):G6≠F5));have n6_:=aK ((by rw [hg];exact Nat.ne_of_gt (blk_lt (g:=G6) (o:=.cells #[.int .i64 a0_0,.int .i64 a0_1,.slice A0_2 l0_2.length c0_2] 38 (0,0)) (by (with_reducible repeat (first|refine qg_ ?_ _|refine qj_ ?_|refine qf_ ?_ _));exact o5.out)):F5≠G6));clear o5;clear HB;have o5:=n0_;have HB:=n1_;have o9:=n2_;have GW885:=n3_;have P8:=n4_;have NB884_885:=n5_;have NB885_884:=n6_;clear n0_ n1_ n2_ n3_ n4_ n5_ n6_;clear hb hbox hg;have hnb7:=NB884_885.out;have hnc7:=NB885_884.out;have hcz8_0:w6.cell? ⟨G6,0,none⟩=some (.int .i64 a0_0):=(qe_ o5.out 0).trans rfl;have hcz8_1:w6.cell? ⟨G6,1,none⟩=some (.int .i64 a0_1):=(qe_ o5.out 1).trans rfl;have hcz8_2:w6.cell? ⟨G6,2,none⟩=some (.slice A0_2 l0_2.length c0_2):=(qe_ o5.out 2).trans rfl;have hfz8_0:=qd_ o5.out 0;have hfz8_1:=qd_ o5.out 1;have hfz8_2:=qd_ o5.out 2)|((with_reducible refine qy_ (f:=108) rfl ?_);refine goesL_ (some 5) rfl rfl Try.func108 (by kernel_rfl) rfl #[.agg #[.int .i64 a0_0,.int .i64 a0_1,.slice A0_2 l0_2.length c0_2]] rfl (by (try simp only [List.map_toArray,List.map_cons,List.map_nil]);first|done|rfl|(simp only [List.length_drop,List.length_take];rfl)) ?_;(with_reducible refine (qf3_.calls a0_0 a0_1 _ _ l0_2 J8 K4 J4 _ ?side1 ?side2 A2.out).mono ?_);(case side1=>repeat (first|exact (Kd.qd1_ HR0_2.out HB.out)|(with_reducible refine Kd.qx2_ ?_ _)|(with_reducible refine Kd.qw2_ ?_ _)|(with_reducible refine Kd.C_drew ?_)));(case side2=>exact HC0_2.out);rintro e w9 ⟨v889,rfl,ho0,hb⟩;refine ⟨_,rfl,?_⟩;have n0_:=aK (Kd.qn2_ ho0 (ql_ (by repeat (first|(with_reducible first|exact HB.out|apply qb_|apply qa_|apply qc_|refine qi_ ?_ K8.out|refine qi_ ?_ P8.out)|exact HB.out))));have n1_:=aK (qk_ (g:=G6) (o:=.cells #[.int .i64 a0_0,.int .i64 a0_1,.slice A0_2 l0_2.length c0_2] 38 (0,0)) (by (with_reducible repeat (first|refine qg_ ?_ _|refine qj_ ?_|refine qf_ ?_ _));exact o5.out) hb);have n2_:=aK (qk_ (g:=F5) (o:=.cells #[.int .i64 0,.int .i64 0,.slice none 0 0] 38 (0,0)) (by (with_reducible repeat (first|refine qg_ ?_ _|refine qj_ ?_|refine qf_ ?_ _));exact o9.out) hb);have n3_:=aK (qh_ (by repeat (first|(with_reducible first|exact HB.out|apply qb_|apply qa_|apply qc_|refine qi_ ?_ K8.out|refine qi_ ?_ P8.out)|exact HB.out)) hb);clear o5;clear o9;clear HB;have G7:=n0_;have o5:=n1_;have o9:=n2_;have HB:=n3_;clear n0_ n1_ n2_ n3_;(try clear hb);(try clear hb2);(try clear hk);(try clear hi);(try clear ho0))|((with_reducible refine qt_ (N:=3) rfl ?_);refine qr_ ?hg (N:=3) ?hd (cs:=#[.int .i64 0,.int .i64 0,.slice none 0 0]) (t:=38) ?hr ?_;(case hd=>rfl);(case hg=>rfl);(case hr=>first|(go_simp;done)|(go_simp;rfl));intro l5 hg w10 hbox hb;have n0_:=aK (Kd.ql2_ (by (with_reducible repeat (first|apply Kd.qs1_|apply Kd.qx1_|apply Kd.R_drew));exact G7.out) hb);have n1_:=aK (qk_ (g:=G6) (o:=.cells #[.int .i64 a0_0,.int .i64 a0_1,.slice A0_2 l0_2.length c0_2] 38 (0,0)) (by (with_reducible repeat (first|refine qg_ ?_ _|refine qj_ ?_|refine qf_ ?_ _));exact o5.out) hb);have n2_:=aK (qk_ (g:=F5) (o:=.cells #[.int .i64 0,.int .i64 0,.slice none 0 0] 38 (0,0)) (by (with_reducible repeat (first|refine qg_ ?_ _|refine qj_ ?_|refine qf_ ?_ _));exact o9.out) hb);have n3_:=aK (qh_ (by repeat (first|(with_reducible first|exact HB.out|apply qb_|apply qa_|apply qc_|refine qi_ ?_ K8.out|refine qi_ ?_ P8.out)|exact HB.out)) hb);have n4_:=aK (hbox);have n5_:=aK ((by rw [hg];exact (ql_ (by repeat (first|(with_reducible first|exact HB.out|apply qb_|apply qa_|apply qc_|refine qi_ ?_ K8.out|refine qi_ ?_ P8.out)|exact HB.out))):w.heap.size≤l5));have n6_:=aK ((by rw [hg];exact (ql_ (by repeat (first|(with_reducible first|exact HB.out|apply qb_|apply qa_|apply qc_|refine qi_ ?_ K8.out|refine qi_ ?_ P8.out)|exact HB.out))):w.heap.size≤l5));have n7_:=aK ((by rw [hg];exact Nat.ne_of_lt (blk_lt (g:=G6) (o:=.cells #[.int .i64 a0_0,.int .i64 a0_1,.slice A0_2 l0_2.length c0_2] 38 (0,0)) (by (with_reducible repeat (first|refine qg_ ?_ _|refine qj_ ?_|refine qf_ ?_ _));exact o5.out)):G6≠l5));have n8_:=aK ((by rw [hg];exact Nat.ne_of_gt (blk_lt (g:=G6) (o:=.cells #[.int .i64 a0_0,.int .i64 a0_1,.slice A0_2 l0_2.length c0_2] 38 (0,0)) (by (with_reducible repeat (first|refine qg_ ?_ _|refine qj_ ?_|refine qf_ ?_ _));exact o5.out)):l5≠G6));have n9_:=aK ((by rw [hg];exact Nat.ne_of_lt (blk_lt (g:=F5) (o:=.cells #[.int .i64 0,.int .i64 0,.slice none 0 0] 38 (0,0)) (by (with_reducible repeat (first|refine qg_ ?_ _|refine qj_ ?_|refine qf_ ?_ _));exact o9.out)):F5≠l5));have n10_:=aK ((by rw [hg];exact Nat.ne_of_gt (blk_lt (g:=F5) (o:=.cells #[.int .i64 0,.int .i64 0,.slice none 0 0] 38 (0,0)) (by (with_reducible repeat (first|refine qg_ ?_ _|refine qj_ ?_|refine qf_ ?_ _));exact o9.out)):l5≠F5));clear G7;clear o5;clear o9;clear HB;have G7:=n0_;have o5:=n1_;have o9:=n2_;have HB:=n3_;have j6:=n4_;have GW891:=n5_;have Y8:=n6_;have K7:=n7_;have V3:=n8_;have J6:=n9_;have U9:=n10_;clear n0_ n1_ n2_ n3_ n4_ n5_ n6_ n7_ n8_ n9_ n10_;clear hb hbox hg;have hnb11:=V3.out;have hnc11:=K7.out;have hnb12:=U9.out;have hnc12:=J6.out;have hcz13_0:w10.cell? ⟨l5,0,none⟩=some (.int .i64 0):=(qe_ j6.out 0).trans rfl;have hcz13_1:w10.cell? ⟨l5,1,none⟩=some (.int .i64 0):=(qe_ j6.out 1).trans rfl;have hcz13_2:w10.cell? ⟨l5,2,none⟩=some (.slice none 0 0):=(qe_ j6.out 2).trans rfl;have hfz13_0:=qd_ j6.out 0;have hfz13_1:=qd_ j6.out 1;have hfz13_2:=qd_ j6.out 2;obtain ⟨Q3,Q0,eo14⟩:=Kd.qd2_ G7.out;subst eo14))
  have n0_:Aside0 (Kd.R k79 79 (((w10.setCell ⟨l5,0,none⟩ (.int .i64 J8)).setCell ⟨l5,1,none⟩ (.int .i64 K4)).setCell ⟨l5,2,none⟩ (.slice Q3 J4.length Q0)) w.heap.size (fun _=>True) (.slice Q3 J4.length Q0) J4):=⟨by (with_reducible repeat (first|apply Kd.qs1_|apply Kd.qx1_|apply Kd.R_drew));exact Kd.R_mono (Kd.R_far (p:=⟨l5,2,none⟩) (Kd.R_far (p:=⟨l5,1,none⟩) (Kd.R_far (p:=⟨l5,0,none⟩) (Kd.R_types G7.out j6.out (by decide)) (fun _ hk=>hk.2) (.int .i64 J8)) (fun _ hk=>hk.2) (.int .i64 K4)) (fun _ hk=>hk.2) (.slice Q3 J4.length Q0)) (fun _ hk=>trivial)⟩
  have n1_:Aside0 ((((w10.setCell ⟨l5,0,none⟩ (.int .i64 J8)).setCell ⟨l5,1,none⟩ (.int .i64 K4)).setCell ⟨l5,2,none⟩ (.slice Q3 J4.length Q0)).heap[G6]?=some (.cells #[.int .i64 a0_0,.int .i64 a0_1,.slice A0_2 l0_2.length c0_2] 38 (0,0))):=⟨by (with_reducible repeat (first|refine qg_ ?_ _|refine qj_ ?_|refine qf_ ?_ _));refine qr1_ ?_ K7.out _;(with_reducible repeat (first|refine qg_ ?_ _|refine qj_ ?_|refine qf_ ?_ _));refine qr1_ ?_ K7.out _;(with_reducible repeat (first|refine qg_ ?_ _|refine qj_ ?_|refine qf_ ?_ _));refine qr1_ ?_ K7.out _;(with_reducible repeat (first|refine qg_ ?_ _|refine qj_ ?_|refine qf_ ?_ _));exact o5.out⟩
  have n2_:Aside0 ((((w10.setCell ⟨l5,0,none⟩ (.int .i64 J8)).setCell ⟨l5,1,none⟩ (.int .i64 K4)).setCell ⟨l5,2,none⟩ (.slice Q3 J4.length Q0)).heap[F5]?=some (.cells #[.int .i64 0,.int .i64 0,.slice none 0 0] 38 (0,0))):=⟨by (with_reducible repeat (first|refine qg_ ?_ _|refine qj_ ?_|refine qf_ ?_ _));refine qr1_ ?_ J6.out _;(with_reducible repeat (first|refine qg_ ?_ _|refine qj_ ?_|refine qf_ ?_ _));refine qr1_ ?_ J6.out _;(with_reducible repeat (first|refine qg_ ?_ _|refine qj_ ?_|refine qf_ ?_ _));refine qr1_ ?_ J6.out _;(with_reducible repeat (first|refine qg_ ?_ _|refine qj_ ?_|refine qf_ ?_ _));exact o9.out⟩
  have n3_:Aside0 ((((w10.setCell ⟨l5,0,none⟩ (.int .i64 J8)).setCell ⟨l5,1,none⟩ (.int .i64 K4)).setCell ⟨l5,2,none⟩ (.slice Q3 J4.length Q0)).heap[l5]?=some (.cells #[.int .i64 J8,.int .i64 K4,.slice Q3 J4.length Q0] 38 (0,0))):=⟨by (with_reducible repeat (first|refine qg_ ?_ _|refine qj_ ?_|refine qf_ ?_ _));refine ql1_ (cs:=#[.int .i64 J8,.int .i64 K4,.slice none 0 0]) ?_ 2 _ rfl;(with_reducible repeat (first|refine qg_ ?_ _|refine qj_ ?_|refine qf_ ?_ _));refine ql1_ (cs:=#[.int .i64 J8,.int .i64 0,.slice none 0 0]) ?_ 1 _ rfl;(with_reducible repeat (first|refine qg_ ?_ _|refine qj_ ?_|refine qf_ ?_ _));refine ql1_ (cs:=#[.int .i64 0,.int .i64 0,.slice none 0 0]) ?_ 0 _ rfl;(with_reducible repeat (first|refine qg_ ?_ _|refine qj_ ?_|refine qf_ ?_ _));exact j6.out⟩
  have n4_:Aside0 (Below w.heap.size w (((w10.setCell ⟨l5,0,none⟩ (.int .i64 J8)).setCell ⟨l5,1,none⟩ (.int .i64 K4)).setCell ⟨l5,2,none⟩ (.slice Q3 J4.length Q0))):=⟨by repeat (first|(with_reducible first|exact HB.out|apply qb_|apply qa_|apply qc_|refine qi_ ?_ K8.out|refine qi_ ?_ P8.out|refine qi_ ?_ Y8.out)|exact HB.out)⟩
  (try clear G7)
  (try clear o5)
  (try clear o9)
  (try clear j6)
  (try clear HB)
  generalize (((w10.setCell ⟨l5,0,none⟩ (.int .i64 J8)).setCell ⟨l5,1,none⟩ (.int .i64 K4)).setCell ⟨l5,2,none⟩ (.slice Q3 J4.length Q0))=w15 at n0_ n1_ n2_ n3_ n4_ ⊢
  have G7:=n0_
  have o5:=n1_
  have o9:=n2_
  have j6:=n3_
  have HB:=n4_
  clear n0_ n1_ n2_ n3_ n4_
  have n0_:=aK (Kd.R_drew G7.out)
  have n1_:=aK (qj_ o5.out)
  have n2_:=aK (qj_ o9.out)
  have n3_:=aK (qj_ j6.out)
  have n4_:=aK (qc_ HB.out)
  clear G7
  clear o5
  clear o9
  clear j6
  clear HB
  have G7:=n0_
  have o5:=n1_
  have o9:=n2_
  have j6:=n3_
  have HB:=n4_
  clear n0_ n1_ n2_ n3_ n4_
  refine start_ (n:=8) (S:=fun w'=>w'.cell? ⟨l5,0,none⟩=some (.int .i64 J8)∧w'.cell? ⟨l5,1,none⟩=some (.int .i64 K4)∧w'.cell? ⟨l5,2,none⟩=some (.slice Q3 J4.length Q0)) (ds:=[7]) #[fF,fF,fF,fF,fF,fF,fF,fF] (by kernel_rfl) rfl rfl ⟨(qe_ j6.out 0).trans rfl,(qe_ j6.out 1).trans rfl,(qe_ j6.out 2).trans rfl⟩ (fun hHeld=>?_);refine with_tabW qs2_.tab2 qs2_.bits2 (fun HT_ HW_=>?_)
  generalize w15.drew=w16 at G7 o5 o9 j6 HB hHeld ⊢
  refine pure_ (i:=0) (N:=some 6) (v:=?_) (a':=?_) #[tT,fF,fF,fF,fF,fF,fF,fF] rfl rfl (any_of HT_.out (by kernel_rfl)) (fun _ _ _ h=>h) (Or.inl ⟨by rfl,?_⟩) ?_ ?_
  rotate_left
  ·intro w'
   go_simp
   with_reducible rfl
  rotate_left
  ·simp only [Act.put,List.setIfInBounds_toArray,List.set_cons_zero,List.set_cons_succ,i64_w,i32_w]
   rfl
  refine take_ (i:=1) (N:=some 7) (v:=?_) (a':=?_) #[tT,tT,fF,fF,fF,fF,fF,fF] rfl rfl (take_ofW HT_.out HW_.out (by kernel_rfl)) (fun _ _ _ h=>h) (Or.inl ⟨by rfl,?_⟩) hHeld ?_ ?_
  rotate_left
  ·rintro w' ⟨s0,s1,s2⟩
   go_simp
   with_reducible rfl
  rotate_left
  ·simp only [Act.put,List.setIfInBounds_toArray,List.set_cons_zero,List.set_cons_succ,i64_w,i32_w]
   rfl
  refine one_ (i:=2) (N:=some 8) #[tT,tT,tT,fF,fF,fF,fF,fF] rfl rfl (one_of HT_.out (by kernel_rfl)) (by decide) (fun K hK=>?_)
  refine goes_ Try.func124 (by kernel_rfl) rfl #[.int .i64 1] (by rfl) rfl rfl (by (try simp only [List.map_toArray,List.map_cons,List.map_nil]);first|done|rfl|(simp only [List.length_drop,List.length_take];rfl)) ?_
  with_reducible refine (qh3_.calls 1 aJ4 aJ3 _ A3.out).mono ?_
  rintro e w17 ⟨rfl,hb⟩
  refine ⟨_,rfl,?_⟩
  have n0_:=aK (Kd.ql2_ (by (with_reducible repeat (first|apply Kd.qs1_|apply Kd.qx1_|apply Kd.R_drew));exact G7.out) hb)
  have n1_:=aK (qk_ (g:=G6) (o:=.cells #[.int .i64 a0_0,.int .i64 a0_1,.slice A0_2 l0_2.length c0_2] 38 (0,0)) (by (with_reducible repeat (first|refine qg_ ?_ _|refine qj_ ?_|refine qf_ ?_ _));exact o5.out) hb)
  have n2_:=aK (qk_ (g:=F5) (o:=.cells #[.int .i64 0,.int .i64 0,.slice none 0 0] 38 (0,0)) (by (with_reducible repeat (first|refine qg_ ?_ _|refine qj_ ?_|refine qf_ ?_ _));exact o9.out) hb)
  have n3_:=aK (qk_ (g:=l5) (o:=.cells #[.int .i64 J8,.int .i64 K4,.slice Q3 J4.length Q0] 38 (0,0)) (by (with_reducible repeat (first|refine qg_ ?_ _|refine qj_ ?_|refine qf_ ?_ _));exact j6.out) hb)
  have n4_:=aK (qh_ (by repeat (first|(with_reducible first|exact HB.out|apply qb_|apply qa_|apply qc_|refine qi_ ?_ K8.out|refine qi_ ?_ P8.out|refine qi_ ?_ Y8.out)|exact HB.out)) hb)
  clear G7
  clear o5
  clear o9
  clear j6
  clear HB
  have G7:=n0_
  have o5:=n1_
  have o9:=n2_
  have j6:=n3_
  have HB:=n4_
  clear n0_ n1_ n2_ n3_ n4_
  (try clear hb)
  (try clear hb2)
  (try clear hk)
  (try clear hi)
  refine hK.out _ _ ⟨(qe_ j6.out 0).trans rfl,(qe_ j6.out 1).trans rfl,(qe_ j6.out 2).trans rfl⟩ (fun hHeld=>?_)
  clear hK K
  refine norm_ (a':=?_) ?_ ?_
  rotate_left
  ·show Act.put _ (some 8) _=_
   simp only [Act.put,List.setIfInBounds_toArray,List.set_cons_zero,List.set_cons_succ,i64_w,i32_w]
   rfl
  refine pure_ (i:=3) (N:=some 9) (v:=?_) (a':=?_) #[tT,tT,tT,tT,fF,fF,fF,fF] rfl rfl (any_of HT_.out (by kernel_rfl)) (fun _ _ _ h=>h) (Or.inl ⟨by rfl,?_⟩) ?_ ?_
  rotate_left
  ·intro w'
   go_simp
   with_reducible rfl
  rotate_left
  ·simp only [Act.put,List.setIfInBounds_toArray,List.set_cons_zero,List.set_cons_succ,i64_w,i32_w]
   rfl
  refine one_ (i:=4) (N:=some 10) #[tT,tT,tT,tT,tT,fF,fF,fF] rfl rfl (one_of HT_.out (by kernel_rfl)) (by decide) (fun K hK=>?_)
  refine value_ (w1:=?_) (v:=?_) (by rfl) rfl ?_ ?_
  rotate_left 2
  ·go_simp
   constructor
   ·rfl
   ·rfl
  refine hK.out _ _ ⟨(qe_ (qf_ j6.out _) 0).trans rfl,(qe_ (qf_ j6.out _) 1).trans rfl,(qe_ (qf_ j6.out _) 2).trans rfl⟩ (fun hHeld=>?_)
  clear hK K
  refine norm_ (a':=?_) ?_ ?_
  rotate_left
  ·show Act.put _ (some 10) _=_
   simp only [Act.put,List.setIfInBounds_toArray,List.set_cons_zero,List.set_cons_succ,i64_w,i32_w]
   rfl
  refine one_ (i:=5) (N:=some 11) #[tT,tT,tT,tT,tT,tT,fF,fF] rfl rfl (one_of HT_.out (by kernel_rfl)) (by decide) (fun K hK=>?_)
  refine Kd.qk3_ k79 (w0:=w) w.heap.size (by rfl) (.tmp 7) (.tmp 10) 24 79 (.agg #[(.string ⟨#[]⟩),(.int .i64 0),(.int .i64 0)]) 32 rfl Try.underlying24 info79 rfl (by decide) (by omega) (.slice Q3 J4.length Q0) J4 (⟨(⟨#[]⟩:ByteArray),(⟨aJ4,aJ3⟩:S77)⟩:S79) [.string (⟨#[]⟩:ByteArray),.int .i64 aJ4,.int .i64 aJ3] (fun _=>True) (fun _=>False) rfl rfl ?aP (fun _ hk=>hk.elim) ?aF ?aO ?aB ?aS ?aL ?_
  (case aP=>exact k79_mkM _ _ _ (⟨(⟨#[]⟩:ByteArray),(⟨aJ4,aJ3⟩:S77)⟩:S79))
  (case aB=>exact (by repeat (first|(with_reducible first|exact HB.out|apply qb_|apply qa_|apply qc_|refine qi_ ?_ K8.out|refine qi_ ?_ P8.out|refine qi_ ?_ Y8.out)|exact HB.out)))
  (case aF=>exact (fun _ _=>trivial))
  (case aO=>exact (by (with_reducible repeat (first|apply Kd.qs1_|apply Kd.qx1_|apply Kd.R_drew));exact G7.out))
  (case aS=>exact (ql_ (by repeat (first|(with_reducible first|exact HB.out|apply qb_|apply qa_|apply qc_|refine qi_ ?_ K8.out|refine qi_ ?_ P8.out|refine qi_ ?_ Y8.out)|exact HB.out))))
  (case aL=>have:=LMc4.out;omega)
  intro v895 w18 ho hb hg hat
  rw [← Ny894.out] at ho
  have n0_:=aK (qm3_ (g:=G6) (o:=.cells #[.int .i64 a0_0,.int .i64 a0_1,.slice A0_2 l0_2.length c0_2] 38 (0,0)) (by (with_reducible repeat (first|refine qg_ ?_ _|refine qj_ ?_|refine qf_ ?_ _));exact o5.out) hg (Kd.R_ne G7.out o5.out (by decide)))
  have n1_:=aK (qm3_ (g:=F5) (o:=.cells #[.int .i64 0,.int .i64 0,.slice none 0 0] 38 (0,0)) (by (with_reducible repeat (first|refine qg_ ?_ _|refine qj_ ?_|refine qf_ ?_ _));exact o9.out) hg (Kd.R_ne G7.out o9.out (by decide)))
  have n2_:=aK (qm3_ (g:=l5) (o:=.cells #[.int .i64 J8,.int .i64 K4,.slice Q3 J4.length Q0] 38 (0,0)) (by (with_reducible repeat (first|refine qg_ ?_ _|refine qj_ ?_|refine qf_ ?_ _));exact j6.out) hg (Kd.R_ne G7.out j6.out (by decide)))
  have n3_:=aK (hb)
  have n4_:=aK (ho)
  clear o5
  clear o9
  clear j6
  clear HB
  clear G7
  have o5:=n0_
  have o9:=n1_
  have j6:=n2_
  have HB:=n3_
  have aZ3:=n4_
  clear n0_ n1_ n2_ n3_ n4_
  clear ho hb hg hat
  obtain ⟨aX1,aZ9,aY1⟩:=Kd.qd2_ aZ3.out
  (first|subst aY1|(injection aY1 with f1_ f2_ f3_;have f4_:=f1_.symm;have f5_:=f3_.symm;clear f1_ f2_ f3_;subst f4_;subst f5_))
  refine hK.out _ _ ⟨(qe_ j6.out 0).trans rfl,(qe_ j6.out 1).trans rfl,(qe_ j6.out 2).trans rfl⟩ (fun hHeld=>?_)
  clear hK K
  refine norm_ (a':=?_) ?_ ?_
  rotate_left
  ·show Act.put _ (some 11) _=_
   simp only [Act.put,List.setIfInBounds_toArray,List.set_cons_zero,List.set_cons_succ,i64_w,i32_w]
   rfl
  refine pure_ (i:=6) (N:=some 12) (v:=?_) (a':=?_) #[tT,tT,tT,tT,tT,tT,tT,fF] rfl rfl (any_of HT_.out (by kernel_rfl)) (fun _ _ _ h=>h) (Or.inl ⟨by rfl,?_⟩) ?_ ?_
  rotate_left
  ·intro w'
   go_simp
   with_reducible rfl
  rotate_left
  ·simp only [Act.put,List.setIfInBounds_toArray,List.set_cons_zero,List.set_cons_succ,i64_w,i32_w]
   rfl
  refine last_ (i:=7) (N:=none) #[tT,tT,tT,tT,tT,tT,tT,tT] rfl rfl (one_of HT_.out (by kernel_rfl)) (by decide) (fun K hK=>?_)
  have hs20:w18.cell? ⟨l5,2,none⟩=some (.slice Q3 J4.length Q0):=(qe_ j6.out 2).trans rfl
  have hfs20:=qd_ j6.out 2
  have hns20_0:=K7.out
  have hns20_1:=J6.out
  have hms20_0:=V3.out
  have hms20_1:=U9.out
  refine skip_ (w1:=?_) (by rfl) rfl ?_ ?_
  rotate_left
  ·go_simp
   rfl
  refine hK.out _ _ ?_
  clear hK K
  refine done_ (done_of HT_.out (by kernel_rfl)) ?_
  have hcz21_0:w18.cell? ⟨l5,0,none⟩=some (.int .i64 J8):=(qe_ j6.out 0).trans rfl
  have hcz21_1:w18.cell? ⟨l5,1,none⟩=some (.int .i64 K4):=(qe_ j6.out 1).trans rfl
  have hcz21_2:w18.cell? ⟨l5,2,none⟩=some (.slice Q3 J4.length Q0):=(qe_ j6.out 2).trans rfl
  have hfz21_0:=qd_ j6.out 0
  have hfz21_1:=qd_ j6.out 1
  have hfz21_2:=qd_ j6.out 2
  have hcz22_0:w18.cell? ⟨F5,0,none⟩=some (.int .i64 0):=(qe_ o9.out 0).trans rfl
  have hcz22_1:w18.cell? ⟨F5,1,none⟩=some (.int .i64 0):=(qe_ o9.out 1).trans rfl
  have hcz22_2:w18.cell? ⟨F5,2,none⟩=some (.slice none 0 0):=(qe_ o9.out 2).trans rfl
  have hfz22_0:=qd_ o9.out 0
  have hfz22_1:=qd_ o9.out 1
  have hfz22_2:=qd_ o9.out 2
  try go_wp2
  refine bodyPost_ret (results_cell_row rfl _ _ F5 38 #[.int .i64 J8,.int .i64 K4,.slice aX1 aQ3.length aZ9] (0,0) _ rfl (by (with_reducible repeat (first|refine qg_ ?_ _|refine qj_ ?_|refine qf_ ?_ _));refine ql1_ (cs:=#[.int .i64 J8,.int .i64 K4,.slice none 0 0]) ?_ 2 _ rfl;(with_reducible repeat (first|refine qg_ ?_ _|refine qj_ ?_|refine qf_ ?_ _));refine ql1_ (cs:=#[.int .i64 J8,.int .i64 0,.slice none 0 0]) ?_ 1 _ rfl;(with_reducible repeat (first|refine qg_ ?_ _|refine qj_ ?_|refine qf_ ?_ _));refine ql1_ (cs:=#[.int .i64 0,.int .i64 0,.slice none 0 0]) ?_ 0 _ rfl;(with_reducible repeat (first|refine qg_ ?_ _|refine qj_ ?_|refine qf_ ?_ _));refine qr1_ ?_ J6.out _;(with_reducible repeat (first|refine qg_ ?_ _|refine qj_ ?_|refine qf_ ?_ _));exact o9.out) Try.underlying38 rfl (by kernel_rfl)) rfl ?_
  exact ⟨_,by first|rfl|(simp [qn_,qo_] <;> rfl)|(simp [*,qn_,qo_] <;> rfl),by (with_reducible repeat (first|apply Kd.qs1_|apply Kd.qx1_|apply Kd.R_drew));exact Kd.R_mono (Kd.R_far (p:=⟨F5,2,none⟩) (Kd.R_far (p:=⟨F5,1,none⟩) (Kd.R_far (p:=⟨F5,0,none⟩) (Kd.R_far (p:=⟨l5,2,none⟩) (Kd.R_types (Kd.R_types aZ3.out j6.out (by decide)) o9.out (by decide)) (fun _ hk=>hk.1.2) (.slice aX1 aQ3.length aZ9)) (fun _ hk=>hk.2) (.int .i64 J8)) (fun _ hk=>hk.2) (.int .i64 K4)) (fun _ hk=>hk.2) (.slice aX1 aQ3.length aZ9)) (fun _ hk=>trivial),by repeat (first|(with_reducible first|exact HB.out|apply qb_|apply qa_|apply qc_|refine qi_ ?_ K8.out|refine qi_ ?_ P8.out|refine qi_ ?_ Y8.out)|exact HB.out)⟩
 ·rw [if_neg c4] at H
  exact absurd H (by simp)
end Go.Proofs.Ytaiefdhenikiiaa.Base
