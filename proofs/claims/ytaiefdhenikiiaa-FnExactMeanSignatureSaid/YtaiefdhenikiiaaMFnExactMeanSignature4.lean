/- Texts that the proof of FnExactMeanSignature needs, part 4. No condition. -/
import Derived.Test.YtaiefdhenikiiaaMFnExactMeanSignature3
namespace Go.Proofs.Ytaiefdhenikiiaa.Base
open Go.RowKit Go.Proofs.YtaiefdhenikiiaaW.PrintWords Go.Proofs.YtaiefdhenikiiaaW.PrintLast Go.Proofs.YtaiefdhenikiiaaW.PrintMore
attribute [local go_sem] max2_int qq1_ max_two min_two max_three min_three max_four min_four Go.Proofs.YtaiefdhenikiiaaZ.qu_   -- for this text's walks alone
set_option linter.unusedVariables false
set_option linter.unusedSimpArgs false
mutual
def qv_.l0:Nat→Int→List ByteArray→Int→Int→Option (List ByteArray)
 | 0,_,_,_,_=>none
 | k+1,x0,x5,x11,x12=>if x12 < x11 then (qv_.l1 k x0 ([]:List ByteArray) x11 x12 x5 (x5.length:Int) 0) else (some x5)
def qv_.l1:Nat→Int→List ByteArray→Int→Int→List ByteArray→Int→Int→Option (List ByteArray)
 | 0,_,_,_,_,_,_,_=>none
 | k+1,x0,x6,x11,x12,x14,x15,x16=>if x16 < x15 then (if 0≤x16 then (if x16 < (x14.length:Int) then (qv_.l2 k x0 x6 (rdOf ByteArray.empty x14 x16) x11 x12 x14 x15 x16 x0 0) else (none)) else (none)) else (qv_.l0 k x0 x6 x11 (wrap64 (x12+1)))
def qv_.l2:Nat→Int→List ByteArray→ByteArray→Int→Int→List ByteArray→Int→Int→Int→Int→Option (List ByteArray)
 | 0,_,_,_,_,_,_,_,_,_,_=>none
 | k+1,x0,x6,x8,x11,x12,x14,x15,x16,x20,x21=>if x21 < x20 then ((qk3_.f x21).bind fun t377=>(if x8.size+t377.size≤9223372036854775807 then (if x6.length < 8796093022208 then (qv_.l2 k x0 (x6 ++ [x8 ++ t377]) x8 x11 x12 x14 x15 x16 x20 (wrap64 (x21+1))) else (none)) else (none))) else (qv_.l1 k x0 x6 x11 x12 x14 x15 (wrap64 (x16+1)))
end
def qv_.f (k:Nat) (a0:Int) (a1:Int):Option (List ByteArray):=qv_.l0 k a0 (([(⟨#[]⟩:ByteArray)]:List ByteArray)) a1 0
theorem qv_.mono_l:∀ k,(∀ y0 y1 y2 y3,LeO (qv_.l0 k y0 y1 y2 y3) (qv_.l0 (k+1) y0 y1 y2 y3))∧(∀ y0 y1 y2 y3 y4 y5 y6,LeO (qv_.l1 k y0 y1 y2 y3 y4 y5 y6) (qv_.l1 (k+1) y0 y1 y2 y3 y4 y5 y6))∧(∀ y0 y1 y2 y3 y4 y5 y6 y7 y8 y9,LeO (qv_.l2 k y0 y1 y2 y3 y4 y5 y6 y7 y8 y9) (qv_.l2 (k+1) y0 y1 y2 y3 y4 y5 y6 y7 y8 y9))
 | 0=>⟨fun _ _ _ _ r h=>by simp [qv_.l0] at h,fun _ _ _ _ _ _ _ r h=>by simp [qv_.l1] at h,fun _ _ _ _ _ _ _ _ _ _ r h=>by simp [qv_.l2] at h⟩
 | k+1=>by
  obtain ⟨ih0,ih1,ih2⟩:=qv_.mono_l k
  refine ⟨?_,?_,?_⟩
  ·intro y0 y1 y2 y3
   unfold qv_.l0
   repeat' first
   | (with_reducible exact ih0 _ _ _ _)
   | (with_reducible exact ih1 _ _ _ _ _ _ _)
   | (with_reducible exact ih2 _ _ _ _ _ _ _ _ _ _)
   | (with_reducible exact LeO.refl _)
   | (with_reducible exact LeO.none _)
   | (with_reducible refine LeO.ite ?_ ?_)
   | (with_reducible refine LeO.bind ?_ (fun _=>?_))
   | exact ih0 _ _ _ _
   | exact ih1 _ _ _ _ _ _ _
   | exact ih2 _ _ _ _ _ _ _ _ _ _
   | exact LeO.none _
   | refine LeO.ite ?_ ?_
   | refine LeO.bind ?_ (fun _=>?_)
  ·intro y0 y1 y2 y3 y4 y5 y6
   unfold qv_.l1
   repeat' first
   | (with_reducible exact ih0 _ _ _ _)
   | (with_reducible exact ih1 _ _ _ _ _ _ _)
   | (with_reducible exact ih2 _ _ _ _ _ _ _ _ _ _)
   | (with_reducible exact LeO.refl _)
   | (with_reducible exact LeO.none _)
   | (with_reducible refine LeO.ite ?_ ?_)
   | (with_reducible refine LeO.bind ?_ (fun _=>?_))
   | exact ih0 _ _ _ _
   | exact ih1 _ _ _ _ _ _ _
   | exact ih2 _ _ _ _ _ _ _ _ _ _
   | exact LeO.none _
   | refine LeO.ite ?_ ?_
   | refine LeO.bind ?_ (fun _=>?_)
  ·intro y0 y1 y2 y3 y4 y5 y6 y7 y8 y9
   unfold qv_.l2
   repeat' first
   | (with_reducible exact ih0 _ _ _ _)
   | (with_reducible exact ih1 _ _ _ _ _ _ _)
   | (with_reducible exact ih2 _ _ _ _ _ _ _ _ _ _)
   | (with_reducible exact LeO.refl _)
   | (with_reducible exact LeO.none _)
   | (with_reducible refine LeO.ite ?_ ?_)
   | (with_reducible refine LeO.bind ?_ (fun _=>?_))
   | exact ih0 _ _ _ _
   | exact ih1 _ _ _ _ _ _ _
   | exact ih2 _ _ _ _ _ _ _ _ _ _
   | exact LeO.none _
   | refine LeO.ite ?_ ?_
   | refine LeO.bind ?_ (fun _=>?_)
theorem qv_.mono:∀ a0 a1 k,LeO (qv_.f k a0 a1) (qv_.f (k+1) a0 a1):=by
 intro a0 a1 k
 obtain ⟨ih0,ih1,ih2⟩:=qv_.mono_l k
 unfold qv_.f
 repeat' first
   | (with_reducible exact ih0 _ _ _ _)
   | (with_reducible exact ih1 _ _ _ _ _ _ _)
   | (with_reducible exact ih2 _ _ _ _ _ _ _ _ _ _)
   | (with_reducible exact LeO.refl _)
   | (with_reducible exact LeO.none _)
   | (with_reducible refine LeO.ite ?_ ?_)
   | (with_reducible refine LeO.bind ?_ (fun _=>?_))
   | exact ih0 _ _ _ _
   | exact ih1 _ _ _ _ _ _ _
   | exact ih2 _ _ _ _ _ _ _ _ _ _
   | exact LeO.none _
   | refine LeO.ite ?_ ?_
   | refine LeO.bind ?_ (fun _=>?_)
set_option maxHeartbeats 8000000 in
set_option maxRecDepth 100000 in
theorem qv_.calls (k:Nat) (a0:Int) (a1:Int) (r:List ByteArray) (w:World) (h:qv_.f k a0 a1=some r) :
  Calls Try.prog 215 #[.int .i64 a0,.int .i64 a1] w fun e w'=>∃ v0_:Value,e=.returned (v0_)∧Kd.R Kd.string 9 w' w.heap.size (fun _=>True) v0_ r∧Below w.heap.size w w':=by
 have HB:=aK (Below.refl w.heap.size w)
 have H:(qv_.l0 k a0 (([(⟨#[]⟩:ByteArray)]:List ByteArray)) a1 0)=some r:=h
 clear h
 obtain ⟨y373,hy373⟩:∃ y_:List ByteArray,y_=(([(⟨#[]⟩:ByteArray)]:List ByteArray)):=⟨_,rfl⟩
 replace H:(qv_.l0 k a0 y373 a1 0)=some r:=by first|(rw [hy373];with_reducible exact H)|(have H2_:=(Option.bind_some _ _).symm.trans H;rw [hy373];with_reducible exact H2_)|(have H2_:=(Option.bind_some _ _).symm.trans H;with_reducible exact H2_)|with_reducible exact H|(rw [hy373];exact H)|exact H
 have Ny373:=aK hy373
 clear hy373
 have H':=aK H
 clear H
 go_enter Try.func215,Try.ntmps215
 go_wp2_with (first|((with_reducible refine qf1_ (N:=10) rfl ?_);refine Kd.R_lit Kd.string _ 9 ?hg (N:=10) ?hd (xs:=([(⟨#[]⟩:ByteArray)]:List ByteArray)) (inner:=[.string (⟨#[]⟩:ByteArray)]) (ok:=fun _=>True) (okp:=fun _=>True) ?hr ?hp (fun _ hk=>hk) trivial (Below.refl _ _) (Nat.le_refl _) (by simp) ?_;(case hd=>rfl);(case hg=>rfl);(case hr=>first|(go_simp;done)|(go_simp;rfl));(case hp=>exact (Reps.one (show Kd.M Kd.string _ _ _ (⟨#[]⟩:ByteArray) [.string (⟨#[]⟩:ByteArray)] from rfl) (Reps.none _ _)));intro v374 w3 ho4 hb hg_ hnew_;clear hg_ hnew_;(first|rw [← Ny373.out] at ho4|(simp only [Int.reduceToNat] at ho4;rw [← Ny373.out] at ho4));have n0_:=aK (Kd.qi2_ ho4 (qk_ (by repeat (first|(with_reducible first|exact HB.out|apply qb_|apply qa_|apply qc_)|exact HB.out))));have n1_:=aK (qe_ (by repeat (first|(with_reducible first|exact HB.out|apply qb_|apply qa_|apply qc_)|exact HB.out)) hb);clear HB;have HO375:=n0_;have HB:=n1_;clear n0_ n1_;clear hb ho4))
 go_loopg [5,12] k (fun kq v5 v12 w'=>∃ (x5_1:List ByteArray) (x12_1:Int),v12=.int .i64 x12_1∧Aside0 (qv_.l0 kq a0 x5_1 a1 x12_1=some r)∧Aside0 (kq≤k)∧Aside0 (Kd.R Kd.string 9 w' w.heap.size (fun _=>True) v5 x5_1)∧Aside0 (Below w.heap.size w w'))
 case atStart=>exact ⟨(y373),(0),(by first|rfl|(simp;done)|(simp [*];done)),H',⟨Nat.le_refl _⟩,⟨by (with_reducible repeat (first|apply Kd.qc1_|apply Kd.qm1_|apply Kd.R_drew));exact HO375.out⟩,⟨by repeat (first|(with_reducible first|exact HB.out|apply qb_|apply qa_|apply qc_)|exact HB.out)⟩⟩
 case round =>
  clear H'
  try clear c2
  try clear p2
  obtain ⟨x5_1,x12_1,rfl,HA,HK1,HO_5,HB⟩:=hrel
  cases gk with
  | zero=>exact absurd HA.out (by simp [qv_.l0])
  | succ k1 =>
   have H:=HA.out
   clear HA
   simp only [qv_.l0] at H
   by_cases c5:x12_1 < a1
   ·rw [if_pos c5] at H
    have c5b0:decide (x12_1 < a1)=true:=decide_eq_true c5
    clear c5
    have H':=aK H
    clear H
    obtain ⟨Ao6,co6,eo6⟩:=Kd.qa2_ HO_5.out
    subst eo6
    go_wp2
    go_loopg [6,16] k1 (fun kq v6 v16 w'=>∃ (x6_2:List ByteArray) (x16_2:Int),v16=.int .i64 x16_2∧Aside0 (qv_.l1 kq a0 x6_2 a1 x12_1 x5_1 (x5_1.length:Int) x16_2=some r)∧Aside0 (kq≤k1)∧Aside0 (Kd.R Kd.string 9 w' w.heap.size (fun k_=>some k_ ≠ ((.slice Ao6 x5_1.length co6):Value).ownBlock) v6 x6_2)∧Aside0 (Kd.R Kd.string 9 w' w.heap.size (fun k_=>some k_ ≠ (v6:Value).ownBlock) (.slice Ao6 x5_1.length co6) x5_1)∧Aside0 (Below w.heap.size w w'))
    case atStart=>exact ⟨(([]:List ByteArray)),(0),(by first|rfl|(simp;done)|(simp [*];done)),H',⟨Nat.le_refl _⟩,⟨by first|exact Kd.R_nil _ _ _ _ _|exact Kd.N_nil _ _ _ _ _|exact Kd.V_nil _ _ _ _ _|exact Kd.Q_nil _ _ _ _ _|exact Kd.S_nil _ _ _ _ _⟩,⟨by (with_reducible repeat (first|apply Kd.qc1_|apply Kd.qm1_|apply Kd.R_drew));exact Kd.R_mono HO_5.out (fun _ hk=>(by simp [Value.ownBlock]))⟩,⟨by repeat (first|(with_reducible first|exact HB.out|apply qb_|apply qa_|apply qc_)|exact HB.out)⟩⟩
    case round =>
     clear H'
     try clear c2
     try clear p2
     try clear c5
     try clear c5b0
     try clear p2
     obtain ⟨x6_2,x16_2,rfl,HA,HK2,HO_6,HO_14,HB⟩:=hrel
     cases gk with
     | zero=>exact absurd HA.out (by simp [qv_.l1])
     | succ k2 =>
      have H:=HA.out
      clear HA
      simp only [qv_.l1] at H
      by_cases c7:x16_2 < (x5_1.length:Int)
      ·rw [if_pos c7] at H
       have c7b0:decide (x16_2 < (x5_1.length:Int))=true:=decide_eq_true c7
       clear c7
       by_cases c8:0≤x16_2
       ·rw [if_pos c8] at H
        have c8b0:decide (0≤x16_2)=true:=decide_eq_true c8
        clear c8
        by_cases c9:x16_2 < (x5_1.length:Int)
        ·rw [if_pos c9] at H
         have c9b0:decide (x16_2 < (x5_1.length:Int))=true:=decide_eq_true c9
         clear c9
         have H':=aK H
         clear H
         have p376:0≤(x16_2:Int):=of_decide_eq_true (by first|(with_reducible assumption)|assumption)
         have q376:x16_2 < (x5_1.length:Int):=of_decide_eq_true (by first|(with_reducible assumption)|assumption)
         obtain ⟨ad376,e376,hx376_0⟩:=Kd.at_string (Kd.qa3_ HO_14.out).2.2 x16_2 p376 q376
         cases e376
         replace p376:=eq_true p376
         replace q376:=eq_true q376
         go_wp2
         go_loopg [6,21] k2 (fun kq v6 v21 w'=>∃ (x6_3:List ByteArray) (x21_3:Int),v21=.int .i64 x21_3∧Aside0 (qv_.l2 kq a0 x6_3 (rdOf ByteArray.empty x5_1 x16_2) a1 x12_1 x5_1 (x5_1.length:Int) x16_2 a0 x21_3=some r)∧Aside0 (kq≤k2)∧Aside0 (Kd.R Kd.string 9 w' w.heap.size (fun k_=>some k_ ≠ ((.slice (some ad376) x5_1.length co6):Value).ownBlock) v6 x6_3)∧Aside0 (Kd.R Kd.string 9 w' w.heap.size (fun k_=>some k_ ≠ (v6:Value).ownBlock) (.slice (some ad376) x5_1.length co6) x5_1)∧Aside0 (Below w.heap.size w w'))
         case atStart=>exact ⟨(x6_2),(0),(by first|rfl|(simp;done)|(simp [*];done)),H',⟨Nat.le_refl _⟩,⟨by (with_reducible repeat (first|apply Kd.qc1_|apply Kd.qm1_|apply Kd.R_drew));exact HO_6.out⟩,⟨by (with_reducible repeat (first|apply Kd.qc1_|apply Kd.qm1_|apply Kd.R_drew));exact HO_14.out⟩,⟨by repeat (first|(with_reducible first|exact HB.out|apply qb_|apply qa_|apply qc_)|exact HB.out)⟩⟩
         case round =>
          clear H'
          try clear c2
          try clear p2
          try clear p3
          try clear q3
          try clear hx3
          try clear c5
          try clear c5b0
          try clear c7
          try clear c7b0
          try clear c8
          try clear c8b0
          try clear c9
          try clear c9b0
          try clear hx376_0
          try clear p2
          try clear p376
          try clear q376
          obtain ⟨x6_3,x21_3,rfl,HA,HK3,HO_6,HO_14,HB⟩:=hrel
          cases gk with
          | zero=>exact absurd HA.out (by simp [qv_.l2])
          | succ k3 =>
           have H:=HA.out
           clear HA
           simp only [qv_.l2] at H
           by_cases c10:x21_3 < a0
           ·rw [if_pos c10] at H
            have c10b0:decide (x21_3 < a0)=true:=decide_eq_true c10
            clear c10
            replace H:=Option.bind_eq_some_iff.mp H
            obtain ⟨t377,A110,H⟩:=H
            replace H:(if (rdOf ByteArray.empty x5_1 x16_2).size+t377.size≤9223372036854775807 then (if x6_3.length < 8796093022208 then (qv_.l2 k3 a0 (x6_3 ++ [(rdOf ByteArray.empty x5_1 x16_2) ++ t377]) (rdOf ByteArray.empty x5_1 x16_2) a1 x12_1 x5_1 (x5_1.length:Int) x16_2 a0 (wrap64 (x21_3+1))) else (none)) else (none))=some r:=H
            have A11:=aK A110
            clear A110
            by_cases c12:(rdOf ByteArray.empty x5_1 x16_2).size+t377.size≤9223372036854775807
            ·rw [if_pos c12] at H
             have c12b0:=eq_true c12
             have c12b1:decide ((rdOf ByteArray.empty x5_1 x16_2).size+t377.size≤9223372036854775807)=true:=decide_eq_true c12
             try have c12b2:(9223372036854775807 < (rdOf ByteArray.empty x5_1 x16_2).size+t377.size)=False:=eq_false (Nat.not_lt.2 c12)
             by_cases c13:x6_3.length < 8796093022208
             ·rw [if_pos c13] at H
              have LMc13:=aK c13
              clear c13
              obtain ⟨y378,hy378⟩:∃ y_:List ByteArray,y_=(x6_3 ++ [(rdOf ByteArray.empty x5_1 x16_2) ++ t377]):=⟨_,rfl⟩
              replace H:(qv_.l2 k3 a0 y378 (rdOf ByteArray.empty x5_1 x16_2) a1 x12_1 x5_1 (x5_1.length:Int) x16_2 a0 (wrap64 (x21_3+1)))=some r:=by first|(rw [hy378];with_reducible exact H)|(have H2_:=(Option.bind_some _ _).symm.trans H;rw [hy378];with_reducible exact H2_)|(have H2_:=(Option.bind_some _ _).symm.trans H;with_reducible exact H2_)|with_reducible exact H|(rw [hy378];exact H)|exact H
              have Ny378:=aK hy378
              clear hy378
              have H':=aK H
              clear H
              go_wp2_with (first|((with_reducible refine qt_ (f:=225) rfl ?_);refine goesL_ (some 27) rfl rfl Try.func225 (by kernel_rfl) rfl #[.int .i64 x21_3] rfl (by (try simp only [List.map_toArray,List.map_cons,List.map_nil]);first|done|rfl|(simp only [List.length_drop,List.length_take];rfl)) ?_;(with_reducible refine (qk3_.calls x21_3 t377 _ A11.out).mono ?_);rintro e w14 ⟨rfl,hb⟩;refine ⟨_,rfl,?_⟩;have n0_:=aK (Kd.qe2_ (by (with_reducible repeat (first|apply Kd.qc1_|apply Kd.qm1_|apply Kd.R_drew));exact HO_6.out) hb);have n1_:=aK (Kd.qe2_ (by (with_reducible repeat (first|apply Kd.qc1_|apply Kd.qm1_|apply Kd.R_drew));exact HO_14.out) hb);have n2_:=aK (qe_ (by repeat (first|(with_reducible first|exact HB.out|apply qb_|apply qa_|apply qc_)|exact HB.out)) hb);clear HO_6;clear HO_14;clear HB;have HO_6:=n0_;have HO_14:=n1_;have HB:=n2_;clear n0_ n1_ n2_;(try clear hb);(try clear hb2);(try clear hk);(try clear hi))|((with_reducible refine qg2_ (b:=.append) (xs:=#[.tmp 24,.tmp 29]) rfl ?_);at_builtin;refine Kd.R_append Kd.string (w0:=w) w.heap.size rfl (.tmp 24) (.tmp 29) 156 9 (.string ⟨#[]⟩) 16 rfl Try.underlying156 info9 rfl (by decide) (by omega) u6 x6_3 ((rdOf ByteArray.empty x5_1 x16_2) ++ t377) [.string ((rdOf ByteArray.empty x5_1 x16_2) ++ t377)] (fun k_=>some k_ ≠ (.slice (some ad376) x5_1.length co6:Value).ownBlock) (fun _=>False) rfl rfl ?aP (fun _ hk=>hk.elim) ?aF ?aO ?aB ?aS ?aL ?_;(case aP=>exact rfl);(case aB=>exact (by repeat (first|(with_reducible first|exact HB.out|apply qb_|apply qa_|apply qc_)|exact HB.out)));(case aF=>exact (fun k_ hk=>Kd.fresh' (Kd.R_lt (by (with_reducible repeat (first|apply Kd.qc1_|apply Kd.qm1_|apply Kd.R_drew));exact HO_14.out)) k_ hk));(case aO=>exact (by (with_reducible repeat (first|apply Kd.qc1_|apply Kd.qm1_|apply Kd.R_drew));exact HO_6.out));(case aS=>exact (qk_ (by repeat (first|(with_reducible first|exact HB.out|apply qb_|apply qa_|apply qc_)|exact HB.out))));(case aL=>have:=LMc13.out;omega);intro v379 w15 ho hb hg hat;rw [← Ny378.out] at ho;have n0_:=aK (Kd.R_after (ok:=(fun _=>True)) (by (with_reducible repeat (first|apply Kd.qc1_|apply Kd.qm1_|apply Kd.R_drew));exact Kd.R_mono HO_14.out (fun _ hk=>⟨trivial,hk⟩)) hg hat);have n1_:=aK (hb);have n2_:=aK (ho);clear HO_14;clear HB;clear HO_6;have HO_14:=n0_;have HB:=n1_;have HO380:=n2_;clear n0_ n1_ n2_;clear ho hb hg hat))
              go_roundg k3
              case measure=>have:=HK1.out;have:=HK2.out;have:=HK3.out;omega
              case rel=>exact ⟨(y378),(wrap64 (x21_3+1)),(by first|rfl|(simp;done)|(simp [*];done)),H',⟨by have:=HK1.out;have:=HK2.out;have:=HK3.out;omega⟩,⟨by (with_reducible repeat (first|apply Kd.qc1_|apply Kd.qm1_|apply Kd.R_drew));exact HO380.out⟩,⟨by (with_reducible repeat (first|apply Kd.qc1_|apply Kd.qm1_|apply Kd.R_drew));exact Kd.R_mono HO_14.out (fun _ hk=>hk.2)⟩,⟨by repeat (first|(with_reducible first|exact HB.out|apply qb_|apply qa_|apply qc_)|exact HB.out)⟩⟩
             ·rw [if_neg c13] at H
              exact absurd H (by simp)
            ·rw [if_neg c12] at H
             exact absurd H (by simp)
           ·rw [if_neg c10] at H
            have c10b0:decide (x21_3 < a0)=false:=decide_eq_false c10
            clear c10
            have H':=aK H
            clear H
            go_wp2
            go_roundg k3
            case measure=>have:=HK1.out;have:=HK2.out;have:=HK3.out;omega
            case rel=>exact ⟨(x6_3),(wrap64 (x16_2+1)),(by first|rfl|(simp;done)|(simp [*];done)),H',⟨by have:=HK1.out;have:=HK2.out;have:=HK3.out;omega⟩,⟨by (with_reducible repeat (first|apply Kd.qc1_|apply Kd.qm1_|apply Kd.R_drew));exact HO_6.out⟩,⟨by (with_reducible repeat (first|apply Kd.qc1_|apply Kd.qm1_|apply Kd.R_drew));exact HO_14.out⟩,⟨by repeat (first|(with_reducible first|exact HB.out|apply qb_|apply qa_|apply qc_)|exact HB.out)⟩⟩
        ·rw [if_neg c9] at H
         exact absurd H (by simp)
       ·rw [if_neg c8] at H
        exact absurd H (by simp)
      ·rw [if_neg c7] at H
       have c7b0:decide (x16_2 < (x5_1.length:Int))=false:=decide_eq_false c7
       clear c7
       have H':=aK H
       clear H
       go_wp2
       go_roundg k2
       case measure=>have:=HK1.out;have:=HK2.out;omega
       case rel=>exact ⟨(x6_2),(wrap64 (x12_1+1)),(by first|rfl|(simp;done)|(simp [*];done)),H',⟨by have:=HK1.out;have:=HK2.out;omega⟩,⟨by (with_reducible repeat (first|apply Kd.qc1_|apply Kd.qm1_|apply Kd.R_drew));exact Kd.R_mono HO_6.out (fun _ hk=>trivial)⟩,⟨by repeat (first|(with_reducible first|exact HB.out|apply qb_|apply qa_|apply qc_)|exact HB.out)⟩⟩
   ·rw [if_neg c5] at H
    have c5b0:decide (x12_1 < a1)=false:=decide_eq_false c5
    clear c5
    obtain rfl:=Option.some.inj H
    go_wp2
    go_ret
    exact ⟨_,by first|rfl|(simp [qn_,qm_] <;> rfl)|(simp [*,qn_,qm_] <;> rfl),by (with_reducible repeat (first|apply Kd.qc1_|apply Kd.qm1_|apply Kd.R_drew));exact HO_5.out,by repeat (first|(with_reducible first|exact HB.out|apply qb_|apply qa_|apply qc_)|exact HB.out)⟩
end Go.Proofs.Ytaiefdhenikiiaa.Base
namespace Go.Proofs.Ytaiefdhenikiiaa.Base
open Go.RowKit Go.Proofs.YtaiefdhenikiiaaW.PrintWords Go.Proofs.YtaiefdhenikiiaaW.PrintLast Go.Proofs.YtaiefdhenikiiaaW.PrintMore
attribute [local go_sem] max2_int qq1_ max_two min_two max_three min_three max_four min_four Go.Proofs.YtaiefdhenikiiaaZ.qu_   -- for this text's walks alone
set_option linter.unusedVariables false
set_option linter.unusedSimpArgs false
def qo1_.l0:Nat→Int→List ByteArray→Int→Int→Option (List ByteArray)
 | 0,_,_,_,_=>none
 | k+1,x0,x5,x8,x9=>if x9 < x8 then ((qv_.f k x0 x9).bind fun t381=>(if x5.length+t381.length < 8796093022208 then (qo1_.l0 k x0 (x5 ++ t381) x8 (wrap64 (x9+1))) else (none))) else (some x5)
def qo1_.f (k:Nat) (a0:Int) (a1:Int):Option (List ByteArray):=qo1_.l0 k a0 ([]:List ByteArray) (wrap64 (a1+1)) 0
theorem qo1_.mono_l:∀ k,(∀ y0 y1 y2 y3,LeO (qo1_.l0 k y0 y1 y2 y3) (qo1_.l0 (k+1) y0 y1 y2 y3))
 | 0=>fun _ _ _ _ r h=>by simp [qo1_.l0] at h
 | k+1=>by
  have ih0:=qo1_.mono_l k
  ·intro y0 y1 y2 y3
   unfold qo1_.l0
   repeat' first
   | (with_reducible exact ih0 _ _ _ _)
   | (with_reducible exact qv_.mono _ _ _)
   | (with_reducible exact LeO.refl _)
   | (with_reducible exact LeO.none _)
   | (with_reducible refine LeO.ite ?_ ?_)
   | (with_reducible refine LeO.bind ?_ (fun _=>?_))
   | exact ih0 _ _ _ _
   | exact qv_.mono _ _ _
   | exact LeO.none _
   | refine LeO.ite ?_ ?_
   | refine LeO.bind ?_ (fun _=>?_)
theorem qo1_.mono:∀ a0 a1 k,LeO (qo1_.f k a0 a1) (qo1_.f (k+1) a0 a1):=by
 intro a0 a1 k
 have ih0:=qo1_.mono_l k
 unfold qo1_.f
 repeat' first
   | (with_reducible exact ih0 _ _ _ _)
   | (with_reducible exact qv_.mono _ _ _)
   | (with_reducible exact LeO.refl _)
   | (with_reducible exact LeO.none _)
   | (with_reducible refine LeO.ite ?_ ?_)
   | (with_reducible refine LeO.bind ?_ (fun _=>?_))
   | exact ih0 _ _ _ _
   | exact qv_.mono _ _ _
   | exact LeO.none _
   | refine LeO.ite ?_ ?_
   | refine LeO.bind ?_ (fun _=>?_)
set_option maxHeartbeats 8000000 in
set_option maxRecDepth 100000 in
theorem qo1_.calls (k:Nat) (a0:Int) (a1:Int) (r:List ByteArray) (w:World) (h:qo1_.f k a0 a1=some r) :
  Calls Try.prog 175 #[.int .i64 a0,.int .i64 a1] w fun e w'=>∃ v0_:Value,e=.returned (v0_)∧Kd.R Kd.string 9 w' w.heap.size (fun _=>True) v0_ r∧Below w.heap.size w w':=by
 have HB:=aK (Below.refl w.heap.size w)
 have H:(qo1_.l0 k a0 ([]:List ByteArray) (wrap64 (a1+1)) 0)=some r:=h
 clear h
 have H':=aK H
 clear H
 go_enter Try.func175,Try.ntmps175
 go_wp2
 go_loopg [5,9] k (fun kq v5 v9 w'=>∃ (x5_1:List ByteArray) (x9_1:Int),v9=.int .i64 x9_1∧Aside0 (qo1_.l0 kq a0 x5_1 (wrap64 (a1+1)) x9_1=some r)∧Aside0 (kq≤k)∧Aside0 (Kd.R Kd.string 9 w' w.heap.size (fun _=>True) v5 x5_1)∧Aside0 (Below w.heap.size w w'))
 case atStart=>exact ⟨(([]:List ByteArray)),(0),(by first|rfl|(simp;done)|(simp [*];done)),H',⟨Nat.le_refl _⟩,⟨by first|exact Kd.R_nil _ _ _ _ _|exact Kd.N_nil _ _ _ _ _|exact Kd.V_nil _ _ _ _ _|exact Kd.Q_nil _ _ _ _ _|exact Kd.S_nil _ _ _ _ _⟩,⟨by repeat (first|(with_reducible first|exact HB.out|apply qb_|apply qa_|apply qc_)|exact HB.out)⟩⟩
 case round =>
  clear H'
  try clear c1
  try clear p2
  obtain ⟨x5_1,x9_1,rfl,HA,HK1,HO_5,HB⟩:=hrel
  cases gk with
  | zero=>exact absurd HA.out (by simp [qo1_.l0])
  | succ k1 =>
   have H:=HA.out
   clear HA
   simp only [qo1_.l0] at H
   by_cases c3:x9_1 < (wrap64 (a1+1))
   ·rw [if_pos c3] at H
    have c3b0:decide (x9_1 < (wrap64 (a1+1)))=true:=decide_eq_true c3
    clear c3
    replace H:=Option.bind_eq_some_iff.mp H
    obtain ⟨t381,A40,H⟩:=H
    replace H:(if x5_1.length+t381.length < 8796093022208 then (qo1_.l0 k1 a0 (x5_1 ++ t381) (wrap64 (a1+1)) (wrap64 (x9_1+1))) else (none))=some r:=H
    have A4:=aK A40
    clear A40
    by_cases c5:x5_1.length+t381.length < 8796093022208
    ·rw [if_pos c5] at H
     have LMc5:=aK c5
     clear c5
     obtain ⟨y384,hy384⟩:∃ y_:List ByteArray,y_=(x5_1 ++ t381):=⟨_,rfl⟩
     replace H:(qo1_.l0 k1 a0 y384 (wrap64 (a1+1)) (wrap64 (x9_1+1)))=some r:=by first|(rw [hy384];with_reducible exact H)|(have H2_:=(Option.bind_some _ _).symm.trans H;rw [hy384];with_reducible exact H2_)|(have H2_:=(Option.bind_some _ _).symm.trans H;with_reducible exact H2_)|with_reducible exact H|(rw [hy384];exact H)|exact H
     have Ny384:=aK hy384
     clear hy384
     have H':=aK H
     clear H
     go_wp2_with (first|((with_reducible refine qt_ (f:=215) rfl ?_);refine goesL_ (some 15) rfl rfl Try.func215 (by kernel_rfl) rfl #[.int .i64 a0,.int .i64 x9_1] rfl (by (try simp only [List.map_toArray,List.map_cons,List.map_nil]);first|done|rfl|(simp only [List.length_drop,List.length_take];rfl)) ?_;(with_reducible refine (qv_.calls k1 a0 x9_1 t381 _ A4.out).mono ?_);rintro e w6 ⟨v382,rfl,ho0,hb⟩;refine ⟨_,rfl,?_⟩;have n0_:=aK (Kd.R_elder' (by (with_reducible repeat (first|apply Kd.qc1_|apply Kd.qm1_|apply Kd.R_drew));exact HO_5.out) (Kd.R_base ho0) hb);have n1_:=aK (Kd.qi2_ (Kd.R_new' ho0 (Kd.R_lt (by (with_reducible repeat (first|apply Kd.qc1_|apply Kd.qm1_|apply Kd.R_drew));exact HO_5.out))) (qk_ (by repeat (first|(with_reducible first|exact HB.out|apply qb_|apply qa_|apply qc_)|exact HB.out))));have n2_:=aK (qe_ (by repeat (first|(with_reducible first|exact HB.out|apply qb_|apply qa_|apply qc_)|exact HB.out)) hb);clear HO_5;clear HB;have HO_5:=n0_;have HO383:=n1_;have HB:=n2_;clear n0_ n1_ n2_;(try clear hb);(try clear hb2);(try clear hk);(try clear hi);(try clear ho0);obtain ⟨Ao8,co8,eo8⟩:=Kd.qa2_ HO383.out;subst eo8)|((with_reducible refine qg2_ (b:=.append) (xs:=#[.tmp 12,.tmp 15]) rfl ?_);at_builtin;refine Kd.qn2_ Kd.string (w0:=w) w.heap.size rfl (.tmp 12) (.tmp 15) 156 9 (.string ⟨#[]⟩) 16 rfl Try.underlying156 info9 rfl (by decide) (by omega) u5 x5_1 t381 _ _ _ (fun k_=>some k_ ≠ (.slice Ao8 t381.length co8:Value).ownBlock) (fun _=>False) rfl rfl ?aO ?aR (fun _ _ h=>h) (fun _ h=>h.elim) ?aF ?aB ?aS ?aL ?_;(case aR=>repeat (first|exact (Kd.qa3_ HO383.out).2.2|(with_reducible refine Kd.qs2_ ?_ _)|(with_reducible refine Kd.qr2_ ?_ _)|(with_reducible refine Kd.C_drew ?_)));(case aB=>exact (by repeat (first|(with_reducible first|exact HB.out|apply qb_|apply qa_|apply qc_)|exact HB.out)));(case aF=>exact (fun k_ hk=>Kd.fresh' (Kd.R_lt (by (with_reducible repeat (first|apply Kd.qc1_|apply Kd.qm1_|apply Kd.R_drew));exact HO383.out)) k_ hk));(case aO=>exact (by (with_reducible repeat (first|apply Kd.qc1_|apply Kd.qm1_|apply Kd.R_drew));exact Kd.R_mono HO_5.out (fun _ hk=>hk.2)));(case aS=>exact (qk_ (by repeat (first|(with_reducible first|exact HB.out|apply qb_|apply qa_|apply qc_)|exact HB.out))));(case aL=>have:=LMc5.out;omega);intro v385 w7 ho hb hg hat;rw [← Ny384.out] at ho;have n0_:=aK (Kd.R_after (ok:=(fun _=>True)) (by (with_reducible repeat (first|apply Kd.qc1_|apply Kd.qm1_|apply Kd.R_drew));exact HO383.out) hg hat);have n1_:=aK (hb);have n2_:=aK (ho);clear HO383;clear HB;clear HO_5;have HO383:=n0_;have HB:=n1_;have HO386:=n2_;clear n0_ n1_ n2_;clear ho hb hg hat))
     go_roundg k1
     case measure=>have:=HK1.out;omega
     case rel=>exact ⟨(y384),(wrap64 (x9_1+1)),(by first|rfl|(simp;done)|(simp [*];done)),H',⟨by have:=HK1.out;omega⟩,⟨by (with_reducible repeat (first|apply Kd.qc1_|apply Kd.qm1_|apply Kd.R_drew));exact Kd.R_mono HO386.out (fun _ hk=>trivial)⟩,⟨by repeat (first|(with_reducible first|exact HB.out|apply qb_|apply qa_|apply qc_)|exact HB.out)⟩⟩
    ·rw [if_neg c5] at H
     exact absurd H (by simp)
   ·rw [if_neg c3] at H
    have c3b0:decide (x9_1 < (wrap64 (a1+1)))=false:=decide_eq_false c3
    clear c3
    obtain rfl:=Option.some.inj H
    go_wp2
    go_ret
    exact ⟨_,by first|rfl|(simp [qn_,qm_] <;> rfl)|(simp [*,qn_,qm_] <;> rfl),by (with_reducible repeat (first|apply Kd.qc1_|apply Kd.qm1_|apply Kd.R_drew));exact HO_5.out,by repeat (first|(with_reducible first|exact HB.out|apply qb_|apply qa_|apply qc_)|exact HB.out)⟩
end Go.Proofs.Ytaiefdhenikiiaa.Base
namespace Go.Proofs.Ytaiefdhenikiiaa.Base
open Go.RowKit Go.Proofs.YtaiefdhenikiiaaW.PrintWords Go.Proofs.YtaiefdhenikiiaaW.PrintLast Go.Proofs.YtaiefdhenikiiaaW.PrintMore
attribute [local go_sem] max2_int qq1_ max_two min_two max_three min_three max_four min_four Go.Proofs.YtaiefdhenikiiaaZ.qu_   -- for this text's walks alone
set_option linter.unusedVariables false
set_option linter.unusedSimpArgs false
def bits_Mul64.f (a0:Int) (a1:Int):Option (Int × Int):=some (IntKind.u64.wrap ((IntKind.u64.wrap ((IntKind.u64.wrap ((a0 / 4294967296) * (a1 / 4294967296)))+((IntKind.u64.wrap ((IntKind.u64.wrap ((a0 / 4294967296) * (Go.bits .and .u64 a1 4294967295)))+((IntKind.u64.wrap ((Go.bits .and .u64 a0 4294967295) * (Go.bits .and .u64 a1 4294967295))) / 4294967296))) / 4294967296)))+((IntKind.u64.wrap ((Go.bits .and .u64 (IntKind.u64.wrap ((IntKind.u64.wrap ((a0 / 4294967296) * (Go.bits .and .u64 a1 4294967295)))+((IntKind.u64.wrap ((Go.bits .and .u64 a0 4294967295) * (Go.bits .and .u64 a1 4294967295))) / 4294967296))) 4294967295)+(IntKind.u64.wrap ((Go.bits .and .u64 a0 4294967295) * (a1 / 4294967296))))) / 4294967296)),IntKind.u64.wrap (a0 * a1))
set_option maxHeartbeats 8000000 in
set_option maxRecDepth 100000 in
theorem bits_Mul64.calls (a0:Int) (a1:Int) (r1:Int) (r2:Int) (w:World) (h:bits_Mul64.f a0 a1=some (r1,r2)) :
  Calls Try.prog 227 #[.int .u64 a0,.int .u64 a1] w fun e w'=>e=.returned (.tuple #[.int .u64 r1,.int .u64 r2])∧Drawn0 w w':=by
 have H:(some (IntKind.u64.wrap ((IntKind.u64.wrap ((IntKind.u64.wrap ((a0 / 4294967296) * (a1 / 4294967296)))+((IntKind.u64.wrap ((IntKind.u64.wrap ((a0 / 4294967296) * (Go.bits .and .u64 a1 4294967295)))+((IntKind.u64.wrap ((Go.bits .and .u64 a0 4294967295) * (Go.bits .and .u64 a1 4294967295))) / 4294967296))) / 4294967296)))+((IntKind.u64.wrap ((Go.bits .and .u64 (IntKind.u64.wrap ((IntKind.u64.wrap ((a0 / 4294967296) * (Go.bits .and .u64 a1 4294967295)))+((IntKind.u64.wrap ((Go.bits .and .u64 a0 4294967295) * (Go.bits .and .u64 a1 4294967295))) / 4294967296))) 4294967295)+(IntKind.u64.wrap ((Go.bits .and .u64 a0 4294967295) * (a1 / 4294967296))))) / 4294967296)),IntKind.u64.wrap (a0 * a1)))=some (r1,r2):=h
 clear h
 simp only [Option.some.injEq,Prod.mk.injEq] at H
 obtain ⟨rfl,rfl⟩:=H
 go_enter Try.func227,Try.ntmps227
 go_wp2
 go_ret2
 exact ⟨by first|rfl|(simp;done)|(simp [*];done)|(simp [Go.Proofs.YtaiefdhenikiiaaZ.bne_nil];done),by repeat (first|exact Drawn0.refl _|apply Drawn0.step)⟩
end Go.Proofs.Ytaiefdhenikiiaa.Base
namespace Go.Proofs.Ytaiefdhenikiiaa.Base
open Go.RowKit Go.Proofs.YtaiefdhenikiiaaW.PrintWords Go.Proofs.YtaiefdhenikiiaaW.PrintLast Go.Proofs.YtaiefdhenikiiaaW.PrintMore
attribute [local go_sem] max2_int qq1_ max_two min_two max_three min_three max_four min_four Go.Proofs.YtaiefdhenikiiaaZ.qu_   -- for this text's walks alone
set_option linter.unusedVariables false
set_option linter.unusedSimpArgs false
def bits_Mul.f (a0:Int) (a1:Int):Option (Int × Int):=(bits_Mul64.f a0 a1).bind fun bt399=>(some (bt399.1,bt399.2))
set_option maxHeartbeats 8000000 in
set_option maxRecDepth 100000 in
theorem bits_Mul.calls (a0:Int) (a1:Int) (r1:Int) (r2:Int) (w:World) (h:bits_Mul.f a0 a1=some (r1,r2)) :
  Calls Try.prog 216 #[.int .u64 a0,.int .u64 a1] w fun e w'=>e=.returned (.tuple #[.int .u64 r1,.int .u64 r2])∧Drawn0 w w':=by
 have H:((bits_Mul64.f a0 a1).bind fun bt399=>(some (bt399.1,bt399.2)))=some (r1,r2):=h
 clear h
 replace H:=Option.bind_eq_some_iff.mp H
 obtain ⟨⟨t399,t400⟩,A30,H⟩:=H
 replace H:(some (t399,t400))=some (r1,r2):=H
 have A3:=aK A30
 clear A30
 simp only [Option.some.injEq,Prod.mk.injEq] at H
 obtain ⟨rfl,rfl⟩:=H
 go_enter Try.func216,Try.ntmps216
 go_wp2_with (first|((with_reducible refine qt_ (f:=227) rfl ?_);refine goesL_ (some 25) rfl rfl Try.func227 (by kernel_rfl) rfl #[.int .u64 a0,.int .u64 a1] rfl (by (try simp only [List.map_toArray,List.map_cons,List.map_nil]);first|done|rfl|(simp only [List.length_drop,List.length_take];rfl)) ?_;(with_reducible refine (bits_Mul64.calls a0 a1 t399 t400 _ A3.out).mono ?_);rintro e w' ⟨rfl,⟨nd,rfl⟩⟩;refine ⟨_,rfl,?_⟩))
 go_ret2
 exact ⟨by first|rfl|(simp;done)|(simp [*];done)|(simp [Go.Proofs.YtaiefdhenikiiaaZ.bne_nil];done),by repeat (first|exact Drawn0.refl _|apply Drawn0.step)⟩
end Go.Proofs.Ytaiefdhenikiiaa.Base
namespace Go.Proofs.Ytaiefdhenikiiaa.Base
open Go.RowKit Go.Proofs.YtaiefdhenikiiaaW.PrintWords Go.Proofs.YtaiefdhenikiiaaW.PrintLast Go.Proofs.YtaiefdhenikiiaaW.PrintMore
attribute [local go_sem] max2_int qq1_ max_two min_two max_three min_three max_four min_four Go.Proofs.YtaiefdhenikiiaaZ.qu_   -- for this text's walks alone
set_option linter.unusedVariables false
set_option linter.unusedSimpArgs false
def impl_whole.f (a0:Int):Option (Int × Int):=some (a0,1)
set_option maxHeartbeats 8000000 in
set_option maxRecDepth 100000 in
theorem impl_whole.calls (a0:Int) (r1:Int) (r2:Int) (w:World) (h:impl_whole.f a0=some (r1,r2)) :
  Calls Try.prog 165 #[.int .i64 a0] w fun e w'=>e=.returned (.agg #[.int .i64 r1,.int .i64 r2])∧Below w.heap.size w w':=by
 have hu77:=Try.underlying77
 have HB:=aK (Below.refl w.heap.size w)
 have H:(some (a0,1))=some (r1,r2):=h
 clear h
 simp only [Option.some.injEq,Prod.mk.injEq] at H
 obtain ⟨rfl,rfl⟩:=H
 go_enter Try.func165,Try.ntmps165
 go_wp2_with (first|((with_reducible refine qf1_ (N:=2) rfl ?_);refine qg1_ ?hg (N:=2) ?hd (cs:=#[.int .i64 0,.int .i64 0]) (t:=77) ?hr ?_;(case hd=>rfl);(case hg=>rfl);(case hr=>first|(go_simp;done)|(go_simp;rfl));intro gb745 hg w2 hbox hb;have n0_:=aK (qe_ (by repeat (first|(with_reducible first|exact HB.out|apply qb_|apply qa_|apply qc_)|exact HB.out)) hb);have n1_:=aK (hbox);have n2_:=aK ((by rw [hg];exact (qk_ (by repeat (first|(with_reducible first|exact HB.out|apply qb_|apply qa_|apply qc_)|exact HB.out))):w.heap.size≤gb745));have n3_:=aK ((by rw [hg];exact (qk_ (by repeat (first|(with_reducible first|exact HB.out|apply qb_|apply qa_|apply qc_)|exact HB.out))):w.heap.size≤gb745));clear HB;have HB:=n0_;have BK745:=n1_;have GW745:=n2_;have GE745:=n3_;clear n0_ n1_ n2_ n3_;clear hb hbox hg;have hcz3_0:w2.cell? ⟨gb745,0,none⟩=some (.int .i64 0):=(qj_ BK745.out 0).trans rfl;have hcz3_1:w2.cell? ⟨gb745,1,none⟩=some (.int .i64 0):=(qj_ BK745.out 1).trans rfl;have hfz3_0:=qd_ BK745.out 0;have hfz3_1:=qd_ BK745.out 1))
 refine bodyPost_ret (results_cell_row rfl _ _ gb745 77 #[.int .i64 a0,.int .i64 1] (0,0) _ rfl (by (with_reducible repeat (first|refine qg_ ?_ _|refine qi_ ?_|refine qf_ ?_ _));refine qz1_ (cs:=#[.int .i64 a0,.int .i64 0]) ?_ 1 _ rfl;(with_reducible repeat (first|refine qg_ ?_ _|refine qi_ ?_|refine qf_ ?_ _));refine qz1_ (cs:=#[.int .i64 0,.int .i64 0]) ?_ 0 _ rfl;(with_reducible repeat (first|refine qg_ ?_ _|refine qi_ ?_|refine qf_ ?_ _));exact BK745.out) Try.underlying77 rfl (by kernel_rfl)) rfl ?_
 exact ⟨by first|rfl|(simp [qn_,qm_] <;> rfl)|(simp [*,qn_,qm_] <;> rfl),by repeat (first|(with_reducible first|exact HB.out|apply qb_|apply qa_|apply qc_|refine qh_ ?_ GE745.out)|exact HB.out)⟩
end Go.Proofs.Ytaiefdhenikiiaa.Base
namespace Go.Proofs.Ytaiefdhenikiiaa.Base
open Go.RowKit Go.Proofs.YtaiefdhenikiiaaW.PrintWords Go.Proofs.YtaiefdhenikiiaaW.PrintLast Go.Proofs.YtaiefdhenikiiaaW.PrintMore
attribute [local go_sem] max2_int qq1_ max_two min_two max_three min_three max_four min_four Go.Proofs.YtaiefdhenikiiaaZ.qu_   -- for this text's walks alone
set_option linter.unusedVariables false
set_option linter.unusedSimpArgs false
def spec_l01Zero.f (a0_0:Int) (a0_1:Int):Option (Bool):=some (a0_0 == 0)
set_option maxHeartbeats 8000000 in
set_option maxRecDepth 100000 in
theorem spec_l01Zero.calls (a0_0:Int) (a0_1:Int) (r:Bool) (w:World) (h:spec_l01Zero.f a0_0 a0_1=some r) :
  Calls Try.prog 141 #[.agg #[.int .i64 a0_0,.int .i64 a0_1]] w fun e w'=>e=.returned (.bool r)∧Below w.heap.size w w':=by
 have hu77:=Try.underlying77
 have HB:=aK (Below.refl w.heap.size w)
 have H:(some (a0_0 == 0))=some r:=h
 clear h
 obtain rfl:=Option.some.inj H
 go_enter Try.func141,Try.ntmps141
 go_wp2_with (first|((with_reducible refine qf1_ (N:=1) rfl ?_);refine qg1_ ?hg (N:=1) ?hd (cs:=#[.int .i64 a0_0,.int .i64 a0_1]) (t:=77) ?hr ?_;(case hd=>rfl);(case hg=>rfl);(case hr=>first|(go_simp;done)|(go_simp;rfl));intro gb104 hg w2 hbox hb;have n0_:=aK (qe_ (by repeat (first|(with_reducible first|exact HB.out|apply qb_|apply qa_|apply qc_)|exact HB.out)) hb);have n1_:=aK (hbox);have n2_:=aK ((by rw [hg];exact (qk_ (by repeat (first|(with_reducible first|exact HB.out|apply qb_|apply qa_|apply qc_)|exact HB.out))):w.heap.size≤gb104));have n3_:=aK ((by rw [hg];exact (qk_ (by repeat (first|(with_reducible first|exact HB.out|apply qb_|apply qa_|apply qc_)|exact HB.out))):w.heap.size≤gb104));clear HB;have HB:=n0_;have BK104:=n1_;have GW104:=n2_;have GE104:=n3_;clear n0_ n1_ n2_ n3_;clear hb hbox hg;have hcz3_0:w2.cell? ⟨gb104,0,none⟩=some (.int .i64 a0_0):=(qj_ BK104.out 0).trans rfl;have hcz3_1:w2.cell? ⟨gb104,1,none⟩=some (.int .i64 a0_1):=(qj_ BK104.out 1).trans rfl;have hfz3_0:=qd_ BK104.out 0;have hfz3_1:=qd_ BK104.out 1))
 go_ret
 exact ⟨by first|rfl|(simp [qn_,qm_] <;> rfl)|(simp [*,qn_,qm_] <;> rfl),by repeat (first|(with_reducible first|exact HB.out|apply qb_|apply qa_|apply qc_|refine qh_ ?_ GE104.out)|exact HB.out)⟩
end Go.Proofs.Ytaiefdhenikiiaa.Base
namespace Go.Proofs.Ytaiefdhenikiiaa.Base
open Go.RowKit Go.Proofs.YtaiefdhenikiiaaW.PrintWords Go.Proofs.YtaiefdhenikiiaaW.PrintLast Go.Proofs.YtaiefdhenikiiaaW.PrintMore
attribute [local go_sem] max2_int qq1_ max_two min_two max_three min_three max_four min_four Go.Proofs.YtaiefdhenikiiaaZ.qu_   -- for this text's walks alone
set_option linter.unusedVariables false
set_option linter.unusedSimpArgs false
def qh3_.f (a0:ByteArray) (a1:ByteArray):Option (Bool):=if (a0.size:Int)=(a1.size:Int) then (some (Op.bytesLess a0.toList a1.toList)) else (some (decide ((a0.size:Int) < (a1.size:Int))))
set_option maxHeartbeats 8000000 in
set_option maxRecDepth 100000 in
theorem qh3_.calls (a0:ByteArray) (a1:ByteArray) (r:Bool) (w:World) (h:qh3_.f a0 a1=some r) :
  Calls Try.prog 152 #[.string a0,.string a1] w fun e w'=>e=.returned (.bool r)∧Drawn0 w w':=by
 have H:(if (a0.size:Int)=(a1.size:Int) then (some (Op.bytesLess a0.toList a1.toList)) else (some (decide ((a0.size:Int) < (a1.size:Int)))))=some r:=h
 clear h
 by_cases c3:(a0.size:Int)=(a1.size:Int)
 ·rw [if_pos c3] at H
  have c3b0:((a0.size:Int) == (a1.size:Int))=true:=beq_iff_eq.mpr c3
  have c3b1:((a0.size:Int) != (a1.size:Int))=false:=bne_eq_false_iff_eq.mpr c3
  have c3b2:(a0.size == a1.size)=true:=by first|simpa using c3|(simp at c3 ⊢;omega)
  clear c3
  obtain rfl:=Option.some.inj H
  go_enter Try.func152,Try.ntmps152
  go_wp2
  go_ret
  exact ⟨by first|rfl|(simp;done)|(simp [*];done)|(simp [Go.Proofs.YtaiefdhenikiiaaZ.bne_nil];done),by repeat (first|exact Drawn0.refl _|apply Drawn0.step)⟩
 ·rw [if_neg c3] at H
  have c3b0:((a0.size:Int) == (a1.size:Int))=false:=beq_eq_false_iff_ne.mpr c3
  have c3b1:((a0.size:Int) != (a1.size:Int))=true:=bne_iff_ne.mpr c3
  have c3b2:(a0.size == a1.size)=false:=by first|simpa using c3|(simp at c3 ⊢;omega)
  obtain rfl:=Option.some.inj H
  go_enter Try.func152,Try.ntmps152
  go_wp2
  go_ret
  exact ⟨by first|rfl|(simp;done)|(simp [*];done)|(simp [Go.Proofs.YtaiefdhenikiiaaZ.bne_nil];done),by repeat (first|exact Drawn0.refl _|apply Drawn0.step)⟩
end Go.Proofs.Ytaiefdhenikiiaa.Base
namespace Go.Proofs.Ytaiefdhenikiiaa.Base
open Go.RowKit Go.Proofs.YtaiefdhenikiiaaW.PrintWords Go.Proofs.YtaiefdhenikiiaaW.PrintLast Go.Proofs.YtaiefdhenikiiaaW.PrintMore
attribute [local go_sem] max2_int qq1_ max_two min_two max_three min_three max_four min_four Go.Proofs.YtaiefdhenikiiaaZ.qu_   -- for this text's walks alone
set_option linter.unusedVariables false
set_option linter.unusedSimpArgs false
def qb3_.f (a0:Int) (a1:Int):Option (Bool):=(qp1_.f a0 1 3).bind fun t105=>(if t105=true then ((qp1_.f a1 1 5).bind fun t106=>(if t106=true then (if a0 < 3 then (some true) else (some (decide (a1 < 5)))) else (some false))) else (some false))
set_option maxHeartbeats 8000000 in
set_option maxRecDepth 100000 in
theorem qb3_.calls (a0:Int) (a1:Int) (r:Bool) (w:World) (h:qb3_.f a0 a1=some r) :
  Calls Try.prog 149 #[.int .i64 a0,.int .i64 a1] w fun e w'=>e=.returned (.bool r)∧Drawn0 w w':=by
 have H:((qp1_.f a0 1 3).bind fun t105=>(if t105=true then ((qp1_.f a1 1 5).bind fun t106=>(if t106=true then (if a0 < 3 then (some true) else (some (decide (a1 < 5)))) else (some false))) else (some false)))=some r:=h
 clear h
 replace H:=Option.bind_eq_some_iff.mp H
 obtain ⟨t105,A30,H⟩:=H
 replace H:(if t105=true then ((qp1_.f a1 1 5).bind fun t106=>(if t106=true then (if a0 < 3 then (some true) else (some (decide (a1 < 5)))) else (some false))) else (some false))=some r:=H
 have A3:=aK A30
 clear A30
 by_cases c4:t105=true
 ·subst c4
  have H1:((qp1_.f a1 1 5).bind fun t106=>(if t106=true then (if a0 < 3 then (some true) else (some (decide (a1 < 5)))) else (some false)))=some r:=by rw [if_pos rfl] at H;exact H
  clear H
  have H:=H1
  clear H1
  replace H:=Option.bind_eq_some_iff.mp H
  obtain ⟨t106,A50,H⟩:=H
  replace H:(if t106=true then (if a0 < 3 then (some true) else (some (decide (a1 < 5)))) else (some false))=some r:=H
  have A5:=aK A50
  clear A50
  by_cases c6:t106=true
  ·subst c6
   have H1:(if a0 < 3 then (some true) else (some (decide (a1 < 5))))=some r:=by rw [if_pos rfl] at H;exact H
   clear H
   have H:=H1
   clear H1
   by_cases c7:a0 < 3
   ·rw [if_pos c7] at H
    have c7b0:decide (a0 < 3)=true:=decide_eq_true c7
    clear c7
    obtain rfl:=Option.some.inj H
    go_enter Try.func149,Try.ntmps149
    go_wp2_with (first|((with_reducible refine qt_ (f:=107) rfl ?_);refine goesL_ (some 6) rfl rfl Try.func107 (by kernel_rfl) rfl #[.int .i64 a0,.int .i64 1,.int .i64 3] rfl (by (try simp only [List.map_toArray,List.map_cons,List.map_nil]);first|done|rfl|(simp only [List.length_drop,List.length_take];rfl)) ?_;(with_reducible refine (qp1_.calls a0 1 3 true _ A3.out).mono ?_);rintro e w' ⟨rfl,⟨nd,rfl⟩⟩;refine ⟨_,rfl,?_⟩)|(go_at_call 107;(with_reducible refine (qp1_.calls a1 1 5 true _ A5.out).mono ?_);rintro e w' ⟨rfl,⟨nd,rfl⟩⟩))
    go_ret
    exact ⟨by first|rfl|(simp;done)|(simp [*];done)|(simp [Go.Proofs.YtaiefdhenikiiaaZ.bne_nil];done),by repeat (first|exact Drawn0.refl _|apply Drawn0.step)⟩
   ·rw [if_neg c7] at H
    have c7b0:decide (a0 < 3)=false:=decide_eq_false c7
    clear c7
    obtain rfl:=Option.some.inj H
    go_enter Try.func149,Try.ntmps149
    go_wp2_with (first|((with_reducible refine qt_ (f:=107) rfl ?_);refine goesL_ (some 6) rfl rfl Try.func107 (by kernel_rfl) rfl #[.int .i64 a0,.int .i64 1,.int .i64 3] rfl (by (try simp only [List.map_toArray,List.map_cons,List.map_nil]);first|done|rfl|(simp only [List.length_drop,List.length_take];rfl)) ?_;(with_reducible refine (qp1_.calls a0 1 3 true _ A3.out).mono ?_);rintro e w' ⟨rfl,⟨nd,rfl⟩⟩;refine ⟨_,rfl,?_⟩)|(go_at_call 107;(with_reducible refine (qp1_.calls a1 1 5 true _ A5.out).mono ?_);rintro e w' ⟨rfl,⟨nd,rfl⟩⟩))
    go_ret
    exact ⟨by first|rfl|(simp;done)|(simp [*];done)|(simp [Go.Proofs.YtaiefdhenikiiaaZ.bne_nil];done),by repeat (first|exact Drawn0.refl _|apply Drawn0.step)⟩
  ·replace c6:=Bool.eq_false_iff.mpr c6
   subst c6
   have H1:(some false)=some r:=by rw [if_neg (show ¬ (false=true) by decide)] at H;exact H
   clear H
   have H:=H1
   clear H1
   obtain rfl:=Option.some.inj H
   go_enter Try.func149,Try.ntmps149
   go_wp2_with (first|((with_reducible refine qt_ (f:=107) rfl ?_);refine goesL_ (some 6) rfl rfl Try.func107 (by kernel_rfl) rfl #[.int .i64 a0,.int .i64 1,.int .i64 3] rfl (by (try simp only [List.map_toArray,List.map_cons,List.map_nil]);first|done|rfl|(simp only [List.length_drop,List.length_take];rfl)) ?_;(with_reducible refine (qp1_.calls a0 1 3 true _ A3.out).mono ?_);rintro e w' ⟨rfl,⟨nd,rfl⟩⟩;refine ⟨_,rfl,?_⟩)|(go_at_call 107;(with_reducible refine (qp1_.calls a1 1 5 false _ A5.out).mono ?_);rintro e w' ⟨rfl,⟨nd,rfl⟩⟩))
   go_ret
   exact ⟨by first|rfl|(simp;done)|(simp [*];done)|(simp [Go.Proofs.YtaiefdhenikiiaaZ.bne_nil];done),by repeat (first|exact Drawn0.refl _|apply Drawn0.step)⟩
 ·replace c4:=Bool.eq_false_iff.mpr c4
  subst c4
  have H1:(some false)=some r:=by rw [if_neg (show ¬ (false=true) by decide)] at H;exact H
  clear H
  have H:=H1
  clear H1
  obtain rfl:=Option.some.inj H
  go_enter Try.func149,Try.ntmps149
  go_wp2_with (first|((with_reducible refine qt_ (f:=107) rfl ?_);refine goesL_ (some 6) rfl rfl Try.func107 (by kernel_rfl) rfl #[.int .i64 a0,.int .i64 1,.int .i64 3] rfl (by (try simp only [List.map_toArray,List.map_cons,List.map_nil]);first|done|rfl|(simp only [List.length_drop,List.length_take];rfl)) ?_;(with_reducible refine (qp1_.calls a0 1 3 false _ A3.out).mono ?_);rintro e w' ⟨rfl,⟨nd,rfl⟩⟩;refine ⟨_,rfl,?_⟩))
  go_ret
  exact ⟨by first|rfl|(simp;done)|(simp [*];done)|(simp [Go.Proofs.YtaiefdhenikiiaaZ.bne_nil];done),by repeat (first|exact Drawn0.refl _|apply Drawn0.step)⟩
end Go.Proofs.Ytaiefdhenikiiaa.Base
namespace Go.Proofs.Ytaiefdhenikiiaa.Base
open Go.RowKit Go.Proofs.YtaiefdhenikiiaaW.PrintWords Go.Proofs.YtaiefdhenikiiaaW.PrintLast Go.Proofs.YtaiefdhenikiiaaW.PrintMore
attribute [local go_sem] max2_int qq1_ max_two min_two max_three min_three max_four min_four Go.Proofs.YtaiefdhenikiiaaZ.qu_   -- for this text's walks alone
set_option linter.unusedVariables false
set_option linter.unusedSimpArgs false
def qo2_.f (a0:Int):Option (Bool):=(qy1_.f a0 1 3).bind fun t137=>(some t137)
set_option maxHeartbeats 8000000 in
set_option maxRecDepth 100000 in
theorem qo2_.calls (a0:Int) (r:Bool) (w:World) (h:qo2_.f a0=some r) :
  Calls Try.prog 163 #[.int .i64 a0] w fun e w'=>e=.returned (.bool r)∧Drawn0 w w':=by
 have H:((qy1_.f a0 1 3).bind fun t137=>(some t137))=some r:=h
 clear h
 replace H:=Option.bind_eq_some_iff.mp H
 obtain ⟨t137,A20,H⟩:=H
 replace H:(some t137)=some r:=H
 have A2:=aK A20
 clear A20
 obtain rfl:=Option.some.inj H
 go_enter Try.func163,Try.ntmps163
 go_wp2_with (first|((with_reducible refine qt_ (f:=111) rfl ?_);refine goesL_ (some 4) rfl rfl Try.func111 (by kernel_rfl) rfl #[.int .i64 a0,.int .i64 1,.int .i64 3] rfl (by (try simp only [List.map_toArray,List.map_cons,List.map_nil]);first|done|rfl|(simp only [List.length_drop,List.length_take];rfl)) ?_;(with_reducible refine (qy1_.calls a0 1 3 t137 _ A2.out).mono ?_);rintro e w' ⟨rfl,⟨nd,rfl⟩⟩;refine ⟨_,rfl,?_⟩))
 go_ret
 exact ⟨by first|rfl|(simp;done)|(simp [*];done)|(simp [Go.Proofs.YtaiefdhenikiiaaZ.bne_nil];done),by repeat (first|exact Drawn0.refl _|apply Drawn0.step)⟩
end Go.Proofs.Ytaiefdhenikiiaa.Base
namespace Go.Proofs.Ytaiefdhenikiiaa.Base
open Go.RowKit Go.Proofs.YtaiefdhenikiiaaW.PrintWords Go.Proofs.YtaiefdhenikiiaaW.PrintLast Go.Proofs.YtaiefdhenikiiaaW.PrintMore
attribute [local go_sem] max2_int qq1_ max_two min_two max_three min_three max_four min_four Go.Proofs.YtaiefdhenikiiaaZ.qu_   -- for this text's walks alone
set_option linter.unusedVariables false
set_option linter.unusedSimpArgs false
def qv2_.f (a0:Int) (a1:Int):Option (Bool):=(qo2_.f a0).bind fun t138=>(if t138=true then ((qy1_.f a1 1 5).bind fun t139=>(if t139=true then (if a0 < 3 then (some true) else (some (decide (a1 < 5)))) else (some false))) else (some false))
set_option maxHeartbeats 8000000 in
set_option maxRecDepth 100000 in
theorem qv2_.calls (a0:Int) (a1:Int) (r:Bool) (w:World) (h:qv2_.f a0 a1=some r) :
  Calls Try.prog 138 #[.int .i64 a0,.int .i64 a1] w fun e w'=>e=.returned (.bool r)∧Drawn0 w w':=by
 have H:((qo2_.f a0).bind fun t138=>(if t138=true then ((qy1_.f a1 1 5).bind fun t139=>(if t139=true then (if a0 < 3 then (some true) else (some (decide (a1 < 5)))) else (some false))) else (some false)))=some r:=h
 clear h
 replace H:=Option.bind_eq_some_iff.mp H
 obtain ⟨t138,A30,H⟩:=H
 replace H:(if t138=true then ((qy1_.f a1 1 5).bind fun t139=>(if t139=true then (if a0 < 3 then (some true) else (some (decide (a1 < 5)))) else (some false))) else (some false))=some r:=H
 have A3:=aK A30
 clear A30
 by_cases c4:t138=true
 ·subst c4
  have H1:((qy1_.f a1 1 5).bind fun t139=>(if t139=true then (if a0 < 3 then (some true) else (some (decide (a1 < 5)))) else (some false)))=some r:=by rw [if_pos rfl] at H;exact H
  clear H
  have H:=H1
  clear H1
  replace H:=Option.bind_eq_some_iff.mp H
  obtain ⟨t139,A50,H⟩:=H
  replace H:(if t139=true then (if a0 < 3 then (some true) else (some (decide (a1 < 5)))) else (some false))=some r:=H
  have A5:=aK A50
  clear A50
  by_cases c6:t139=true
  ·subst c6
   have H1:(if a0 < 3 then (some true) else (some (decide (a1 < 5))))=some r:=by rw [if_pos rfl] at H;exact H
   clear H
   have H:=H1
   clear H1
   by_cases c7:a0 < 3
   ·rw [if_pos c7] at H
    have c7b0:decide (a0 < 3)=true:=decide_eq_true c7
    clear c7
    obtain rfl:=Option.some.inj H
    go_enter Try.func138,Try.ntmps138
    go_wp2_with (first|((with_reducible refine qt_ (f:=163) rfl ?_);refine goesL_ (some 6) rfl rfl Try.func163 (by kernel_rfl) rfl #[.int .i64 a0] rfl (by (try simp only [List.map_toArray,List.map_cons,List.map_nil]);first|done|rfl|(simp only [List.length_drop,List.length_take];rfl)) ?_;(with_reducible refine (qo2_.calls a0 true _ A3.out).mono ?_);rintro e w' ⟨rfl,⟨nd,rfl⟩⟩;refine ⟨_,rfl,?_⟩)|(go_at_call 111;(with_reducible refine (qy1_.calls a1 1 5 true _ A5.out).mono ?_);rintro e w' ⟨rfl,⟨nd,rfl⟩⟩))
    go_ret
    exact ⟨by first|rfl|(simp;done)|(simp [*];done)|(simp [Go.Proofs.YtaiefdhenikiiaaZ.bne_nil];done),by repeat (first|exact Drawn0.refl _|apply Drawn0.step)⟩
   ·rw [if_neg c7] at H
    have c7b0:decide (a0 < 3)=false:=decide_eq_false c7
    clear c7
    obtain rfl:=Option.some.inj H
    go_enter Try.func138,Try.ntmps138
    go_wp2_with (first|((with_reducible refine qt_ (f:=163) rfl ?_);refine goesL_ (some 6) rfl rfl Try.func163 (by kernel_rfl) rfl #[.int .i64 a0] rfl (by (try simp only [List.map_toArray,List.map_cons,List.map_nil]);first|done|rfl|(simp only [List.length_drop,List.length_take];rfl)) ?_;(with_reducible refine (qo2_.calls a0 true _ A3.out).mono ?_);rintro e w' ⟨rfl,⟨nd,rfl⟩⟩;refine ⟨_,rfl,?_⟩)|(go_at_call 111;(with_reducible refine (qy1_.calls a1 1 5 true _ A5.out).mono ?_);rintro e w' ⟨rfl,⟨nd,rfl⟩⟩))
    go_ret
    exact ⟨by first|rfl|(simp;done)|(simp [*];done)|(simp [Go.Proofs.YtaiefdhenikiiaaZ.bne_nil];done),by repeat (first|exact Drawn0.refl _|apply Drawn0.step)⟩
  ·replace c6:=Bool.eq_false_iff.mpr c6
   subst c6
   have H1:(some false)=some r:=by rw [if_neg (show ¬ (false=true) by decide)] at H;exact H
   clear H
   have H:=H1
   clear H1
   obtain rfl:=Option.some.inj H
   go_enter Try.func138,Try.ntmps138
   go_wp2_with (first|((with_reducible refine qt_ (f:=163) rfl ?_);refine goesL_ (some 6) rfl rfl Try.func163 (by kernel_rfl) rfl #[.int .i64 a0] rfl (by (try simp only [List.map_toArray,List.map_cons,List.map_nil]);first|done|rfl|(simp only [List.length_drop,List.length_take];rfl)) ?_;(with_reducible refine (qo2_.calls a0 true _ A3.out).mono ?_);rintro e w' ⟨rfl,⟨nd,rfl⟩⟩;refine ⟨_,rfl,?_⟩)|(go_at_call 111;(with_reducible refine (qy1_.calls a1 1 5 false _ A5.out).mono ?_);rintro e w' ⟨rfl,⟨nd,rfl⟩⟩))
   go_ret
   exact ⟨by first|rfl|(simp;done)|(simp [*];done)|(simp [Go.Proofs.YtaiefdhenikiiaaZ.bne_nil];done),by repeat (first|exact Drawn0.refl _|apply Drawn0.step)⟩
 ·replace c4:=Bool.eq_false_iff.mpr c4
  subst c4
  have H1:(some false)=some r:=by rw [if_neg (show ¬ (false=true) by decide)] at H;exact H
  clear H
  have H:=H1
  clear H1
  obtain rfl:=Option.some.inj H
  go_enter Try.func138,Try.ntmps138
  go_wp2_with (first|((with_reducible refine qt_ (f:=163) rfl ?_);refine goesL_ (some 6) rfl rfl Try.func163 (by kernel_rfl) rfl #[.int .i64 a0] rfl (by (try simp only [List.map_toArray,List.map_cons,List.map_nil]);first|done|rfl|(simp only [List.length_drop,List.length_take];rfl)) ?_;(with_reducible refine (qo2_.calls a0 false _ A3.out).mono ?_);rintro e w' ⟨rfl,⟨nd,rfl⟩⟩;refine ⟨_,rfl,?_⟩))
  go_ret
  exact ⟨by first|rfl|(simp;done)|(simp [*];done)|(simp [Go.Proofs.YtaiefdhenikiiaaZ.bne_nil];done),by repeat (first|exact Drawn0.refl _|apply Drawn0.step)⟩
end Go.Proofs.Ytaiefdhenikiiaa.Base
