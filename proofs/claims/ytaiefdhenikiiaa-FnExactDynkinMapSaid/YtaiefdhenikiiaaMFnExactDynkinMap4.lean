/- Texts that the proof of FnExactDynkinMap needs, part 4. No condition. -/
import Derived.Test.YtaiefdhenikiiaaMFnExactDynkinMap3
namespace Go.Proofs.Ytaiefdhenikiiaa.Base
open Go.RowKit Go.Proofs.YtaiefdhenikiiaaW.PrintWords Go.Proofs.YtaiefdhenikiiaaW.PrintLast Go.Proofs.YtaiefdhenikiiaaW.PrintMore
attribute [local go_sem] max2_int qo1_ max_two min_two max_three min_three max_four min_four Go.Proofs.YtaiefdhenikiiaaZ.qx_   -- for this text's walks alone
set_option linter.unusedVariables false
set_option linter.unusedSimpArgs false
def qz_.l0:Nat→Int→ByteArray→Option (ByteArray)
 | 0,_,_=>none
 | k+1,x0,x3=>if x0 > 0 then ((some (([(wrap64 (48+(Int.tmod x0 10))) % 256]:List Int):List Int)).bind fun y161=>(if (strOfNums y161).size+x3.size≤9223372036854775807 then (qz_.l0 k (wrap64 (Int.tdiv x0 10)) ((strOfNums y161) ++ x3)) else (none))) else (if 1+x3.size≤9223372036854775807 then (some ((⟨#[109]⟩:ByteArray) ++ x3)) else (none))
def qz_.f (k:Nat) (a0:Int):Option (ByteArray):=if a0≤0 then (some (⟨#[109,48]⟩:ByteArray)) else (qz_.l0 k a0 (⟨#[]⟩:ByteArray))
theorem qz_.mono_l:∀ k,(∀ y0 y1,LeO (qz_.l0 k y0 y1) (qz_.l0 (k+1) y0 y1))
 | 0=>fun _ _ r h=>by simp [qz_.l0] at h
 | k+1=>by
  have ih0:=qz_.mono_l k
  ·intro y0 y1
   unfold qz_.l0
   repeat' first
   | (with_reducible exact ih0 _ _)
   | (with_reducible exact LeO.refl _)
   | (with_reducible exact LeO.none _)
   | (with_reducible refine LeO.ite ?_ ?_)
   | (with_reducible refine LeO.bind ?_ (fun _=>?_))
   | exact ih0 _ _
   | exact LeO.none _
   | refine LeO.ite ?_ ?_
   | refine LeO.bind ?_ (fun _=>?_)
theorem qz_.mono:∀ a0 k,LeO (qz_.f k a0) (qz_.f (k+1) a0):=by
 intro a0 k
 have ih0:=qz_.mono_l k
 unfold qz_.f
 repeat' first
   | (with_reducible exact ih0 _ _)
   | (with_reducible exact LeO.refl _)
   | (with_reducible exact LeO.none _)
   | (with_reducible refine LeO.ite ?_ ?_)
   | (with_reducible refine LeO.bind ?_ (fun _=>?_))
   | exact ih0 _ _
   | exact LeO.none _
   | refine LeO.ite ?_ ?_
   | refine LeO.bind ?_ (fun _=>?_)
set_option maxHeartbeats 8000000 in
set_option maxRecDepth 100000 in
theorem qz_.calls (k:Nat) (a0:Int) (r:ByteArray) (w:World) (h:qz_.f k a0=some r) :
  Calls Try.prog 81 #[.int .i64 a0] w fun e w'=>e=.returned (.string r)∧Below w.heap.size w w':=by
 have HB:=aK (Below.refl w.heap.size w)
 have H:(if a0≤0 then (some (⟨#[109,48]⟩:ByteArray)) else (qz_.l0 k a0 (⟨#[]⟩:ByteArray)))=some r:=h
 clear h
 by_cases c2:a0≤0
 ·rw [if_pos c2] at H
  have c2b0:decide (a0≤0)=true:=decide_eq_true c2
  clear c2
  obtain rfl:=Option.some.inj H
  go_enter Try.func81,Try.ntmps81
  go_wp2
  go_ret
  exact ⟨by first|rfl|(simp [qo_,qn_] <;> rfl)|(simp [*,qo_,qn_] <;> rfl),by repeat (first|(with_reducible first|exact HB.out|apply qb_|apply qa_|apply qc_)|exact HB.out)⟩
 ·rw [if_neg c2] at H
  have c2b0:decide (a0≤0)=false:=decide_eq_false c2
  clear c2
  have H':=aK H
  clear H
  go_enter Try.func81,Try.ntmps81
  go_wp2
  go_loopg [0,3] k (fun kq v0 v3 w'=>∃ (x0_1:Int) (x3_1:ByteArray),v0=.int .i64 x0_1∧v3=.string x3_1∧Aside0 (qz_.l0 kq x0_1 x3_1=some r)∧Aside0 (kq≤k)∧Aside0 (Below w.heap.size w w'))
  case atStart=>exact ⟨(a0),((⟨#[]⟩:ByteArray)),(by first|rfl|(simp;done)|(simp [*];done)),(by first|rfl|(simp;done)|(simp [*];done)),H',⟨Nat.le_refl _⟩,⟨by repeat (first|(with_reducible first|exact HB.out|apply qb_|apply qa_|apply qc_)|exact HB.out)⟩⟩
  case round =>
   clear H'
   try clear c2
   try clear c2b0
   try clear p2
   obtain ⟨x0_1,x3_1,rfl,rfl,HA,HK1,HB⟩:=hrel
   cases gk with
   | zero=>exact absurd HA.out (by simp [qz_.l0])
   | succ k1 =>
    have H:=HA.out
    clear HA
    simp only [qz_.l0] at H
    by_cases c3:x0_1 > 0
    ·rw [if_pos c3] at H
     have c3b0:decide (0 < x0_1)=true:=decide_eq_true c3
     clear c3
     obtain ⟨y161,hy161⟩:∃ y_:List Int,y_=(([(wrap64 (48+(Int.tmod x0_1 10))) % 256]:List Int)):=⟨_,rfl⟩
     replace H:(if (strOfNums y161).size+x3_1.size≤9223372036854775807 then (qz_.l0 k1 (wrap64 (Int.tdiv x0_1 10)) ((strOfNums y161) ++ x3_1)) else (none))=some r:=by first|(rw [hy161];with_reducible exact H)|(have H2_:=(Option.bind_some _ _).symm.trans H;rw [hy161];with_reducible exact H2_)|(have H2_:=(Option.bind_some _ _).symm.trans H;with_reducible exact H2_)|with_reducible exact H|(rw [hy161];exact H)|exact H
     have Ny161:=aK hy161
     clear hy161
     by_cases c4:(strOfNums y161).size+x3_1.size≤9223372036854775807
     ·rw [if_pos c4] at H
      have c4b0:=eq_true c4
      have c4b1:decide ((strOfNums y161).size+x3_1.size≤9223372036854775807)=true:=decide_eq_true c4
      try have c4b2:(9223372036854775807 < (strOfNums y161).size+x3_1.size)=False:=eq_false (Nat.not_lt.2 c4)
      have H':=aK H
      clear H
      go_wp2_with (first|((with_reducible refine qu_ (N:=12) rfl ?_);refine Kd.R_lit (Kd.int .u8) _ 5 ?hg (N:=12) ?hd (xs:=([(wrap64 (48+(Int.tmod x0_1 10))) % 256]:List Int)) (inner:=[.int .u8 ((wrap64 (48+(Int.tmod x0_1 10))) % 256)]) (ok:=fun _=>True) (okp:=fun _=>True) ?hr ?hp (fun _ hk=>hk) trivial (Below.refl _ _) (Nat.le_refl _) (by simp) ?_;(case hd=>rfl);(case hg=>rfl);(case hr=>first|(go_simp;done)|(go_simp;rfl));(case hp=>exact (Reps.one (show Kd.M (Kd.int .u8) _ _ _ ((wrap64 (48+(Int.tmod x0_1 10))) % 256) [.int .u8 ((wrap64 (48+(Int.tmod x0_1 10))) % 256)] from rfl) (Reps.none _ _)));intro v162 w5 ho6 hb hg_ hnew_;clear hg_ hnew_;(first|rw [← Ny161.out] at ho6|(simp only [Int.reduceToNat] at ho6;rw [← Ny161.out] at ho6));have n0_:=aK (Kd.qn2_ ho6 (qk_ (by repeat (first|(with_reducible first|exact HB.out|apply qb_|apply qa_|apply qc_)|exact HB.out))));have n1_:=aK (qj_ (by repeat (first|(with_reducible first|exact HB.out|apply qb_|apply qa_|apply qc_)|exact HB.out)) hb);clear HB;have HO163:=n0_;have HB:=n1_;clear n0_ n1_;clear hb ho6;have hcv7:=own_string (P:=Try.prog) Try.underlying140 Try.underlying5 Try.underlying9 (Kd.own_of_R HO163.out)))
      go_roundg k1
      case measure=>have:=HK1.out;omega
      case rel=>exact ⟨(wrap64 (Int.tdiv x0_1 10)),((strOfNums y161) ++ x3_1),(by first|rfl|(simp;done)|(simp [*];done)),(by first|rfl|(simp;done)|(simp [*];done)),H',⟨by have:=HK1.out;omega⟩,⟨by repeat (first|(with_reducible first|exact HB.out|apply qb_|apply qa_|apply qc_)|exact HB.out)⟩⟩
     ·rw [if_neg c4] at H
      exact absurd H (by simp)
    ·rw [if_neg c3] at H
     have c3b0:decide (0 < x0_1)=false:=decide_eq_false c3
     clear c3
     by_cases c8:1+x3_1.size≤9223372036854775807
     ·rw [if_pos c8] at H
      have c8b0:=eq_true c8
      have c8b1:decide (1+x3_1.size≤9223372036854775807)=true:=decide_eq_true c8
      try have c8b2:(9223372036854775807 < 1+x3_1.size)=False:=eq_false (Nat.not_lt.2 c8)
      obtain rfl:=Option.some.inj H
      go_wp2
      go_ret
      exact ⟨by first|rfl|(simp [qo_,qn_] <;> rfl)|(simp [*,qo_,qn_] <;> rfl),by repeat (first|(with_reducible first|exact HB.out|apply qb_|apply qa_|apply qc_)|exact HB.out)⟩
     ·rw [if_neg c8] at H
      exact absurd H (by simp)
end Go.Proofs.Ytaiefdhenikiiaa.Base
namespace Go.Proofs.Ytaiefdhenikiiaa.Base
open Go.RowKit Go.Proofs.YtaiefdhenikiiaaW.PrintWords Go.Proofs.YtaiefdhenikiiaaW.PrintLast Go.Proofs.YtaiefdhenikiiaaW.PrintMore
attribute [local go_sem] max2_int qo1_ max_two min_two max_three min_three max_four min_four Go.Proofs.YtaiefdhenikiiaaZ.qx_   -- for this text's walks alone
set_option linter.unusedVariables false
set_option linter.unusedSimpArgs false
def qs_.l0:Nat→List (S79)→Int→Int→Option (Int)
 | 0,_,_,_=>none
 | k+1,x0,x1,x5=>if x5 < (x0.length:Int) then (if 0≤x5 then ((qz_.f k x1).bind fun t165=>(if ((rd_T79 x0 x5).f0).toList=t165.toList then (if ((rd_T79 x0 x5).f1.f0)=(wrap64 (x1+1)) then (if ((rd_T79 x0 x5).f1.f1)=(wrap64 ((wrap64 (x1+1))+1)) then (qs_.l0 k x0 (wrap64 ((wrap64 ((wrap64 (x1+1))+1))+1)) (wrap64 (x5+1))) else (some (-1))) else (some (-1))) else (some (-1)))) else (none)) else (some x1)
def qs_.f (k:Nat) (l0:List (S79)) (a1:Int):Option (Int):=qs_.l0 k l0 a1 0
theorem qs_.mono_l:∀ k,(∀ y0 y1 y2,LeO (qs_.l0 k y0 y1 y2) (qs_.l0 (k+1) y0 y1 y2))
 | 0=>fun _ _ _ r h=>by simp [qs_.l0] at h
 | k+1=>by
  have ih0:=qs_.mono_l k
  ·intro y0 y1 y2
   unfold qs_.l0
   repeat' first
   | (with_reducible exact ih0 _ _ _)
   | (with_reducible exact qz_.mono _ _)
   | (with_reducible exact LeO.refl _)
   | (with_reducible exact LeO.none _)
   | (with_reducible refine LeO.ite ?_ ?_)
   | (with_reducible refine LeO.bind ?_ (fun _=>?_))
   | exact ih0 _ _ _
   | exact qz_.mono _ _
   | exact LeO.none _
   | refine LeO.ite ?_ ?_
   | refine LeO.bind ?_ (fun _=>?_)
theorem qs_.mono:∀ a0 a1 k,LeO (qs_.f k a0 a1) (qs_.f (k+1) a0 a1):=by
 intro a0 a1 k
 have ih0:=qs_.mono_l k
 unfold qs_.f
 repeat' first
   | (with_reducible exact ih0 _ _ _)
   | (with_reducible exact qz_.mono _ _)
   | (with_reducible exact LeO.refl _)
   | (with_reducible exact LeO.none _)
   | (with_reducible refine LeO.ite ?_ ?_)
   | (with_reducible refine LeO.bind ?_ (fun _=>?_))
   | exact ih0 _ _ _
   | exact qz_.mono _ _
   | exact LeO.none _
   | refine LeO.ite ?_ ?_
   | refine LeO.bind ?_ (fun _=>?_)
def qs_.T4:Bool × List (List Nat × List Nat):=(true,[([],[]),([],[]),([0,1],[0,1]),([2],[2]),([3],[3]),([],[]),([5],[5]),([4,6],[4,6])])
def qs_.B4:List Nat:=[0,0,3,7,15,0,32,127]
theorem qs_.tab4:rtab .any (opsOf Try.f27 4)=qs_.T4:=by kernel_rfl
theorem qs_.bits4:waitsOk qs_.T4.2 qs_.B4=true:=by kernel_rfl
set_option maxHeartbeats 8000000 in
set_option maxRecDepth 100000 in
theorem qs_.calls (k:Nat) (A0:Option Addr) (c0:Nat) (l0:List (S79)) (a1:Int) (r:Int) (w:World) (hr0:Kd.C k79 w A0 l0.length l0) (hc0:l0.length≤c0) (h:qs_.f k l0 a1=some r) :
  Calls Try.prog 27 #[.slice A0 l0.length c0,.int .i64 a1] w fun e w'=>e=.returned (.int .i64 r)∧Below w.heap.size w w':=by
 have HR0:=aK hr0
 have HC0:=aK hc0
 clear hr0 hc0
 have HB:=aK (Below.refl w.heap.size w)
 have H:(qs_.l0 k l0 a1 0)=some r:=h
 clear h
 have H':=aK H
 clear H
 go_enter Try.func27,Try.ntmps27
 go_wp2
 go_loopg [1,5] k (fun kq v1 v5 w'=>∃ (x1_1:Int) (x5_1:Int),v1=.int .i64 x1_1∧v5=.int .i64 x5_1∧Aside0 (qs_.l0 kq l0 x1_1 x5_1=some r)∧Aside0 (kq≤k)∧Aside0 (Below w.heap.size w w'))
 case atStart=>exact ⟨(a1),(0),(by first|rfl|(simp;done)|(simp [*];done)),(by first|rfl|(simp;done)|(simp [*];done)),H',⟨Nat.le_refl _⟩,⟨by repeat (first|(with_reducible first|exact HB.out|apply qb_|apply qa_|apply qc_)|exact HB.out)⟩⟩
 case round =>
  clear H'
  try clear c2
  try clear p2
  obtain ⟨x1_1,x5_1,rfl,rfl,HA,HK1,HB⟩:=hrel
  cases gk with
  | zero=>exact absurd HA.out (by simp [qs_.l0])
  | succ k1 =>
   have H:=HA.out
   clear HA
   simp only [qs_.l0] at H
   by_cases c3:x5_1 < (l0.length:Int)
   ·rw [if_pos c3] at H
    have c3b0:decide (x5_1 < (l0.length:Int))=true:=decide_eq_true c3
    clear c3
    by_cases c4:0≤x5_1
    ·rw [if_pos c4] at H
     have c4b0:decide (0≤x5_1)=true:=decide_eq_true c4
     clear c4
     replace H:=Option.bind_eq_some_iff.mp H
     obtain ⟨t165,A50,H⟩:=H
     replace H:(if ((rd_T79 l0 x5_1).f0).toList=t165.toList then (if ((rd_T79 l0 x5_1).f1.f0)=(wrap64 (x1_1+1)) then (if ((rd_T79 l0 x5_1).f1.f1)=(wrap64 ((wrap64 (x1_1+1))+1)) then (qs_.l0 k1 l0 (wrap64 ((wrap64 ((wrap64 (x1_1+1))+1))+1)) (wrap64 (x5_1+1))) else (some (-1))) else (some (-1))) else (some (-1)))=some r:=H
     have A5:=aK A50
     clear A50
     by_cases c6:((rd_T79 l0 x5_1).f0).toList=t165.toList
     ·rw [if_pos c6] at H
      have c6b0:(((rd_T79 l0 x5_1).f0).toList == t165.toList)=true:=beq_iff_eq.mpr c6
      have c6b1:(((rd_T79 l0 x5_1).f0).toList != t165.toList)=false:=bne_eq_false_iff_eq.mpr c6
      clear c6
      by_cases c7:((rd_T79 l0 x5_1).f1.f0)=(wrap64 (x1_1+1))
      ·rw [if_pos c7] at H
       have c7b0:(((rd_T79 l0 x5_1).f1.f0) == (wrap64 (x1_1+1)))=true:=beq_iff_eq.mpr c7
       have c7b1:(((rd_T79 l0 x5_1).f1.f0) != (wrap64 (x1_1+1)))=false:=bne_eq_false_iff_eq.mpr c7
       clear c7
       by_cases c8:((rd_T79 l0 x5_1).f1.f1)=(wrap64 ((wrap64 (x1_1+1))+1))
       ·rw [if_pos c8] at H
        have c8b0:(((rd_T79 l0 x5_1).f1.f1) == (wrap64 ((wrap64 (x1_1+1))+1)))=true:=beq_iff_eq.mpr c8
        have c8b1:(((rd_T79 l0 x5_1).f1.f1) != (wrap64 ((wrap64 (x1_1+1))+1)))=false:=bne_eq_false_iff_eq.mpr c8
        clear c8
        have H':=aK H
        clear H
        try go_wp2
        have n0_:=aK (qc_ HB.out)
        clear HB
        have HB:=n0_
        clear n0_
        have p164:0≤(x5_1:Int):=of_decide_eq_true (by first|(with_reducible assumption)|assumption)
        have q164:x5_1 < (l0.length:Int):=of_decide_eq_true (by first|(with_reducible assumption)|assumption)
        obtain ⟨ad164,e164,hx164_0,hx164_1,hx164_2⟩:=at_T79 HR0.out x5_1 p164 q164
        have hw164_2:=hx164_2
        have hw164_1:=hx164_1
        have hw164_0:=hx164_0
        cases e164
        replace hx164_0:=(HB.out.cell (World.block_lt_of_cell? w _ hx164_0)).trans hx164_0
        replace hx164_1:=(HB.out.cell (World.block_lt_of_cell? w _ hx164_1)).trans hx164_1
        replace hx164_2:=(HB.out.cell (World.block_lt_of_cell? w _ hx164_2)).trans hx164_2
        replace p164:=eq_true p164
        replace q164:=eq_true q164
        refine start_ (n:=8) (S:=fun w'=>w'.cell? (ad164.add ((x5_1).toNat * 3))=some (.string ((rd_T79 l0 x5_1).f0))∧w'.cell? ⟨(ad164.add ((x5_1).toNat * 3)).block,(ad164.add ((x5_1).toNat * 3)).off+1,none⟩=some (.int .i64 ((rd_T79 l0 x5_1).f1.f0))∧w'.cell? ⟨(ad164.add ((x5_1).toNat * 3)).block,(ad164.add ((x5_1).toNat * 3)).off+2,none⟩=some (.int .i64 ((rd_T79 l0 x5_1).f1.f1))) (ds:=[]) #[fF,fF,fF,fF,fF,fF,fF,fF] (by kernel_rfl) rfl rfl ⟨((HB.out.cell (World.block_lt_of_cell? w _ hw164_0)).trans hw164_0),((HB.out.cell (World.block_lt_of_cell? w _ hw164_1)).trans hw164_1),((HB.out.cell (World.block_lt_of_cell? w _ hw164_2)).trans hw164_2)⟩ (fun hHeld=>?_);refine with_tabW qs_.tab4 qs_.bits4 (fun HT_ HW_=>?_)
        generalize wr.drew=w9 at HB hx164_0 hx164_1 hx164_2 hHeld ⊢
        refine pure_ (i:=0) (N:=some 12) (v:=?_) (a':=?_) #[tT,fF,fF,fF,fF,fF,fF,fF] rfl rfl (any_of HT_.out (by kernel_rfl)) (fun _ _ _ h=>h) (Or.inl ⟨by rfl,?_⟩) ?_ ?_
        rotate_left
        ·intro w'
         go_simp
         with_reducible rfl
        rotate_left
        ·simp only [Act.put,List.setIfInBounds_toArray,List.set_cons_zero,List.set_cons_succ,i64_w,i32_w]
         rfl
        refine pure_ (i:=1) (N:=some 13) (v:=?_) (a':=?_) #[tT,tT,fF,fF,fF,fF,fF,fF] rfl rfl (any_of HT_.out (by kernel_rfl)) (fun _ _ _ h=>h) (Or.inl ⟨by rfl,?_⟩) ?_ ?_
        rotate_left
        ·intro w'
         go_simp
         with_reducible rfl
        rotate_left
        ·simp only [Act.put,List.setIfInBounds_toArray,List.set_cons_zero,List.set_cons_succ,i64_w,i32_w]
         rfl
        refine pure_ (i:=2) (N:=some 14) (v:=?_) (a':=?_) #[tT,tT,tT,fF,fF,fF,fF,fF] rfl rfl (any_of HT_.out (by kernel_rfl)) (fun _ _ _ h=>h) (Or.inl ⟨by rfl,?_⟩) ?_ ?_
        rotate_left
        ·intro w'
         go_simp
         with_reducible rfl
        rotate_left
        ·simp only [Act.put,List.setIfInBounds_toArray,List.set_cons_zero,List.set_cons_succ,i64_w,i32_w]
         rfl
        refine pure_ (i:=3) (N:=some 15) (v:=?_) (a':=?_) #[tT,tT,tT,tT,fF,fF,fF,fF] rfl rfl (any_of HT_.out (by kernel_rfl)) (fun _ _ _ h=>h) (Or.inl ⟨by rfl,?_⟩) ?_ ?_
        rotate_left
        ·intro w'
         go_simp
         with_reducible rfl
        rotate_left
        ·simp only [Act.put,List.setIfInBounds_toArray,List.set_cons_zero,List.set_cons_succ,i64_w,i32_w]
         rfl
        refine pure_ (i:=5) (N:=some 17) (v:=?_) (a':=?_) #[tT,tT,tT,tT,fF,tT,fF,fF] rfl rfl (any_of HT_.out (by kernel_rfl)) (fun _ _ _ h=>h) (Or.inl ⟨by rfl,?_⟩) ?_ ?_
        rotate_left
        ·intro w'
         go_simp
         with_reducible rfl
        rotate_left
        ·simp only [Act.put,List.setIfInBounds_toArray,List.set_cons_zero,List.set_cons_succ,i64_w,i32_w]
         rfl
        refine take_ (i:=4) (N:=some 16) (v:=?_) (a':=?_) #[tT,tT,tT,tT,tT,tT,fF,fF] rfl rfl (take_ofW HT_.out HW_.out (by kernel_rfl)) (fun _ _ _ h=>h) (Or.inl ⟨by rfl,?_⟩) hHeld ?_ ?_
        rotate_left
        ·rintro w' ⟨s0,s1,s2⟩
         go_simp
         with_reducible rfl
        rotate_left
        ·simp only [Act.put,List.setIfInBounds_toArray,List.set_cons_zero,List.set_cons_succ,i64_w,i32_w]
         rfl
        refine one_ (i:=6) (N:=some 18) #[tT,tT,tT,tT,tT,tT,tT,fF] rfl rfl (one_of HT_.out (by kernel_rfl)) (by decide) (fun K hK=>?_)
        refine goes_ Try.func81 (by kernel_rfl) rfl #[.int .i64 x1_1] (by rfl) rfl rfl (by (try simp only [List.map_toArray,List.map_cons,List.map_nil]);first|done|rfl|(simp only [List.length_drop,List.length_take];rfl)) ?_
        with_reducible refine (qz_.calls k1 x1_1 t165 _ A5.out).mono ?_
        rintro e w10 ⟨rfl,hb⟩
        refine ⟨_,rfl,?_⟩
        have n0_:=aK (qj_ (by repeat (first|(with_reducible first|exact HB.out|apply qb_|apply qa_|apply qc_)|exact HB.out)) hb)
        clear HB
        have HB:=n0_
        clear n0_
        (try clear hb)
        (try clear hb2)
        (try clear hk)
        (try clear hi)
        refine hK.out _ _ ⟨((HB.out.cell (World.block_lt_of_cell? w _ hw164_0)).trans hw164_0),((HB.out.cell (World.block_lt_of_cell? w _ hw164_1)).trans hw164_1),((HB.out.cell (World.block_lt_of_cell? w _ hw164_2)).trans hw164_2)⟩ (fun hHeld=>?_)
        clear hK K
        refine norm_ (a':=?_) ?_ ?_
        rotate_left
        ·show Act.put _ (some 18) _=_
         simp only [Act.put,List.setIfInBounds_toArray,List.set_cons_zero,List.set_cons_succ,i64_w,i32_w]
         rfl
        refine pure_ (i:=7) (N:=some 19) (v:=?_) (a':=?_) #[tT,tT,tT,tT,tT,tT,tT,tT] rfl rfl (any_of HT_.out (by kernel_rfl)) (fun _ _ _ h=>h) (Or.inl ⟨by rfl,?_⟩) ?_ ?_
        rotate_left
        ·intro w'
         go_simp
         with_reducible rfl
        rotate_left
        ·simp only [Act.put,List.setIfInBounds_toArray,List.set_cons_zero,List.set_cons_succ,i64_w,i32_w]
         rfl
        refine done_ (done_of HT_.out (by kernel_rfl)) ?_
        have p166:0≤(x5_1:Int):=of_decide_eq_true (by first|(with_reducible assumption)|assumption)
        have q166:x5_1 < (l0.length:Int):=of_decide_eq_true (by first|(with_reducible assumption)|assumption)
        obtain ⟨ad166,e166,hx166_0,hx166_1,hx166_2⟩:=at_T79 HR0.out x5_1 p166 q166
        obtain rfl:ad164=ad166:=(by injection e166)
        replace hx166_0:=(HB.out.cell (World.block_lt_of_cell? w _ hx166_0)).trans hx166_0
        replace hx166_1:=(HB.out.cell (World.block_lt_of_cell? w _ hx166_1)).trans hx166_1
        replace hx166_2:=(HB.out.cell (World.block_lt_of_cell? w _ hx166_2)).trans hx166_2
        replace p166:=eq_true p166
        replace q166:=eq_true q166
        have p167:0≤(x5_1:Int):=of_decide_eq_true (by first|(with_reducible assumption)|assumption)
        have q167:x5_1 < (l0.length:Int):=of_decide_eq_true (by first|(with_reducible assumption)|assumption)
        obtain ⟨ad167,e167,hx167_0,hx167_1,hx167_2⟩:=at_T79 HR0.out x5_1 p167 q167
        obtain rfl:ad164=ad167:=(by injection e167)
        replace hx167_0:=(HB.out.cell (World.block_lt_of_cell? w _ hx167_0)).trans hx167_0
        replace hx167_1:=(HB.out.cell (World.block_lt_of_cell? w _ hx167_1)).trans hx167_1
        replace hx167_2:=(HB.out.cell (World.block_lt_of_cell? w _ hx167_2)).trans hx167_2
        replace p167:=eq_true p167
        replace q167:=eq_true q167
        try go_wp2
        go_roundg k1
        case measure=>have:=HK1.out;omega
        case rel=>exact ⟨(wrap64 ((wrap64 ((wrap64 (x1_1+1))+1))+1)),(wrap64 (x5_1+1)),(by first|rfl|(simp;done)|(simp [*];done)),(by first|rfl|(simp;done)|(simp [*];done)),H',⟨by have:=HK1.out;omega⟩,⟨by repeat (first|(with_reducible first|exact HB.out|apply qb_|apply qa_|apply qc_)|exact HB.out)⟩⟩
       ·rw [if_neg c8] at H
        have c8b0:(((rd_T79 l0 x5_1).f1.f1) == (wrap64 ((wrap64 (x1_1+1))+1)))=false:=beq_eq_false_iff_ne.mpr c8
        have c8b1:(((rd_T79 l0 x5_1).f1.f1) != (wrap64 ((wrap64 (x1_1+1))+1)))=true:=bne_iff_ne.mpr c8
        obtain rfl:=Option.some.inj H
        try go_wp2
        have n0_:=aK (qc_ HB.out)
        clear HB
        have HB:=n0_
        clear n0_
        have p164:0≤(x5_1:Int):=of_decide_eq_true (by first|(with_reducible assumption)|assumption)
        have q164:x5_1 < (l0.length:Int):=of_decide_eq_true (by first|(with_reducible assumption)|assumption)
        obtain ⟨ad164,e164,hx164_0,hx164_1,hx164_2⟩:=at_T79 HR0.out x5_1 p164 q164
        have hw164_2:=hx164_2
        have hw164_1:=hx164_1
        have hw164_0:=hx164_0
        cases e164
        replace hx164_0:=(HB.out.cell (World.block_lt_of_cell? w _ hx164_0)).trans hx164_0
        replace hx164_1:=(HB.out.cell (World.block_lt_of_cell? w _ hx164_1)).trans hx164_1
        replace hx164_2:=(HB.out.cell (World.block_lt_of_cell? w _ hx164_2)).trans hx164_2
        replace p164:=eq_true p164
        replace q164:=eq_true q164
        refine start_ (n:=8) (S:=fun w'=>w'.cell? (ad164.add ((x5_1).toNat * 3))=some (.string ((rd_T79 l0 x5_1).f0))∧w'.cell? ⟨(ad164.add ((x5_1).toNat * 3)).block,(ad164.add ((x5_1).toNat * 3)).off+1,none⟩=some (.int .i64 ((rd_T79 l0 x5_1).f1.f0))∧w'.cell? ⟨(ad164.add ((x5_1).toNat * 3)).block,(ad164.add ((x5_1).toNat * 3)).off+2,none⟩=some (.int .i64 ((rd_T79 l0 x5_1).f1.f1))) (ds:=[]) #[fF,fF,fF,fF,fF,fF,fF,fF] (by kernel_rfl) rfl rfl ⟨((HB.out.cell (World.block_lt_of_cell? w _ hw164_0)).trans hw164_0),((HB.out.cell (World.block_lt_of_cell? w _ hw164_1)).trans hw164_1),((HB.out.cell (World.block_lt_of_cell? w _ hw164_2)).trans hw164_2)⟩ (fun hHeld=>?_);refine with_tabW qs_.tab4 qs_.bits4 (fun HT_ HW_=>?_)
        generalize wr.drew=w11 at HB hx164_0 hx164_1 hx164_2 hHeld ⊢
        refine pure_ (i:=0) (N:=some 12) (v:=?_) (a':=?_) #[tT,fF,fF,fF,fF,fF,fF,fF] rfl rfl (any_of HT_.out (by kernel_rfl)) (fun _ _ _ h=>h) (Or.inl ⟨by rfl,?_⟩) ?_ ?_
        rotate_left
        ·intro w'
         go_simp
         with_reducible rfl
        rotate_left
        ·simp only [Act.put,List.setIfInBounds_toArray,List.set_cons_zero,List.set_cons_succ,i64_w,i32_w]
         rfl
        refine pure_ (i:=1) (N:=some 13) (v:=?_) (a':=?_) #[tT,tT,fF,fF,fF,fF,fF,fF] rfl rfl (any_of HT_.out (by kernel_rfl)) (fun _ _ _ h=>h) (Or.inl ⟨by rfl,?_⟩) ?_ ?_
        rotate_left
        ·intro w'
         go_simp
         with_reducible rfl
        rotate_left
        ·simp only [Act.put,List.setIfInBounds_toArray,List.set_cons_zero,List.set_cons_succ,i64_w,i32_w]
         rfl
        refine pure_ (i:=2) (N:=some 14) (v:=?_) (a':=?_) #[tT,tT,tT,fF,fF,fF,fF,fF] rfl rfl (any_of HT_.out (by kernel_rfl)) (fun _ _ _ h=>h) (Or.inl ⟨by rfl,?_⟩) ?_ ?_
        rotate_left
        ·intro w'
         go_simp
         with_reducible rfl
        rotate_left
        ·simp only [Act.put,List.setIfInBounds_toArray,List.set_cons_zero,List.set_cons_succ,i64_w,i32_w]
         rfl
        refine pure_ (i:=3) (N:=some 15) (v:=?_) (a':=?_) #[tT,tT,tT,tT,fF,fF,fF,fF] rfl rfl (any_of HT_.out (by kernel_rfl)) (fun _ _ _ h=>h) (Or.inl ⟨by rfl,?_⟩) ?_ ?_
        rotate_left
        ·intro w'
         go_simp
         with_reducible rfl
        rotate_left
        ·simp only [Act.put,List.setIfInBounds_toArray,List.set_cons_zero,List.set_cons_succ,i64_w,i32_w]
         rfl
        refine pure_ (i:=5) (N:=some 17) (v:=?_) (a':=?_) #[tT,tT,tT,tT,fF,tT,fF,fF] rfl rfl (any_of HT_.out (by kernel_rfl)) (fun _ _ _ h=>h) (Or.inl ⟨by rfl,?_⟩) ?_ ?_
        rotate_left
        ·intro w'
         go_simp
         with_reducible rfl
        rotate_left
        ·simp only [Act.put,List.setIfInBounds_toArray,List.set_cons_zero,List.set_cons_succ,i64_w,i32_w]
         rfl
        refine take_ (i:=4) (N:=some 16) (v:=?_) (a':=?_) #[tT,tT,tT,tT,tT,tT,fF,fF] rfl rfl (take_ofW HT_.out HW_.out (by kernel_rfl)) (fun _ _ _ h=>h) (Or.inl ⟨by rfl,?_⟩) hHeld ?_ ?_
        rotate_left
        ·rintro w' ⟨s0,s1,s2⟩
         go_simp
         with_reducible rfl
        rotate_left
        ·simp only [Act.put,List.setIfInBounds_toArray,List.set_cons_zero,List.set_cons_succ,i64_w,i32_w]
         rfl
        refine one_ (i:=6) (N:=some 18) #[tT,tT,tT,tT,tT,tT,tT,fF] rfl rfl (one_of HT_.out (by kernel_rfl)) (by decide) (fun K hK=>?_)
        refine goes_ Try.func81 (by kernel_rfl) rfl #[.int .i64 x1_1] (by rfl) rfl rfl (by (try simp only [List.map_toArray,List.map_cons,List.map_nil]);first|done|rfl|(simp only [List.length_drop,List.length_take];rfl)) ?_
        with_reducible refine (qz_.calls k1 x1_1 t165 _ A5.out).mono ?_
        rintro e w12 ⟨rfl,hb⟩
        refine ⟨_,rfl,?_⟩
        have n0_:=aK (qj_ (by repeat (first|(with_reducible first|exact HB.out|apply qb_|apply qa_|apply qc_)|exact HB.out)) hb)
        clear HB
        have HB:=n0_
        clear n0_
        (try clear hb)
        (try clear hb2)
        (try clear hk)
        (try clear hi)
        refine hK.out _ _ ⟨((HB.out.cell (World.block_lt_of_cell? w _ hw164_0)).trans hw164_0),((HB.out.cell (World.block_lt_of_cell? w _ hw164_1)).trans hw164_1),((HB.out.cell (World.block_lt_of_cell? w _ hw164_2)).trans hw164_2)⟩ (fun hHeld=>?_)
        clear hK K
        refine norm_ (a':=?_) ?_ ?_
        rotate_left
        ·show Act.put _ (some 18) _=_
         simp only [Act.put,List.setIfInBounds_toArray,List.set_cons_zero,List.set_cons_succ,i64_w,i32_w]
         rfl
        refine pure_ (i:=7) (N:=some 19) (v:=?_) (a':=?_) #[tT,tT,tT,tT,tT,tT,tT,tT] rfl rfl (any_of HT_.out (by kernel_rfl)) (fun _ _ _ h=>h) (Or.inl ⟨by rfl,?_⟩) ?_ ?_
        rotate_left
        ·intro w'
         go_simp
         with_reducible rfl
        rotate_left
        ·simp only [Act.put,List.setIfInBounds_toArray,List.set_cons_zero,List.set_cons_succ,i64_w,i32_w]
         rfl
        refine done_ (done_of HT_.out (by kernel_rfl)) ?_
        have p166:0≤(x5_1:Int):=of_decide_eq_true (by first|(with_reducible assumption)|assumption)
        have q166:x5_1 < (l0.length:Int):=of_decide_eq_true (by first|(with_reducible assumption)|assumption)
        obtain ⟨ad166,e166,hx166_0,hx166_1,hx166_2⟩:=at_T79 HR0.out x5_1 p166 q166
        obtain rfl:ad164=ad166:=(by injection e166)
        replace hx166_0:=(HB.out.cell (World.block_lt_of_cell? w _ hx166_0)).trans hx166_0
        replace hx166_1:=(HB.out.cell (World.block_lt_of_cell? w _ hx166_1)).trans hx166_1
        replace hx166_2:=(HB.out.cell (World.block_lt_of_cell? w _ hx166_2)).trans hx166_2
        replace p166:=eq_true p166
        replace q166:=eq_true q166
        have p167:0≤(x5_1:Int):=of_decide_eq_true (by first|(with_reducible assumption)|assumption)
        have q167:x5_1 < (l0.length:Int):=of_decide_eq_true (by first|(with_reducible assumption)|assumption)
        obtain ⟨ad167,e167,hx167_0,hx167_1,hx167_2⟩:=at_T79 HR0.out x5_1 p167 q167
        obtain rfl:ad164=ad167:=(by injection e167)
        replace hx167_0:=(HB.out.cell (World.block_lt_of_cell? w _ hx167_0)).trans hx167_0
        replace hx167_1:=(HB.out.cell (World.block_lt_of_cell? w _ hx167_1)).trans hx167_1
        replace hx167_2:=(HB.out.cell (World.block_lt_of_cell? w _ hx167_2)).trans hx167_2
        replace p167:=eq_true p167
        replace q167:=eq_true q167
        try go_wp2
        go_ret
        exact ⟨by first|rfl|(simp [qo_,qn_] <;> rfl)|(simp [*,qo_,qn_] <;> rfl),by repeat (first|(with_reducible first|exact HB.out|apply qb_|apply qa_|apply qc_)|exact HB.out)⟩
      ·rw [if_neg c7] at H
       have c7b0:(((rd_T79 l0 x5_1).f1.f0) == (wrap64 (x1_1+1)))=false:=beq_eq_false_iff_ne.mpr c7
       have c7b1:(((rd_T79 l0 x5_1).f1.f0) != (wrap64 (x1_1+1)))=true:=bne_iff_ne.mpr c7
       obtain rfl:=Option.some.inj H
       try go_wp2
       have n0_:=aK (qc_ HB.out)
       clear HB
       have HB:=n0_
       clear n0_
       have p164:0≤(x5_1:Int):=of_decide_eq_true (by first|(with_reducible assumption)|assumption)
       have q164:x5_1 < (l0.length:Int):=of_decide_eq_true (by first|(with_reducible assumption)|assumption)
       obtain ⟨ad164,e164,hx164_0,hx164_1,hx164_2⟩:=at_T79 HR0.out x5_1 p164 q164
       have hw164_2:=hx164_2
       have hw164_1:=hx164_1
       have hw164_0:=hx164_0
       cases e164
       replace hx164_0:=(HB.out.cell (World.block_lt_of_cell? w _ hx164_0)).trans hx164_0
       replace hx164_1:=(HB.out.cell (World.block_lt_of_cell? w _ hx164_1)).trans hx164_1
       replace hx164_2:=(HB.out.cell (World.block_lt_of_cell? w _ hx164_2)).trans hx164_2
       replace p164:=eq_true p164
       replace q164:=eq_true q164
       refine start_ (n:=8) (S:=fun w'=>w'.cell? (ad164.add ((x5_1).toNat * 3))=some (.string ((rd_T79 l0 x5_1).f0))∧w'.cell? ⟨(ad164.add ((x5_1).toNat * 3)).block,(ad164.add ((x5_1).toNat * 3)).off+1,none⟩=some (.int .i64 ((rd_T79 l0 x5_1).f1.f0))∧w'.cell? ⟨(ad164.add ((x5_1).toNat * 3)).block,(ad164.add ((x5_1).toNat * 3)).off+2,none⟩=some (.int .i64 ((rd_T79 l0 x5_1).f1.f1))) (ds:=[]) #[fF,fF,fF,fF,fF,fF,fF,fF] (by kernel_rfl) rfl rfl ⟨((HB.out.cell (World.block_lt_of_cell? w _ hw164_0)).trans hw164_0),((HB.out.cell (World.block_lt_of_cell? w _ hw164_1)).trans hw164_1),((HB.out.cell (World.block_lt_of_cell? w _ hw164_2)).trans hw164_2)⟩ (fun hHeld=>?_);refine with_tabW qs_.tab4 qs_.bits4 (fun HT_ HW_=>?_)
       generalize wr.drew=w13 at HB hx164_0 hx164_1 hx164_2 hHeld ⊢
       refine pure_ (i:=0) (N:=some 12) (v:=?_) (a':=?_) #[tT,fF,fF,fF,fF,fF,fF,fF] rfl rfl (any_of HT_.out (by kernel_rfl)) (fun _ _ _ h=>h) (Or.inl ⟨by rfl,?_⟩) ?_ ?_
       rotate_left
       ·intro w'
        go_simp
        with_reducible rfl
       rotate_left
       ·simp only [Act.put,List.setIfInBounds_toArray,List.set_cons_zero,List.set_cons_succ,i64_w,i32_w]
        rfl
       refine pure_ (i:=1) (N:=some 13) (v:=?_) (a':=?_) #[tT,tT,fF,fF,fF,fF,fF,fF] rfl rfl (any_of HT_.out (by kernel_rfl)) (fun _ _ _ h=>h) (Or.inl ⟨by rfl,?_⟩) ?_ ?_
       rotate_left
       ·intro w'
        go_simp
        with_reducible rfl
       rotate_left
       ·simp only [Act.put,List.setIfInBounds_toArray,List.set_cons_zero,List.set_cons_succ,i64_w,i32_w]
        rfl
       refine pure_ (i:=2) (N:=some 14) (v:=?_) (a':=?_) #[tT,tT,tT,fF,fF,fF,fF,fF] rfl rfl (any_of HT_.out (by kernel_rfl)) (fun _ _ _ h=>h) (Or.inl ⟨by rfl,?_⟩) ?_ ?_
       rotate_left
       ·intro w'
        go_simp
        with_reducible rfl
       rotate_left
       ·simp only [Act.put,List.setIfInBounds_toArray,List.set_cons_zero,List.set_cons_succ,i64_w,i32_w]
        rfl
       refine pure_ (i:=3) (N:=some 15) (v:=?_) (a':=?_) #[tT,tT,tT,tT,fF,fF,fF,fF] rfl rfl (any_of HT_.out (by kernel_rfl)) (fun _ _ _ h=>h) (Or.inl ⟨by rfl,?_⟩) ?_ ?_
       rotate_left
       ·intro w'
        go_simp
        with_reducible rfl
       rotate_left
       ·simp only [Act.put,List.setIfInBounds_toArray,List.set_cons_zero,List.set_cons_succ,i64_w,i32_w]
        rfl
       refine pure_ (i:=5) (N:=some 17) (v:=?_) (a':=?_) #[tT,tT,tT,tT,fF,tT,fF,fF] rfl rfl (any_of HT_.out (by kernel_rfl)) (fun _ _ _ h=>h) (Or.inl ⟨by rfl,?_⟩) ?_ ?_
       rotate_left
       ·intro w'
        go_simp
        with_reducible rfl
       rotate_left
       ·simp only [Act.put,List.setIfInBounds_toArray,List.set_cons_zero,List.set_cons_succ,i64_w,i32_w]
        rfl
       refine take_ (i:=4) (N:=some 16) (v:=?_) (a':=?_) #[tT,tT,tT,tT,tT,tT,fF,fF] rfl rfl (take_ofW HT_.out HW_.out (by kernel_rfl)) (fun _ _ _ h=>h) (Or.inl ⟨by rfl,?_⟩) hHeld ?_ ?_
       rotate_left
       ·rintro w' ⟨s0,s1,s2⟩
        go_simp
        with_reducible rfl
       rotate_left
       ·simp only [Act.put,List.setIfInBounds_toArray,List.set_cons_zero,List.set_cons_succ,i64_w,i32_w]
        rfl
       refine one_ (i:=6) (N:=some 18) #[tT,tT,tT,tT,tT,tT,tT,fF] rfl rfl (one_of HT_.out (by kernel_rfl)) (by decide) (fun K hK=>?_)
       refine goes_ Try.func81 (by kernel_rfl) rfl #[.int .i64 x1_1] (by rfl) rfl rfl (by (try simp only [List.map_toArray,List.map_cons,List.map_nil]);first|done|rfl|(simp only [List.length_drop,List.length_take];rfl)) ?_
       with_reducible refine (qz_.calls k1 x1_1 t165 _ A5.out).mono ?_
       rintro e w14 ⟨rfl,hb⟩
       refine ⟨_,rfl,?_⟩
       have n0_:=aK (qj_ (by repeat (first|(with_reducible first|exact HB.out|apply qb_|apply qa_|apply qc_)|exact HB.out)) hb)
       clear HB
       have HB:=n0_
       clear n0_
       (try clear hb)
       (try clear hb2)
       (try clear hk)
       (try clear hi)
       refine hK.out _ _ ⟨((HB.out.cell (World.block_lt_of_cell? w _ hw164_0)).trans hw164_0),((HB.out.cell (World.block_lt_of_cell? w _ hw164_1)).trans hw164_1),((HB.out.cell (World.block_lt_of_cell? w _ hw164_2)).trans hw164_2)⟩ (fun hHeld=>?_)
       clear hK K
       refine norm_ (a':=?_) ?_ ?_
       rotate_left
       ·show Act.put _ (some 18) _=_
        simp only [Act.put,List.setIfInBounds_toArray,List.set_cons_zero,List.set_cons_succ,i64_w,i32_w]
        rfl
       refine pure_ (i:=7) (N:=some 19) (v:=?_) (a':=?_) #[tT,tT,tT,tT,tT,tT,tT,tT] rfl rfl (any_of HT_.out (by kernel_rfl)) (fun _ _ _ h=>h) (Or.inl ⟨by rfl,?_⟩) ?_ ?_
       rotate_left
       ·intro w'
        go_simp
        with_reducible rfl
       rotate_left
       ·simp only [Act.put,List.setIfInBounds_toArray,List.set_cons_zero,List.set_cons_succ,i64_w,i32_w]
        rfl
       refine done_ (done_of HT_.out (by kernel_rfl)) ?_
       have p166:0≤(x5_1:Int):=of_decide_eq_true (by first|(with_reducible assumption)|assumption)
       have q166:x5_1 < (l0.length:Int):=of_decide_eq_true (by first|(with_reducible assumption)|assumption)
       obtain ⟨ad166,e166,hx166_0,hx166_1,hx166_2⟩:=at_T79 HR0.out x5_1 p166 q166
       obtain rfl:ad164=ad166:=(by injection e166)
       replace hx166_0:=(HB.out.cell (World.block_lt_of_cell? w _ hx166_0)).trans hx166_0
       replace hx166_1:=(HB.out.cell (World.block_lt_of_cell? w _ hx166_1)).trans hx166_1
       replace hx166_2:=(HB.out.cell (World.block_lt_of_cell? w _ hx166_2)).trans hx166_2
       replace p166:=eq_true p166
       replace q166:=eq_true q166
       try go_wp2
       go_ret
       exact ⟨by first|rfl|(simp [qo_,qn_] <;> rfl)|(simp [*,qo_,qn_] <;> rfl),by repeat (first|(with_reducible first|exact HB.out|apply qb_|apply qa_|apply qc_)|exact HB.out)⟩
     ·rw [if_neg c6] at H
      have c6b0:(((rd_T79 l0 x5_1).f0).toList == t165.toList)=false:=beq_eq_false_iff_ne.mpr c6
      have c6b1:(((rd_T79 l0 x5_1).f0).toList != t165.toList)=true:=bne_iff_ne.mpr c6
      obtain rfl:=Option.some.inj H
      try go_wp2
      have n0_:=aK (qc_ HB.out)
      clear HB
      have HB:=n0_
      clear n0_
      have p164:0≤(x5_1:Int):=of_decide_eq_true (by first|(with_reducible assumption)|assumption)
      have q164:x5_1 < (l0.length:Int):=of_decide_eq_true (by first|(with_reducible assumption)|assumption)
      obtain ⟨ad164,e164,hx164_0,hx164_1,hx164_2⟩:=at_T79 HR0.out x5_1 p164 q164
      have hw164_2:=hx164_2
      have hw164_1:=hx164_1
      have hw164_0:=hx164_0
      cases e164
      replace hx164_0:=(HB.out.cell (World.block_lt_of_cell? w _ hx164_0)).trans hx164_0
      replace hx164_1:=(HB.out.cell (World.block_lt_of_cell? w _ hx164_1)).trans hx164_1
      replace hx164_2:=(HB.out.cell (World.block_lt_of_cell? w _ hx164_2)).trans hx164_2
      replace p164:=eq_true p164
      replace q164:=eq_true q164
      refine start_ (n:=8) (S:=fun w'=>w'.cell? (ad164.add ((x5_1).toNat * 3))=some (.string ((rd_T79 l0 x5_1).f0))∧w'.cell? ⟨(ad164.add ((x5_1).toNat * 3)).block,(ad164.add ((x5_1).toNat * 3)).off+1,none⟩=some (.int .i64 ((rd_T79 l0 x5_1).f1.f0))∧w'.cell? ⟨(ad164.add ((x5_1).toNat * 3)).block,(ad164.add ((x5_1).toNat * 3)).off+2,none⟩=some (.int .i64 ((rd_T79 l0 x5_1).f1.f1))) (ds:=[]) #[fF,fF,fF,fF,fF,fF,fF,fF] (by kernel_rfl) rfl rfl ⟨((HB.out.cell (World.block_lt_of_cell? w _ hw164_0)).trans hw164_0),((HB.out.cell (World.block_lt_of_cell? w _ hw164_1)).trans hw164_1),((HB.out.cell (World.block_lt_of_cell? w _ hw164_2)).trans hw164_2)⟩ (fun hHeld=>?_);refine with_tabW qs_.tab4 qs_.bits4 (fun HT_ HW_=>?_)
      generalize wr.drew=w15 at HB hx164_0 hx164_1 hx164_2 hHeld ⊢
      refine pure_ (i:=0) (N:=some 12) (v:=?_) (a':=?_) #[tT,fF,fF,fF,fF,fF,fF,fF] rfl rfl (any_of HT_.out (by kernel_rfl)) (fun _ _ _ h=>h) (Or.inl ⟨by rfl,?_⟩) ?_ ?_
      rotate_left
      ·intro w'
       go_simp
       with_reducible rfl
      rotate_left
      ·simp only [Act.put,List.setIfInBounds_toArray,List.set_cons_zero,List.set_cons_succ,i64_w,i32_w]
       rfl
      refine pure_ (i:=1) (N:=some 13) (v:=?_) (a':=?_) #[tT,tT,fF,fF,fF,fF,fF,fF] rfl rfl (any_of HT_.out (by kernel_rfl)) (fun _ _ _ h=>h) (Or.inl ⟨by rfl,?_⟩) ?_ ?_
      rotate_left
      ·intro w'
       go_simp
       with_reducible rfl
      rotate_left
      ·simp only [Act.put,List.setIfInBounds_toArray,List.set_cons_zero,List.set_cons_succ,i64_w,i32_w]
       rfl
      refine pure_ (i:=2) (N:=some 14) (v:=?_) (a':=?_) #[tT,tT,tT,fF,fF,fF,fF,fF] rfl rfl (any_of HT_.out (by kernel_rfl)) (fun _ _ _ h=>h) (Or.inl ⟨by rfl,?_⟩) ?_ ?_
      rotate_left
      ·intro w'
       go_simp
       with_reducible rfl
      rotate_left
      ·simp only [Act.put,List.setIfInBounds_toArray,List.set_cons_zero,List.set_cons_succ,i64_w,i32_w]
       rfl
      refine pure_ (i:=3) (N:=some 15) (v:=?_) (a':=?_) #[tT,tT,tT,tT,fF,fF,fF,fF] rfl rfl (any_of HT_.out (by kernel_rfl)) (fun _ _ _ h=>h) (Or.inl ⟨by rfl,?_⟩) ?_ ?_
      rotate_left
      ·intro w'
       go_simp
       with_reducible rfl
      rotate_left
      ·simp only [Act.put,List.setIfInBounds_toArray,List.set_cons_zero,List.set_cons_succ,i64_w,i32_w]
       rfl
      refine pure_ (i:=5) (N:=some 17) (v:=?_) (a':=?_) #[tT,tT,tT,tT,fF,tT,fF,fF] rfl rfl (any_of HT_.out (by kernel_rfl)) (fun _ _ _ h=>h) (Or.inl ⟨by rfl,?_⟩) ?_ ?_
      rotate_left
      ·intro w'
       go_simp
       with_reducible rfl
      rotate_left
      ·simp only [Act.put,List.setIfInBounds_toArray,List.set_cons_zero,List.set_cons_succ,i64_w,i32_w]
       rfl
      refine take_ (i:=4) (N:=some 16) (v:=?_) (a':=?_) #[tT,tT,tT,tT,tT,tT,fF,fF] rfl rfl (take_ofW HT_.out HW_.out (by kernel_rfl)) (fun _ _ _ h=>h) (Or.inl ⟨by rfl,?_⟩) hHeld ?_ ?_
      rotate_left
      ·rintro w' ⟨s0,s1,s2⟩
       go_simp
       with_reducible rfl
      rotate_left
      ·simp only [Act.put,List.setIfInBounds_toArray,List.set_cons_zero,List.set_cons_succ,i64_w,i32_w]
       rfl
      refine one_ (i:=6) (N:=some 18) #[tT,tT,tT,tT,tT,tT,tT,fF] rfl rfl (one_of HT_.out (by kernel_rfl)) (by decide) (fun K hK=>?_)
      refine goes_ Try.func81 (by kernel_rfl) rfl #[.int .i64 x1_1] (by rfl) rfl rfl (by (try simp only [List.map_toArray,List.map_cons,List.map_nil]);first|done|rfl|(simp only [List.length_drop,List.length_take];rfl)) ?_
      with_reducible refine (qz_.calls k1 x1_1 t165 _ A5.out).mono ?_
      rintro e w16 ⟨rfl,hb⟩
      refine ⟨_,rfl,?_⟩
      have n0_:=aK (qj_ (by repeat (first|(with_reducible first|exact HB.out|apply qb_|apply qa_|apply qc_)|exact HB.out)) hb)
      clear HB
      have HB:=n0_
      clear n0_
      (try clear hb)
      (try clear hb2)
      (try clear hk)
      (try clear hi)
      refine hK.out _ _ ⟨((HB.out.cell (World.block_lt_of_cell? w _ hw164_0)).trans hw164_0),((HB.out.cell (World.block_lt_of_cell? w _ hw164_1)).trans hw164_1),((HB.out.cell (World.block_lt_of_cell? w _ hw164_2)).trans hw164_2)⟩ (fun hHeld=>?_)
      clear hK K
      refine norm_ (a':=?_) ?_ ?_
      rotate_left
      ·show Act.put _ (some 18) _=_
       simp only [Act.put,List.setIfInBounds_toArray,List.set_cons_zero,List.set_cons_succ,i64_w,i32_w]
       rfl
      refine pure_ (i:=7) (N:=some 19) (v:=?_) (a':=?_) #[tT,tT,tT,tT,tT,tT,tT,tT] rfl rfl (any_of HT_.out (by kernel_rfl)) (fun _ _ _ h=>h) (Or.inl ⟨by rfl,?_⟩) ?_ ?_
      rotate_left
      ·intro w'
       go_simp
       with_reducible rfl
      rotate_left
      ·simp only [Act.put,List.setIfInBounds_toArray,List.set_cons_zero,List.set_cons_succ,i64_w,i32_w]
       rfl
      refine done_ (done_of HT_.out (by kernel_rfl)) ?_
      try go_wp2
      go_ret
      exact ⟨by first|rfl|(simp [qo_,qn_] <;> rfl)|(simp [*,qo_,qn_] <;> rfl),by repeat (first|(with_reducible first|exact HB.out|apply qb_|apply qa_|apply qc_)|exact HB.out)⟩
    ·rw [if_neg c4] at H
     exact absurd H (by simp)
   ·rw [if_neg c3] at H
    have c3b0:decide (x5_1 < (l0.length:Int))=false:=decide_eq_false c3
    clear c3
    obtain rfl:=Option.some.inj H
    go_wp2
    go_ret
    exact ⟨by first|rfl|(simp [qo_,qn_] <;> rfl)|(simp [*,qo_,qn_] <;> rfl),by repeat (first|(with_reducible first|exact HB.out|apply qb_|apply qa_|apply qc_)|exact HB.out)⟩
end Go.Proofs.Ytaiefdhenikiiaa.Base
namespace Go.Proofs.Ytaiefdhenikiiaa.Base
open Go.RowKit Go.Proofs.YtaiefdhenikiiaaW.PrintWords Go.Proofs.YtaiefdhenikiiaaW.PrintLast Go.Proofs.YtaiefdhenikiiaaW.PrintMore
attribute [local go_sem] max2_int qo1_ max_two min_two max_three min_three max_four min_four Go.Proofs.YtaiefdhenikiiaaZ.qx_   -- for this text's walks alone
set_option linter.unusedVariables false
set_option linter.unusedSimpArgs false
def ql2_.f (a0:Int) (a1:Int):Option (Bool):=(qw1_.f a0 1 3).bind fun t205=>(if t205=true then ((qw1_.f a1 1 5).bind fun t206=>(if t206=true then (if a0 < 3 then (some true) else (some (decide (a1≤4)))) else (some false))) else (some false))
set_option maxHeartbeats 8000000 in
set_option maxRecDepth 100000 in
theorem ql2_.calls (a0:Int) (a1:Int) (r:Bool) (w:World) (h:ql2_.f a0 a1=some r) :
  Calls Try.prog 135 #[.int .i64 a0,.int .i64 a1] w fun e w'=>e=.returned (.bool r)∧Drawn0 w w':=by
 have H:((qw1_.f a0 1 3).bind fun t205=>(if t205=true then ((qw1_.f a1 1 5).bind fun t206=>(if t206=true then (if a0 < 3 then (some true) else (some (decide (a1≤4)))) else (some false))) else (some false)))=some r:=h
 clear h
 replace H:=Option.bind_eq_some_iff.mp H
 obtain ⟨t205,A30,H⟩:=H
 replace H:(if t205=true then ((qw1_.f a1 1 5).bind fun t206=>(if t206=true then (if a0 < 3 then (some true) else (some (decide (a1≤4)))) else (some false))) else (some false))=some r:=H
 have A3:=aK A30
 clear A30
 by_cases c4:t205=true
 ·subst c4
  have H1:((qw1_.f a1 1 5).bind fun t206=>(if t206=true then (if a0 < 3 then (some true) else (some (decide (a1≤4)))) else (some false)))=some r:=by rw [if_pos rfl] at H;exact H
  clear H
  have H:=H1
  clear H1
  replace H:=Option.bind_eq_some_iff.mp H
  obtain ⟨t206,A50,H⟩:=H
  replace H:(if t206=true then (if a0 < 3 then (some true) else (some (decide (a1≤4)))) else (some false))=some r:=H
  have A5:=aK A50
  clear A50
  by_cases c6:t206=true
  ·subst c6
   have H1:(if a0 < 3 then (some true) else (some (decide (a1≤4))))=some r:=by rw [if_pos rfl] at H;exact H
   clear H
   have H:=H1
   clear H1
   by_cases c7:a0 < 3
   ·rw [if_pos c7] at H
    have c7b0:decide (a0 < 3)=true:=decide_eq_true c7
    clear c7
    obtain rfl:=Option.some.inj H
    go_enter Try.func135,Try.ntmps135
    go_wp2_with (first|((with_reducible refine qa1_ (f:=107) rfl ?_);refine goesL_ (some 6) rfl rfl Try.func107 (by kernel_rfl) rfl #[.int .i64 a0,.int .i64 1,.int .i64 3] rfl (by (try simp only [List.map_toArray,List.map_cons,List.map_nil]);first|done|rfl|(simp only [List.length_drop,List.length_take];rfl)) ?_;(with_reducible refine (qw1_.calls a0 1 3 true _ A3.out).mono ?_);rintro e w' ⟨rfl,⟨nd,rfl⟩⟩;refine ⟨_,rfl,?_⟩)|(go_at_call 107;(with_reducible refine (qw1_.calls a1 1 5 true _ A5.out).mono ?_);rintro e w' ⟨rfl,⟨nd,rfl⟩⟩))
    go_ret
    exact ⟨by first|rfl|(simp;done)|(simp [*];done)|(simp [Go.Proofs.YtaiefdhenikiiaaZ.bne_nil];done),by repeat (first|exact Drawn0.refl _|apply Drawn0.step)⟩
   ·rw [if_neg c7] at H
    have c7b0:decide (a0 < 3)=false:=decide_eq_false c7
    clear c7
    obtain rfl:=Option.some.inj H
    go_enter Try.func135,Try.ntmps135
    go_wp2_with (first|((with_reducible refine qa1_ (f:=107) rfl ?_);refine goesL_ (some 6) rfl rfl Try.func107 (by kernel_rfl) rfl #[.int .i64 a0,.int .i64 1,.int .i64 3] rfl (by (try simp only [List.map_toArray,List.map_cons,List.map_nil]);first|done|rfl|(simp only [List.length_drop,List.length_take];rfl)) ?_;(with_reducible refine (qw1_.calls a0 1 3 true _ A3.out).mono ?_);rintro e w' ⟨rfl,⟨nd,rfl⟩⟩;refine ⟨_,rfl,?_⟩)|(go_at_call 107;(with_reducible refine (qw1_.calls a1 1 5 true _ A5.out).mono ?_);rintro e w' ⟨rfl,⟨nd,rfl⟩⟩))
    go_ret
    exact ⟨by first|rfl|(simp;done)|(simp [*];done)|(simp [Go.Proofs.YtaiefdhenikiiaaZ.bne_nil];done),by repeat (first|exact Drawn0.refl _|apply Drawn0.step)⟩
  ·replace c6:=Bool.eq_false_iff.mpr c6
   subst c6
   have H1:(some false)=some r:=by rw [if_neg (show ¬ (false=true) by decide)] at H;exact H
   clear H
   have H:=H1
   clear H1
   obtain rfl:=Option.some.inj H
   go_enter Try.func135,Try.ntmps135
   go_wp2_with (first|((with_reducible refine qa1_ (f:=107) rfl ?_);refine goesL_ (some 6) rfl rfl Try.func107 (by kernel_rfl) rfl #[.int .i64 a0,.int .i64 1,.int .i64 3] rfl (by (try simp only [List.map_toArray,List.map_cons,List.map_nil]);first|done|rfl|(simp only [List.length_drop,List.length_take];rfl)) ?_;(with_reducible refine (qw1_.calls a0 1 3 true _ A3.out).mono ?_);rintro e w' ⟨rfl,⟨nd,rfl⟩⟩;refine ⟨_,rfl,?_⟩)|(go_at_call 107;(with_reducible refine (qw1_.calls a1 1 5 false _ A5.out).mono ?_);rintro e w' ⟨rfl,⟨nd,rfl⟩⟩))
   go_ret
   exact ⟨by first|rfl|(simp;done)|(simp [*];done)|(simp [Go.Proofs.YtaiefdhenikiiaaZ.bne_nil];done),by repeat (first|exact Drawn0.refl _|apply Drawn0.step)⟩
 ·replace c4:=Bool.eq_false_iff.mpr c4
  subst c4
  have H1:(some false)=some r:=by rw [if_neg (show ¬ (false=true) by decide)] at H;exact H
  clear H
  have H:=H1
  clear H1
  obtain rfl:=Option.some.inj H
  go_enter Try.func135,Try.ntmps135
  go_wp2_with (first|((with_reducible refine qa1_ (f:=107) rfl ?_);refine goesL_ (some 6) rfl rfl Try.func107 (by kernel_rfl) rfl #[.int .i64 a0,.int .i64 1,.int .i64 3] rfl (by (try simp only [List.map_toArray,List.map_cons,List.map_nil]);first|done|rfl|(simp only [List.length_drop,List.length_take];rfl)) ?_;(with_reducible refine (qw1_.calls a0 1 3 false _ A3.out).mono ?_);rintro e w' ⟨rfl,⟨nd,rfl⟩⟩;refine ⟨_,rfl,?_⟩))
  go_ret
  exact ⟨by first|rfl|(simp;done)|(simp [*];done)|(simp [Go.Proofs.YtaiefdhenikiiaaZ.bne_nil];done),by repeat (first|exact Drawn0.refl _|apply Drawn0.step)⟩
end Go.Proofs.Ytaiefdhenikiiaa.Base
namespace Go.Proofs.Ytaiefdhenikiiaa.Base
open Go.RowKit Go.Proofs.YtaiefdhenikiiaaW.PrintWords Go.Proofs.YtaiefdhenikiiaaW.PrintLast Go.Proofs.YtaiefdhenikiiaaW.PrintMore
attribute [local go_sem] max2_int qo1_ max_two min_two max_three min_three max_four min_four Go.Proofs.YtaiefdhenikiiaaZ.qx_   -- for this text's walks alone
set_option linter.unusedVariables false
set_option linter.unusedSimpArgs false
def qu2_.f (a0_0:Int) (a0_1:Int):Option (Bool):=some (a0_0 == 0)
set_option maxHeartbeats 8000000 in
set_option maxRecDepth 100000 in
theorem qu2_.calls (a0_0:Int) (a0_1:Int) (r:Bool) (w:World) (h:qu2_.f a0_0 a0_1=some r) :
  Calls Try.prog 141 #[.agg #[.int .i64 a0_0,.int .i64 a0_1]] w fun e w'=>e=.returned (.bool r)∧Below w.heap.size w w':=by
 have hu77:=Try.underlying77
 have HB:=aK (Below.refl w.heap.size w)
 have H:(some (a0_0 == 0))=some r:=h
 clear h
 obtain rfl:=Option.some.inj H
 go_enter Try.func141,Try.ntmps141
 go_wp2_with (first|((with_reducible refine qu_ (N:=1) rfl ?_);refine qr_ ?hg (N:=1) ?hd (cs:=#[.int .i64 a0_0,.int .i64 a0_1]) (t:=77) ?hr ?_;(case hd=>rfl);(case hg=>rfl);(case hr=>first|(go_simp;done)|(go_simp;rfl));intro gb104 hg w2 hbox hb;have n0_:=aK (qj_ (by repeat (first|(with_reducible first|exact HB.out|apply qb_|apply qa_|apply qc_)|exact HB.out)) hb);have n1_:=aK (hbox);have n2_:=aK ((by rw [hg];exact (qk_ (by repeat (first|(with_reducible first|exact HB.out|apply qb_|apply qa_|apply qc_)|exact HB.out))):w.heap.size≤gb104));have n3_:=aK ((by rw [hg];exact (qk_ (by repeat (first|(with_reducible first|exact HB.out|apply qb_|apply qa_|apply qc_)|exact HB.out))):w.heap.size≤gb104));clear HB;have HB:=n0_;have BK104:=n1_;have GW104:=n2_;have GE104:=n3_;clear n0_ n1_ n2_ n3_;clear hb hbox hg;have hcz3_0:w2.cell? ⟨gb104,0,none⟩=some (.int .i64 a0_0):=(qg_ BK104.out 0).trans rfl;have hcz3_1:w2.cell? ⟨gb104,1,none⟩=some (.int .i64 a0_1):=(qg_ BK104.out 1).trans rfl;have hfz3_0:=qd_ BK104.out 0;have hfz3_1:=qd_ BK104.out 1))
 go_ret
 exact ⟨by first|rfl|(simp [qo_,qn_] <;> rfl)|(simp [*,qo_,qn_] <;> rfl),by repeat (first|(with_reducible first|exact HB.out|apply qb_|apply qa_|apply qc_|refine qh_ ?_ GE104.out)|exact HB.out)⟩
end Go.Proofs.Ytaiefdhenikiiaa.Base
namespace Go.Proofs.Ytaiefdhenikiiaa.Base
open Go.RowKit Go.Proofs.YtaiefdhenikiiaaW.PrintWords Go.Proofs.YtaiefdhenikiiaaW.PrintLast Go.Proofs.YtaiefdhenikiiaaW.PrintMore
attribute [local go_sem] max2_int qo1_ max_two min_two max_three min_three max_four min_four Go.Proofs.YtaiefdhenikiiaaZ.qx_   -- for this text's walks alone
set_option linter.unusedVariables false
set_option linter.unusedSimpArgs false
def qd1_.l0:Nat→Int→ByteArray→Int→Option (Bool)
 | 0,_,_,_=>none
 | k+1,x0,x1,x5=>if x5 < (x1.size:Int) then (if 0≤x5 then (if (bt x1 x5) < 48 then (some false) else (if (((bt x1 x5) - 48) % 256) ≥ x0 then (some false) else (qd1_.l0 k x0 x1 (wrap64 (x5+1))))) else (none)) else (some true)
def qd1_.f (k:Nat) (a0:Int) (a1:ByteArray):Option (Bool):=qd1_.l0 k a0 a1 0
theorem qd1_.mono_l:∀ k,(∀ y0 y1 y2,LeO (qd1_.l0 k y0 y1 y2) (qd1_.l0 (k+1) y0 y1 y2))
 | 0=>fun _ _ _ r h=>by simp [qd1_.l0] at h
 | k+1=>by
  have ih0:=qd1_.mono_l k
  ·intro y0 y1 y2
   unfold qd1_.l0
   repeat' first
   | (with_reducible exact ih0 _ _ _)
   | (with_reducible exact LeO.refl _)
   | (with_reducible exact LeO.none _)
   | (with_reducible refine LeO.ite ?_ ?_)
   | (with_reducible refine LeO.bind ?_ (fun _=>?_))
   | exact ih0 _ _ _
   | exact LeO.none _
   | refine LeO.ite ?_ ?_
   | refine LeO.bind ?_ (fun _=>?_)
theorem qd1_.mono:∀ a0 a1 k,LeO (qd1_.f k a0 a1) (qd1_.f (k+1) a0 a1):=by
 intro a0 a1 k
 have ih0:=qd1_.mono_l k
 unfold qd1_.f
 repeat' first
   | (with_reducible exact ih0 _ _ _)
   | (with_reducible exact LeO.refl _)
   | (with_reducible exact LeO.none _)
   | (with_reducible refine LeO.ite ?_ ?_)
   | (with_reducible refine LeO.bind ?_ (fun _=>?_))
   | exact ih0 _ _ _
   | exact LeO.none _
   | refine LeO.ite ?_ ?_
   | refine LeO.bind ?_ (fun _=>?_)
set_option maxHeartbeats 8000000 in
set_option maxRecDepth 100000 in
theorem qd1_.calls (k:Nat) (a0:Int) (a1:ByteArray) (r:Bool) (w:World) (h:qd1_.f k a0 a1=some r) :
  Calls Try.prog 150 #[.int .i64 a0,.string a1] w fun e w'=>e=.returned (.bool r)∧Drawn0 w w':=by
 have H:(qd1_.l0 k a0 a1 0)=some r:=h
 clear h
 have H':=aK H
 clear H
 go_enter Try.func150,Try.ntmps150
 go_wp2
 go_loopg [5] k (fun kq v5 w'=>∃ (x5_1:Int),v5=.int .i64 x5_1∧Aside0 (qd1_.l0 kq a0 a1 x5_1=some r)∧Aside0 (kq≤k)∧Drawn0 w w')
 case atStart=>exact ⟨(0),(by first|rfl|(simp;done)|(simp [*];done)),H',⟨Nat.le_refl _⟩,by repeat (first|exact Drawn0.refl _|apply Drawn0.step)⟩
 case round =>
  clear H'
  try clear c1
  try clear p2
  obtain ⟨x5_1,rfl,HA,HK1,⟨m1,rfl⟩⟩:=hrel
  cases gk with
  | zero=>exact absurd HA.out (by simp [qd1_.l0])
  | succ k1 =>
   have H:=HA.out
   clear HA
   simp only [qd1_.l0] at H
   by_cases c3:x5_1 < (a1.size:Int)
   ·rw [if_pos c3] at H
    have c3b0:decide (x5_1 < (a1.size:Int))=true:=decide_eq_true c3
    clear c3
    by_cases c4:0≤x5_1
    ·rw [if_pos c4] at H
     have c4b0:decide (0≤x5_1)=true:=decide_eq_true c4
     clear c4
     by_cases c6:(bt a1 x5_1) < 48
     ·rw [if_pos c6] at H
      have c6b0:decide ((bt a1 x5_1) < 48)=true:=decide_eq_true c6
      clear c6
      obtain rfl:=Option.some.inj H
      have p5:0≤(x5_1:Int):=of_decide_eq_true (by first|(with_reducible assumption)|assumption)
      have q5:x5_1 < (a1.size:Int):=of_decide_eq_true (by first|(with_reducible assumption)|assumption)
      have hx5:=bt_at a1 x5_1
      replace p5:=eq_true p5
      replace q5:=eq_true q5
      go_wp2
      go_ret
      exact ⟨by first|rfl|(simp;done)|(simp [*];done)|(simp [Go.Proofs.YtaiefdhenikiiaaZ.bne_nil];done),by repeat (first|exact Drawn0.refl _|apply Drawn0.step)⟩
     ·rw [if_neg c6] at H
      have c6b0:decide ((bt a1 x5_1) < 48)=false:=decide_eq_false c6
      clear c6
      by_cases c8:(((bt a1 x5_1) - 48) % 256) ≥ a0
      ·rw [if_pos c8] at H
       have c8b0:decide (a0≤(((bt a1 x5_1) - 48) % 256))=true:=decide_eq_true c8
       clear c8
       obtain rfl:=Option.some.inj H
       have p5:0≤(x5_1:Int):=of_decide_eq_true (by first|(with_reducible assumption)|assumption)
       have q5:x5_1 < (a1.size:Int):=of_decide_eq_true (by first|(with_reducible assumption)|assumption)
       have hx5:=bt_at a1 x5_1
       replace p5:=eq_true p5
       replace q5:=eq_true q5
       have p7:0≤(x5_1:Int):=of_decide_eq_true (by first|(with_reducible assumption)|assumption)
       have q7:x5_1 < (a1.size:Int):=of_decide_eq_true (by first|(with_reducible assumption)|assumption)
       have hx7:=bt_at a1 x5_1
       replace p7:=eq_true p7
       replace q7:=eq_true q7
       go_wp2
       go_ret
       exact ⟨by first|rfl|(simp;done)|(simp [*];done)|(simp [Go.Proofs.YtaiefdhenikiiaaZ.bne_nil];done),by repeat (first|exact Drawn0.refl _|apply Drawn0.step)⟩
      ·rw [if_neg c8] at H
       have c8b0:decide (a0≤(((bt a1 x5_1) - 48) % 256))=false:=decide_eq_false c8
       clear c8
       have H':=aK H
       clear H
       have p5:0≤(x5_1:Int):=of_decide_eq_true (by first|(with_reducible assumption)|assumption)
       have q5:x5_1 < (a1.size:Int):=of_decide_eq_true (by first|(with_reducible assumption)|assumption)
       have hx5:=bt_at a1 x5_1
       replace p5:=eq_true p5
       replace q5:=eq_true q5
       have p7:0≤(x5_1:Int):=of_decide_eq_true (by first|(with_reducible assumption)|assumption)
       have q7:x5_1 < (a1.size:Int):=of_decide_eq_true (by first|(with_reducible assumption)|assumption)
       have hx7:=bt_at a1 x5_1
       replace p7:=eq_true p7
       replace q7:=eq_true q7
       go_wp2
       go_roundg k1
       case measure=>have:=HK1.out;omega
       case rel=>exact ⟨(wrap64 (x5_1+1)),(by first|rfl|(simp;done)|(simp [*];done)),H',⟨by have:=HK1.out;omega⟩,by repeat (first|exact Drawn0.refl _|apply Drawn0.step)⟩
    ·rw [if_neg c4] at H
     exact absurd H (by simp)
   ·rw [if_neg c3] at H
    have c3b0:decide (x5_1 < (a1.size:Int))=false:=decide_eq_false c3
    clear c3
    obtain rfl:=Option.some.inj H
    go_wp2
    go_ret
    exact ⟨by first|rfl|(simp;done)|(simp [*];done)|(simp [Go.Proofs.YtaiefdhenikiiaaZ.bne_nil];done),by repeat (first|exact Drawn0.refl _|apply Drawn0.step)⟩
end Go.Proofs.Ytaiefdhenikiiaa.Base
namespace Go.Proofs.Ytaiefdhenikiiaa.Base
open Go.RowKit Go.Proofs.YtaiefdhenikiiaaW.PrintWords Go.Proofs.YtaiefdhenikiiaaW.PrintLast Go.Proofs.YtaiefdhenikiiaaW.PrintMore
attribute [local go_sem] max2_int qo1_ max_two min_two max_three min_three max_four min_four Go.Proofs.YtaiefdhenikiiaaZ.qx_   -- for this text's walks alone
set_option linter.unusedVariables false
set_option linter.unusedSimpArgs false
def qa2_.f (a0:ByteArray) (a1:ByteArray):Option (Bool):=if (a0.size:Int)=(a1.size:Int) then (some (Op.bytesLess a0.toList a1.toList)) else (some (decide ((a0.size:Int) < (a1.size:Int))))
set_option maxHeartbeats 8000000 in
set_option maxRecDepth 100000 in
theorem qa2_.calls (a0:ByteArray) (a1:ByteArray) (r:Bool) (w:World) (h:qa2_.f a0 a1=some r) :
  Calls Try.prog 152 #[.string a0,.string a1] w fun e w'=>e=.returned (.bool r)∧Drawn0 w w':=by
 have H:(if (a0.size:Int)=(a1.size:Int) then (some (Op.bytesLess a0.toList a1.toList)) else (some (decide ((a0.size:Int) < (a1.size:Int)))))=some r:=h
 clear h
 by_cases c3:(a0.size:Int)=(a1.size:Int)
 ·rw [if_pos c3] at H
  have c3b0:((a0.size:Int) == (a1.size:Int))=true:=beq_iff_eq.mpr c3
  have c3b1:((a0.size:Int) != (a1.size:Int))=false:=bne_eq_false_iff_eq.mpr c3
  have c3b2:(a0.size == a1.size)=true:=by first|simpa using c3|(simp at c3 ⊢;omega)
  clear c3
  obtain rfl:=Option.some.inj H
  go_enter Try.func152,Try.ntmps152
  go_wp2
  go_ret
  exact ⟨by first|rfl|(simp;done)|(simp [*];done)|(simp [Go.Proofs.YtaiefdhenikiiaaZ.bne_nil];done),by repeat (first|exact Drawn0.refl _|apply Drawn0.step)⟩
 ·rw [if_neg c3] at H
  have c3b0:((a0.size:Int) == (a1.size:Int))=false:=beq_eq_false_iff_ne.mpr c3
  have c3b1:((a0.size:Int) != (a1.size:Int))=true:=bne_iff_ne.mpr c3
  have c3b2:(a0.size == a1.size)=false:=by first|simpa using c3|(simp at c3 ⊢;omega)
  obtain rfl:=Option.some.inj H
  go_enter Try.func152,Try.ntmps152
  go_wp2
  go_ret
  exact ⟨by first|rfl|(simp;done)|(simp [*];done)|(simp [Go.Proofs.YtaiefdhenikiiaaZ.bne_nil];done),by repeat (first|exact Drawn0.refl _|apply Drawn0.step)⟩
end Go.Proofs.Ytaiefdhenikiiaa.Base
namespace Go.Proofs.Ytaiefdhenikiiaa.Base
open Go.RowKit Go.Proofs.YtaiefdhenikiiaaW.PrintWords Go.Proofs.YtaiefdhenikiiaaW.PrintLast Go.Proofs.YtaiefdhenikiiaaW.PrintMore
attribute [local go_sem] max2_int qo1_ max_two min_two max_three min_three max_four min_four Go.Proofs.YtaiefdhenikiiaaZ.qx_   -- for this text's walks alone
set_option linter.unusedVariables false
set_option linter.unusedSimpArgs false
mutual
def qw_.l0:Nat→Int→Int→Int→List (S79)→Option (Bool)
 | 0,_,_,_,_=>none
 | k+1,x3,x208000,x208001,x208002=>if x3 < (x208002.length:Int) then (if 0≤x3 then (if (((rd_T79 x208002 x3).f0).size:Int) > x208001 then (qw_.j1 k x3 true x208000 x208001 x208002 ((rd_T79 x208002 x3).f0) ((rd_T79 x208002 x3).f1.f0) ((rd_T79 x208002 x3).f1.f1)) else ((qd1_.f k x208000 ((rd_T79 x208002 x3).f0)).bind fun t211=>(if t211=true then ((qv_.f k ((rd_T79 x208002 x3).f1.f0) ((rd_T79 x208002 x3).f1.f1)).bind fun t212=>(if t212=true then ((qu2_.f ((rd_T79 x208002 x3).f1.f0) ((rd_T79 x208002 x3).f1.f1)).bind fun t213=>(qw_.j1 k x3 t213 x208000 x208001 x208002 ((rd_T79 x208002 x3).f0) ((rd_T79 x208002 x3).f1.f0) ((rd_T79 x208002 x3).f1.f1))) else (qw_.j1 k x3 true x208000 x208001 x208002 ((rd_T79 x208002 x3).f0) ((rd_T79 x208002 x3).f1.f0) ((rd_T79 x208002 x3).f1.f1)))) else (qw_.j1 k x3 true x208000 x208001 x208002 ((rd_T79 x208002 x3).f0) ((rd_T79 x208002 x3).f1.f0) ((rd_T79 x208002 x3).f1.f1))))) else (none)) else (some true)
def qw_.j1:Nat→Int→Bool→Int→Int→List (S79)→ByteArray→Int→Int→Option (Bool)
 | 0,_,_,_,_,_,_,_,_=>none
 | k+1,x3,x47,x208000,x208001,x208002,x211000,x211001,x211002=>if x47=true then (some false) else (if x3 > 0 then (if 0≤(wrap64 (x3 - 1)) then (if (wrap64 (x3 - 1)) < (x208002.length:Int) then ((qa2_.f ((rd_T79 x208002 (wrap64 (x3 - 1))).f0) x211000).bind fun t215=>(if t215=true then (qw_.l0 k (wrap64 (x3+1)) x208000 x208001 x208002) else (some false))) else (none)) else (none)) else (qw_.l0 k (wrap64 (x3+1)) x208000 x208001 x208002))
end
def qw_.f (k:Nat) (a0_0:Int) (a0_1:Int) (l0_2:List (S79)):Option (Bool):=(ql2_.f a0_0 a0_1).bind fun t208=>(if t208=true then (qw_.l0 k 0 a0_0 a0_1 l0_2) else (some false))
theorem qw_.mono_l:∀ k,(∀ y0 y1 y2 y3,LeO (qw_.l0 k y0 y1 y2 y3) (qw_.l0 (k+1) y0 y1 y2 y3))∧(∀ y0 y1 y2 y3 y4 y5 y6 y7,LeO (qw_.j1 k y0 y1 y2 y3 y4 y5 y6 y7) (qw_.j1 (k+1) y0 y1 y2 y3 y4 y5 y6 y7))
 | 0=>⟨fun _ _ _ _ r h=>by simp [qw_.l0] at h,fun _ _ _ _ _ _ _ _ r h=>by simp [qw_.j1] at h⟩
 | k+1=>by
  obtain ⟨ih0,ih1⟩:=qw_.mono_l k
  refine ⟨?_,?_⟩
  ·intro y0 y1 y2 y3
   unfold qw_.l0
   repeat' first
   | (with_reducible exact ih0 _ _ _ _)
   | (with_reducible exact ih1 _ _ _ _ _ _ _ _)
   | (with_reducible exact qv_.mono _ _ _)
   | (with_reducible exact qd1_.mono _ _ _)
   | (with_reducible exact LeO.refl _)
   | (with_reducible exact LeO.none _)
   | (with_reducible refine LeO.ite ?_ ?_)
   | (with_reducible refine LeO.bind ?_ (fun _=>?_))
   | exact ih0 _ _ _ _
   | exact ih1 _ _ _ _ _ _ _ _
   | exact qv_.mono _ _ _
   | exact qd1_.mono _ _ _
   | exact LeO.none _
   | refine LeO.ite ?_ ?_
   | refine LeO.bind ?_ (fun _=>?_)
  ·intro y0 y1 y2 y3 y4 y5 y6 y7
   unfold qw_.j1
   repeat' first
   | (with_reducible exact ih0 _ _ _ _)
   | (with_reducible exact ih1 _ _ _ _ _ _ _ _)
   | (with_reducible exact qv_.mono _ _ _)
   | (with_reducible exact qd1_.mono _ _ _)
   | (with_reducible exact LeO.refl _)
   | (with_reducible exact LeO.none _)
   | (with_reducible refine LeO.ite ?_ ?_)
   | (with_reducible refine LeO.bind ?_ (fun _=>?_))
   | exact ih0 _ _ _ _
   | exact ih1 _ _ _ _ _ _ _ _
   | exact qv_.mono _ _ _
   | exact qd1_.mono _ _ _
   | exact LeO.none _
   | refine LeO.ite ?_ ?_
   | refine LeO.bind ?_ (fun _=>?_)
theorem qw_.mono:∀ a0 a1 a2 k,LeO (qw_.f k a0 a1 a2) (qw_.f (k+1) a0 a1 a2):=by
 intro a0 a1 a2 k
 obtain ⟨ih0,ih1⟩:=qw_.mono_l k
 unfold qw_.f
 repeat' first
   | (with_reducible exact ih0 _ _ _ _)
   | (with_reducible exact ih1 _ _ _ _ _ _ _ _)
   | (with_reducible exact qv_.mono _ _ _)
   | (with_reducible exact qd1_.mono _ _ _)
   | (with_reducible exact LeO.refl _)
   | (with_reducible exact LeO.none _)
   | (with_reducible refine LeO.ite ?_ ?_)
   | (with_reducible refine LeO.bind ?_ (fun _=>?_))
   | exact ih0 _ _ _ _
   | exact ih1 _ _ _ _ _ _ _ _
   | exact qv_.mono _ _ _
   | exact qd1_.mono _ _ _
   | exact LeO.none _
   | refine LeO.ite ?_ ?_
   | refine LeO.bind ?_ (fun _=>?_)
set_option maxHeartbeats 8000000 in
set_option maxRecDepth 100000 in
theorem qw_.calls (k:Nat) (a0_0:Int) (a0_1:Int) (A0_2:Option Addr) (c0_2:Nat) (l0_2:List (S79)) (r:Bool) (w:World) (hr0_2:Kd.C k79 w A0_2 l0_2.length l0_2) (hc0_2:l0_2.length≤c0_2) (h:qw_.f k a0_0 a0_1 l0_2=some r) :
  Calls Try.prog 82 #[.agg #[.int .i64 a0_0,.int .i64 a0_1,.slice A0_2 l0_2.length c0_2]] w fun e w'=>e=.returned (.bool r)∧Below w.heap.size w w':=by
 have hu38:=Try.underlying38
 have hu79:=Try.underlying79
 have hu77:=Try.underlying77
 have HR0_2:=aK hr0_2
 have HC0_2:=aK hc0_2
 clear hr0_2 hc0_2
 have HB:=aK (Below.refl w.heap.size w)
 have H:((ql2_.f a0_0 a0_1).bind fun t208=>(if t208=true then (qw_.l0 k 0 a0_0 a0_1 l0_2) else (some false)))=some r:=h
 clear h
 replace H:=Option.bind_eq_some_iff.mp H
 obtain ⟨t208,A20,H⟩:=H
 replace H:(if t208=true then (qw_.l0 k 0 a0_0 a0_1 l0_2) else (some false))=some r:=H
 have A2:=aK A20
 clear A20
 by_cases c3:t208=true
 ·subst c3
  have H1:(qw_.l0 k 0 a0_0 a0_1 l0_2)=some r:=by rw [if_pos rfl] at H;exact H
  clear H
  have H:=H1
  clear H1
  have H':=aK H
  clear H
  go_enter Try.func82,Try.ntmps82
  go_wp2_with (first|((with_reducible refine qu_ (N:=1) rfl ?_);refine qr_ ?hg (N:=1) ?hd (cs:=#[.int .i64 a0_0,.int .i64 a0_1,.slice A0_2 l0_2.length c0_2]) (t:=38) ?hr ?_;(case hd=>rfl);(case hg=>rfl);(case hr=>first|(go_simp;done)|(go_simp;rfl));intro gb207 hg w4 hbox hb;have n0_:=aK (qj_ (by repeat (first|(with_reducible first|exact HB.out|apply qb_|apply qa_|apply qc_)|exact HB.out)) hb);have n1_:=aK (hbox);have n2_:=aK ((by rw [hg];exact (qk_ (by repeat (first|(with_reducible first|exact HB.out|apply qb_|apply qa_|apply qc_)|exact HB.out))):w.heap.size≤gb207));have n3_:=aK ((by rw [hg];exact (qk_ (by repeat (first|(with_reducible first|exact HB.out|apply qb_|apply qa_|apply qc_)|exact HB.out))):w.heap.size≤gb207));clear HB;have HB:=n0_;have BK207:=n1_;have GW207:=n2_;have GE207:=n3_;clear n0_ n1_ n2_ n3_;clear hb hbox hg;have hcz5_0:w4.cell? ⟨gb207,0,none⟩=some (.int .i64 a0_0):=(qg_ BK207.out 0).trans rfl;have hcz5_1:w4.cell? ⟨gb207,1,none⟩=some (.int .i64 a0_1):=(qg_ BK207.out 1).trans rfl;have hcz5_2:w4.cell? ⟨gb207,2,none⟩=some (.slice A0_2 l0_2.length c0_2):=(qg_ BK207.out 2).trans rfl;have hfz5_0:=qd_ BK207.out 0;have hfz5_1:=qd_ BK207.out 1;have hfz5_2:=qd_ BK207.out 2)|(go_at_call 135;(with_reducible refine (ql2_.calls a0_0 a0_1 true _ A2.out).mono ?_);rintro e w' ⟨rfl,⟨nd,rfl⟩⟩;(try first|exact ⟨rfl,_,World.drewN_drewN _ _ _⟩|exact ⟨rfl,_,Eq.trans (World.drewN_drewN _ _ _) (congrArg (World.drewN _) (Nat.add_assoc _ _ _))⟩)))
  repeat (go_quiet (first|((with_reducible refine qu_ (N:=1) rfl ?_);refine qr_ ?hg (N:=1) ?hd (cs:=#[.int .i64 a0_0,.int .i64 a0_1,.slice A0_2 l0_2.length c0_2]) (t:=38) ?hr ?_;(case hd=>rfl);(case hg=>rfl);(case hr=>first|(go_simp;done)|(go_simp;rfl));intro gb207 hg w4 hbox hb;have n0_:=aK (qj_ (by repeat (first|(with_reducible first|exact HB.out|apply qb_|apply qa_|apply qc_)|exact HB.out)) hb);have n1_:=aK (hbox);have n2_:=aK ((by rw [hg];exact (qk_ (by repeat (first|(with_reducible first|exact HB.out|apply qb_|apply qa_|apply qc_)|exact HB.out))):w.heap.size≤gb207));have n3_:=aK ((by rw [hg];exact (qk_ (by repeat (first|(with_reducible first|exact HB.out|apply qb_|apply qa_|apply qc_)|exact HB.out))):w.heap.size≤gb207));clear HB;have HB:=n0_;have BK207:=n1_;have GW207:=n2_;have GE207:=n3_;clear n0_ n1_ n2_ n3_;clear hb hbox hg;have hcz5_0:w4.cell? ⟨gb207,0,none⟩=some (.int .i64 a0_0):=(qg_ BK207.out 0).trans rfl;have hcz5_1:w4.cell? ⟨gb207,1,none⟩=some (.int .i64 a0_1):=(qg_ BK207.out 1).trans rfl;have hcz5_2:w4.cell? ⟨gb207,2,none⟩=some (.slice A0_2 l0_2.length c0_2):=(qg_ BK207.out 2).trans rfl;have hfz5_0:=qd_ BK207.out 0;have hfz5_1:=qd_ BK207.out 1;have hfz5_2:=qd_ BK207.out 2)|(go_at_call 135;(with_reducible refine (ql2_.calls a0_0 a0_1 true _ A2.out).mono ?_);rintro e w' ⟨rfl,⟨nd,rfl⟩⟩;(try first|exact ⟨rfl,_,World.drewN_drewN _ _ _⟩|exact ⟨rfl,_,Eq.trans (World.drewN_drewN _ _ _) (congrArg (World.drewN _) (Nat.add_assoc _ _ _))⟩)));try go_wp2_with (first|((with_reducible refine qu_ (N:=1) rfl ?_);refine qr_ ?hg (N:=1) ?hd (cs:=#[.int .i64 a0_0,.int .i64 a0_1,.slice A0_2 l0_2.length c0_2]) (t:=38) ?hr ?_;(case hd=>rfl);(case hg=>rfl);(case hr=>first|(go_simp;done)|(go_simp;rfl));intro gb207 hg w4 hbox hb;have n0_:=aK (qj_ (by repeat (first|(with_reducible first|exact HB.out|apply qb_|apply qa_|apply qc_)|exact HB.out)) hb);have n1_:=aK (hbox);have n2_:=aK ((by rw [hg];exact (qk_ (by repeat (first|(with_reducible first|exact HB.out|apply qb_|apply qa_|apply qc_)|exact HB.out))):w.heap.size≤gb207));have n3_:=aK ((by rw [hg];exact (qk_ (by repeat (first|(with_reducible first|exact HB.out|apply qb_|apply qa_|apply qc_)|exact HB.out))):w.heap.size≤gb207));clear HB;have HB:=n0_;have BK207:=n1_;have GW207:=n2_;have GE207:=n3_;clear n0_ n1_ n2_ n3_;clear hb hbox hg;have hcz5_0:w4.cell? ⟨gb207,0,none⟩=some (.int .i64 a0_0):=(qg_ BK207.out 0).trans rfl;have hcz5_1:w4.cell? ⟨gb207,1,none⟩=some (.int .i64 a0_1):=(qg_ BK207.out 1).trans rfl;have hcz5_2:w4.cell? ⟨gb207,2,none⟩=some (.slice A0_2 l0_2.length c0_2):=(qg_ BK207.out 2).trans rfl;have hfz5_0:=qd_ BK207.out 0;have hfz5_1:=qd_ BK207.out 1;have hfz5_2:=qd_ BK207.out 2)|(go_at_call 135;(with_reducible refine (ql2_.calls a0_0 a0_1 true _ A2.out).mono ?_);rintro e w' ⟨rfl,⟨nd,rfl⟩⟩;(try first|exact ⟨rfl,_,World.drewN_drewN _ _ _⟩|exact ⟨rfl,_,Eq.trans (World.drewN_drewN _ _ _) (congrArg (World.drewN _) (Nat.add_assoc _ _ _))⟩))))
  go_loopg [3] k (fun kq v3 w'=>∃ (x3_1:Int),v3=.int .i64 x3_1∧Aside0 (qw_.l0 kq x3_1 a0_0 a0_1 l0_2=some r)∧Aside0 (kq≤k)∧Aside0 (w'.heap[gb207]?=some (.cells #[.int .i64 a0_0,.int .i64 a0_1,(.slice A0_2 l0_2.length c0_2)] 38 (0,0)))∧Aside0 (Below w.heap.size w w'))
  case atStart=>exact ⟨(0),(by first|rfl|(simp;done)|(simp [*];done)),H',⟨Nat.le_refl _⟩,⟨by (with_reducible repeat (first|refine qf_ ?_ _|refine qi_ ?_|refine qe_ ?_ _));exact BK207.out⟩,⟨by repeat (first|(with_reducible first|exact HB.out|apply qb_|apply qa_|apply qc_|refine qh_ ?_ GE207.out)|exact HB.out)⟩⟩
  case round =>
   clear H'
   try clear p2
   try clear c3
   try clear hcz5_0
   try clear hcz5_1
   try clear hcz5_2
   try clear hfz5_0
   try clear hfz5_1
   try clear hfz5_2
   obtain ⟨x3_1,rfl,HA,HK1,BK207,HB⟩:=hrel
   cases gk with
   | zero=>exact absurd HA.out (by simp [qw_.l0])
   | succ k1 =>
    have H:=HA.out
    clear HA
    simp only [qw_.l0] at H
    by_cases c6:x3_1 < (l0_2.length:Int)
    ·rw [if_pos c6] at H
     have c6b0:decide (x3_1 < (l0_2.length:Int))=true:=decide_eq_true c6
     clear c6
     by_cases c7:0≤x3_1
     ·rw [if_pos c7] at H
      have c7b0:decide (0≤x3_1)=true:=decide_eq_true c7
      clear c7
      have HC8:=aK H
      clear H
      have hcz9_0:wr.cell? ⟨gb207,0,none⟩=some (.int .i64 a0_0):=(qg_ BK207.out 0).trans rfl
      have hcz9_1:wr.cell? ⟨gb207,1,none⟩=some (.int .i64 a0_1):=(qg_ BK207.out 1).trans rfl
      have hcz9_2:wr.cell? ⟨gb207,2,none⟩=some (.slice A0_2 l0_2.length c0_2):=(qg_ BK207.out 2).trans rfl
      have hfz9_0:=qd_ BK207.out 0
      have hfz9_1:=qd_ BK207.out 1
      have hfz9_2:=qd_ BK207.out 2
      have p209:0≤(x3_1:Int):=of_decide_eq_true (by first|(with_reducible assumption)|assumption)
      have q209:x3_1 < (l0_2.length:Int):=of_decide_eq_true (by first|(with_reducible assumption)|assumption)
      obtain ⟨ad209,e209,hx209_0,hx209_1,hx209_2⟩:=at_T79 HR0_2.out x3_1 p209 q209
      cases e209
      replace hx209_0:=(HB.out.cell (World.block_lt_of_cell? w _ hx209_0)).trans hx209_0
      replace hx209_1:=(HB.out.cell (World.block_lt_of_cell? w _ hx209_1)).trans hx209_1
      replace hx209_2:=(HB.out.cell (World.block_lt_of_cell? w _ hx209_2)).trans hx209_2
      replace p209:=eq_true p209
      replace q209:=eq_true q209
      go_upto_region 7 with (first|((with_reducible refine qu_ (N:=4) rfl ?_);refine qr_ ?hg (N:=4) ?hd (cs:=#[.string (⟨#[]⟩:ByteArray),.int .i64 0,.int .i64 0]) (t:=79) ?hr ?_;(case hd=>rfl);(case hg=>rfl);(case hr=>first|(go_simp;done)|(go_simp;rfl));intro gb210 hg w10 hbox hb;have n0_:=aK (qm_ (g:=gb207) (o:=.cells #[.int .i64 a0_0,.int .i64 a0_1,.slice (some ad209) l0_2.length c0_2] 38 (0,0)) (by (with_reducible repeat (first|refine qf_ ?_ _|refine qi_ ?_|refine qe_ ?_ _));exact BK207.out) hb);have n1_:=aK (qj_ (by repeat (first|(with_reducible first|exact HB.out|apply qb_|apply qa_|apply qc_|refine qh_ ?_ GE207.out)|exact HB.out)) hb);have n2_:=aK (hbox);have n3_:=aK ((by rw [hg];exact (qk_ (by repeat (first|(with_reducible first|exact HB.out|apply qb_|apply qa_|apply qc_|refine qh_ ?_ GE207.out)|exact HB.out))):w.heap.size≤gb210));have n4_:=aK ((by rw [hg];exact (qk_ (by repeat (first|(with_reducible first|exact HB.out|apply qb_|apply qa_|apply qc_|refine qh_ ?_ GE207.out)|exact HB.out))):w.heap.size≤gb210));have n5_:=aK ((by rw [hg];exact Nat.ne_of_lt (blk_lt (g:=gb207) (o:=.cells #[.int .i64 a0_0,.int .i64 a0_1,.slice (some ad209) l0_2.length c0_2] 38 (0,0)) (by (with_reducible repeat (first|refine qf_ ?_ _|refine qi_ ?_|refine qe_ ?_ _));exact BK207.out)):gb207 ≠ gb210));have n6_:=aK ((by rw [hg];exact Nat.ne_of_gt (blk_lt (g:=gb207) (o:=.cells #[.int .i64 a0_0,.int .i64 a0_1,.slice (some ad209) l0_2.length c0_2] 38 (0,0)) (by (with_reducible repeat (first|refine qf_ ?_ _|refine qi_ ?_|refine qe_ ?_ _));exact BK207.out)):gb210 ≠ gb207));clear BK207;clear HB;have BK207:=n0_;have HB:=n1_;have BK210:=n2_;have GW210:=n3_;have GE210:=n4_;have NB207_210:=n5_;have NB210_207:=n6_;clear n0_ n1_ n2_ n3_ n4_ n5_ n6_;clear hb hbox hg;have hnb11:=NB210_207.out;have hnc11:=NB207_210.out;have hcz12_0:w10.cell? ⟨gb210,0,none⟩=some (.string (⟨#[]⟩:ByteArray)):=(qg_ BK210.out 0).trans rfl;have hcz12_1:w10.cell? ⟨gb210,1,none⟩=some (.int .i64 0):=(qg_ BK210.out 1).trans rfl;have hcz12_2:w10.cell? ⟨gb210,2,none⟩=some (.int .i64 0):=(qg_ BK210.out 2).trans rfl;have hfz12_0:=qd_ BK210.out 0;have hfz12_1:=qd_ BK210.out 1;have hfz12_2:=qd_ BK210.out 2))
      repeat (go_quiet (first|((with_reducible refine qu_ (N:=4) rfl ?_);refine qr_ ?hg (N:=4) ?hd (cs:=#[.string (⟨#[]⟩:ByteArray),.int .i64 0,.int .i64 0]) (t:=79) ?hr ?_;(case hd=>rfl);(case hg=>rfl);(case hr=>first|(go_simp;done)|(go_simp;rfl));intro gb210 hg w10 hbox hb;have n0_:=aK (qm_ (g:=gb207) (o:=.cells #[.int .i64 a0_0,.int .i64 a0_1,.slice (some ad209) l0_2.length c0_2] 38 (0,0)) (by (with_reducible repeat (first|refine qf_ ?_ _|refine qi_ ?_|refine qe_ ?_ _));exact BK207.out) hb);have n1_:=aK (qj_ (by repeat (first|(with_reducible first|exact HB.out|apply qb_|apply qa_|apply qc_|refine qh_ ?_ GE207.out)|exact HB.out)) hb);have n2_:=aK (hbox);have n3_:=aK ((by rw [hg];exact (qk_ (by repeat (first|(with_reducible first|exact HB.out|apply qb_|apply qa_|apply qc_|refine qh_ ?_ GE207.out)|exact HB.out))):w.heap.size≤gb210));have n4_:=aK ((by rw [hg];exact (qk_ (by repeat (first|(with_reducible first|exact HB.out|apply qb_|apply qa_|apply qc_|refine qh_ ?_ GE207.out)|exact HB.out))):w.heap.size≤gb210));have n5_:=aK ((by rw [hg];exact Nat.ne_of_lt (blk_lt (g:=gb207) (o:=.cells #[.int .i64 a0_0,.int .i64 a0_1,.slice (some ad209) l0_2.length c0_2] 38 (0,0)) (by (with_reducible repeat (first|refine qf_ ?_ _|refine qi_ ?_|refine qe_ ?_ _));exact BK207.out)):gb207 ≠ gb210));have n6_:=aK ((by rw [hg];exact Nat.ne_of_gt (blk_lt (g:=gb207) (o:=.cells #[.int .i64 a0_0,.int .i64 a0_1,.slice (some ad209) l0_2.length c0_2] 38 (0,0)) (by (with_reducible repeat (first|refine qf_ ?_ _|refine qi_ ?_|refine qe_ ?_ _));exact BK207.out)):gb210 ≠ gb207));clear BK207;clear HB;have BK207:=n0_;have HB:=n1_;have BK210:=n2_;have GW210:=n3_;have GE210:=n4_;have NB207_210:=n5_;have NB210_207:=n6_;clear n0_ n1_ n2_ n3_ n4_ n5_ n6_;clear hb hbox hg;have hnb11:=NB210_207.out;have hnc11:=NB207_210.out;have hcz12_0:w10.cell? ⟨gb210,0,none⟩=some (.string (⟨#[]⟩:ByteArray)):=(qg_ BK210.out 0).trans rfl;have hcz12_1:w10.cell? ⟨gb210,1,none⟩=some (.int .i64 0):=(qg_ BK210.out 1).trans rfl;have hcz12_2:w10.cell? ⟨gb210,2,none⟩=some (.int .i64 0):=(qg_ BK210.out 2).trans rfl;have hfz12_0:=qd_ BK210.out 0;have hfz12_1:=qd_ BK210.out 1;have hfz12_2:=qd_ BK210.out 2));go_upto_region 7 with (first|((with_reducible refine qu_ (N:=4) rfl ?_);refine qr_ ?hg (N:=4) ?hd (cs:=#[.string (⟨#[]⟩:ByteArray),.int .i64 0,.int .i64 0]) (t:=79) ?hr ?_;(case hd=>rfl);(case hg=>rfl);(case hr=>first|(go_simp;done)|(go_simp;rfl));intro gb210 hg w10 hbox hb;have n0_:=aK (qm_ (g:=gb207) (o:=.cells #[.int .i64 a0_0,.int .i64 a0_1,.slice (some ad209) l0_2.length c0_2] 38 (0,0)) (by (with_reducible repeat (first|refine qf_ ?_ _|refine qi_ ?_|refine qe_ ?_ _));exact BK207.out) hb);have n1_:=aK (qj_ (by repeat (first|(with_reducible first|exact HB.out|apply qb_|apply qa_|apply qc_|refine qh_ ?_ GE207.out)|exact HB.out)) hb);have n2_:=aK (hbox);have n3_:=aK ((by rw [hg];exact (qk_ (by repeat (first|(with_reducible first|exact HB.out|apply qb_|apply qa_|apply qc_|refine qh_ ?_ GE207.out)|exact HB.out))):w.heap.size≤gb210));have n4_:=aK ((by rw [hg];exact (qk_ (by repeat (first|(with_reducible first|exact HB.out|apply qb_|apply qa_|apply qc_|refine qh_ ?_ GE207.out)|exact HB.out))):w.heap.size≤gb210));have n5_:=aK ((by rw [hg];exact Nat.ne_of_lt (blk_lt (g:=gb207) (o:=.cells #[.int .i64 a0_0,.int .i64 a0_1,.slice (some ad209) l0_2.length c0_2] 38 (0,0)) (by (with_reducible repeat (first|refine qf_ ?_ _|refine qi_ ?_|refine qe_ ?_ _));exact BK207.out)):gb207 ≠ gb210));have n6_:=aK ((by rw [hg];exact Nat.ne_of_gt (blk_lt (g:=gb207) (o:=.cells #[.int .i64 a0_0,.int .i64 a0_1,.slice (some ad209) l0_2.length c0_2] 38 (0,0)) (by (with_reducible repeat (first|refine qf_ ?_ _|refine qi_ ?_|refine qe_ ?_ _));exact BK207.out)):gb210 ≠ gb207));clear BK207;clear HB;have BK207:=n0_;have HB:=n1_;have BK210:=n2_;have GW210:=n3_;have GE210:=n4_;have NB207_210:=n5_;have NB210_207:=n6_;clear n0_ n1_ n2_ n3_ n4_ n5_ n6_;clear hb hbox hg;have hnb11:=NB210_207.out;have hnc11:=NB207_210.out;have hcz12_0:w10.cell? ⟨gb210,0,none⟩=some (.string (⟨#[]⟩:ByteArray)):=(qg_ BK210.out 0).trans rfl;have hcz12_1:w10.cell? ⟨gb210,1,none⟩=some (.int .i64 0):=(qg_ BK210.out 1).trans rfl;have hcz12_2:w10.cell? ⟨gb210,2,none⟩=some (.int .i64 0):=(qg_ BK210.out 2).trans rfl;have hfz12_0:=qd_ BK210.out 0;have hfz12_1:=qd_ BK210.out 1;have hfz12_2:=qd_ BK210.out 2)))
      (try simp only [Act.put,List.setIfInBounds_toArray,List.set_cons_zero,List.set_cons_succ])
      go_cut [47] (fun v47 wc=>∃ (kq:Nat) (x47_7:Bool),v47=.bool x47_7∧Aside0 (qw_.j1 kq x3_1 x47_7 a0_0 a0_1 l0_2 ((rd_T79 l0_2 x3_1).f0) ((rd_T79 l0_2 x3_1).f1.f0) ((rd_T79 l0_2 x3_1).f1.f1)=some r)∧Aside0 (kq≤k1)∧Aside0 (wc.heap[gb207]?=some (.cells #[.int .i64 a0_0,.int .i64 a0_1,(.slice (some ad209) l0_2.length c0_2)] 38 (0,0)))∧Aside0 (wc.heap[gb210]?=some (.cells #[.string ((rd_T79 l0_2 x3_1).f0),.int .i64 ((rd_T79 l0_2 x3_1).f1.f0),.int .i64 ((rd_T79 l0_2 x3_1).f1.f1)] 79 (0,0)))∧Aside0 (Below w.heap.size w wc))
      case first =>
       have H:=HC8.out
       clear HC8
       by_cases c13:(((rd_T79 l0_2 x3_1).f0).size:Int) > a0_1
       ·rw [if_pos c13] at H
        have c13b0:decide (a0_1 < (((rd_T79 l0_2 x3_1).f0).size:Int))=true:=decide_eq_true c13
        clear c13
        (first|rw [c13b0]|(simp only [i64_w,i32_w];rw [c13b0])|skip)
        have H':=aK H
        clear H
        have hnb14:=NB210_207.out
        have hnc14:=NB207_210.out
        have hcz15_0:w10.cell? ⟨gb210,0,none⟩=some (.string (⟨#[]⟩:ByteArray)):=(qg_ BK210.out 0).trans rfl
        have hcz15_1:w10.cell? ⟨gb210,1,none⟩=some (.int .i64 0):=(qg_ BK210.out 1).trans rfl
        have hcz15_2:w10.cell? ⟨gb210,2,none⟩=some (.int .i64 0):=(qg_ BK210.out 2).trans rfl
        have hfz15_0:=qd_ BK210.out 0
        have hfz15_1:=qd_ BK210.out 1
        have hfz15_2:=qd_ BK210.out 2
        have hcz16_0:w10.cell? ⟨gb207,0,none⟩=some (.int .i64 a0_0):=(qg_ BK207.out 0).trans rfl
        have hcz16_1:w10.cell? ⟨gb207,1,none⟩=some (.int .i64 a0_1):=(qg_ BK207.out 1).trans rfl
        have hcz16_2:w10.cell? ⟨gb207,2,none⟩=some (.slice (some ad209) l0_2.length c0_2):=(qg_ BK207.out 2).trans rfl
        have hfz16_0:=qd_ BK207.out 0
        have hfz16_1:=qd_ BK207.out 1
        have hfz16_2:=qd_ BK207.out 2
        go_wp2
        repeat (go_quiet (fail);try go_wp2)
        go_meet
        case rel=>exact ⟨_,(true),(by first|rfl|(simp;done)|(simp [*];done)),H',⟨by have:=HK1.out;first|omega|exact Nat.le_refl _⟩,⟨by (with_reducible repeat (first|refine qf_ ?_ _|refine qi_ ?_|refine qe_ ?_ _));refine qk1_ ?_ NB207_210.out _;(with_reducible repeat (first|refine qf_ ?_ _|refine qi_ ?_|refine qe_ ?_ _));refine qk1_ ?_ NB207_210.out _;(with_reducible repeat (first|refine qf_ ?_ _|refine qi_ ?_|refine qe_ ?_ _));refine qk1_ ?_ NB207_210.out _;(with_reducible repeat (first|refine qf_ ?_ _|refine qi_ ?_|refine qe_ ?_ _));exact BK207.out⟩,⟨by (with_reducible repeat (first|refine qf_ ?_ _|refine qi_ ?_|refine qe_ ?_ _));refine qi1_ (cs:=#[.string ((rd_T79 l0_2 x3_1).f0),.int .i64 ((rd_T79 l0_2 x3_1).f1.f0),.int .i64 0]) ?_ 2 _ rfl;(with_reducible repeat (first|refine qf_ ?_ _|refine qi_ ?_|refine qe_ ?_ _));refine qi1_ (cs:=#[.string ((rd_T79 l0_2 x3_1).f0),.int .i64 0,.int .i64 0]) ?_ 1 _ rfl;(with_reducible repeat (first|refine qf_ ?_ _|refine qi_ ?_|refine qe_ ?_ _));refine qi1_ (cs:=#[.string (⟨#[]⟩:ByteArray),.int .i64 0,.int .i64 0]) ?_ 0 _ rfl;(with_reducible repeat (first|refine qf_ ?_ _|refine qi_ ?_|refine qe_ ?_ _));exact BK210.out⟩,⟨by repeat (first|(with_reducible first|exact HB.out|apply qb_|apply qa_|apply qc_|refine qh_ ?_ GE207.out|refine qh_ ?_ GE210.out)|exact HB.out)⟩⟩
       ·rw [if_neg c13] at H
        have c13b0:decide (a0_1 < (((rd_T79 l0_2 x3_1).f0).size:Int))=false:=decide_eq_false c13
        clear c13
        (first|rw [c13b0]|(simp only [i64_w,i32_w];rw [c13b0])|skip)
        replace H:=Option.bind_eq_some_iff.mp H
        obtain ⟨t211,A170,H⟩:=H
        replace H:(if t211=true then ((qv_.f k1 ((rd_T79 l0_2 x3_1).f1.f0) ((rd_T79 l0_2 x3_1).f1.f1)).bind fun t212=>(if t212=true then ((qu2_.f ((rd_T79 l0_2 x3_1).f1.f0) ((rd_T79 l0_2 x3_1).f1.f1)).bind fun t213=>(qw_.j1 k1 x3_1 t213 a0_0 a0_1 l0_2 ((rd_T79 l0_2 x3_1).f0) ((rd_T79 l0_2 x3_1).f1.f0) ((rd_T79 l0_2 x3_1).f1.f1))) else (qw_.j1 k1 x3_1 true a0_0 a0_1 l0_2 ((rd_T79 l0_2 x3_1).f0) ((rd_T79 l0_2 x3_1).f1.f0) ((rd_T79 l0_2 x3_1).f1.f1)))) else (qw_.j1 k1 x3_1 true a0_0 a0_1 l0_2 ((rd_T79 l0_2 x3_1).f0) ((rd_T79 l0_2 x3_1).f1.f0) ((rd_T79 l0_2 x3_1).f1.f1)))=some r:=H
        have A17:=aK A170
        clear A170
        by_cases c18:t211=true
        ·subst c18
         have H1:((qv_.f k1 ((rd_T79 l0_2 x3_1).f1.f0) ((rd_T79 l0_2 x3_1).f1.f1)).bind fun t212=>(if t212=true then ((qu2_.f ((rd_T79 l0_2 x3_1).f1.f0) ((rd_T79 l0_2 x3_1).f1.f1)).bind fun t213=>(qw_.j1 k1 x3_1 t213 a0_0 a0_1 l0_2 ((rd_T79 l0_2 x3_1).f0) ((rd_T79 l0_2 x3_1).f1.f0) ((rd_T79 l0_2 x3_1).f1.f1))) else (qw_.j1 k1 x3_1 true a0_0 a0_1 l0_2 ((rd_T79 l0_2 x3_1).f0) ((rd_T79 l0_2 x3_1).f1.f0) ((rd_T79 l0_2 x3_1).f1.f1))))=some r:=by rw [if_pos rfl] at H;exact H
         clear H
         have H:=H1
         clear H1
         replace H:=Option.bind_eq_some_iff.mp H
         obtain ⟨t212,A190,H⟩:=H
         replace H:(if t212=true then ((qu2_.f ((rd_T79 l0_2 x3_1).f1.f0) ((rd_T79 l0_2 x3_1).f1.f1)).bind fun t213=>(qw_.j1 k1 x3_1 t213 a0_0 a0_1 l0_2 ((rd_T79 l0_2 x3_1).f0) ((rd_T79 l0_2 x3_1).f1.f0) ((rd_T79 l0_2 x3_1).f1.f1))) else (qw_.j1 k1 x3_1 true a0_0 a0_1 l0_2 ((rd_T79 l0_2 x3_1).f0) ((rd_T79 l0_2 x3_1).f1.f0) ((rd_T79 l0_2 x3_1).f1.f1)))=some r:=H
         have A19:=aK A190
         clear A190
         by_cases c20:t212=true
         ·subst c20
          have H1:((qu2_.f ((rd_T79 l0_2 x3_1).f1.f0) ((rd_T79 l0_2 x3_1).f1.f1)).bind fun t213=>(qw_.j1 k1 x3_1 t213 a0_0 a0_1 l0_2 ((rd_T79 l0_2 x3_1).f0) ((rd_T79 l0_2 x3_1).f1.f0) ((rd_T79 l0_2 x3_1).f1.f1)))=some r:=by rw [if_pos rfl] at H;exact H
          clear H
          have H:=H1
          clear H1
          replace H:=Option.bind_eq_some_iff.mp H
          obtain ⟨t213,A210,H⟩:=H
          replace H:(qw_.j1 k1 x3_1 t213 a0_0 a0_1 l0_2 ((rd_T79 l0_2 x3_1).f0) ((rd_T79 l0_2 x3_1).f1.f0) ((rd_T79 l0_2 x3_1).f1.f1))=some r:=H
          have A21:=aK A210
          clear A210
          have H':=aK H
          clear H
          have hnb22:=NB210_207.out
          have hnc22:=NB207_210.out
          have hcz23_0:w10.cell? ⟨gb210,0,none⟩=some (.string (⟨#[]⟩:ByteArray)):=(qg_ BK210.out 0).trans rfl
          have hcz23_1:w10.cell? ⟨gb210,1,none⟩=some (.int .i64 0):=(qg_ BK210.out 1).trans rfl
          have hcz23_2:w10.cell? ⟨gb210,2,none⟩=some (.int .i64 0):=(qg_ BK210.out 2).trans rfl
          have hfz23_0:=qd_ BK210.out 0
          have hfz23_1:=qd_ BK210.out 1
          have hfz23_2:=qd_ BK210.out 2
          have hcz24_0:w10.cell? ⟨gb207,0,none⟩=some (.int .i64 a0_0):=(qg_ BK207.out 0).trans rfl
          have hcz24_1:w10.cell? ⟨gb207,1,none⟩=some (.int .i64 a0_1):=(qg_ BK207.out 1).trans rfl
          have hcz24_2:w10.cell? ⟨gb207,2,none⟩=some (.slice (some ad209) l0_2.length c0_2):=(qg_ BK207.out 2).trans rfl
          have hfz24_0:=qd_ BK207.out 0
          have hfz24_1:=qd_ BK207.out 1
          have hfz24_2:=qd_ BK207.out 2
          go_wp2_with (first|(go_at_call 150;(with_reducible refine (qd1_.calls k1 a0_0 ((rd_T79 l0_2 x3_1).f0) true _ A17.out).mono ?_);rintro e w' ⟨rfl,⟨nd,rfl⟩⟩;(try first|exact ⟨rfl,_,World.drewN_drewN _ _ _⟩|exact ⟨rfl,_,Eq.trans (World.drewN_drewN _ _ _) (congrArg (World.drewN _) (Nat.add_assoc _ _ _))⟩))|(go_at_call 151;(with_reducible refine (qv_.calls k1 ((rd_T79 l0_2 x3_1).f1.f0) ((rd_T79 l0_2 x3_1).f1.f1) true _ A19.out).mono ?_);rintro e w25 ⟨rfl,hb⟩;have n0_:=aK (qm_ (g:=gb207) (o:=.cells #[.int .i64 a0_0,.int .i64 a0_1,.slice (some ad209) l0_2.length c0_2] 38 (0,0)) (by (with_reducible repeat (first|refine qf_ ?_ _|refine qi_ ?_|refine qe_ ?_ _));refine qk1_ ?_ NB207_210.out _;(with_reducible repeat (first|refine qf_ ?_ _|refine qi_ ?_|refine qe_ ?_ _));refine qk1_ ?_ NB207_210.out _;(with_reducible repeat (first|refine qf_ ?_ _|refine qi_ ?_|refine qe_ ?_ _));refine qk1_ ?_ NB207_210.out _;(with_reducible repeat (first|refine qf_ ?_ _|refine qi_ ?_|refine qe_ ?_ _));exact BK207.out) hb);have n1_:=aK (qm_ (g:=gb210) (o:=.cells #[.string ((rd_T79 l0_2 x3_1).f0),.int .i64 ((rd_T79 l0_2 x3_1).f1.f0),.int .i64 ((rd_T79 l0_2 x3_1).f1.f1)] 79 (0,0)) (by (with_reducible repeat (first|refine qf_ ?_ _|refine qi_ ?_|refine qe_ ?_ _));refine qi1_ (cs:=#[.string ((rd_T79 l0_2 x3_1).f0),.int .i64 ((rd_T79 l0_2 x3_1).f1.f0),.int .i64 0]) ?_ 2 _ rfl;(with_reducible repeat (first|refine qf_ ?_ _|refine qi_ ?_|refine qe_ ?_ _));refine qi1_ (cs:=#[.string ((rd_T79 l0_2 x3_1).f0),.int .i64 0,.int .i64 0]) ?_ 1 _ rfl;(with_reducible repeat (first|refine qf_ ?_ _|refine qi_ ?_|refine qe_ ?_ _));refine qi1_ (cs:=#[.string (⟨#[]⟩:ByteArray),.int .i64 0,.int .i64 0]) ?_ 0 _ rfl;(with_reducible repeat (first|refine qf_ ?_ _|refine qi_ ?_|refine qe_ ?_ _));exact BK210.out) hb);have n2_:=aK (qj_ (by repeat (first|(with_reducible first|exact HB.out|apply qb_|apply qa_|apply qc_|refine qh_ ?_ GE207.out|refine qh_ ?_ GE210.out)|exact HB.out)) hb);clear BK207;clear BK210;clear HB;have BK207:=n0_;have BK210:=n1_;have HB:=n2_;clear n0_ n1_ n2_;(try clear hb);(try clear hb2);(try clear hk);(try clear hi);have hcz26_0:w25.cell? ⟨gb210,0,none⟩=some (.string ((rd_T79 l0_2 x3_1).f0)):=(qg_ BK210.out 0).trans rfl;have hcz26_1:w25.cell? ⟨gb210,1,none⟩=some (.int .i64 ((rd_T79 l0_2 x3_1).f1.f0)):=(qg_ BK210.out 1).trans rfl;have hcz26_2:w25.cell? ⟨gb210,2,none⟩=some (.int .i64 ((rd_T79 l0_2 x3_1).f1.f1)):=(qg_ BK210.out 2).trans rfl;have hfz26_0:=qd_ BK210.out 0;have hfz26_1:=qd_ BK210.out 1;have hfz26_2:=qd_ BK210.out 2)|(go_at_call 141;(with_reducible refine (qu2_.calls ((rd_T79 l0_2 x3_1).f1.f0) ((rd_T79 l0_2 x3_1).f1.f1) t213 _ A21.out).mono ?_);rintro e w27 ⟨rfl,hb⟩;have n0_:=aK (qm_ (g:=gb207) (o:=.cells #[.int .i64 a0_0,.int .i64 a0_1,.slice (some ad209) l0_2.length c0_2] 38 (0,0)) (by (with_reducible repeat (first|refine qf_ ?_ _|refine qi_ ?_|refine qe_ ?_ _));exact BK207.out) hb);have n1_:=aK (qm_ (g:=gb210) (o:=.cells #[.string ((rd_T79 l0_2 x3_1).f0),.int .i64 ((rd_T79 l0_2 x3_1).f1.f0),.int .i64 ((rd_T79 l0_2 x3_1).f1.f1)] 79 (0,0)) (by (with_reducible repeat (first|refine qf_ ?_ _|refine qi_ ?_|refine qe_ ?_ _));exact BK210.out) hb);have n2_:=aK (qj_ (by repeat (first|(with_reducible first|exact HB.out|apply qb_|apply qa_|apply qc_|refine qh_ ?_ GE207.out|refine qh_ ?_ GE210.out)|exact HB.out)) hb);clear BK207;clear BK210;clear HB;have BK207:=n0_;have BK210:=n1_;have HB:=n2_;clear n0_ n1_ n2_;(try clear hb);(try clear hb2);(try clear hk);(try clear hi)))
          repeat (go_quiet (first|(go_at_call 150;(with_reducible refine (qd1_.calls k1 a0_0 ((rd_T79 l0_2 x3_1).f0) true _ A17.out).mono ?_);rintro e w' ⟨rfl,⟨nd,rfl⟩⟩;(try first|exact ⟨rfl,_,World.drewN_drewN _ _ _⟩|exact ⟨rfl,_,Eq.trans (World.drewN_drewN _ _ _) (congrArg (World.drewN _) (Nat.add_assoc _ _ _))⟩))|(go_at_call 151;(with_reducible refine (qv_.calls k1 ((rd_T79 l0_2 x3_1).f1.f0) ((rd_T79 l0_2 x3_1).f1.f1) true _ A19.out).mono ?_);rintro e w25 ⟨rfl,hb⟩;have n0_:=aK (qm_ (g:=gb207) (o:=.cells #[.int .i64 a0_0,.int .i64 a0_1,.slice (some ad209) l0_2.length c0_2] 38 (0,0)) (by (with_reducible repeat (first|refine qf_ ?_ _|refine qi_ ?_|refine qe_ ?_ _));refine qk1_ ?_ NB207_210.out _;(with_reducible repeat (first|refine qf_ ?_ _|refine qi_ ?_|refine qe_ ?_ _));refine qk1_ ?_ NB207_210.out _;(with_reducible repeat (first|refine qf_ ?_ _|refine qi_ ?_|refine qe_ ?_ _));refine qk1_ ?_ NB207_210.out _;(with_reducible repeat (first|refine qf_ ?_ _|refine qi_ ?_|refine qe_ ?_ _));exact BK207.out) hb);have n1_:=aK (qm_ (g:=gb210) (o:=.cells #[.string ((rd_T79 l0_2 x3_1).f0),.int .i64 ((rd_T79 l0_2 x3_1).f1.f0),.int .i64 ((rd_T79 l0_2 x3_1).f1.f1)] 79 (0,0)) (by (with_reducible repeat (first|refine qf_ ?_ _|refine qi_ ?_|refine qe_ ?_ _));refine qi1_ (cs:=#[.string ((rd_T79 l0_2 x3_1).f0),.int .i64 ((rd_T79 l0_2 x3_1).f1.f0),.int .i64 0]) ?_ 2 _ rfl;(with_reducible repeat (first|refine qf_ ?_ _|refine qi_ ?_|refine qe_ ?_ _));refine qi1_ (cs:=#[.string ((rd_T79 l0_2 x3_1).f0),.int .i64 0,.int .i64 0]) ?_ 1 _ rfl;(with_reducible repeat (first|refine qf_ ?_ _|refine qi_ ?_|refine qe_ ?_ _));refine qi1_ (cs:=#[.string (⟨#[]⟩:ByteArray),.int .i64 0,.int .i64 0]) ?_ 0 _ rfl;(with_reducible repeat (first|refine qf_ ?_ _|refine qi_ ?_|refine qe_ ?_ _));exact BK210.out) hb);have n2_:=aK (qj_ (by repeat (first|(with_reducible first|exact HB.out|apply qb_|apply qa_|apply qc_|refine qh_ ?_ GE207.out|refine qh_ ?_ GE210.out)|exact HB.out)) hb);clear BK207;clear BK210;clear HB;have BK207:=n0_;have BK210:=n1_;have HB:=n2_;clear n0_ n1_ n2_;(try clear hb);(try clear hb2);(try clear hk);(try clear hi);have hcz26_0:w25.cell? ⟨gb210,0,none⟩=some (.string ((rd_T79 l0_2 x3_1).f0)):=(qg_ BK210.out 0).trans rfl;have hcz26_1:w25.cell? ⟨gb210,1,none⟩=some (.int .i64 ((rd_T79 l0_2 x3_1).f1.f0)):=(qg_ BK210.out 1).trans rfl;have hcz26_2:w25.cell? ⟨gb210,2,none⟩=some (.int .i64 ((rd_T79 l0_2 x3_1).f1.f1)):=(qg_ BK210.out 2).trans rfl;have hfz26_0:=qd_ BK210.out 0;have hfz26_1:=qd_ BK210.out 1;have hfz26_2:=qd_ BK210.out 2)|(go_at_call 141;(with_reducible refine (qu2_.calls ((rd_T79 l0_2 x3_1).f1.f0) ((rd_T79 l0_2 x3_1).f1.f1) t213 _ A21.out).mono ?_);rintro e w27 ⟨rfl,hb⟩;have n0_:=aK (qm_ (g:=gb207) (o:=.cells #[.int .i64 a0_0,.int .i64 a0_1,.slice (some ad209) l0_2.length c0_2] 38 (0,0)) (by (with_reducible repeat (first|refine qf_ ?_ _|refine qi_ ?_|refine qe_ ?_ _));exact BK207.out) hb);have n1_:=aK (qm_ (g:=gb210) (o:=.cells #[.string ((rd_T79 l0_2 x3_1).f0),.int .i64 ((rd_T79 l0_2 x3_1).f1.f0),.int .i64 ((rd_T79 l0_2 x3_1).f1.f1)] 79 (0,0)) (by (with_reducible repeat (first|refine qf_ ?_ _|refine qi_ ?_|refine qe_ ?_ _));exact BK210.out) hb);have n2_:=aK (qj_ (by repeat (first|(with_reducible first|exact HB.out|apply qb_|apply qa_|apply qc_|refine qh_ ?_ GE207.out|refine qh_ ?_ GE210.out)|exact HB.out)) hb);clear BK207;clear BK210;clear HB;have BK207:=n0_;have BK210:=n1_;have HB:=n2_;clear n0_ n1_ n2_;(try clear hb);(try clear hb2);(try clear hk);(try clear hi)));try go_wp2_with (first|(go_at_call 150;(with_reducible refine (qd1_.calls k1 a0_0 ((rd_T79 l0_2 x3_1).f0) true _ A17.out).mono ?_);rintro e w' ⟨rfl,⟨nd,rfl⟩⟩;(try first|exact ⟨rfl,_,World.drewN_drewN _ _ _⟩|exact ⟨rfl,_,Eq.trans (World.drewN_drewN _ _ _) (congrArg (World.drewN _) (Nat.add_assoc _ _ _))⟩))|(go_at_call 151;(with_reducible refine (qv_.calls k1 ((rd_T79 l0_2 x3_1).f1.f0) ((rd_T79 l0_2 x3_1).f1.f1) true _ A19.out).mono ?_);rintro e w25 ⟨rfl,hb⟩;have n0_:=aK (qm_ (g:=gb207) (o:=.cells #[.int .i64 a0_0,.int .i64 a0_1,.slice (some ad209) l0_2.length c0_2] 38 (0,0)) (by (with_reducible repeat (first|refine qf_ ?_ _|refine qi_ ?_|refine qe_ ?_ _));refine qk1_ ?_ NB207_210.out _;(with_reducible repeat (first|refine qf_ ?_ _|refine qi_ ?_|refine qe_ ?_ _));refine qk1_ ?_ NB207_210.out _;(with_reducible repeat (first|refine qf_ ?_ _|refine qi_ ?_|refine qe_ ?_ _));refine qk1_ ?_ NB207_210.out _;(with_reducible repeat (first|refine qf_ ?_ _|refine qi_ ?_|refine qe_ ?_ _));exact BK207.out) hb);have n1_:=aK (qm_ (g:=gb210) (o:=.cells #[.string ((rd_T79 l0_2 x3_1).f0),.int .i64 ((rd_T79 l0_2 x3_1).f1.f0),.int .i64 ((rd_T79 l0_2 x3_1).f1.f1)] 79 (0,0)) (by (with_reducible repeat (first|refine qf_ ?_ _|refine qi_ ?_|refine qe_ ?_ _));refine qi1_ (cs:=#[.string ((rd_T79 l0_2 x3_1).f0),.int .i64 ((rd_T79 l0_2 x3_1).f1.f0),.int .i64 0]) ?_ 2 _ rfl;(with_reducible repeat (first|refine qf_ ?_ _|refine qi_ ?_|refine qe_ ?_ _));refine qi1_ (cs:=#[.string ((rd_T79 l0_2 x3_1).f0),.int .i64 0,.int .i64 0]) ?_ 1 _ rfl;(with_reducible repeat (first|refine qf_ ?_ _|refine qi_ ?_|refine qe_ ?_ _));refine qi1_ (cs:=#[.string (⟨#[]⟩:ByteArray),.int .i64 0,.int .i64 0]) ?_ 0 _ rfl;(with_reducible repeat (first|refine qf_ ?_ _|refine qi_ ?_|refine qe_ ?_ _));exact BK210.out) hb);have n2_:=aK (qj_ (by repeat (first|(with_reducible first|exact HB.out|apply qb_|apply qa_|apply qc_|refine qh_ ?_ GE207.out|refine qh_ ?_ GE210.out)|exact HB.out)) hb);clear BK207;clear BK210;clear HB;have BK207:=n0_;have BK210:=n1_;have HB:=n2_;clear n0_ n1_ n2_;(try clear hb);(try clear hb2);(try clear hk);(try clear hi);have hcz26_0:w25.cell? ⟨gb210,0,none⟩=some (.string ((rd_T79 l0_2 x3_1).f0)):=(qg_ BK210.out 0).trans rfl;have hcz26_1:w25.cell? ⟨gb210,1,none⟩=some (.int .i64 ((rd_T79 l0_2 x3_1).f1.f0)):=(qg_ BK210.out 1).trans rfl;have hcz26_2:w25.cell? ⟨gb210,2,none⟩=some (.int .i64 ((rd_T79 l0_2 x3_1).f1.f1)):=(qg_ BK210.out 2).trans rfl;have hfz26_0:=qd_ BK210.out 0;have hfz26_1:=qd_ BK210.out 1;have hfz26_2:=qd_ BK210.out 2)|(go_at_call 141;(with_reducible refine (qu2_.calls ((rd_T79 l0_2 x3_1).f1.f0) ((rd_T79 l0_2 x3_1).f1.f1) t213 _ A21.out).mono ?_);rintro e w27 ⟨rfl,hb⟩;have n0_:=aK (qm_ (g:=gb207) (o:=.cells #[.int .i64 a0_0,.int .i64 a0_1,.slice (some ad209) l0_2.length c0_2] 38 (0,0)) (by (with_reducible repeat (first|refine qf_ ?_ _|refine qi_ ?_|refine qe_ ?_ _));exact BK207.out) hb);have n1_:=aK (qm_ (g:=gb210) (o:=.cells #[.string ((rd_T79 l0_2 x3_1).f0),.int .i64 ((rd_T79 l0_2 x3_1).f1.f0),.int .i64 ((rd_T79 l0_2 x3_1).f1.f1)] 79 (0,0)) (by (with_reducible repeat (first|refine qf_ ?_ _|refine qi_ ?_|refine qe_ ?_ _));exact BK210.out) hb);have n2_:=aK (qj_ (by repeat (first|(with_reducible first|exact HB.out|apply qb_|apply qa_|apply qc_|refine qh_ ?_ GE207.out|refine qh_ ?_ GE210.out)|exact HB.out)) hb);clear BK207;clear BK210;clear HB;have BK207:=n0_;have BK210:=n1_;have HB:=n2_;clear n0_ n1_ n2_;(try clear hb);(try clear hb2);(try clear hk);(try clear hi))))
          go_meet
          case rel=>exact ⟨_,(t213),(by first|rfl|(simp;done)|(simp [*];done)),H',⟨by have:=HK1.out;first|omega|exact Nat.le_refl _⟩,⟨by (with_reducible repeat (first|refine qf_ ?_ _|refine qi_ ?_|refine qe_ ?_ _));exact BK207.out⟩,⟨by (with_reducible repeat (first|refine qf_ ?_ _|refine qi_ ?_|refine qe_ ?_ _));exact BK210.out⟩,⟨by repeat (first|(with_reducible first|exact HB.out|apply qb_|apply qa_|apply qc_|refine qh_ ?_ GE207.out|refine qh_ ?_ GE210.out)|exact HB.out)⟩⟩
         ·replace c20:=Bool.eq_false_iff.mpr c20
          subst c20
          have H1:(qw_.j1 k1 x3_1 true a0_0 a0_1 l0_2 ((rd_T79 l0_2 x3_1).f0) ((rd_T79 l0_2 x3_1).f1.f0) ((rd_T79 l0_2 x3_1).f1.f1))=some r:=by rw [if_neg (show ¬ (false=true) by decide)] at H;exact H
          clear H
          have H:=H1
          clear H1
          have H':=aK H
          clear H
          have hnb28:=NB210_207.out
          have hnc28:=NB207_210.out
          have hcz29_0:w10.cell? ⟨gb210,0,none⟩=some (.string (⟨#[]⟩:ByteArray)):=(qg_ BK210.out 0).trans rfl
          have hcz29_1:w10.cell? ⟨gb210,1,none⟩=some (.int .i64 0):=(qg_ BK210.out 1).trans rfl
          have hcz29_2:w10.cell? ⟨gb210,2,none⟩=some (.int .i64 0):=(qg_ BK210.out 2).trans rfl
          have hfz29_0:=qd_ BK210.out 0
          have hfz29_1:=qd_ BK210.out 1
          have hfz29_2:=qd_ BK210.out 2
          have hcz30_0:w10.cell? ⟨gb207,0,none⟩=some (.int .i64 a0_0):=(qg_ BK207.out 0).trans rfl
          have hcz30_1:w10.cell? ⟨gb207,1,none⟩=some (.int .i64 a0_1):=(qg_ BK207.out 1).trans rfl
          have hcz30_2:w10.cell? ⟨gb207,2,none⟩=some (.slice (some ad209) l0_2.length c0_2):=(qg_ BK207.out 2).trans rfl
          have hfz30_0:=qd_ BK207.out 0
          have hfz30_1:=qd_ BK207.out 1
          have hfz30_2:=qd_ BK207.out 2
          go_wp2_with (first|(go_at_call 150;(with_reducible refine (qd1_.calls k1 a0_0 ((rd_T79 l0_2 x3_1).f0) true _ A17.out).mono ?_);rintro e w' ⟨rfl,⟨nd,rfl⟩⟩;(try first|exact ⟨rfl,_,World.drewN_drewN _ _ _⟩|exact ⟨rfl,_,Eq.trans (World.drewN_drewN _ _ _) (congrArg (World.drewN _) (Nat.add_assoc _ _ _))⟩))|(go_at_call 151;(with_reducible refine (qv_.calls k1 ((rd_T79 l0_2 x3_1).f1.f0) ((rd_T79 l0_2 x3_1).f1.f1) false _ A19.out).mono ?_);rintro e w31 ⟨rfl,hb⟩;have n0_:=aK (qm_ (g:=gb207) (o:=.cells #[.int .i64 a0_0,.int .i64 a0_1,.slice (some ad209) l0_2.length c0_2] 38 (0,0)) (by (with_reducible repeat (first|refine qf_ ?_ _|refine qi_ ?_|refine qe_ ?_ _));refine qk1_ ?_ NB207_210.out _;(with_reducible repeat (first|refine qf_ ?_ _|refine qi_ ?_|refine qe_ ?_ _));refine qk1_ ?_ NB207_210.out _;(with_reducible repeat (first|refine qf_ ?_ _|refine qi_ ?_|refine qe_ ?_ _));refine qk1_ ?_ NB207_210.out _;(with_reducible repeat (first|refine qf_ ?_ _|refine qi_ ?_|refine qe_ ?_ _));exact BK207.out) hb);have n1_:=aK (qm_ (g:=gb210) (o:=.cells #[.string ((rd_T79 l0_2 x3_1).f0),.int .i64 ((rd_T79 l0_2 x3_1).f1.f0),.int .i64 ((rd_T79 l0_2 x3_1).f1.f1)] 79 (0,0)) (by (with_reducible repeat (first|refine qf_ ?_ _|refine qi_ ?_|refine qe_ ?_ _));refine qi1_ (cs:=#[.string ((rd_T79 l0_2 x3_1).f0),.int .i64 ((rd_T79 l0_2 x3_1).f1.f0),.int .i64 0]) ?_ 2 _ rfl;(with_reducible repeat (first|refine qf_ ?_ _|refine qi_ ?_|refine qe_ ?_ _));refine qi1_ (cs:=#[.string ((rd_T79 l0_2 x3_1).f0),.int .i64 0,.int .i64 0]) ?_ 1 _ rfl;(with_reducible repeat (first|refine qf_ ?_ _|refine qi_ ?_|refine qe_ ?_ _));refine qi1_ (cs:=#[.string (⟨#[]⟩:ByteArray),.int .i64 0,.int .i64 0]) ?_ 0 _ rfl;(with_reducible repeat (first|refine qf_ ?_ _|refine qi_ ?_|refine qe_ ?_ _));exact BK210.out) hb);have n2_:=aK (qj_ (by repeat (first|(with_reducible first|exact HB.out|apply qb_|apply qa_|apply qc_|refine qh_ ?_ GE207.out|refine qh_ ?_ GE210.out)|exact HB.out)) hb);clear BK207;clear BK210;clear HB;have BK207:=n0_;have BK210:=n1_;have HB:=n2_;clear n0_ n1_ n2_;(try clear hb);(try clear hb2);(try clear hk);(try clear hi)))
          repeat (go_quiet (first|(go_at_call 150;(with_reducible refine (qd1_.calls k1 a0_0 ((rd_T79 l0_2 x3_1).f0) true _ A17.out).mono ?_);rintro e w' ⟨rfl,⟨nd,rfl⟩⟩;(try first|exact ⟨rfl,_,World.drewN_drewN _ _ _⟩|exact ⟨rfl,_,Eq.trans (World.drewN_drewN _ _ _) (congrArg (World.drewN _) (Nat.add_assoc _ _ _))⟩))|(go_at_call 151;(with_reducible refine (qv_.calls k1 ((rd_T79 l0_2 x3_1).f1.f0) ((rd_T79 l0_2 x3_1).f1.f1) false _ A19.out).mono ?_);rintro e w31 ⟨rfl,hb⟩;have n0_:=aK (qm_ (g:=gb207) (o:=.cells #[.int .i64 a0_0,.int .i64 a0_1,.slice (some ad209) l0_2.length c0_2] 38 (0,0)) (by (with_reducible repeat (first|refine qf_ ?_ _|refine qi_ ?_|refine qe_ ?_ _));refine qk1_ ?_ NB207_210.out _;(with_reducible repeat (first|refine qf_ ?_ _|refine qi_ ?_|refine qe_ ?_ _));refine qk1_ ?_ NB207_210.out _;(with_reducible repeat (first|refine qf_ ?_ _|refine qi_ ?_|refine qe_ ?_ _));refine qk1_ ?_ NB207_210.out _;(with_reducible repeat (first|refine qf_ ?_ _|refine qi_ ?_|refine qe_ ?_ _));exact BK207.out) hb);have n1_:=aK (qm_ (g:=gb210) (o:=.cells #[.string ((rd_T79 l0_2 x3_1).f0),.int .i64 ((rd_T79 l0_2 x3_1).f1.f0),.int .i64 ((rd_T79 l0_2 x3_1).f1.f1)] 79 (0,0)) (by (with_reducible repeat (first|refine qf_ ?_ _|refine qi_ ?_|refine qe_ ?_ _));refine qi1_ (cs:=#[.string ((rd_T79 l0_2 x3_1).f0),.int .i64 ((rd_T79 l0_2 x3_1).f1.f0),.int .i64 0]) ?_ 2 _ rfl;(with_reducible repeat (first|refine qf_ ?_ _|refine qi_ ?_|refine qe_ ?_ _));refine qi1_ (cs:=#[.string ((rd_T79 l0_2 x3_1).f0),.int .i64 0,.int .i64 0]) ?_ 1 _ rfl;(with_reducible repeat (first|refine qf_ ?_ _|refine qi_ ?_|refine qe_ ?_ _));refine qi1_ (cs:=#[.string (⟨#[]⟩:ByteArray),.int .i64 0,.int .i64 0]) ?_ 0 _ rfl;(with_reducible repeat (first|refine qf_ ?_ _|refine qi_ ?_|refine qe_ ?_ _));exact BK210.out) hb);have n2_:=aK (qj_ (by repeat (first|(with_reducible first|exact HB.out|apply qb_|apply qa_|apply qc_|refine qh_ ?_ GE207.out|refine qh_ ?_ GE210.out)|exact HB.out)) hb);clear BK207;clear BK210;clear HB;have BK207:=n0_;have BK210:=n1_;have HB:=n2_;clear n0_ n1_ n2_;(try clear hb);(try clear hb2);(try clear hk);(try clear hi)));try go_wp2_with (first|(go_at_call 150;(with_reducible refine (qd1_.calls k1 a0_0 ((rd_T79 l0_2 x3_1).f0) true _ A17.out).mono ?_);rintro e w' ⟨rfl,⟨nd,rfl⟩⟩;(try first|exact ⟨rfl,_,World.drewN_drewN _ _ _⟩|exact ⟨rfl,_,Eq.trans (World.drewN_drewN _ _ _) (congrArg (World.drewN _) (Nat.add_assoc _ _ _))⟩))|(go_at_call 151;(with_reducible refine (qv_.calls k1 ((rd_T79 l0_2 x3_1).f1.f0) ((rd_T79 l0_2 x3_1).f1.f1) false _ A19.out).mono ?_);rintro e w31 ⟨rfl,hb⟩;have n0_:=aK (qm_ (g:=gb207) (o:=.cells #[.int .i64 a0_0,.int .i64 a0_1,.slice (some ad209) l0_2.length c0_2] 38 (0,0)) (by (with_reducible repeat (first|refine qf_ ?_ _|refine qi_ ?_|refine qe_ ?_ _));refine qk1_ ?_ NB207_210.out _;(with_reducible repeat (first|refine qf_ ?_ _|refine qi_ ?_|refine qe_ ?_ _));refine qk1_ ?_ NB207_210.out _;(with_reducible repeat (first|refine qf_ ?_ _|refine qi_ ?_|refine qe_ ?_ _));refine qk1_ ?_ NB207_210.out _;(with_reducible repeat (first|refine qf_ ?_ _|refine qi_ ?_|refine qe_ ?_ _));exact BK207.out) hb);have n1_:=aK (qm_ (g:=gb210) (o:=.cells #[.string ((rd_T79 l0_2 x3_1).f0),.int .i64 ((rd_T79 l0_2 x3_1).f1.f0),.int .i64 ((rd_T79 l0_2 x3_1).f1.f1)] 79 (0,0)) (by (with_reducible repeat (first|refine qf_ ?_ _|refine qi_ ?_|refine qe_ ?_ _));refine qi1_ (cs:=#[.string ((rd_T79 l0_2 x3_1).f0),.int .i64 ((rd_T79 l0_2 x3_1).f1.f0),.int .i64 0]) ?_ 2 _ rfl;(with_reducible repeat (first|refine qf_ ?_ _|refine qi_ ?_|refine qe_ ?_ _));refine qi1_ (cs:=#[.string ((rd_T79 l0_2 x3_1).f0),.int .i64 0,.int .i64 0]) ?_ 1 _ rfl;(with_reducible repeat (first|refine qf_ ?_ _|refine qi_ ?_|refine qe_ ?_ _));refine qi1_ (cs:=#[.string (⟨#[]⟩:ByteArray),.int .i64 0,.int .i64 0]) ?_ 0 _ rfl;(with_reducible repeat (first|refine qf_ ?_ _|refine qi_ ?_|refine qe_ ?_ _));exact BK210.out) hb);have n2_:=aK (qj_ (by repeat (first|(with_reducible first|exact HB.out|apply qb_|apply qa_|apply qc_|refine qh_ ?_ GE207.out|refine qh_ ?_ GE210.out)|exact HB.out)) hb);clear BK207;clear BK210;clear HB;have BK207:=n0_;have BK210:=n1_;have HB:=n2_;clear n0_ n1_ n2_;(try clear hb);(try clear hb2);(try clear hk);(try clear hi))))
          go_meet
          case rel=>exact ⟨_,(true),(by first|rfl|(simp;done)|(simp [*];done)),H',⟨by have:=HK1.out;first|omega|exact Nat.le_refl _⟩,⟨by (with_reducible repeat (first|refine qf_ ?_ _|refine qi_ ?_|refine qe_ ?_ _));exact BK207.out⟩,⟨by (with_reducible repeat (first|refine qf_ ?_ _|refine qi_ ?_|refine qe_ ?_ _));exact BK210.out⟩,⟨by repeat (first|(with_reducible first|exact HB.out|apply qb_|apply qa_|apply qc_|refine qh_ ?_ GE207.out|refine qh_ ?_ GE210.out)|exact HB.out)⟩⟩
        ·replace c18:=Bool.eq_false_iff.mpr c18
         subst c18
         have H1:(qw_.j1 k1 x3_1 true a0_0 a0_1 l0_2 ((rd_T79 l0_2 x3_1).f0) ((rd_T79 l0_2 x3_1).f1.f0) ((rd_T79 l0_2 x3_1).f1.f1))=some r:=by rw [if_neg (show ¬ (false=true) by decide)] at H;exact H
         clear H
         have H:=H1
         clear H1
         have H':=aK H
         clear H
         have hnb32:=NB210_207.out
         have hnc32:=NB207_210.out
         have hcz33_0:w10.cell? ⟨gb210,0,none⟩=some (.string (⟨#[]⟩:ByteArray)):=(qg_ BK210.out 0).trans rfl
         have hcz33_1:w10.cell? ⟨gb210,1,none⟩=some (.int .i64 0):=(qg_ BK210.out 1).trans rfl
         have hcz33_2:w10.cell? ⟨gb210,2,none⟩=some (.int .i64 0):=(qg_ BK210.out 2).trans rfl
         have hfz33_0:=qd_ BK210.out 0
         have hfz33_1:=qd_ BK210.out 1
         have hfz33_2:=qd_ BK210.out 2
         have hcz34_0:w10.cell? ⟨gb207,0,none⟩=some (.int .i64 a0_0):=(qg_ BK207.out 0).trans rfl
         have hcz34_1:w10.cell? ⟨gb207,1,none⟩=some (.int .i64 a0_1):=(qg_ BK207.out 1).trans rfl
         have hcz34_2:w10.cell? ⟨gb207,2,none⟩=some (.slice (some ad209) l0_2.length c0_2):=(qg_ BK207.out 2).trans rfl
         have hfz34_0:=qd_ BK207.out 0
         have hfz34_1:=qd_ BK207.out 1
         have hfz34_2:=qd_ BK207.out 2
         go_wp2_with (first|(go_at_call 150;(with_reducible refine (qd1_.calls k1 a0_0 ((rd_T79 l0_2 x3_1).f0) false _ A17.out).mono ?_);rintro e w' ⟨rfl,⟨nd,rfl⟩⟩;(try first|exact ⟨rfl,_,World.drewN_drewN _ _ _⟩|exact ⟨rfl,_,Eq.trans (World.drewN_drewN _ _ _) (congrArg (World.drewN _) (Nat.add_assoc _ _ _))⟩)))
         repeat (go_quiet (first|(go_at_call 150;(with_reducible refine (qd1_.calls k1 a0_0 ((rd_T79 l0_2 x3_1).f0) false _ A17.out).mono ?_);rintro e w' ⟨rfl,⟨nd,rfl⟩⟩;(try first|exact ⟨rfl,_,World.drewN_drewN _ _ _⟩|exact ⟨rfl,_,Eq.trans (World.drewN_drewN _ _ _) (congrArg (World.drewN _) (Nat.add_assoc _ _ _))⟩)));try go_wp2_with (first|(go_at_call 150;(with_reducible refine (qd1_.calls k1 a0_0 ((rd_T79 l0_2 x3_1).f0) false _ A17.out).mono ?_);rintro e w' ⟨rfl,⟨nd,rfl⟩⟩;(try first|exact ⟨rfl,_,World.drewN_drewN _ _ _⟩|exact ⟨rfl,_,Eq.trans (World.drewN_drewN _ _ _) (congrArg (World.drewN _) (Nat.add_assoc _ _ _))⟩))))
         go_meet
         case rel=>exact ⟨_,(true),(by first|rfl|(simp;done)|(simp [*];done)),H',⟨by have:=HK1.out;first|omega|exact Nat.le_refl _⟩,⟨by (with_reducible repeat (first|refine qf_ ?_ _|refine qi_ ?_|refine qe_ ?_ _));refine qk1_ ?_ NB207_210.out _;(with_reducible repeat (first|refine qf_ ?_ _|refine qi_ ?_|refine qe_ ?_ _));refine qk1_ ?_ NB207_210.out _;(with_reducible repeat (first|refine qf_ ?_ _|refine qi_ ?_|refine qe_ ?_ _));refine qk1_ ?_ NB207_210.out _;(with_reducible repeat (first|refine qf_ ?_ _|refine qi_ ?_|refine qe_ ?_ _));exact BK207.out⟩,⟨by (with_reducible repeat (first|refine qf_ ?_ _|refine qi_ ?_|refine qe_ ?_ _));refine qi1_ (cs:=#[.string ((rd_T79 l0_2 x3_1).f0),.int .i64 ((rd_T79 l0_2 x3_1).f1.f0),.int .i64 0]) ?_ 2 _ rfl;(with_reducible repeat (first|refine qf_ ?_ _|refine qi_ ?_|refine qe_ ?_ _));refine qi1_ (cs:=#[.string ((rd_T79 l0_2 x3_1).f0),.int .i64 0,.int .i64 0]) ?_ 1 _ rfl;(with_reducible repeat (first|refine qf_ ?_ _|refine qi_ ?_|refine qe_ ?_ _));refine qi1_ (cs:=#[.string (⟨#[]⟩:ByteArray),.int .i64 0,.int .i64 0]) ?_ 0 _ rfl;(with_reducible repeat (first|refine qf_ ?_ _|refine qi_ ?_|refine qe_ ?_ _));exact BK210.out⟩,⟨by repeat (first|(with_reducible first|exact HB.out|apply qb_|apply qa_|apply qc_|refine qh_ ?_ GE207.out|refine qh_ ?_ GE210.out)|exact HB.out)⟩⟩
      case rest =>
       clear HC8
       try clear c1
       try clear c2
       try clear p2
       try clear q2
       try clear hx2
       try clear c3
       try clear c6
       try clear c6b0
       try clear c7
       try clear c7b0
       try clear c8
       try clear c11
       try clear c13
       try clear c13b0
       try clear c14
       try clear c18
       try clear c20
       try clear p20
       try clear q20
       try clear hx20
       try clear c22
       try clear c28
       try clear c32
       try clear hcz12_0
       try clear hcz12_1
       try clear hcz12_2
       try clear hcz15_0
       try clear hcz15_1
       try clear hcz15_2
       try clear hcz16_0
       try clear hcz16_1
       try clear hcz16_2
       try clear hcz23_0
       try clear hcz23_1
       try clear hcz23_2
       try clear hcz24_0
       try clear hcz24_1
       try clear hcz24_2
       try clear hcz26_0
       try clear hcz26_1
       try clear hcz26_2
       try clear hcz29_0
       try clear hcz29_1
       try clear hcz29_2
       try clear hcz30_0
       try clear hcz30_1
       try clear hcz30_2
       try clear hcz33_0
       try clear hcz33_1
       try clear hcz33_2
       try clear hcz34_0
       try clear hcz34_1
       try clear hcz34_2
       try clear hcz5_0
       try clear hcz5_1
       try clear hcz5_2
       try clear hcz9_0
       try clear hcz9_1
       try clear hcz9_2
       try clear hfz12_0
       try clear hfz12_1
       try clear hfz12_2
       try clear hfz15_0
       try clear hfz15_1
       try clear hfz15_2
       try clear hfz16_0
       try clear hfz16_1
       try clear hfz16_2
       try clear hfz23_0
       try clear hfz23_1
       try clear hfz23_2
       try clear hfz24_0
       try clear hfz24_1
       try clear hfz24_2
       try clear hfz26_0
       try clear hfz26_1
       try clear hfz26_2
       try clear hfz29_0
       try clear hfz29_1
       try clear hfz29_2
       try clear hfz30_0
       try clear hfz30_1
       try clear hfz30_2
       try clear hfz33_0
       try clear hfz33_1
       try clear hfz33_2
       try clear hfz34_0
       try clear hfz34_1
       try clear hfz34_2
       try clear hfz5_0
       try clear hfz5_1
       try clear hfz5_2
       try clear hfz9_0
       try clear hfz9_1
       try clear hfz9_2
       try clear hx209_0
       try clear hx209_1
       try clear hx209_2
       try clear p2
       try clear p209
       try clear q209
       obtain ⟨kq,x47_7,rfl,HA,HJ7,BK207,BK210,HB⟩:=hcut
       cases kq with
       | zero=>exact absurd HA.out (by simp [qw_.j1])
       | succ kj7 =>
        have H:=HA.out
        clear HA
        simp only [qw_.j1] at H
        by_cases c35:x47_7=true
        ·subst c35
         have H1:(some false)=some r:=by rw [if_pos rfl] at H;exact H
         clear H
         have H:=H1
         clear H1
         obtain rfl:=Option.some.inj H
         go_wp2
         repeat (go_quiet (fail);try go_wp2)
         go_ret
         exact ⟨by first|rfl|(simp [qo_,qn_] <;> rfl)|(simp [*,qo_,qn_] <;> rfl),by repeat (first|(with_reducible first|exact HB.out|apply qb_|apply qa_|apply qc_|refine qh_ ?_ GE207.out|refine qh_ ?_ GE210.out)|exact HB.out)⟩
        ·replace c35:=Bool.eq_false_iff.mpr c35
         subst c35
         have H1:(if x3_1 > 0 then (if 0≤(wrap64 (x3_1 - 1)) then (if (wrap64 (x3_1 - 1)) < (l0_2.length:Int) then ((qa2_.f ((rd_T79 l0_2 (wrap64 (x3_1 - 1))).f0) ((rd_T79 l0_2 x3_1).f0)).bind fun t215=>(if t215=true then (qw_.l0 kj7 (wrap64 (x3_1+1)) a0_0 a0_1 l0_2) else (some false))) else (none)) else (none)) else (qw_.l0 kj7 (wrap64 (x3_1+1)) a0_0 a0_1 l0_2))=some r:=by rw [if_neg (show ¬ (false=true) by decide)] at H;exact H
         clear H
         have H:=H1
         clear H1
         by_cases c36:x3_1 > 0
         ·rw [if_pos c36] at H
          have c36b0:decide (0 < x3_1)=true:=decide_eq_true c36
          clear c36
          obtain ⟨ji37,hji37⟩:∃ j_:Int,(wrap64 (x3_1 - 1))=j_:=⟨_,rfl⟩
          replace H:(if 0≤(ji37) then (if (ji37) < (l0_2.length:Int) then ((qa2_.f ((rd_T79 l0_2 (ji37)).f0) ((rd_T79 l0_2 x3_1).f0)).bind fun t215=>(if t215=true then (qw_.l0 kj7 (wrap64 (x3_1+1)) a0_0 a0_1 l0_2) else (some false))) else (none)) else (none))=some r:=by first|(rw [hji37] at H;exact H)|(simp only [hji37] at H ⊢;exact H)
          have hji37w:(IntKind.i64.wrap (x3_1 - 1))=ji37:=(i64_w _).trans hji37
          by_cases c38:0≤(ji37)
          ·rw [if_pos c38] at H
           have c38b0:decide (0≤(ji37))=true:=decide_eq_true c38
           clear c38
           by_cases c39:(ji37) < (l0_2.length:Int)
           ·rw [if_pos c39] at H
            have c39b0:decide ((ji37) < (l0_2.length:Int))=true:=decide_eq_true c39
            clear c39
            replace H:=Option.bind_eq_some_iff.mp H
            obtain ⟨t215,A400,H⟩:=H
            replace H:(if t215=true then (qw_.l0 kj7 (wrap64 (x3_1+1)) a0_0 a0_1 l0_2) else (some false))=some r:=H
            have A40:=aK A400
            clear A400
            by_cases c41:t215=true
            ·subst c41
             have H1:(qw_.l0 kj7 (wrap64 (x3_1+1)) a0_0 a0_1 l0_2)=some r:=by rw [if_pos rfl] at H;exact H
             clear H
             have H:=H1
             clear H1
             have H':=aK H
             clear H
             have hnb42:=NB207_210.out
             have hnc42:=NB210_207.out
             have hcz43_0:wc.cell? ⟨gb207,0,none⟩=some (.int .i64 a0_0):=(qg_ BK207.out 0).trans rfl
             have hcz43_1:wc.cell? ⟨gb207,1,none⟩=some (.int .i64 a0_1):=(qg_ BK207.out 1).trans rfl
             have hcz43_2:wc.cell? ⟨gb207,2,none⟩=some (.slice (some ad209) l0_2.length c0_2):=(qg_ BK207.out 2).trans rfl
             have hfz43_0:=qd_ BK207.out 0
             have hfz43_1:=qd_ BK207.out 1
             have hfz43_2:=qd_ BK207.out 2
             have p214:0≤((ji37):Int):=of_decide_eq_true (by first|(with_reducible assumption)|assumption)
             have q214:(ji37) < (l0_2.length:Int):=of_decide_eq_true (by first|(with_reducible assumption)|assumption)
             obtain ⟨ad214,e214,hx214_0,hx214_1,hx214_2⟩:=at_T79 HR0_2.out (ji37) p214 q214
             obtain rfl:ad209=ad214:=(by injection e214)
             replace hx214_0:=(HB.out.cell (World.block_lt_of_cell? w _ hx214_0)).trans hx214_0
             replace hx214_1:=(HB.out.cell (World.block_lt_of_cell? w _ hx214_1)).trans hx214_1
             replace hx214_2:=(HB.out.cell (World.block_lt_of_cell? w _ hx214_2)).trans hx214_2
             replace p214:=eq_true p214
             replace q214:=eq_true q214
             have hcz44_0:wc.cell? ⟨gb210,0,none⟩=some (.string ((rd_T79 l0_2 x3_1).f0)):=(qg_ BK210.out 0).trans rfl
             have hcz44_1:wc.cell? ⟨gb210,1,none⟩=some (.int .i64 ((rd_T79 l0_2 x3_1).f1.f0)):=(qg_ BK210.out 1).trans rfl
             have hcz44_2:wc.cell? ⟨gb210,2,none⟩=some (.int .i64 ((rd_T79 l0_2 x3_1).f1.f1)):=(qg_ BK210.out 2).trans rfl
             have hfz44_0:=qd_ BK210.out 0
             have hfz44_1:=qd_ BK210.out 1
             have hfz44_2:=qd_ BK210.out 2
             go_wp2_with (first|(go_at_call 152;(with_reducible refine (qa2_.calls ((rd_T79 l0_2 (ji37)).f0) ((rd_T79 l0_2 x3_1).f0) true _ A40.out).mono ?_);rintro e w' ⟨rfl,⟨nd,rfl⟩⟩;(try first|exact ⟨rfl,_,World.drewN_drewN _ _ _⟩|exact ⟨rfl,_,Eq.trans (World.drewN_drewN _ _ _) (congrArg (World.drewN _) (Nat.add_assoc _ _ _))⟩)))
             repeat (go_quiet (first|(go_at_call 152;(with_reducible refine (qa2_.calls ((rd_T79 l0_2 (ji37)).f0) ((rd_T79 l0_2 x3_1).f0) true _ A40.out).mono ?_);rintro e w' ⟨rfl,⟨nd,rfl⟩⟩;(try first|exact ⟨rfl,_,World.drewN_drewN _ _ _⟩|exact ⟨rfl,_,Eq.trans (World.drewN_drewN _ _ _) (congrArg (World.drewN _) (Nat.add_assoc _ _ _))⟩)));try go_wp2_with (first|(go_at_call 152;(with_reducible refine (qa2_.calls ((rd_T79 l0_2 (ji37)).f0) ((rd_T79 l0_2 x3_1).f0) true _ A40.out).mono ?_);rintro e w' ⟨rfl,⟨nd,rfl⟩⟩;(try first|exact ⟨rfl,_,World.drewN_drewN _ _ _⟩|exact ⟨rfl,_,Eq.trans (World.drewN_drewN _ _ _) (congrArg (World.drewN _) (Nat.add_assoc _ _ _))⟩))))
             go_roundg kj7
             case measure=>have:=HK1.out;have:=HJ7.out;omega
             case rel=>exact ⟨(wrap64 (x3_1+1)),(by first|rfl|(simp;done)|(simp [*];done)),H',⟨by have:=HK1.out;have:=HJ7.out;omega⟩,⟨by (with_reducible repeat (first|refine qf_ ?_ _|refine qi_ ?_|refine qe_ ?_ _));exact BK207.out⟩,⟨by repeat (first|(with_reducible first|exact HB.out|apply qb_|apply qa_|apply qc_|refine qh_ ?_ GE207.out|refine qh_ ?_ GE210.out)|exact HB.out)⟩⟩
            ·replace c41:=Bool.eq_false_iff.mpr c41
             subst c41
             have H1:(some false)=some r:=by rw [if_neg (show ¬ (false=true) by decide)] at H;exact H
             clear H
             have H:=H1
             clear H1
             obtain rfl:=Option.some.inj H
             have hnb45:=NB207_210.out
             have hnc45:=NB210_207.out
             have hcz46_0:wc.cell? ⟨gb207,0,none⟩=some (.int .i64 a0_0):=(qg_ BK207.out 0).trans rfl
             have hcz46_1:wc.cell? ⟨gb207,1,none⟩=some (.int .i64 a0_1):=(qg_ BK207.out 1).trans rfl
             have hcz46_2:wc.cell? ⟨gb207,2,none⟩=some (.slice (some ad209) l0_2.length c0_2):=(qg_ BK207.out 2).trans rfl
             have hfz46_0:=qd_ BK207.out 0
             have hfz46_1:=qd_ BK207.out 1
             have hfz46_2:=qd_ BK207.out 2
             have p214:0≤((ji37):Int):=of_decide_eq_true (by first|(with_reducible assumption)|assumption)
             have q214:(ji37) < (l0_2.length:Int):=of_decide_eq_true (by first|(with_reducible assumption)|assumption)
             obtain ⟨ad214,e214,hx214_0,hx214_1,hx214_2⟩:=at_T79 HR0_2.out (ji37) p214 q214
             obtain rfl:ad209=ad214:=(by injection e214)
             replace hx214_0:=(HB.out.cell (World.block_lt_of_cell? w _ hx214_0)).trans hx214_0
             replace hx214_1:=(HB.out.cell (World.block_lt_of_cell? w _ hx214_1)).trans hx214_1
             replace hx214_2:=(HB.out.cell (World.block_lt_of_cell? w _ hx214_2)).trans hx214_2
             replace p214:=eq_true p214
             replace q214:=eq_true q214
             have hcz47_0:wc.cell? ⟨gb210,0,none⟩=some (.string ((rd_T79 l0_2 x3_1).f0)):=(qg_ BK210.out 0).trans rfl
             have hcz47_1:wc.cell? ⟨gb210,1,none⟩=some (.int .i64 ((rd_T79 l0_2 x3_1).f1.f0)):=(qg_ BK210.out 1).trans rfl
             have hcz47_2:wc.cell? ⟨gb210,2,none⟩=some (.int .i64 ((rd_T79 l0_2 x3_1).f1.f1)):=(qg_ BK210.out 2).trans rfl
             have hfz47_0:=qd_ BK210.out 0
             have hfz47_1:=qd_ BK210.out 1
             have hfz47_2:=qd_ BK210.out 2
             go_wp2_with (first|(go_at_call 152;(with_reducible refine (qa2_.calls ((rd_T79 l0_2 (ji37)).f0) ((rd_T79 l0_2 x3_1).f0) false _ A40.out).mono ?_);rintro e w' ⟨rfl,⟨nd,rfl⟩⟩;(try first|exact ⟨rfl,_,World.drewN_drewN _ _ _⟩|exact ⟨rfl,_,Eq.trans (World.drewN_drewN _ _ _) (congrArg (World.drewN _) (Nat.add_assoc _ _ _))⟩)))
             repeat (go_quiet (first|(go_at_call 152;(with_reducible refine (qa2_.calls ((rd_T79 l0_2 (ji37)).f0) ((rd_T79 l0_2 x3_1).f0) false _ A40.out).mono ?_);rintro e w' ⟨rfl,⟨nd,rfl⟩⟩;(try first|exact ⟨rfl,_,World.drewN_drewN _ _ _⟩|exact ⟨rfl,_,Eq.trans (World.drewN_drewN _ _ _) (congrArg (World.drewN _) (Nat.add_assoc _ _ _))⟩)));try go_wp2_with (first|(go_at_call 152;(with_reducible refine (qa2_.calls ((rd_T79 l0_2 (ji37)).f0) ((rd_T79 l0_2 x3_1).f0) false _ A40.out).mono ?_);rintro e w' ⟨rfl,⟨nd,rfl⟩⟩;(try first|exact ⟨rfl,_,World.drewN_drewN _ _ _⟩|exact ⟨rfl,_,Eq.trans (World.drewN_drewN _ _ _) (congrArg (World.drewN _) (Nat.add_assoc _ _ _))⟩))))
             go_ret
             exact ⟨by first|rfl|(simp [qo_,qn_] <;> rfl)|(simp only [← hji37];first|rfl|(simp [qo_,qn_] <;> rfl))|(simp [*,qo_,qn_] <;> rfl),by repeat (first|(with_reducible first|exact HB.out|apply qb_|apply qa_|apply qc_|refine qh_ ?_ GE207.out|refine qh_ ?_ GE210.out)|exact HB.out)⟩
           ·rw [if_neg c39] at H
            exact absurd H (by simp)
          ·rw [if_neg c38] at H
           exact absurd H (by simp)
         ·rw [if_neg c36] at H
          have c36b0:decide (0 < x3_1)=false:=decide_eq_false c36
          clear c36
          have H':=aK H
          clear H
          go_wp2
          repeat (go_quiet (fail);try go_wp2)
          go_roundg kj7
          case measure=>have:=HK1.out;have:=HJ7.out;omega
          case rel=>exact ⟨(wrap64 (x3_1+1)),(by first|rfl|(simp;done)|(simp [*];done)),H',⟨by have:=HK1.out;have:=HJ7.out;omega⟩,⟨by (with_reducible repeat (first|refine qf_ ?_ _|refine qi_ ?_|refine qe_ ?_ _));exact BK207.out⟩,⟨by repeat (first|(with_reducible first|exact HB.out|apply qb_|apply qa_|apply qc_|refine qh_ ?_ GE207.out|refine qh_ ?_ GE210.out)|exact HB.out)⟩⟩
     ·rw [if_neg c7] at H
      exact absurd H (by simp)
    ·rw [if_neg c6] at H
     have c6b0:decide (x3_1 < (l0_2.length:Int))=false:=decide_eq_false c6
     clear c6
     obtain rfl:=Option.some.inj H
     have hcz48_0:wr.cell? ⟨gb207,0,none⟩=some (.int .i64 a0_0):=(qg_ BK207.out 0).trans rfl
     have hcz48_1:wr.cell? ⟨gb207,1,none⟩=some (.int .i64 a0_1):=(qg_ BK207.out 1).trans rfl
     have hcz48_2:wr.cell? ⟨gb207,2,none⟩=some (.slice A0_2 l0_2.length c0_2):=(qg_ BK207.out 2).trans rfl
     have hfz48_0:=qd_ BK207.out 0
     have hfz48_1:=qd_ BK207.out 1
     have hfz48_2:=qd_ BK207.out 2
     go_wp2
     repeat (go_quiet (fail);try go_wp2)
     go_ret
     exact ⟨by first|rfl|(simp [qo_,qn_] <;> rfl)|(simp [*,qo_,qn_] <;> rfl),by repeat (first|(with_reducible first|exact HB.out|apply qb_|apply qa_|apply qc_|refine qh_ ?_ GE207.out)|exact HB.out)⟩
 ·replace c3:=Bool.eq_false_iff.mpr c3
  subst c3
  have H1:(some false)=some r:=by rw [if_neg (show ¬ (false=true) by decide)] at H;exact H
  clear H
  have H:=H1
  clear H1
  obtain rfl:=Option.some.inj H
  go_enter Try.func82,Try.ntmps82
  go_wp2_with (first|((with_reducible refine qu_ (N:=1) rfl ?_);refine qr_ ?hg (N:=1) ?hd (cs:=#[.int .i64 a0_0,.int .i64 a0_1,.slice A0_2 l0_2.length c0_2]) (t:=38) ?hr ?_;(case hd=>rfl);(case hg=>rfl);(case hr=>first|(go_simp;done)|(go_simp;rfl));intro gb207 hg w49 hbox hb;have n0_:=aK (qj_ (by repeat (first|(with_reducible first|exact HB.out|apply qb_|apply qa_|apply qc_)|exact HB.out)) hb);have n1_:=aK (hbox);have n2_:=aK ((by rw [hg];exact (qk_ (by repeat (first|(with_reducible first|exact HB.out|apply qb_|apply qa_|apply qc_)|exact HB.out))):w.heap.size≤gb207));have n3_:=aK ((by rw [hg];exact (qk_ (by repeat (first|(with_reducible first|exact HB.out|apply qb_|apply qa_|apply qc_)|exact HB.out))):w.heap.size≤gb207));clear HB;have HB:=n0_;have BK207:=n1_;have GW207:=n2_;have GE207:=n3_;clear n0_ n1_ n2_ n3_;clear hb hbox hg;have hcz50_0:w49.cell? ⟨gb207,0,none⟩=some (.int .i64 a0_0):=(qg_ BK207.out 0).trans rfl;have hcz50_1:w49.cell? ⟨gb207,1,none⟩=some (.int .i64 a0_1):=(qg_ BK207.out 1).trans rfl;have hcz50_2:w49.cell? ⟨gb207,2,none⟩=some (.slice A0_2 l0_2.length c0_2):=(qg_ BK207.out 2).trans rfl;have hfz50_0:=qd_ BK207.out 0;have hfz50_1:=qd_ BK207.out 1;have hfz50_2:=qd_ BK207.out 2)|(go_at_call 135;(with_reducible refine (ql2_.calls a0_0 a0_1 false _ A2.out).mono ?_);rintro e w' ⟨rfl,⟨nd,rfl⟩⟩;(try first|exact ⟨rfl,_,World.drewN_drewN _ _ _⟩|exact ⟨rfl,_,Eq.trans (World.drewN_drewN _ _ _) (congrArg (World.drewN _) (Nat.add_assoc _ _ _))⟩)))
  repeat (go_quiet (first|((with_reducible refine qu_ (N:=1) rfl ?_);refine qr_ ?hg (N:=1) ?hd (cs:=#[.int .i64 a0_0,.int .i64 a0_1,.slice A0_2 l0_2.length c0_2]) (t:=38) ?hr ?_;(case hd=>rfl);(case hg=>rfl);(case hr=>first|(go_simp;done)|(go_simp;rfl));intro gb207 hg w49 hbox hb;have n0_:=aK (qj_ (by repeat (first|(with_reducible first|exact HB.out|apply qb_|apply qa_|apply qc_)|exact HB.out)) hb);have n1_:=aK (hbox);have n2_:=aK ((by rw [hg];exact (qk_ (by repeat (first|(with_reducible first|exact HB.out|apply qb_|apply qa_|apply qc_)|exact HB.out))):w.heap.size≤gb207));have n3_:=aK ((by rw [hg];exact (qk_ (by repeat (first|(with_reducible first|exact HB.out|apply qb_|apply qa_|apply qc_)|exact HB.out))):w.heap.size≤gb207));clear HB;have HB:=n0_;have BK207:=n1_;have GW207:=n2_;have GE207:=n3_;clear n0_ n1_ n2_ n3_;clear hb hbox hg;have hcz50_0:w49.cell? ⟨gb207,0,none⟩=some (.int .i64 a0_0):=(qg_ BK207.out 0).trans rfl;have hcz50_1:w49.cell? ⟨gb207,1,none⟩=some (.int .i64 a0_1):=(qg_ BK207.out 1).trans rfl;have hcz50_2:w49.cell? ⟨gb207,2,none⟩=some (.slice A0_2 l0_2.length c0_2):=(qg_ BK207.out 2).trans rfl;have hfz50_0:=qd_ BK207.out 0;have hfz50_1:=qd_ BK207.out 1;have hfz50_2:=qd_ BK207.out 2)|(go_at_call 135;(with_reducible refine (ql2_.calls a0_0 a0_1 false _ A2.out).mono ?_);rintro e w' ⟨rfl,⟨nd,rfl⟩⟩;(try first|exact ⟨rfl,_,World.drewN_drewN _ _ _⟩|exact ⟨rfl,_,Eq.trans (World.drewN_drewN _ _ _) (congrArg (World.drewN _) (Nat.add_assoc _ _ _))⟩)));try go_wp2_with (first|((with_reducible refine qu_ (N:=1) rfl ?_);refine qr_ ?hg (N:=1) ?hd (cs:=#[.int .i64 a0_0,.int .i64 a0_1,.slice A0_2 l0_2.length c0_2]) (t:=38) ?hr ?_;(case hd=>rfl);(case hg=>rfl);(case hr=>first|(go_simp;done)|(go_simp;rfl));intro gb207 hg w49 hbox hb;have n0_:=aK (qj_ (by repeat (first|(with_reducible first|exact HB.out|apply qb_|apply qa_|apply qc_)|exact HB.out)) hb);have n1_:=aK (hbox);have n2_:=aK ((by rw [hg];exact (qk_ (by repeat (first|(with_reducible first|exact HB.out|apply qb_|apply qa_|apply qc_)|exact HB.out))):w.heap.size≤gb207));have n3_:=aK ((by rw [hg];exact (qk_ (by repeat (first|(with_reducible first|exact HB.out|apply qb_|apply qa_|apply qc_)|exact HB.out))):w.heap.size≤gb207));clear HB;have HB:=n0_;have BK207:=n1_;have GW207:=n2_;have GE207:=n3_;clear n0_ n1_ n2_ n3_;clear hb hbox hg;have hcz50_0:w49.cell? ⟨gb207,0,none⟩=some (.int .i64 a0_0):=(qg_ BK207.out 0).trans rfl;have hcz50_1:w49.cell? ⟨gb207,1,none⟩=some (.int .i64 a0_1):=(qg_ BK207.out 1).trans rfl;have hcz50_2:w49.cell? ⟨gb207,2,none⟩=some (.slice A0_2 l0_2.length c0_2):=(qg_ BK207.out 2).trans rfl;have hfz50_0:=qd_ BK207.out 0;have hfz50_1:=qd_ BK207.out 1;have hfz50_2:=qd_ BK207.out 2)|(go_at_call 135;(with_reducible refine (ql2_.calls a0_0 a0_1 false _ A2.out).mono ?_);rintro e w' ⟨rfl,⟨nd,rfl⟩⟩;(try first|exact ⟨rfl,_,World.drewN_drewN _ _ _⟩|exact ⟨rfl,_,Eq.trans (World.drewN_drewN _ _ _) (congrArg (World.drewN _) (Nat.add_assoc _ _ _))⟩))))
  go_ret
  exact ⟨by first|rfl|(simp [qo_,qn_] <;> rfl)|(simp [*,qo_,qn_] <;> rfl),by repeat (first|(with_reducible first|exact HB.out|apply qb_|apply qa_|apply qc_|refine qh_ ?_ GE207.out)|exact HB.out)⟩
end Go.Proofs.Ytaiefdhenikiiaa.Base
namespace Go.Proofs.Ytaiefdhenikiiaa.Base
open Go.RowKit Go.Proofs.YtaiefdhenikiiaaW.PrintWords Go.Proofs.YtaiefdhenikiiaaW.PrintLast Go.Proofs.YtaiefdhenikiiaaW.PrintMore
attribute [local go_sem] max2_int qo1_ max_two min_two max_three min_three max_four min_four Go.Proofs.YtaiefdhenikiiaaZ.qx_   -- for this text's walks alone
set_option linter.unusedVariables false
set_option linter.unusedSimpArgs false
def qt1_.l0:Nat→Int→ByteArray→Int→Int→Int→Int→Int→Option (Int)
 | 0,_,_,_,_,_,_,_=>none
 | k+1,x0,x1,x5,x6,x7,x10,x11=>if x11 < x10 then (if 0≤x11 then (if x11 < (x1.size:Int) then (qt1_.l0 k x0 x1 (wrap64 (x5+x7)) (wrap64 ((wrap64 (x6 * x0))+(((bt x1 x11) - 48) % 256))) (wrap64 (x7 * x0)) x10 (wrap64 (x11+1))) else (none)) else (none)) else (some (wrap64 (x5+x6)))
def qt1_.f (k:Nat) (a0:Int) (a1:ByteArray):Option (Int):=qt1_.l0 k a0 a1 0 0 1 (a1.size:Int) 0
theorem qt1_.mono_l:∀ k,(∀ y0 y1 y2 y3 y4 y5 y6,LeO (qt1_.l0 k y0 y1 y2 y3 y4 y5 y6) (qt1_.l0 (k+1) y0 y1 y2 y3 y4 y5 y6))
 | 0=>fun _ _ _ _ _ _ _ r h=>by simp [qt1_.l0] at h
 | k+1=>by
  have ih0:=qt1_.mono_l k
  ·intro y0 y1 y2 y3 y4 y5 y6
   unfold qt1_.l0
   repeat' first
   | (with_reducible exact ih0 _ _ _ _ _ _ _)
   | (with_reducible exact LeO.refl _)
   | (with_reducible exact LeO.none _)
   | (with_reducible refine LeO.ite ?_ ?_)
   | (with_reducible refine LeO.bind ?_ (fun _=>?_))
   | exact ih0 _ _ _ _ _ _ _
   | exact LeO.none _
   | refine LeO.ite ?_ ?_
   | refine LeO.bind ?_ (fun _=>?_)
theorem qt1_.mono:∀ a0 a1 k,LeO (qt1_.f k a0 a1) (qt1_.f (k+1) a0 a1):=by
 intro a0 a1 k
 have ih0:=qt1_.mono_l k
 unfold qt1_.f
 repeat' first
   | (with_reducible exact ih0 _ _ _ _ _ _ _)
   | (with_reducible exact LeO.refl _)
   | (with_reducible exact LeO.none _)
   | (with_reducible refine LeO.ite ?_ ?_)
   | (with_reducible refine LeO.bind ?_ (fun _=>?_))
   | exact ih0 _ _ _ _ _ _ _
   | exact LeO.none _
   | refine LeO.ite ?_ ?_
   | refine LeO.bind ?_ (fun _=>?_)
set_option maxHeartbeats 8000000 in
set_option maxRecDepth 100000 in
theorem qt1_.calls (k:Nat) (a0:Int) (a1:ByteArray) (r:Int) (w:World) (h:qt1_.f k a0 a1=some r) :
  Calls Try.prog 166 #[.int .i64 a0,.string a1] w fun e w'=>e=.returned (.int .i64 r)∧Drawn0 w w':=by
 have H:(qt1_.l0 k a0 a1 0 0 1 (a1.size:Int) 0)=some r:=h
 clear h
 have H':=aK H
 clear H
 go_enter Try.func166,Try.ntmps166
 go_wp2
 go_loopg [5,6,7,11] k (fun kq v5 v6 v7 v11 w'=>∃ (x5_1:Int) (x6_1:Int) (x7_1:Int) (x11_1:Int),v5=.int .i64 x5_1∧v6=.int .i64 x6_1∧v7=.int .i64 x7_1∧v11=.int .i64 x11_1∧Aside0 (qt1_.l0 kq a0 a1 x5_1 x6_1 x7_1 (a1.size:Int) x11_1=some r)∧Aside0 (kq≤k)∧Drawn0 w w')
 case atStart=>exact ⟨(0),(0),(1),(0),(by first|rfl|(simp;done)|(simp [*];done)),(by first|rfl|(simp;done)|(simp [*];done)),(by first|rfl|(simp;done)|(simp [*];done)),(by first|rfl|(simp;done)|(simp [*];done)),H',⟨Nat.le_refl _⟩,by repeat (first|exact Drawn0.refl _|apply Drawn0.step)⟩
 case round =>
  clear H'
  try clear c1
  try clear p2
  obtain ⟨x5_1,x6_1,x7_1,x11_1,rfl,rfl,rfl,rfl,HA,HK1,⟨m1,rfl⟩⟩:=hrel
  cases gk with
  | zero=>exact absurd HA.out (by simp [qt1_.l0])
  | succ k1 =>
   have H:=HA.out
   clear HA
   simp only [qt1_.l0] at H
   by_cases c3:x11_1 < (a1.size:Int)
   ·rw [if_pos c3] at H
    have c3b0:decide (x11_1 < (a1.size:Int))=true:=decide_eq_true c3
    clear c3
    by_cases c4:0≤x11_1
    ·rw [if_pos c4] at H
     have c4b0:decide (0≤x11_1)=true:=decide_eq_true c4
     clear c4
     by_cases c5:x11_1 < (a1.size:Int)
     ·rw [if_pos c5] at H
      have c5b0:decide (x11_1 < (a1.size:Int))=true:=decide_eq_true c5
      clear c5
      have H':=aK H
      clear H
      have p6:0≤(x11_1:Int):=of_decide_eq_true (by first|(with_reducible assumption)|assumption)
      have q6:x11_1 < (a1.size:Int):=of_decide_eq_true (by first|(with_reducible assumption)|assumption)
      have hx6:=bt_at a1 x11_1
      replace p6:=eq_true p6
      replace q6:=eq_true q6
      go_wp2
      go_roundg k1
      case measure=>have:=HK1.out;omega
      case rel=>exact ⟨(wrap64 (x5_1+x7_1)),(wrap64 ((wrap64 (x6_1 * a0))+(((bt a1 x11_1) - 48) % 256))),(wrap64 (x7_1 * a0)),(wrap64 (x11_1+1)),(by first|rfl|(simp;done)|(simp [*];done)),(by first|rfl|(simp;done)|(simp [*];done)),(by first|rfl|(simp;done)|(simp [*];done)),(by first|rfl|(simp;done)|(simp [*];done)),H',⟨by have:=HK1.out;omega⟩,by repeat (first|exact Drawn0.refl _|apply Drawn0.step)⟩
     ·rw [if_neg c5] at H
      exact absurd H (by simp)
    ·rw [if_neg c4] at H
     exact absurd H (by simp)
   ·rw [if_neg c3] at H
    have c3b0:decide (x11_1 < (a1.size:Int))=false:=decide_eq_false c3
    clear c3
    obtain rfl:=Option.some.inj H
    go_wp2
    go_ret
    exact ⟨by first|rfl|(simp;done)|(simp [*];done)|(simp [Go.Proofs.YtaiefdhenikiiaaZ.bne_nil];done),by repeat (first|exact Drawn0.refl _|apply Drawn0.step)⟩
end Go.Proofs.Ytaiefdhenikiiaa.Base
namespace Go.Proofs.Ytaiefdhenikiiaa.Base
open Go.RowKit Go.Proofs.YtaiefdhenikiiaaW.PrintWords Go.Proofs.YtaiefdhenikiiaaW.PrintLast Go.Proofs.YtaiefdhenikiiaaW.PrintMore
attribute [local go_sem] max2_int qo1_ max_two min_two max_three min_three max_four min_four Go.Proofs.YtaiefdhenikiiaaZ.qx_   -- for this text's walks alone
set_option linter.unusedVariables false
set_option linter.unusedSimpArgs false
def impl_zero.f :Option (Int × Int):=some (0,1)
set_option maxHeartbeats 8000000 in
set_option maxRecDepth 100000 in
theorem impl_zero.calls  (r1:Int) (r2:Int) (w:World) (h:impl_zero.f =some (r1,r2)) :
  Calls Try.prog 180 #[] w fun e w'=>e=.returned (.agg #[.int .i64 r1,.int .i64 r2])∧Below w.heap.size w w':=by
 have hu77:=Try.underlying77
 have HB:=aK (Below.refl w.heap.size w)
 have H:(some (0,1))=some (r1,r2):=h
 clear h
 simp only [Option.some.injEq,Prod.mk.injEq] at H
 obtain ⟨rfl,rfl⟩:=H
 go_enter Try.func180,Try.ntmps180
 go_wp2_with (first|((with_reducible refine qu_ (N:=0) rfl ?_);refine qr_ ?hg (N:=0) ?hd (cs:=#[.int .i64 0,.int .i64 0]) (t:=77) ?hr ?_;(case hd=>rfl);(case hg=>rfl);(case hr=>first|(go_simp;done)|(go_simp;rfl));intro gb401 hg w1 hbox hb;have n0_:=aK (qj_ (by repeat (first|(with_reducible first|exact HB.out|apply qb_|apply qa_|apply qc_)|exact HB.out)) hb);have n1_:=aK (hbox);have n2_:=aK ((by rw [hg];exact (qk_ (by repeat (first|(with_reducible first|exact HB.out|apply qb_|apply qa_|apply qc_)|exact HB.out))):w.heap.size≤gb401));have n3_:=aK ((by rw [hg];exact (qk_ (by repeat (first|(with_reducible first|exact HB.out|apply qb_|apply qa_|apply qc_)|exact HB.out))):w.heap.size≤gb401));clear HB;have HB:=n0_;have BK401:=n1_;have GW401:=n2_;have GE401:=n3_;clear n0_ n1_ n2_ n3_;clear hb hbox hg;have hcz2_0:w1.cell? ⟨gb401,0,none⟩=some (.int .i64 0):=(qg_ BK401.out 0).trans rfl;have hcz2_1:w1.cell? ⟨gb401,1,none⟩=some (.int .i64 0):=(qg_ BK401.out 1).trans rfl;have hfz2_0:=qd_ BK401.out 0;have hfz2_1:=qd_ BK401.out 1))
 refine bodyPost_ret (results_cell_row rfl _ _ gb401 77 #[.int .i64 0,.int .i64 1] (0,0) _ rfl (by (with_reducible repeat (first|refine qf_ ?_ _|refine qi_ ?_|refine qe_ ?_ _));refine qi1_ (cs:=#[.int .i64 0,.int .i64 0]) ?_ 1 _ rfl;(with_reducible repeat (first|refine qf_ ?_ _|refine qi_ ?_|refine qe_ ?_ _));refine qi1_ (cs:=#[.int .i64 0,.int .i64 0]) ?_ 0 _ rfl;(with_reducible repeat (first|refine qf_ ?_ _|refine qi_ ?_|refine qe_ ?_ _));exact BK401.out) Try.underlying77 rfl (by kernel_rfl)) rfl ?_
 exact ⟨by first|rfl|(simp [qo_,qn_] <;> rfl)|(simp [*,qo_,qn_] <;> rfl),by repeat (first|(with_reducible first|exact HB.out|apply qb_|apply qa_|apply qc_|refine qh_ ?_ GE401.out)|exact HB.out)⟩
end Go.Proofs.Ytaiefdhenikiiaa.Base
namespace Go.Proofs.Ytaiefdhenikiiaa.Base
open Go.RowKit Go.Proofs.YtaiefdhenikiiaaW.PrintWords Go.Proofs.YtaiefdhenikiiaaW.PrintLast Go.Proofs.YtaiefdhenikiiaaW.PrintMore
attribute [local go_sem] max2_int qo1_ max_two min_two max_three min_three max_four min_four Go.Proofs.YtaiefdhenikiiaaZ.qx_   -- for this text's walks alone
set_option linter.unusedVariables false
set_option linter.unusedSimpArgs false
def qo2_.f (a0:Int):Option (Bool):=(qx1_.f a0 1 3).bind fun t137=>(some t137)
set_option maxHeartbeats 8000000 in
set_option maxRecDepth 100000 in
theorem qo2_.calls (a0:Int) (r:Bool) (w:World) (h:qo2_.f a0=some r) :
  Calls Try.prog 163 #[.int .i64 a0] w fun e w'=>e=.returned (.bool r)∧Drawn0 w w':=by
 have H:((qx1_.f a0 1 3).bind fun t137=>(some t137))=some r:=h
 clear h
 replace H:=Option.bind_eq_some_iff.mp H
 obtain ⟨t137,A20,H⟩:=H
 replace H:(some t137)=some r:=H
 have A2:=aK A20
 clear A20
 obtain rfl:=Option.some.inj H
 go_enter Try.func163,Try.ntmps163
 go_wp2_with (first|((with_reducible refine qa1_ (f:=111) rfl ?_);refine goesL_ (some 4) rfl rfl Try.func111 (by kernel_rfl) rfl #[.int .i64 a0,.int .i64 1,.int .i64 3] rfl (by (try simp only [List.map_toArray,List.map_cons,List.map_nil]);first|done|rfl|(simp only [List.length_drop,List.length_take];rfl)) ?_;(with_reducible refine (qx1_.calls a0 1 3 t137 _ A2.out).mono ?_);rintro e w' ⟨rfl,⟨nd,rfl⟩⟩;refine ⟨_,rfl,?_⟩))
 go_ret
 exact ⟨by first|rfl|(simp;done)|(simp [*];done)|(simp [Go.Proofs.YtaiefdhenikiiaaZ.bne_nil];done),by repeat (first|exact Drawn0.refl _|apply Drawn0.step)⟩
end Go.Proofs.Ytaiefdhenikiiaa.Base
namespace Go.Proofs.Ytaiefdhenikiiaa.Base
open Go.RowKit Go.Proofs.YtaiefdhenikiiaaW.PrintWords Go.Proofs.YtaiefdhenikiiaaW.PrintLast Go.Proofs.YtaiefdhenikiiaaW.PrintMore
attribute [local go_sem] max2_int qo1_ max_two min_two max_three min_three max_four min_four Go.Proofs.YtaiefdhenikiiaaZ.qx_   -- for this text's walks alone
set_option linter.unusedVariables false
set_option linter.unusedSimpArgs false
def qa3_.f (a0:Int) (a1:Int):Option (Bool):=(qo2_.f a0).bind fun t138=>(if t138=true then ((qx1_.f a1 1 5).bind fun t139=>(if t139=true then (if a0 < 3 then (some true) else (some (decide (a1 < 5)))) else (some false))) else (some false))
set_option maxHeartbeats 8000000 in
set_option maxRecDepth 100000 in
theorem qa3_.calls (a0:Int) (a1:Int) (r:Bool) (w:World) (h:qa3_.f a0 a1=some r) :
  Calls Try.prog 138 #[.int .i64 a0,.int .i64 a1] w fun e w'=>e=.returned (.bool r)∧Drawn0 w w':=by
 have H:((qo2_.f a0).bind fun t138=>(if t138=true then ((qx1_.f a1 1 5).bind fun t139=>(if t139=true then (if a0 < 3 then (some true) else (some (decide (a1 < 5)))) else (some false))) else (some false)))=some r:=h
 clear h
 replace H:=Option.bind_eq_some_iff.mp H
 obtain ⟨t138,A30,H⟩:=H
 replace H:(if t138=true then ((qx1_.f a1 1 5).bind fun t139=>(if t139=true then (if a0 < 3 then (some true) else (some (decide (a1 < 5)))) else (some false))) else (some false))=some r:=H
 have A3:=aK A30
 clear A30
 by_cases c4:t138=true
 ·subst c4
  have H1:((qx1_.f a1 1 5).bind fun t139=>(if t139=true then (if a0 < 3 then (some true) else (some (decide (a1 < 5)))) else (some false)))=some r:=by rw [if_pos rfl] at H;exact H
  clear H
  have H:=H1
  clear H1
  replace H:=Option.bind_eq_some_iff.mp H
  obtain ⟨t139,A50,H⟩:=H
  replace H:(if t139=true then (if a0 < 3 then (some true) else (some (decide (a1 < 5)))) else (some false))=some r:=H
  have A5:=aK A50
  clear A50
  by_cases c6:t139=true
  ·subst c6
   have H1:(if a0 < 3 then (some true) else (some (decide (a1 < 5))))=some r:=by rw [if_pos rfl] at H;exact H
   clear H
   have H:=H1
   clear H1
   by_cases c7:a0 < 3
   ·rw [if_pos c7] at H
    have c7b0:decide (a0 < 3)=true:=decide_eq_true c7
    clear c7
    obtain rfl:=Option.some.inj H
    go_enter Try.func138,Try.ntmps138
    go_wp2_with (first|((with_reducible refine qa1_ (f:=163) rfl ?_);refine goesL_ (some 6) rfl rfl Try.func163 (by kernel_rfl) rfl #[.int .i64 a0] rfl (by (try simp only [List.map_toArray,List.map_cons,List.map_nil]);first|done|rfl|(simp only [List.length_drop,List.length_take];rfl)) ?_;(with_reducible refine (qo2_.calls a0 true _ A3.out).mono ?_);rintro e w' ⟨rfl,⟨nd,rfl⟩⟩;refine ⟨_,rfl,?_⟩)|(go_at_call 111;(with_reducible refine (qx1_.calls a1 1 5 true _ A5.out).mono ?_);rintro e w' ⟨rfl,⟨nd,rfl⟩⟩))
    go_ret
    exact ⟨by first|rfl|(simp;done)|(simp [*];done)|(simp [Go.Proofs.YtaiefdhenikiiaaZ.bne_nil];done),by repeat (first|exact Drawn0.refl _|apply Drawn0.step)⟩
   ·rw [if_neg c7] at H
    have c7b0:decide (a0 < 3)=false:=decide_eq_false c7
    clear c7
    obtain rfl:=Option.some.inj H
    go_enter Try.func138,Try.ntmps138
    go_wp2_with (first|((with_reducible refine qa1_ (f:=163) rfl ?_);refine goesL_ (some 6) rfl rfl Try.func163 (by kernel_rfl) rfl #[.int .i64 a0] rfl (by (try simp only [List.map_toArray,List.map_cons,List.map_nil]);first|done|rfl|(simp only [List.length_drop,List.length_take];rfl)) ?_;(with_reducible refine (qo2_.calls a0 true _ A3.out).mono ?_);rintro e w' ⟨rfl,⟨nd,rfl⟩⟩;refine ⟨_,rfl,?_⟩)|(go_at_call 111;(with_reducible refine (qx1_.calls a1 1 5 true _ A5.out).mono ?_);rintro e w' ⟨rfl,⟨nd,rfl⟩⟩))
    go_ret
    exact ⟨by first|rfl|(simp;done)|(simp [*];done)|(simp [Go.Proofs.YtaiefdhenikiiaaZ.bne_nil];done),by repeat (first|exact Drawn0.refl _|apply Drawn0.step)⟩
  ·replace c6:=Bool.eq_false_iff.mpr c6
   subst c6
   have H1:(some false)=some r:=by rw [if_neg (show ¬ (false=true) by decide)] at H;exact H
   clear H
   have H:=H1
   clear H1
   obtain rfl:=Option.some.inj H
   go_enter Try.func138,Try.ntmps138
   go_wp2_with (first|((with_reducible refine qa1_ (f:=163) rfl ?_);refine goesL_ (some 6) rfl rfl Try.func163 (by kernel_rfl) rfl #[.int .i64 a0] rfl (by (try simp only [List.map_toArray,List.map_cons,List.map_nil]);first|done|rfl|(simp only [List.length_drop,List.length_take];rfl)) ?_;(with_reducible refine (qo2_.calls a0 true _ A3.out).mono ?_);rintro e w' ⟨rfl,⟨nd,rfl⟩⟩;refine ⟨_,rfl,?_⟩)|(go_at_call 111;(with_reducible refine (qx1_.calls a1 1 5 false _ A5.out).mono ?_);rintro e w' ⟨rfl,⟨nd,rfl⟩⟩))
   go_ret
   exact ⟨by first|rfl|(simp;done)|(simp [*];done)|(simp [Go.Proofs.YtaiefdhenikiiaaZ.bne_nil];done),by repeat (first|exact Drawn0.refl _|apply Drawn0.step)⟩
 ·replace c4:=Bool.eq_false_iff.mpr c4
  subst c4
  have H1:(some false)=some r:=by rw [if_neg (show ¬ (false=true) by decide)] at H;exact H
  clear H
  have H:=H1
  clear H1
  obtain rfl:=Option.some.inj H
  go_enter Try.func138,Try.ntmps138
  go_wp2_with (first|((with_reducible refine qa1_ (f:=163) rfl ?_);refine goesL_ (some 6) rfl rfl Try.func163 (by kernel_rfl) rfl #[.int .i64 a0] rfl (by (try simp only [List.map_toArray,List.map_cons,List.map_nil]);first|done|rfl|(simp only [List.length_drop,List.length_take];rfl)) ?_;(with_reducible refine (qo2_.calls a0 false _ A3.out).mono ?_);rintro e w' ⟨rfl,⟨nd,rfl⟩⟩;refine ⟨_,rfl,?_⟩))
  go_ret
  exact ⟨by first|rfl|(simp;done)|(simp [*];done)|(simp [Go.Proofs.YtaiefdhenikiiaaZ.bne_nil];done),by repeat (first|exact Drawn0.refl _|apply Drawn0.step)⟩
end Go.Proofs.Ytaiefdhenikiiaa.Base
