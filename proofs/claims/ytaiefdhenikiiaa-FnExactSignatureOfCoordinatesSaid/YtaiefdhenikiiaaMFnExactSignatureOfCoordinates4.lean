/- Texts that the proof of FnExactSignatureOfCoordinates needs, part 4. No condition. -/
import Derived.Test.YtaiefdhenikiiaaMFnExactSignatureOfCoordinates3
namespace Go.Proofs.Ytaiefdhenikiiaa.Base
open Go.RowKit Go.Proofs.YtaiefdhenikiiaaW.PrintWords Go.Proofs.YtaiefdhenikiiaaW.PrintLast Go.Proofs.YtaiefdhenikiiaaW.PrintMore
attribute [local go_sem] max2_int qp1_ max_two min_two max_three min_three max_four min_four Go.Proofs.YtaiefdhenikiiaaZ.qv_   -- for this text's walks alone
set_option linter.unusedVariables false
set_option linter.unusedSimpArgs false
def qu_.l0:Nat→List (S79)→Int→Int→Option (Int)
 | 0,_,_,_=>none
 | k+1,x0,x1,x5=>if x5 < (x0.length:Int) then (if 0≤x5 then ((qe1_.f k x1).bind fun t165=>(if ((rd_T79 x0 x5).f0).toList=t165.toList then (if ((rd_T79 x0 x5).f1.f0)=(wrap64 (x1+1)) then (if ((rd_T79 x0 x5).f1.f1)=(wrap64 ((wrap64 (x1+1))+1)) then (qu_.l0 k x0 (wrap64 ((wrap64 ((wrap64 (x1+1))+1))+1)) (wrap64 (x5+1))) else (some (-1))) else (some (-1))) else (some (-1)))) else (none)) else (some x1)
def qu_.f (k:Nat) (l0:List (S79)) (a1:Int):Option (Int):=qu_.l0 k l0 a1 0
theorem qu_.mono_l:∀ k,(∀ y0 y1 y2,LeO (qu_.l0 k y0 y1 y2) (qu_.l0 (k+1) y0 y1 y2))
 | 0=>fun _ _ _ r h=>by simp [qu_.l0] at h
 | k+1=>by
  have ih0:=qu_.mono_l k
  ·intro y0 y1 y2
   unfold qu_.l0
   repeat' first
   | (with_reducible exact ih0 _ _ _)
   | (with_reducible exact qe1_.mono _ _)
   | (with_reducible exact LeO.refl _)
   | (with_reducible exact LeO.none _)
   | (with_reducible refine LeO.ite ?_ ?_)
   | (with_reducible refine LeO.bind ?_ (fun _=>?_))
   | exact ih0 _ _ _
   | exact qe1_.mono _ _
   | exact LeO.none _
   | refine LeO.ite ?_ ?_
   | refine LeO.bind ?_ (fun _=>?_)
theorem qu_.mono:∀ a0 a1 k,LeO (qu_.f k a0 a1) (qu_.f (k+1) a0 a1):=by
 intro a0 a1 k
 have ih0:=qu_.mono_l k
 unfold qu_.f
 repeat' first
   | (with_reducible exact ih0 _ _ _)
   | (with_reducible exact qe1_.mono _ _)
   | (with_reducible exact LeO.refl _)
   | (with_reducible exact LeO.none _)
   | (with_reducible refine LeO.ite ?_ ?_)
   | (with_reducible refine LeO.bind ?_ (fun _=>?_))
   | exact ih0 _ _ _
   | exact qe1_.mono _ _
   | exact LeO.none _
   | refine LeO.ite ?_ ?_
   | refine LeO.bind ?_ (fun _=>?_)
def qu_.T4:Bool × List (List Nat × List Nat):=(true,[([],[]),([],[]),([0,1],[0,1]),([2],[2]),([3],[3]),([],[]),([5],[5]),([4,6],[4,6])])
def qu_.B4:List Nat:=[0,0,3,7,15,0,32,127]
theorem qu_.tab4:rtab .any (opsOf Try.f27 4)=qu_.T4:=by kernel_rfl
theorem qu_.bits4:waitsOk qu_.T4.2 qu_.B4=true:=by kernel_rfl
set_option maxHeartbeats 8000000 in
set_option maxRecDepth 100000 in
theorem qu_.calls (k:Nat) (A0:Option Addr) (c0:Nat) (l0:List (S79)) (a1:Int) (r:Int) (w:World) (hr0:Kd.C k79 w A0 l0.length l0) (hc0:l0.length≤c0) (h:qu_.f k l0 a1=some r) :
  Calls Try.prog 27 #[.slice A0 l0.length c0,.int .i64 a1] w fun e w'=>e=.returned (.int .i64 r)∧Below w.heap.size w w':=by
 have HR0:=aK hr0
 have HC0:=aK hc0
 clear hr0 hc0
 have HB:=aK (Below.refl w.heap.size w)
 have H:(qu_.l0 k l0 a1 0)=some r:=h
 clear h
 have H':=aK H
 clear H
 go_enter Try.func27,Try.ntmps27
 go_wp2
 go_loopg [1,5] k (fun kq v1 v5 w'=>∃ (x1_1:Int) (x5_1:Int),v1=.int .i64 x1_1∧v5=.int .i64 x5_1∧Aside0 (qu_.l0 kq l0 x1_1 x5_1=some r)∧Aside0 (kq≤k)∧Aside0 (Below w.heap.size w w'))
 case atStart=>exact ⟨(a1),(0),(by first|rfl|(simp;done)|(simp [*];done)),(by first|rfl|(simp;done)|(simp [*];done)),H',⟨Nat.le_refl _⟩,⟨by repeat (first|(with_reducible first|exact HB.out|apply qb_|apply qa_|apply qc_)|exact HB.out)⟩⟩
 case round =>
  clear H'
  try clear c2
  try clear p2
  obtain ⟨x1_1,x5_1,rfl,rfl,HA,HK1,HB⟩:=hrel
  cases gk with
  | zero=>exact absurd HA.out (by simp [qu_.l0])
  | succ k1 =>
   have H:=HA.out
   clear HA
   simp only [qu_.l0] at H
   by_cases c3:x5_1 < (l0.length:Int)
   ·rw [if_pos c3] at H
    have c3b0:decide (x5_1 < (l0.length:Int))=true:=decide_eq_true c3
    clear c3
    by_cases c4:0≤x5_1
    ·rw [if_pos c4] at H
     have c4b0:decide (0≤x5_1)=true:=decide_eq_true c4
     clear c4
     replace H:=Option.bind_eq_some_iff.mp H
     obtain ⟨t165,A50,H⟩:=H
     replace H:(if ((rd_T79 l0 x5_1).f0).toList=t165.toList then (if ((rd_T79 l0 x5_1).f1.f0)=(wrap64 (x1_1+1)) then (if ((rd_T79 l0 x5_1).f1.f1)=(wrap64 ((wrap64 (x1_1+1))+1)) then (qu_.l0 k1 l0 (wrap64 ((wrap64 ((wrap64 (x1_1+1))+1))+1)) (wrap64 (x5_1+1))) else (some (-1))) else (some (-1))) else (some (-1)))=some r:=H
     have A5:=aK A50
     clear A50
     by_cases c6:((rd_T79 l0 x5_1).f0).toList=t165.toList
     ·rw [if_pos c6] at H
      have c6b0:(((rd_T79 l0 x5_1).f0).toList == t165.toList)=true:=beq_iff_eq.mpr c6
      have c6b1:(((rd_T79 l0 x5_1).f0).toList != t165.toList)=false:=bne_eq_false_iff_eq.mpr c6
      clear c6
      by_cases c7:((rd_T79 l0 x5_1).f1.f0)=(wrap64 (x1_1+1))
      ·rw [if_pos c7] at H
       have c7b0:(((rd_T79 l0 x5_1).f1.f0) == (wrap64 (x1_1+1)))=true:=beq_iff_eq.mpr c7
       have c7b1:(((rd_T79 l0 x5_1).f1.f0) != (wrap64 (x1_1+1)))=false:=bne_eq_false_iff_eq.mpr c7
       clear c7
       by_cases c8:((rd_T79 l0 x5_1).f1.f1)=(wrap64 ((wrap64 (x1_1+1))+1))
       ·rw [if_pos c8] at H
        have c8b0:(((rd_T79 l0 x5_1).f1.f1) == (wrap64 ((wrap64 (x1_1+1))+1)))=true:=beq_iff_eq.mpr c8
        have c8b1:(((rd_T79 l0 x5_1).f1.f1) != (wrap64 ((wrap64 (x1_1+1))+1)))=false:=bne_eq_false_iff_eq.mpr c8
        clear c8
        have H':=aK H
        clear H
        try go_wp2
        have n0_:=aK (qc_ HB.out)
        clear HB
        have HB:=n0_
        clear n0_
        have p164:0≤(x5_1:Int):=of_decide_eq_true (by first|(with_reducible assumption)|assumption)
        have q164:x5_1 < (l0.length:Int):=of_decide_eq_true (by first|(with_reducible assumption)|assumption)
        obtain ⟨ad164,e164,hx164_0,hx164_1,hx164_2⟩:=at_T79 HR0.out x5_1 p164 q164
        have hw164_2:=hx164_2
        have hw164_1:=hx164_1
        have hw164_0:=hx164_0
        cases e164
        replace hx164_0:=(HB.out.cell (World.block_lt_of_cell? w _ hx164_0)).trans hx164_0
        replace hx164_1:=(HB.out.cell (World.block_lt_of_cell? w _ hx164_1)).trans hx164_1
        replace hx164_2:=(HB.out.cell (World.block_lt_of_cell? w _ hx164_2)).trans hx164_2
        replace p164:=eq_true p164
        replace q164:=eq_true q164
        refine start_ (n:=8) (S:=fun w'=>w'.cell? (ad164.add ((x5_1).toNat * 3))=some (.string ((rd_T79 l0 x5_1).f0))∧w'.cell? ⟨(ad164.add ((x5_1).toNat * 3)).block,(ad164.add ((x5_1).toNat * 3)).off+1,none⟩=some (.int .i64 ((rd_T79 l0 x5_1).f1.f0))∧w'.cell? ⟨(ad164.add ((x5_1).toNat * 3)).block,(ad164.add ((x5_1).toNat * 3)).off+2,none⟩=some (.int .i64 ((rd_T79 l0 x5_1).f1.f1))) (ds:=[]) #[fF,fF,fF,fF,fF,fF,fF,fF] (by kernel_rfl) rfl rfl ⟨((HB.out.cell (World.block_lt_of_cell? w _ hw164_0)).trans hw164_0),((HB.out.cell (World.block_lt_of_cell? w _ hw164_1)).trans hw164_1),((HB.out.cell (World.block_lt_of_cell? w _ hw164_2)).trans hw164_2)⟩ (fun hHeld=>?_);refine with_tabW qu_.tab4 qu_.bits4 (fun HT_ HW_=>?_)
        generalize wr.drew=w9 at HB hx164_0 hx164_1 hx164_2 hHeld ⊢
        refine pure_ (i:=0) (N:=some 12) (v:=?_) (a':=?_) #[tT,fF,fF,fF,fF,fF,fF,fF] rfl rfl (any_of HT_.out (by kernel_rfl)) (fun _ _ _ h=>h) (Or.inl ⟨by rfl,?_⟩) ?_ ?_
        rotate_left
        ·intro w'
         go_simp
         with_reducible rfl
        rotate_left
        ·simp only [Act.put,List.setIfInBounds_toArray,List.set_cons_zero,List.set_cons_succ,i64_w,i32_w]
         rfl
        refine pure_ (i:=1) (N:=some 13) (v:=?_) (a':=?_) #[tT,tT,fF,fF,fF,fF,fF,fF] rfl rfl (any_of HT_.out (by kernel_rfl)) (fun _ _ _ h=>h) (Or.inl ⟨by rfl,?_⟩) ?_ ?_
        rotate_left
        ·intro w'
         go_simp
         with_reducible rfl
        rotate_left
        ·simp only [Act.put,List.setIfInBounds_toArray,List.set_cons_zero,List.set_cons_succ,i64_w,i32_w]
         rfl
        refine pure_ (i:=2) (N:=some 14) (v:=?_) (a':=?_) #[tT,tT,tT,fF,fF,fF,fF,fF] rfl rfl (any_of HT_.out (by kernel_rfl)) (fun _ _ _ h=>h) (Or.inl ⟨by rfl,?_⟩) ?_ ?_
        rotate_left
        ·intro w'
         go_simp
         with_reducible rfl
        rotate_left
        ·simp only [Act.put,List.setIfInBounds_toArray,List.set_cons_zero,List.set_cons_succ,i64_w,i32_w]
         rfl
        refine pure_ (i:=3) (N:=some 15) (v:=?_) (a':=?_) #[tT,tT,tT,tT,fF,fF,fF,fF] rfl rfl (any_of HT_.out (by kernel_rfl)) (fun _ _ _ h=>h) (Or.inl ⟨by rfl,?_⟩) ?_ ?_
        rotate_left
        ·intro w'
         go_simp
         with_reducible rfl
        rotate_left
        ·simp only [Act.put,List.setIfInBounds_toArray,List.set_cons_zero,List.set_cons_succ,i64_w,i32_w]
         rfl
        refine pure_ (i:=5) (N:=some 17) (v:=?_) (a':=?_) #[tT,tT,tT,tT,fF,tT,fF,fF] rfl rfl (any_of HT_.out (by kernel_rfl)) (fun _ _ _ h=>h) (Or.inl ⟨by rfl,?_⟩) ?_ ?_
        rotate_left
        ·intro w'
         go_simp
         with_reducible rfl
        rotate_left
        ·simp only [Act.put,List.setIfInBounds_toArray,List.set_cons_zero,List.set_cons_succ,i64_w,i32_w]
         rfl
        refine take_ (i:=4) (N:=some 16) (v:=?_) (a':=?_) #[tT,tT,tT,tT,tT,tT,fF,fF] rfl rfl (take_ofW HT_.out HW_.out (by kernel_rfl)) (fun _ _ _ h=>h) (Or.inl ⟨by rfl,?_⟩) hHeld ?_ ?_
        rotate_left
        ·rintro w' ⟨s0,s1,s2⟩
         go_simp
         with_reducible rfl
        rotate_left
        ·simp only [Act.put,List.setIfInBounds_toArray,List.set_cons_zero,List.set_cons_succ,i64_w,i32_w]
         rfl
        refine one_ (i:=6) (N:=some 18) #[tT,tT,tT,tT,tT,tT,tT,fF] rfl rfl (one_of HT_.out (by kernel_rfl)) (by decide) (fun K hK=>?_)
        refine goes_ Try.func81 (by kernel_rfl) rfl #[.int .i64 x1_1] (by rfl) rfl rfl (by (try simp only [List.map_toArray,List.map_cons,List.map_nil]);first|done|rfl|(simp only [List.length_drop,List.length_take];rfl)) ?_
        with_reducible refine (qe1_.calls k1 x1_1 t165 _ A5.out).mono ?_
        rintro e w10 ⟨rfl,hb⟩
        refine ⟨_,rfl,?_⟩
        have n0_:=aK (qf_ (by repeat (first|(with_reducible first|exact HB.out|apply qb_|apply qa_|apply qc_)|exact HB.out)) hb)
        clear HB
        have HB:=n0_
        clear n0_
        (try clear hb)
        (try clear hb2)
        (try clear hk)
        (try clear hi)
        refine hK.out _ _ ⟨((HB.out.cell (World.block_lt_of_cell? w _ hw164_0)).trans hw164_0),((HB.out.cell (World.block_lt_of_cell? w _ hw164_1)).trans hw164_1),((HB.out.cell (World.block_lt_of_cell? w _ hw164_2)).trans hw164_2)⟩ (fun hHeld=>?_)
        clear hK K
        refine norm_ (a':=?_) ?_ ?_
        rotate_left
        ·show Act.put _ (some 18) _=_
         simp only [Act.put,List.setIfInBounds_toArray,List.set_cons_zero,List.set_cons_succ,i64_w,i32_w]
         rfl
        refine pure_ (i:=7) (N:=some 19) (v:=?_) (a':=?_) #[tT,tT,tT,tT,tT,tT,tT,tT] rfl rfl (any_of HT_.out (by kernel_rfl)) (fun _ _ _ h=>h) (Or.inl ⟨by rfl,?_⟩) ?_ ?_
        rotate_left
        ·intro w'
         go_simp
         with_reducible rfl
        rotate_left
        ·simp only [Act.put,List.setIfInBounds_toArray,List.set_cons_zero,List.set_cons_succ,i64_w,i32_w]
         rfl
        refine done_ (done_of HT_.out (by kernel_rfl)) ?_
        have p166:0≤(x5_1:Int):=of_decide_eq_true (by first|(with_reducible assumption)|assumption)
        have q166:x5_1 < (l0.length:Int):=of_decide_eq_true (by first|(with_reducible assumption)|assumption)
        obtain ⟨ad166,e166,hx166_0,hx166_1,hx166_2⟩:=at_T79 HR0.out x5_1 p166 q166
        obtain rfl:ad164=ad166:=(by injection e166)
        replace hx166_0:=(HB.out.cell (World.block_lt_of_cell? w _ hx166_0)).trans hx166_0
        replace hx166_1:=(HB.out.cell (World.block_lt_of_cell? w _ hx166_1)).trans hx166_1
        replace hx166_2:=(HB.out.cell (World.block_lt_of_cell? w _ hx166_2)).trans hx166_2
        replace p166:=eq_true p166
        replace q166:=eq_true q166
        have p167:0≤(x5_1:Int):=of_decide_eq_true (by first|(with_reducible assumption)|assumption)
        have q167:x5_1 < (l0.length:Int):=of_decide_eq_true (by first|(with_reducible assumption)|assumption)
        obtain ⟨ad167,e167,hx167_0,hx167_1,hx167_2⟩:=at_T79 HR0.out x5_1 p167 q167
        obtain rfl:ad164=ad167:=(by injection e167)
        replace hx167_0:=(HB.out.cell (World.block_lt_of_cell? w _ hx167_0)).trans hx167_0
        replace hx167_1:=(HB.out.cell (World.block_lt_of_cell? w _ hx167_1)).trans hx167_1
        replace hx167_2:=(HB.out.cell (World.block_lt_of_cell? w _ hx167_2)).trans hx167_2
        replace p167:=eq_true p167
        replace q167:=eq_true q167
        try go_wp2
        go_roundg k1
        case measure=>have:=HK1.out;omega
        case rel=>exact ⟨(wrap64 ((wrap64 ((wrap64 (x1_1+1))+1))+1)),(wrap64 (x5_1+1)),(by first|rfl|(simp;done)|(simp [*];done)),(by first|rfl|(simp;done)|(simp [*];done)),H',⟨by have:=HK1.out;omega⟩,⟨by repeat (first|(with_reducible first|exact HB.out|apply qb_|apply qa_|apply qc_)|exact HB.out)⟩⟩
       ·rw [if_neg c8] at H
        have c8b0:(((rd_T79 l0 x5_1).f1.f1) == (wrap64 ((wrap64 (x1_1+1))+1)))=false:=beq_eq_false_iff_ne.mpr c8
        have c8b1:(((rd_T79 l0 x5_1).f1.f1) != (wrap64 ((wrap64 (x1_1+1))+1)))=true:=bne_iff_ne.mpr c8
        obtain rfl:=Option.some.inj H
        try go_wp2
        have n0_:=aK (qc_ HB.out)
        clear HB
        have HB:=n0_
        clear n0_
        have p164:0≤(x5_1:Int):=of_decide_eq_true (by first|(with_reducible assumption)|assumption)
        have q164:x5_1 < (l0.length:Int):=of_decide_eq_true (by first|(with_reducible assumption)|assumption)
        obtain ⟨ad164,e164,hx164_0,hx164_1,hx164_2⟩:=at_T79 HR0.out x5_1 p164 q164
        have hw164_2:=hx164_2
        have hw164_1:=hx164_1
        have hw164_0:=hx164_0
        cases e164
        replace hx164_0:=(HB.out.cell (World.block_lt_of_cell? w _ hx164_0)).trans hx164_0
        replace hx164_1:=(HB.out.cell (World.block_lt_of_cell? w _ hx164_1)).trans hx164_1
        replace hx164_2:=(HB.out.cell (World.block_lt_of_cell? w _ hx164_2)).trans hx164_2
        replace p164:=eq_true p164
        replace q164:=eq_true q164
        refine start_ (n:=8) (S:=fun w'=>w'.cell? (ad164.add ((x5_1).toNat * 3))=some (.string ((rd_T79 l0 x5_1).f0))∧w'.cell? ⟨(ad164.add ((x5_1).toNat * 3)).block,(ad164.add ((x5_1).toNat * 3)).off+1,none⟩=some (.int .i64 ((rd_T79 l0 x5_1).f1.f0))∧w'.cell? ⟨(ad164.add ((x5_1).toNat * 3)).block,(ad164.add ((x5_1).toNat * 3)).off+2,none⟩=some (.int .i64 ((rd_T79 l0 x5_1).f1.f1))) (ds:=[]) #[fF,fF,fF,fF,fF,fF,fF,fF] (by kernel_rfl) rfl rfl ⟨((HB.out.cell (World.block_lt_of_cell? w _ hw164_0)).trans hw164_0),((HB.out.cell (World.block_lt_of_cell? w _ hw164_1)).trans hw164_1),((HB.out.cell (World.block_lt_of_cell? w _ hw164_2)).trans hw164_2)⟩ (fun hHeld=>?_);refine with_tabW qu_.tab4 qu_.bits4 (fun HT_ HW_=>?_)
        generalize wr.drew=w11 at HB hx164_0 hx164_1 hx164_2 hHeld ⊢
        refine pure_ (i:=0) (N:=some 12) (v:=?_) (a':=?_) #[tT,fF,fF,fF,fF,fF,fF,fF] rfl rfl (any_of HT_.out (by kernel_rfl)) (fun _ _ _ h=>h) (Or.inl ⟨by rfl,?_⟩) ?_ ?_
        rotate_left
        ·intro w'
         go_simp
         with_reducible rfl
        rotate_left
        ·simp only [Act.put,List.setIfInBounds_toArray,List.set_cons_zero,List.set_cons_succ,i64_w,i32_w]
         rfl
        refine pure_ (i:=1) (N:=some 13) (v:=?_) (a':=?_) #[tT,tT,fF,fF,fF,fF,fF,fF] rfl rfl (any_of HT_.out (by kernel_rfl)) (fun _ _ _ h=>h) (Or.inl ⟨by rfl,?_⟩) ?_ ?_
        rotate_left
        ·intro w'
         go_simp
         with_reducible rfl
        rotate_left
        ·simp only [Act.put,List.setIfInBounds_toArray,List.set_cons_zero,List.set_cons_succ,i64_w,i32_w]
         rfl
        refine pure_ (i:=2) (N:=some 14) (v:=?_) (a':=?_) #[tT,tT,tT,fF,fF,fF,fF,fF] rfl rfl (any_of HT_.out (by kernel_rfl)) (fun _ _ _ h=>h) (Or.inl ⟨by rfl,?_⟩) ?_ ?_
        rotate_left
        ·intro w'
         go_simp
         with_reducible rfl
        rotate_left
        ·simp only [Act.put,List.setIfInBounds_toArray,List.set_cons_zero,List.set_cons_succ,i64_w,i32_w]
         rfl
        refine pure_ (i:=3) (N:=some 15) (v:=?_) (a':=?_) #[tT,tT,tT,tT,fF,fF,fF,fF] rfl rfl (any_of HT_.out (by kernel_rfl)) (fun _ _ _ h=>h) (Or.inl ⟨by rfl,?_⟩) ?_ ?_
        rotate_left
        ·intro w'
         go_simp
         with_reducible rfl
        rotate_left
        ·simp only [Act.put,List.setIfInBounds_toArray,List.set_cons_zero,List.set_cons_succ,i64_w,i32_w]
         rfl
        refine pure_ (i:=5) (N:=some 17) (v:=?_) (a':=?_) #[tT,tT,tT,tT,fF,tT,fF,fF] rfl rfl (any_of HT_.out (by kernel_rfl)) (fun _ _ _ h=>h) (Or.inl ⟨by rfl,?_⟩) ?_ ?_
        rotate_left
        ·intro w'
         go_simp
         with_reducible rfl
        rotate_left
        ·simp only [Act.put,List.setIfInBounds_toArray,List.set_cons_zero,List.set_cons_succ,i64_w,i32_w]
         rfl
        refine take_ (i:=4) (N:=some 16) (v:=?_) (a':=?_) #[tT,tT,tT,tT,tT,tT,fF,fF] rfl rfl (take_ofW HT_.out HW_.out (by kernel_rfl)) (fun _ _ _ h=>h) (Or.inl ⟨by rfl,?_⟩) hHeld ?_ ?_
        rotate_left
        ·rintro w' ⟨s0,s1,s2⟩
         go_simp
         with_reducible rfl
        rotate_left
        ·simp only [Act.put,List.setIfInBounds_toArray,List.set_cons_zero,List.set_cons_succ,i64_w,i32_w]
         rfl
        refine one_ (i:=6) (N:=some 18) #[tT,tT,tT,tT,tT,tT,tT,fF] rfl rfl (one_of HT_.out (by kernel_rfl)) (by decide) (fun K hK=>?_)
        refine goes_ Try.func81 (by kernel_rfl) rfl #[.int .i64 x1_1] (by rfl) rfl rfl (by (try simp only [List.map_toArray,List.map_cons,List.map_nil]);first|done|rfl|(simp only [List.length_drop,List.length_take];rfl)) ?_
        with_reducible refine (qe1_.calls k1 x1_1 t165 _ A5.out).mono ?_
        rintro e w12 ⟨rfl,hb⟩
        refine ⟨_,rfl,?_⟩
        have n0_:=aK (qf_ (by repeat (first|(with_reducible first|exact HB.out|apply qb_|apply qa_|apply qc_)|exact HB.out)) hb)
        clear HB
        have HB:=n0_
        clear n0_
        (try clear hb)
        (try clear hb2)
        (try clear hk)
        (try clear hi)
        refine hK.out _ _ ⟨((HB.out.cell (World.block_lt_of_cell? w _ hw164_0)).trans hw164_0),((HB.out.cell (World.block_lt_of_cell? w _ hw164_1)).trans hw164_1),((HB.out.cell (World.block_lt_of_cell? w _ hw164_2)).trans hw164_2)⟩ (fun hHeld=>?_)
        clear hK K
        refine norm_ (a':=?_) ?_ ?_
        rotate_left
        ·show Act.put _ (some 18) _=_
         simp only [Act.put,List.setIfInBounds_toArray,List.set_cons_zero,List.set_cons_succ,i64_w,i32_w]
         rfl
        refine pure_ (i:=7) (N:=some 19) (v:=?_) (a':=?_) #[tT,tT,tT,tT,tT,tT,tT,tT] rfl rfl (any_of HT_.out (by kernel_rfl)) (fun _ _ _ h=>h) (Or.inl ⟨by rfl,?_⟩) ?_ ?_
        rotate_left
        ·intro w'
         go_simp
         with_reducible rfl
        rotate_left
        ·simp only [Act.put,List.setIfInBounds_toArray,List.set_cons_zero,List.set_cons_succ,i64_w,i32_w]
         rfl
        refine done_ (done_of HT_.out (by kernel_rfl)) ?_
        have p166:0≤(x5_1:Int):=of_decide_eq_true (by first|(with_reducible assumption)|assumption)
        have q166:x5_1 < (l0.length:Int):=of_decide_eq_true (by first|(with_reducible assumption)|assumption)
        obtain ⟨ad166,e166,hx166_0,hx166_1,hx166_2⟩:=at_T79 HR0.out x5_1 p166 q166
        obtain rfl:ad164=ad166:=(by injection e166)
        replace hx166_0:=(HB.out.cell (World.block_lt_of_cell? w _ hx166_0)).trans hx166_0
        replace hx166_1:=(HB.out.cell (World.block_lt_of_cell? w _ hx166_1)).trans hx166_1
        replace hx166_2:=(HB.out.cell (World.block_lt_of_cell? w _ hx166_2)).trans hx166_2
        replace p166:=eq_true p166
        replace q166:=eq_true q166
        have p167:0≤(x5_1:Int):=of_decide_eq_true (by first|(with_reducible assumption)|assumption)
        have q167:x5_1 < (l0.length:Int):=of_decide_eq_true (by first|(with_reducible assumption)|assumption)
        obtain ⟨ad167,e167,hx167_0,hx167_1,hx167_2⟩:=at_T79 HR0.out x5_1 p167 q167
        obtain rfl:ad164=ad167:=(by injection e167)
        replace hx167_0:=(HB.out.cell (World.block_lt_of_cell? w _ hx167_0)).trans hx167_0
        replace hx167_1:=(HB.out.cell (World.block_lt_of_cell? w _ hx167_1)).trans hx167_1
        replace hx167_2:=(HB.out.cell (World.block_lt_of_cell? w _ hx167_2)).trans hx167_2
        replace p167:=eq_true p167
        replace q167:=eq_true q167
        try go_wp2
        go_ret
        exact ⟨by first|rfl|(simp [qn_,qm_] <;> rfl)|(simp [*,qn_,qm_] <;> rfl),by repeat (first|(with_reducible first|exact HB.out|apply qb_|apply qa_|apply qc_)|exact HB.out)⟩
      ·rw [if_neg c7] at H
       have c7b0:(((rd_T79 l0 x5_1).f1.f0) == (wrap64 (x1_1+1)))=false:=beq_eq_false_iff_ne.mpr c7
       have c7b1:(((rd_T79 l0 x5_1).f1.f0) != (wrap64 (x1_1+1)))=true:=bne_iff_ne.mpr c7
       obtain rfl:=Option.some.inj H
       try go_wp2
       have n0_:=aK (qc_ HB.out)
       clear HB
       have HB:=n0_
       clear n0_
       have p164:0≤(x5_1:Int):=of_decide_eq_true (by first|(with_reducible assumption)|assumption)
       have q164:x5_1 < (l0.length:Int):=of_decide_eq_true (by first|(with_reducible assumption)|assumption)
       obtain ⟨ad164,e164,hx164_0,hx164_1,hx164_2⟩:=at_T79 HR0.out x5_1 p164 q164
       have hw164_2:=hx164_2
       have hw164_1:=hx164_1
       have hw164_0:=hx164_0
       cases e164
       replace hx164_0:=(HB.out.cell (World.block_lt_of_cell? w _ hx164_0)).trans hx164_0
       replace hx164_1:=(HB.out.cell (World.block_lt_of_cell? w _ hx164_1)).trans hx164_1
       replace hx164_2:=(HB.out.cell (World.block_lt_of_cell? w _ hx164_2)).trans hx164_2
       replace p164:=eq_true p164
       replace q164:=eq_true q164
       refine start_ (n:=8) (S:=fun w'=>w'.cell? (ad164.add ((x5_1).toNat * 3))=some (.string ((rd_T79 l0 x5_1).f0))∧w'.cell? ⟨(ad164.add ((x5_1).toNat * 3)).block,(ad164.add ((x5_1).toNat * 3)).off+1,none⟩=some (.int .i64 ((rd_T79 l0 x5_1).f1.f0))∧w'.cell? ⟨(ad164.add ((x5_1).toNat * 3)).block,(ad164.add ((x5_1).toNat * 3)).off+2,none⟩=some (.int .i64 ((rd_T79 l0 x5_1).f1.f1))) (ds:=[]) #[fF,fF,fF,fF,fF,fF,fF,fF] (by kernel_rfl) rfl rfl ⟨((HB.out.cell (World.block_lt_of_cell? w _ hw164_0)).trans hw164_0),((HB.out.cell (World.block_lt_of_cell? w _ hw164_1)).trans hw164_1),((HB.out.cell (World.block_lt_of_cell? w _ hw164_2)).trans hw164_2)⟩ (fun hHeld=>?_);refine with_tabW qu_.tab4 qu_.bits4 (fun HT_ HW_=>?_)
       generalize wr.drew=w13 at HB hx164_0 hx164_1 hx164_2 hHeld ⊢
       refine pure_ (i:=0) (N:=some 12) (v:=?_) (a':=?_) #[tT,fF,fF,fF,fF,fF,fF,fF] rfl rfl (any_of HT_.out (by kernel_rfl)) (fun _ _ _ h=>h) (Or.inl ⟨by rfl,?_⟩) ?_ ?_
       rotate_left
       ·intro w'
        go_simp
        with_reducible rfl
       rotate_left
       ·simp only [Act.put,List.setIfInBounds_toArray,List.set_cons_zero,List.set_cons_succ,i64_w,i32_w]
        rfl
       refine pure_ (i:=1) (N:=some 13) (v:=?_) (a':=?_) #[tT,tT,fF,fF,fF,fF,fF,fF] rfl rfl (any_of HT_.out (by kernel_rfl)) (fun _ _ _ h=>h) (Or.inl ⟨by rfl,?_⟩) ?_ ?_
       rotate_left
       ·intro w'
        go_simp
        with_reducible rfl
       rotate_left
       ·simp only [Act.put,List.setIfInBounds_toArray,List.set_cons_zero,List.set_cons_succ,i64_w,i32_w]
        rfl
       refine pure_ (i:=2) (N:=some 14) (v:=?_) (a':=?_) #[tT,tT,tT,fF,fF,fF,fF,fF] rfl rfl (any_of HT_.out (by kernel_rfl)) (fun _ _ _ h=>h) (Or.inl ⟨by rfl,?_⟩) ?_ ?_
       rotate_left
       ·intro w'
        go_simp
        with_reducible rfl
       rotate_left
       ·simp only [Act.put,List.setIfInBounds_toArray,List.set_cons_zero,List.set_cons_succ,i64_w,i32_w]
        rfl
       refine pure_ (i:=3) (N:=some 15) (v:=?_) (a':=?_) #[tT,tT,tT,tT,fF,fF,fF,fF] rfl rfl (any_of HT_.out (by kernel_rfl)) (fun _ _ _ h=>h) (Or.inl ⟨by rfl,?_⟩) ?_ ?_
       rotate_left
       ·intro w'
        go_simp
        with_reducible rfl
       rotate_left
       ·simp only [Act.put,List.setIfInBounds_toArray,List.set_cons_zero,List.set_cons_succ,i64_w,i32_w]
        rfl
       refine pure_ (i:=5) (N:=some 17) (v:=?_) (a':=?_) #[tT,tT,tT,tT,fF,tT,fF,fF] rfl rfl (any_of HT_.out (by kernel_rfl)) (fun _ _ _ h=>h) (Or.inl ⟨by rfl,?_⟩) ?_ ?_
       rotate_left
       ·intro w'
        go_simp
        with_reducible rfl
       rotate_left
       ·simp only [Act.put,List.setIfInBounds_toArray,List.set_cons_zero,List.set_cons_succ,i64_w,i32_w]
        rfl
       refine take_ (i:=4) (N:=some 16) (v:=?_) (a':=?_) #[tT,tT,tT,tT,tT,tT,fF,fF] rfl rfl (take_ofW HT_.out HW_.out (by kernel_rfl)) (fun _ _ _ h=>h) (Or.inl ⟨by rfl,?_⟩) hHeld ?_ ?_
       rotate_left
       ·rintro w' ⟨s0,s1,s2⟩
        go_simp
        with_reducible rfl
       rotate_left
       ·simp only [Act.put,List.setIfInBounds_toArray,List.set_cons_zero,List.set_cons_succ,i64_w,i32_w]
        rfl
       refine one_ (i:=6) (N:=some 18) #[tT,tT,tT,tT,tT,tT,tT,fF] rfl rfl (one_of HT_.out (by kernel_rfl)) (by decide) (fun K hK=>?_)
       refine goes_ Try.func81 (by kernel_rfl) rfl #[.int .i64 x1_1] (by rfl) rfl rfl (by (try simp only [List.map_toArray,List.map_cons,List.map_nil]);first|done|rfl|(simp only [List.length_drop,List.length_take];rfl)) ?_
       with_reducible refine (qe1_.calls k1 x1_1 t165 _ A5.out).mono ?_
       rintro e w14 ⟨rfl,hb⟩
       refine ⟨_,rfl,?_⟩
       have n0_:=aK (qf_ (by repeat (first|(with_reducible first|exact HB.out|apply qb_|apply qa_|apply qc_)|exact HB.out)) hb)
       clear HB
       have HB:=n0_
       clear n0_
       (try clear hb)
       (try clear hb2)
       (try clear hk)
       (try clear hi)
       refine hK.out _ _ ⟨((HB.out.cell (World.block_lt_of_cell? w _ hw164_0)).trans hw164_0),((HB.out.cell (World.block_lt_of_cell? w _ hw164_1)).trans hw164_1),((HB.out.cell (World.block_lt_of_cell? w _ hw164_2)).trans hw164_2)⟩ (fun hHeld=>?_)
       clear hK K
       refine norm_ (a':=?_) ?_ ?_
       rotate_left
       ·show Act.put _ (some 18) _=_
        simp only [Act.put,List.setIfInBounds_toArray,List.set_cons_zero,List.set_cons_succ,i64_w,i32_w]
        rfl
       refine pure_ (i:=7) (N:=some 19) (v:=?_) (a':=?_) #[tT,tT,tT,tT,tT,tT,tT,tT] rfl rfl (any_of HT_.out (by kernel_rfl)) (fun _ _ _ h=>h) (Or.inl ⟨by rfl,?_⟩) ?_ ?_
       rotate_left
       ·intro w'
        go_simp
        with_reducible rfl
       rotate_left
       ·simp only [Act.put,List.setIfInBounds_toArray,List.set_cons_zero,List.set_cons_succ,i64_w,i32_w]
        rfl
       refine done_ (done_of HT_.out (by kernel_rfl)) ?_
       have p166:0≤(x5_1:Int):=of_decide_eq_true (by first|(with_reducible assumption)|assumption)
       have q166:x5_1 < (l0.length:Int):=of_decide_eq_true (by first|(with_reducible assumption)|assumption)
       obtain ⟨ad166,e166,hx166_0,hx166_1,hx166_2⟩:=at_T79 HR0.out x5_1 p166 q166
       obtain rfl:ad164=ad166:=(by injection e166)
       replace hx166_0:=(HB.out.cell (World.block_lt_of_cell? w _ hx166_0)).trans hx166_0
       replace hx166_1:=(HB.out.cell (World.block_lt_of_cell? w _ hx166_1)).trans hx166_1
       replace hx166_2:=(HB.out.cell (World.block_lt_of_cell? w _ hx166_2)).trans hx166_2
       replace p166:=eq_true p166
       replace q166:=eq_true q166
       try go_wp2
       go_ret
       exact ⟨by first|rfl|(simp [qn_,qm_] <;> rfl)|(simp [*,qn_,qm_] <;> rfl),by repeat (first|(with_reducible first|exact HB.out|apply qb_|apply qa_|apply qc_)|exact HB.out)⟩
     ·rw [if_neg c6] at H
      have c6b0:(((rd_T79 l0 x5_1).f0).toList == t165.toList)=false:=beq_eq_false_iff_ne.mpr c6
      have c6b1:(((rd_T79 l0 x5_1).f0).toList != t165.toList)=true:=bne_iff_ne.mpr c6
      obtain rfl:=Option.some.inj H
      try go_wp2
      have n0_:=aK (qc_ HB.out)
      clear HB
      have HB:=n0_
      clear n0_
      have p164:0≤(x5_1:Int):=of_decide_eq_true (by first|(with_reducible assumption)|assumption)
      have q164:x5_1 < (l0.length:Int):=of_decide_eq_true (by first|(with_reducible assumption)|assumption)
      obtain ⟨ad164,e164,hx164_0,hx164_1,hx164_2⟩:=at_T79 HR0.out x5_1 p164 q164
      have hw164_2:=hx164_2
      have hw164_1:=hx164_1
      have hw164_0:=hx164_0
      cases e164
      replace hx164_0:=(HB.out.cell (World.block_lt_of_cell? w _ hx164_0)).trans hx164_0
      replace hx164_1:=(HB.out.cell (World.block_lt_of_cell? w _ hx164_1)).trans hx164_1
      replace hx164_2:=(HB.out.cell (World.block_lt_of_cell? w _ hx164_2)).trans hx164_2
      replace p164:=eq_true p164
      replace q164:=eq_true q164
      refine start_ (n:=8) (S:=fun w'=>w'.cell? (ad164.add ((x5_1).toNat * 3))=some (.string ((rd_T79 l0 x5_1).f0))∧w'.cell? ⟨(ad164.add ((x5_1).toNat * 3)).block,(ad164.add ((x5_1).toNat * 3)).off+1,none⟩=some (.int .i64 ((rd_T79 l0 x5_1).f1.f0))∧w'.cell? ⟨(ad164.add ((x5_1).toNat * 3)).block,(ad164.add ((x5_1).toNat * 3)).off+2,none⟩=some (.int .i64 ((rd_T79 l0 x5_1).f1.f1))) (ds:=[]) #[fF,fF,fF,fF,fF,fF,fF,fF] (by kernel_rfl) rfl rfl ⟨((HB.out.cell (World.block_lt_of_cell? w _ hw164_0)).trans hw164_0),((HB.out.cell (World.block_lt_of_cell? w _ hw164_1)).trans hw164_1),((HB.out.cell (World.block_lt_of_cell? w _ hw164_2)).trans hw164_2)⟩ (fun hHeld=>?_);refine with_tabW qu_.tab4 qu_.bits4 (fun HT_ HW_=>?_)
      generalize wr.drew=w15 at HB hx164_0 hx164_1 hx164_2 hHeld ⊢
      refine pure_ (i:=0) (N:=some 12) (v:=?_) (a':=?_) #[tT,fF,fF,fF,fF,fF,fF,fF] rfl rfl (any_of HT_.out (by kernel_rfl)) (fun _ _ _ h=>h) (Or.inl ⟨by rfl,?_⟩) ?_ ?_
      rotate_left
      ·intro w'
       go_simp
       with_reducible rfl
      rotate_left
      ·simp only [Act.put,List.setIfInBounds_toArray,List.set_cons_zero,List.set_cons_succ,i64_w,i32_w]
       rfl
      refine pure_ (i:=1) (N:=some 13) (v:=?_) (a':=?_) #[tT,tT,fF,fF,fF,fF,fF,fF] rfl rfl (any_of HT_.out (by kernel_rfl)) (fun _ _ _ h=>h) (Or.inl ⟨by rfl,?_⟩) ?_ ?_
      rotate_left
      ·intro w'
       go_simp
       with_reducible rfl
      rotate_left
      ·simp only [Act.put,List.setIfInBounds_toArray,List.set_cons_zero,List.set_cons_succ,i64_w,i32_w]
       rfl
      refine pure_ (i:=2) (N:=some 14) (v:=?_) (a':=?_) #[tT,tT,tT,fF,fF,fF,fF,fF] rfl rfl (any_of HT_.out (by kernel_rfl)) (fun _ _ _ h=>h) (Or.inl ⟨by rfl,?_⟩) ?_ ?_
      rotate_left
      ·intro w'
       go_simp
       with_reducible rfl
      rotate_left
      ·simp only [Act.put,List.setIfInBounds_toArray,List.set_cons_zero,List.set_cons_succ,i64_w,i32_w]
       rfl
      refine pure_ (i:=3) (N:=some 15) (v:=?_) (a':=?_) #[tT,tT,tT,tT,fF,fF,fF,fF] rfl rfl (any_of HT_.out (by kernel_rfl)) (fun _ _ _ h=>h) (Or.inl ⟨by rfl,?_⟩) ?_ ?_
      rotate_left
      ·intro w'
       go_simp
       with_reducible rfl
      rotate_left
      ·simp only [Act.put,List.setIfInBounds_toArray,List.set_cons_zero,List.set_cons_succ,i64_w,i32_w]
       rfl
      refine pure_ (i:=5) (N:=some 17) (v:=?_) (a':=?_) #[tT,tT,tT,tT,fF,tT,fF,fF] rfl rfl (any_of HT_.out (by kernel_rfl)) (fun _ _ _ h=>h) (Or.inl ⟨by rfl,?_⟩) ?_ ?_
      rotate_left
      ·intro w'
       go_simp
       with_reducible rfl
      rotate_left
      ·simp only [Act.put,List.setIfInBounds_toArray,List.set_cons_zero,List.set_cons_succ,i64_w,i32_w]
       rfl
      refine take_ (i:=4) (N:=some 16) (v:=?_) (a':=?_) #[tT,tT,tT,tT,tT,tT,fF,fF] rfl rfl (take_ofW HT_.out HW_.out (by kernel_rfl)) (fun _ _ _ h=>h) (Or.inl ⟨by rfl,?_⟩) hHeld ?_ ?_
      rotate_left
      ·rintro w' ⟨s0,s1,s2⟩
       go_simp
       with_reducible rfl
      rotate_left
      ·simp only [Act.put,List.setIfInBounds_toArray,List.set_cons_zero,List.set_cons_succ,i64_w,i32_w]
       rfl
      refine one_ (i:=6) (N:=some 18) #[tT,tT,tT,tT,tT,tT,tT,fF] rfl rfl (one_of HT_.out (by kernel_rfl)) (by decide) (fun K hK=>?_)
      refine goes_ Try.func81 (by kernel_rfl) rfl #[.int .i64 x1_1] (by rfl) rfl rfl (by (try simp only [List.map_toArray,List.map_cons,List.map_nil]);first|done|rfl|(simp only [List.length_drop,List.length_take];rfl)) ?_
      with_reducible refine (qe1_.calls k1 x1_1 t165 _ A5.out).mono ?_
      rintro e w16 ⟨rfl,hb⟩
      refine ⟨_,rfl,?_⟩
      have n0_:=aK (qf_ (by repeat (first|(with_reducible first|exact HB.out|apply qb_|apply qa_|apply qc_)|exact HB.out)) hb)
      clear HB
      have HB:=n0_
      clear n0_
      (try clear hb)
      (try clear hb2)
      (try clear hk)
      (try clear hi)
      refine hK.out _ _ ⟨((HB.out.cell (World.block_lt_of_cell? w _ hw164_0)).trans hw164_0),((HB.out.cell (World.block_lt_of_cell? w _ hw164_1)).trans hw164_1),((HB.out.cell (World.block_lt_of_cell? w _ hw164_2)).trans hw164_2)⟩ (fun hHeld=>?_)
      clear hK K
      refine norm_ (a':=?_) ?_ ?_
      rotate_left
      ·show Act.put _ (some 18) _=_
       simp only [Act.put,List.setIfInBounds_toArray,List.set_cons_zero,List.set_cons_succ,i64_w,i32_w]
       rfl
      refine pure_ (i:=7) (N:=some 19) (v:=?_) (a':=?_) #[tT,tT,tT,tT,tT,tT,tT,tT] rfl rfl (any_of HT_.out (by kernel_rfl)) (fun _ _ _ h=>h) (Or.inl ⟨by rfl,?_⟩) ?_ ?_
      rotate_left
      ·intro w'
       go_simp
       with_reducible rfl
      rotate_left
      ·simp only [Act.put,List.setIfInBounds_toArray,List.set_cons_zero,List.set_cons_succ,i64_w,i32_w]
       rfl
      refine done_ (done_of HT_.out (by kernel_rfl)) ?_
      try go_wp2
      go_ret
      exact ⟨by first|rfl|(simp [qn_,qm_] <;> rfl)|(simp [*,qn_,qm_] <;> rfl),by repeat (first|(with_reducible first|exact HB.out|apply qb_|apply qa_|apply qc_)|exact HB.out)⟩
    ·rw [if_neg c4] at H
     exact absurd H (by simp)
   ·rw [if_neg c3] at H
    have c3b0:decide (x5_1 < (l0.length:Int))=false:=decide_eq_false c3
    clear c3
    obtain rfl:=Option.some.inj H
    go_wp2
    go_ret
    exact ⟨by first|rfl|(simp [qn_,qm_] <;> rfl)|(simp [*,qn_,qm_] <;> rfl),by repeat (first|(with_reducible first|exact HB.out|apply qb_|apply qa_|apply qc_)|exact HB.out)⟩
end Go.Proofs.Ytaiefdhenikiiaa.Base
namespace Go.Proofs.Ytaiefdhenikiiaa.Base
open Go.RowKit Go.Proofs.YtaiefdhenikiiaaW.PrintWords Go.Proofs.YtaiefdhenikiiaaW.PrintLast Go.Proofs.YtaiefdhenikiiaaW.PrintMore
attribute [local go_sem] max2_int qp1_ max_two min_two max_three min_three max_four min_four Go.Proofs.YtaiefdhenikiiaaZ.qv_   -- for this text's walks alone
set_option linter.unusedVariables false
set_option linter.unusedSimpArgs false
def qu1_.l0:Nat→Int→ByteArray→Int→Int→Int→Int→Int→Option (Int)
 | 0,_,_,_,_,_,_,_=>none
 | k+1,x0,x1,x5,x6,x7,x10,x11=>if x11 < x10 then (if 0≤x11 then (if x11 < (x1.size:Int) then (qu1_.l0 k x0 x1 (wrap64 (x5+x7)) (wrap64 ((wrap64 (x6 * x0))+(((bt x1 x11) - 48) % 256))) (wrap64 (x7 * x0)) x10 (wrap64 (x11+1))) else (none)) else (none)) else (some (wrap64 (x5+x6)))
def qu1_.f (k:Nat) (a0:Int) (a1:ByteArray):Option (Int):=qu1_.l0 k a0 a1 0 0 1 (a1.size:Int) 0
theorem qu1_.mono_l:∀ k,(∀ y0 y1 y2 y3 y4 y5 y6,LeO (qu1_.l0 k y0 y1 y2 y3 y4 y5 y6) (qu1_.l0 (k+1) y0 y1 y2 y3 y4 y5 y6))
 | 0=>fun _ _ _ _ _ _ _ r h=>by simp [qu1_.l0] at h
 | k+1=>by
  have ih0:=qu1_.mono_l k
  ·intro y0 y1 y2 y3 y4 y5 y6
   unfold qu1_.l0
   repeat' first
   | (with_reducible exact ih0 _ _ _ _ _ _ _)
   | (with_reducible exact LeO.refl _)
   | (with_reducible exact LeO.none _)
   | (with_reducible refine LeO.ite ?_ ?_)
   | (with_reducible refine LeO.bind ?_ (fun _=>?_))
   | exact ih0 _ _ _ _ _ _ _
   | exact LeO.none _
   | refine LeO.ite ?_ ?_
   | refine LeO.bind ?_ (fun _=>?_)
theorem qu1_.mono:∀ a0 a1 k,LeO (qu1_.f k a0 a1) (qu1_.f (k+1) a0 a1):=by
 intro a0 a1 k
 have ih0:=qu1_.mono_l k
 unfold qu1_.f
 repeat' first
   | (with_reducible exact ih0 _ _ _ _ _ _ _)
   | (with_reducible exact LeO.refl _)
   | (with_reducible exact LeO.none _)
   | (with_reducible refine LeO.ite ?_ ?_)
   | (with_reducible refine LeO.bind ?_ (fun _=>?_))
   | exact ih0 _ _ _ _ _ _ _
   | exact LeO.none _
   | refine LeO.ite ?_ ?_
   | refine LeO.bind ?_ (fun _=>?_)
set_option maxHeartbeats 8000000 in
set_option maxRecDepth 100000 in
theorem qu1_.calls (k:Nat) (a0:Int) (a1:ByteArray) (r:Int) (w:World) (h:qu1_.f k a0 a1=some r) :
  Calls Try.prog 166 #[.int .i64 a0,.string a1] w fun e w'=>e=.returned (.int .i64 r)∧Drawn0 w w':=by
 have H:(qu1_.l0 k a0 a1 0 0 1 (a1.size:Int) 0)=some r:=h
 clear h
 have H':=aK H
 clear H
 go_enter Try.func166,Try.ntmps166
 go_wp2
 go_loopg [5,6,7,11] k (fun kq v5 v6 v7 v11 w'=>∃ (x5_1:Int) (x6_1:Int) (x7_1:Int) (x11_1:Int),v5=.int .i64 x5_1∧v6=.int .i64 x6_1∧v7=.int .i64 x7_1∧v11=.int .i64 x11_1∧Aside0 (qu1_.l0 kq a0 a1 x5_1 x6_1 x7_1 (a1.size:Int) x11_1=some r)∧Aside0 (kq≤k)∧Drawn0 w w')
 case atStart=>exact ⟨(0),(0),(1),(0),(by first|rfl|(simp;done)|(simp [*];done)),(by first|rfl|(simp;done)|(simp [*];done)),(by first|rfl|(simp;done)|(simp [*];done)),(by first|rfl|(simp;done)|(simp [*];done)),H',⟨Nat.le_refl _⟩,by repeat (first|exact Drawn0.refl _|apply Drawn0.step)⟩
 case round =>
  clear H'
  try clear c1
  try clear p2
  obtain ⟨x5_1,x6_1,x7_1,x11_1,rfl,rfl,rfl,rfl,HA,HK1,⟨m1,rfl⟩⟩:=hrel
  cases gk with
  | zero=>exact absurd HA.out (by simp [qu1_.l0])
  | succ k1 =>
   have H:=HA.out
   clear HA
   simp only [qu1_.l0] at H
   by_cases c3:x11_1 < (a1.size:Int)
   ·rw [if_pos c3] at H
    have c3b0:decide (x11_1 < (a1.size:Int))=true:=decide_eq_true c3
    clear c3
    by_cases c4:0≤x11_1
    ·rw [if_pos c4] at H
     have c4b0:decide (0≤x11_1)=true:=decide_eq_true c4
     clear c4
     by_cases c5:x11_1 < (a1.size:Int)
     ·rw [if_pos c5] at H
      have c5b0:decide (x11_1 < (a1.size:Int))=true:=decide_eq_true c5
      clear c5
      have H':=aK H
      clear H
      have p6:0≤(x11_1:Int):=of_decide_eq_true (by first|(with_reducible assumption)|assumption)
      have q6:x11_1 < (a1.size:Int):=of_decide_eq_true (by first|(with_reducible assumption)|assumption)
      have hx6:=bt_at a1 x11_1
      replace p6:=eq_true p6
      replace q6:=eq_true q6
      go_wp2
      go_roundg k1
      case measure=>have:=HK1.out;omega
      case rel=>exact ⟨(wrap64 (x5_1+x7_1)),(wrap64 ((wrap64 (x6_1 * a0))+(((bt a1 x11_1) - 48) % 256))),(wrap64 (x7_1 * a0)),(wrap64 (x11_1+1)),(by first|rfl|(simp;done)|(simp [*];done)),(by first|rfl|(simp;done)|(simp [*];done)),(by first|rfl|(simp;done)|(simp [*];done)),(by first|rfl|(simp;done)|(simp [*];done)),H',⟨by have:=HK1.out;omega⟩,by repeat (first|exact Drawn0.refl _|apply Drawn0.step)⟩
     ·rw [if_neg c5] at H
      exact absurd H (by simp)
    ·rw [if_neg c4] at H
     exact absurd H (by simp)
   ·rw [if_neg c3] at H
    have c3b0:decide (x11_1 < (a1.size:Int))=false:=decide_eq_false c3
    clear c3
    obtain rfl:=Option.some.inj H
    go_wp2
    go_ret
    exact ⟨by first|rfl|(simp;done)|(simp [*];done)|(simp [Go.Proofs.YtaiefdhenikiiaaZ.bne_nil];done),by repeat (first|exact Drawn0.refl _|apply Drawn0.step)⟩
end Go.Proofs.Ytaiefdhenikiiaa.Base
namespace Go.Proofs.Ytaiefdhenikiiaa.Base
open Go.RowKit Go.Proofs.YtaiefdhenikiiaaW.PrintWords Go.Proofs.YtaiefdhenikiiaaW.PrintLast Go.Proofs.YtaiefdhenikiiaaW.PrintMore
attribute [local go_sem] max2_int qp1_ max_two min_two max_three min_three max_four min_four Go.Proofs.YtaiefdhenikiiaaZ.qv_   -- for this text's walks alone
set_option linter.unusedVariables false
set_option linter.unusedSimpArgs false
def impl_zero.f :Option (Int × Int):=some (0,1)
set_option maxHeartbeats 8000000 in
set_option maxRecDepth 100000 in
theorem impl_zero.calls  (r1:Int) (r2:Int) (w:World) (h:impl_zero.f =some (r1,r2)) :
  Calls Try.prog 180 #[] w fun e w'=>e=.returned (.agg #[.int .i64 r1,.int .i64 r2])∧Below w.heap.size w w':=by
 have hu77:=Try.underlying77
 have HB:=aK (Below.refl w.heap.size w)
 have H:(some (0,1))=some (r1,r2):=h
 clear h
 simp only [Option.some.injEq,Prod.mk.injEq] at H
 obtain ⟨rfl,rfl⟩:=H
 go_enter Try.func180,Try.ntmps180
 go_wp2_with (first|((with_reducible refine qa1_ (N:=0) rfl ?_);refine qx_ ?hg (N:=0) ?hd (cs:=#[.int .i64 0,.int .i64 0]) (t:=77) ?hr ?_;(case hd=>rfl);(case hg=>rfl);(case hr=>first|(go_simp;done)|(go_simp;rfl));intro gb446 hg w1 hbox hb;have n0_:=aK (qf_ (by repeat (first|(with_reducible first|exact HB.out|apply qb_|apply qa_|apply qc_)|exact HB.out)) hb);have n1_:=aK (hbox);have n2_:=aK ((by rw [hg];exact (qk_ (by repeat (first|(with_reducible first|exact HB.out|apply qb_|apply qa_|apply qc_)|exact HB.out))):w.heap.size≤gb446));have n3_:=aK ((by rw [hg];exact (qk_ (by repeat (first|(with_reducible first|exact HB.out|apply qb_|apply qa_|apply qc_)|exact HB.out))):w.heap.size≤gb446));clear HB;have HB:=n0_;have BK446:=n1_;have GW446:=n2_;have GE446:=n3_;clear n0_ n1_ n2_ n3_;clear hb hbox hg;have hcz2_0:w1.cell? ⟨gb446,0,none⟩=some (.int .i64 0):=(qj_ BK446.out 0).trans rfl;have hcz2_1:w1.cell? ⟨gb446,1,none⟩=some (.int .i64 0):=(qj_ BK446.out 1).trans rfl;have hfz2_0:=qd_ BK446.out 0;have hfz2_1:=qd_ BK446.out 1))
 refine bodyPost_ret (results_cell_row rfl _ _ gb446 77 #[.int .i64 0,.int .i64 1] (0,0) _ rfl (by (with_reducible repeat (first|refine qg_ ?_ _|refine qi_ ?_|refine qe_ ?_ _));refine qm1_ (cs:=#[.int .i64 0,.int .i64 0]) ?_ 1 _ rfl;(with_reducible repeat (first|refine qg_ ?_ _|refine qi_ ?_|refine qe_ ?_ _));refine qm1_ (cs:=#[.int .i64 0,.int .i64 0]) ?_ 0 _ rfl;(with_reducible repeat (first|refine qg_ ?_ _|refine qi_ ?_|refine qe_ ?_ _));exact BK446.out) Try.underlying77 rfl (by kernel_rfl)) rfl ?_
 exact ⟨by first|rfl|(simp [qn_,qm_] <;> rfl)|(simp [*,qn_,qm_] <;> rfl),by repeat (first|(with_reducible first|exact HB.out|apply qb_|apply qa_|apply qc_|refine qh_ ?_ GE446.out)|exact HB.out)⟩
end Go.Proofs.Ytaiefdhenikiiaa.Base
namespace Go.Proofs.Ytaiefdhenikiiaa.Base
open Go.RowKit Go.Proofs.YtaiefdhenikiiaaW.PrintWords Go.Proofs.YtaiefdhenikiiaaW.PrintLast Go.Proofs.YtaiefdhenikiiaaW.PrintMore
attribute [local go_sem] max2_int qp1_ max_two min_two max_three min_three max_four min_four Go.Proofs.YtaiefdhenikiiaaZ.qv_   -- for this text's walks alone
set_option linter.unusedVariables false
set_option linter.unusedSimpArgs false
def qj3_.f (a0:Int):Option (ByteArray):=some (strOfNums (([(48+((a0) % 256)) % 256]:List Int)))
set_option maxHeartbeats 8000000 in
set_option maxRecDepth 100000 in
theorem qj3_.calls (a0:Int) (r:ByteArray) (w:World) (h:qj3_.f a0=some r) :
  Calls Try.prog 225 #[.int .i64 a0] w fun e w'=>e=.returned (.string r)∧Below w.heap.size w w':=by
 have HB:=aK (Below.refl w.heap.size w)
 have H:(some (strOfNums (([(48+((a0) % 256)) % 256]:List Int))))=some r:=h
 clear h
 obtain ⟨y415,hy415⟩:∃ y_:List Int,y_=(([(48+((a0) % 256)) % 256]:List Int)):=⟨_,rfl⟩
 replace H:(some (strOfNums y415))=some r:=by first|(rw [hy415];with_reducible exact H)|(have H2_:=(Option.bind_some _ _).symm.trans H;rw [hy415];with_reducible exact H2_)|(have H2_:=(Option.bind_some _ _).symm.trans H;with_reducible exact H2_)|with_reducible exact H|(rw [hy415];exact H)|exact H
 have Ny415:=aK hy415
 clear hy415
 obtain rfl:=Option.some.inj H
 go_enter Try.func225,Try.ntmps225
 go_wp2_with (first|((with_reducible refine qa1_ (N:=6) rfl ?_);refine Kd.R_lit (Kd.int .u8) _ 5 ?hg (N:=6) ?hd (xs:=([(48+((a0) % 256)) % 256]:List Int)) (inner:=[.int .u8 ((48+((a0) % 256)) % 256)]) (ok:=fun _=>True) (okp:=fun _=>True) ?hr ?hp (fun _ hk=>hk) trivial (Below.refl _ _) (Nat.le_refl _) (by simp) ?_;(case hd=>rfl);(case hg=>rfl);(case hr=>first|(go_simp;done)|(go_simp;rfl));(case hp=>exact (Reps.one (show Kd.M (Kd.int .u8) _ _ _ ((48+((a0) % 256)) % 256) [.int .u8 ((48+((a0) % 256)) % 256)] from rfl) (Reps.none _ _)));intro v416 w2 ho3 hb hg_ hnew_;clear hg_ hnew_;(first|rw [← Ny415.out] at ho3|(simp only [Int.reduceToNat] at ho3;rw [← Ny415.out] at ho3));have n0_:=aK (Kd.qj2_ ho3 (qk_ (by repeat (first|(with_reducible first|exact HB.out|apply qb_|apply qa_|apply qc_)|exact HB.out))));have n1_:=aK (qf_ (by repeat (first|(with_reducible first|exact HB.out|apply qb_|apply qa_|apply qc_)|exact HB.out)) hb);clear HB;have HO417:=n0_;have HB:=n1_;clear n0_ n1_;clear hb ho3;have hcv4:=own_string (P:=Try.prog) Try.underlying140 Try.underlying5 Try.underlying9 (Kd.own_of_R HO417.out)))
 go_ret
 exact ⟨by first|rfl|(simp [qn_,qm_] <;> rfl)|(simp [*,qn_,qm_] <;> rfl),by repeat (first|(with_reducible first|exact HB.out|apply qb_|apply qa_|apply qc_)|exact HB.out)⟩
end Go.Proofs.Ytaiefdhenikiiaa.Base
namespace Go.Proofs.Ytaiefdhenikiiaa.Base
open Go.RowKit Go.Proofs.YtaiefdhenikiiaaW.PrintWords Go.Proofs.YtaiefdhenikiiaaW.PrintLast Go.Proofs.YtaiefdhenikiiaaW.PrintMore
attribute [local go_sem] max2_int qp1_ max_two min_two max_three min_three max_four min_four Go.Proofs.YtaiefdhenikiiaaZ.qv_   -- for this text's walks alone
set_option linter.unusedVariables false
set_option linter.unusedSimpArgs false
mutual
def qz_.l0:Nat→Int→List ByteArray→Int→Int→Option (List ByteArray)
 | 0,_,_,_,_=>none
 | k+1,x0,x5,x11,x12=>if x12 < x11 then (qz_.l1 k x0 ([]:List ByteArray) x11 x12 x5 (x5.length:Int) 0) else (some x5)
def qz_.l1:Nat→Int→List ByteArray→Int→Int→List ByteArray→Int→Int→Option (List ByteArray)
 | 0,_,_,_,_,_,_,_=>none
 | k+1,x0,x6,x11,x12,x14,x15,x16=>if x16 < x15 then (if 0≤x16 then (if x16 < (x14.length:Int) then (qz_.l2 k x0 x6 (rdOf ByteArray.empty x14 x16) x11 x12 x14 x15 x16 x0 0) else (none)) else (none)) else (qz_.l0 k x0 x6 x11 (wrap64 (x12+1)))
def qz_.l2:Nat→Int→List ByteArray→ByteArray→Int→Int→List ByteArray→Int→Int→Int→Int→Option (List ByteArray)
 | 0,_,_,_,_,_,_,_,_,_,_=>none
 | k+1,x0,x6,x8,x11,x12,x14,x15,x16,x20,x21=>if x21 < x20 then ((qj3_.f x21).bind fun t422=>(if x8.size+t422.size≤9223372036854775807 then (if x6.length < 8796093022208 then (qz_.l2 k x0 (x6 ++ [x8 ++ t422]) x8 x11 x12 x14 x15 x16 x20 (wrap64 (x21+1))) else (none)) else (none))) else (qz_.l1 k x0 x6 x11 x12 x14 x15 (wrap64 (x16+1)))
end
def qz_.f (k:Nat) (a0:Int) (a1:Int):Option (List ByteArray):=qz_.l0 k a0 (([(⟨#[]⟩:ByteArray)]:List ByteArray)) a1 0
theorem qz_.mono_l:∀ k,(∀ y0 y1 y2 y3,LeO (qz_.l0 k y0 y1 y2 y3) (qz_.l0 (k+1) y0 y1 y2 y3))∧(∀ y0 y1 y2 y3 y4 y5 y6,LeO (qz_.l1 k y0 y1 y2 y3 y4 y5 y6) (qz_.l1 (k+1) y0 y1 y2 y3 y4 y5 y6))∧(∀ y0 y1 y2 y3 y4 y5 y6 y7 y8 y9,LeO (qz_.l2 k y0 y1 y2 y3 y4 y5 y6 y7 y8 y9) (qz_.l2 (k+1) y0 y1 y2 y3 y4 y5 y6 y7 y8 y9))
 | 0=>⟨fun _ _ _ _ r h=>by simp [qz_.l0] at h,fun _ _ _ _ _ _ _ r h=>by simp [qz_.l1] at h,fun _ _ _ _ _ _ _ _ _ _ r h=>by simp [qz_.l2] at h⟩
 | k+1=>by
  obtain ⟨ih0,ih1,ih2⟩:=qz_.mono_l k
  refine ⟨?_,?_,?_⟩
  ·intro y0 y1 y2 y3
   unfold qz_.l0
   repeat' first
   | (with_reducible exact ih0 _ _ _ _)
   | (with_reducible exact ih1 _ _ _ _ _ _ _)
   | (with_reducible exact ih2 _ _ _ _ _ _ _ _ _ _)
   | (with_reducible exact LeO.refl _)
   | (with_reducible exact LeO.none _)
   | (with_reducible refine LeO.ite ?_ ?_)
   | (with_reducible refine LeO.bind ?_ (fun _=>?_))
   | exact ih0 _ _ _ _
   | exact ih1 _ _ _ _ _ _ _
   | exact ih2 _ _ _ _ _ _ _ _ _ _
   | exact LeO.none _
   | refine LeO.ite ?_ ?_
   | refine LeO.bind ?_ (fun _=>?_)
  ·intro y0 y1 y2 y3 y4 y5 y6
   unfold qz_.l1
   repeat' first
   | (with_reducible exact ih0 _ _ _ _)
   | (with_reducible exact ih1 _ _ _ _ _ _ _)
   | (with_reducible exact ih2 _ _ _ _ _ _ _ _ _ _)
   | (with_reducible exact LeO.refl _)
   | (with_reducible exact LeO.none _)
   | (with_reducible refine LeO.ite ?_ ?_)
   | (with_reducible refine LeO.bind ?_ (fun _=>?_))
   | exact ih0 _ _ _ _
   | exact ih1 _ _ _ _ _ _ _
   | exact ih2 _ _ _ _ _ _ _ _ _ _
   | exact LeO.none _
   | refine LeO.ite ?_ ?_
   | refine LeO.bind ?_ (fun _=>?_)
  ·intro y0 y1 y2 y3 y4 y5 y6 y7 y8 y9
   unfold qz_.l2
   repeat' first
   | (with_reducible exact ih0 _ _ _ _)
   | (with_reducible exact ih1 _ _ _ _ _ _ _)
   | (with_reducible exact ih2 _ _ _ _ _ _ _ _ _ _)
   | (with_reducible exact LeO.refl _)
   | (with_reducible exact LeO.none _)
   | (with_reducible refine LeO.ite ?_ ?_)
   | (with_reducible refine LeO.bind ?_ (fun _=>?_))
   | exact ih0 _ _ _ _
   | exact ih1 _ _ _ _ _ _ _
   | exact ih2 _ _ _ _ _ _ _ _ _ _
   | exact LeO.none _
   | refine LeO.ite ?_ ?_
   | refine LeO.bind ?_ (fun _=>?_)
theorem qz_.mono:∀ a0 a1 k,LeO (qz_.f k a0 a1) (qz_.f (k+1) a0 a1):=by
 intro a0 a1 k
 obtain ⟨ih0,ih1,ih2⟩:=qz_.mono_l k
 unfold qz_.f
 repeat' first
   | (with_reducible exact ih0 _ _ _ _)
   | (with_reducible exact ih1 _ _ _ _ _ _ _)
   | (with_reducible exact ih2 _ _ _ _ _ _ _ _ _ _)
   | (with_reducible exact LeO.refl _)
   | (with_reducible exact LeO.none _)
   | (with_reducible refine LeO.ite ?_ ?_)
   | (with_reducible refine LeO.bind ?_ (fun _=>?_))
   | exact ih0 _ _ _ _
   | exact ih1 _ _ _ _ _ _ _
   | exact ih2 _ _ _ _ _ _ _ _ _ _
   | exact LeO.none _
   | refine LeO.ite ?_ ?_
   | refine LeO.bind ?_ (fun _=>?_)
set_option maxHeartbeats 8000000 in
set_option maxRecDepth 100000 in
theorem qz_.calls (k:Nat) (a0:Int) (a1:Int) (r:List ByteArray) (w:World) (h:qz_.f k a0 a1=some r) :
  Calls Try.prog 215 #[.int .i64 a0,.int .i64 a1] w fun e w'=>∃ v0_:Value,e=.returned (v0_)∧Kd.R Kd.string 9 w' w.heap.size (fun _=>True) v0_ r∧Below w.heap.size w w':=by
 have HB:=aK (Below.refl w.heap.size w)
 have H:(qz_.l0 k a0 (([(⟨#[]⟩:ByteArray)]:List ByteArray)) a1 0)=some r:=h
 clear h
 obtain ⟨y418,hy418⟩:∃ y_:List ByteArray,y_=(([(⟨#[]⟩:ByteArray)]:List ByteArray)):=⟨_,rfl⟩
 replace H:(qz_.l0 k a0 y418 a1 0)=some r:=by first|(rw [hy418];with_reducible exact H)|(have H2_:=(Option.bind_some _ _).symm.trans H;rw [hy418];with_reducible exact H2_)|(have H2_:=(Option.bind_some _ _).symm.trans H;with_reducible exact H2_)|with_reducible exact H|(rw [hy418];exact H)|exact H
 have Ny418:=aK hy418
 clear hy418
 have H':=aK H
 clear H
 go_enter Try.func215,Try.ntmps215
 go_wp2_with (first|((with_reducible refine qa1_ (N:=10) rfl ?_);refine Kd.R_lit Kd.string _ 9 ?hg (N:=10) ?hd (xs:=([(⟨#[]⟩:ByteArray)]:List ByteArray)) (inner:=[.string (⟨#[]⟩:ByteArray)]) (ok:=fun _=>True) (okp:=fun _=>True) ?hr ?hp (fun _ hk=>hk) trivial (Below.refl _ _) (Nat.le_refl _) (by simp) ?_;(case hd=>rfl);(case hg=>rfl);(case hr=>first|(go_simp;done)|(go_simp;rfl));(case hp=>exact (Reps.one (show Kd.M Kd.string _ _ _ (⟨#[]⟩:ByteArray) [.string (⟨#[]⟩:ByteArray)] from rfl) (Reps.none _ _)));intro v419 w3 ho4 hb hg_ hnew_;clear hg_ hnew_;(first|rw [← Ny418.out] at ho4|(simp only [Int.reduceToNat] at ho4;rw [← Ny418.out] at ho4));have n0_:=aK (Kd.qj2_ ho4 (qk_ (by repeat (first|(with_reducible first|exact HB.out|apply qb_|apply qa_|apply qc_)|exact HB.out))));have n1_:=aK (qf_ (by repeat (first|(with_reducible first|exact HB.out|apply qb_|apply qa_|apply qc_)|exact HB.out)) hb);clear HB;have HO420:=n0_;have HB:=n1_;clear n0_ n1_;clear hb ho4))
 go_loopg [5,12] k (fun kq v5 v12 w'=>∃ (x5_1:List ByteArray) (x12_1:Int),v12=.int .i64 x12_1∧Aside0 (qz_.l0 kq a0 x5_1 a1 x12_1=some r)∧Aside0 (kq≤k)∧Aside0 (Kd.R Kd.string 9 w' w.heap.size (fun _=>True) v5 x5_1)∧Aside0 (Below w.heap.size w w'))
 case atStart=>exact ⟨(y418),(0),(by first|rfl|(simp;done)|(simp [*];done)),H',⟨Nat.le_refl _⟩,⟨by (with_reducible repeat (first|apply Kd.qi1_|apply Kd.qv1_|apply Kd.R_drew));exact HO420.out⟩,⟨by repeat (first|(with_reducible first|exact HB.out|apply qb_|apply qa_|apply qc_)|exact HB.out)⟩⟩
 case round =>
  clear H'
  try clear c2
  try clear p2
  obtain ⟨x5_1,x12_1,rfl,HA,HK1,HO_5,HB⟩:=hrel
  cases gk with
  | zero=>exact absurd HA.out (by simp [qz_.l0])
  | succ k1 =>
   have H:=HA.out
   clear HA
   simp only [qz_.l0] at H
   by_cases c5:x12_1 < a1
   ·rw [if_pos c5] at H
    have c5b0:decide (x12_1 < a1)=true:=decide_eq_true c5
    clear c5
    have H':=aK H
    clear H
    obtain ⟨Ao6,co6,eo6⟩:=Kd.qa2_ HO_5.out
    subst eo6
    go_wp2
    go_loopg [6,16] k1 (fun kq v6 v16 w'=>∃ (x6_2:List ByteArray) (x16_2:Int),v16=.int .i64 x16_2∧Aside0 (qz_.l1 kq a0 x6_2 a1 x12_1 x5_1 (x5_1.length:Int) x16_2=some r)∧Aside0 (kq≤k1)∧Aside0 (Kd.R Kd.string 9 w' w.heap.size (fun k_=>some k_ ≠ ((.slice Ao6 x5_1.length co6):Value).ownBlock) v6 x6_2)∧Aside0 (Kd.R Kd.string 9 w' w.heap.size (fun k_=>some k_ ≠ (v6:Value).ownBlock) (.slice Ao6 x5_1.length co6) x5_1)∧Aside0 (Below w.heap.size w w'))
    case atStart=>exact ⟨(([]:List ByteArray)),(0),(by first|rfl|(simp;done)|(simp [*];done)),H',⟨Nat.le_refl _⟩,⟨by first|exact Kd.R_nil _ _ _ _ _|exact Kd.N_nil _ _ _ _ _|exact Kd.V_nil _ _ _ _ _|exact Kd.Q_nil _ _ _ _ _|exact Kd.S_nil _ _ _ _ _⟩,⟨by (with_reducible repeat (first|apply Kd.qi1_|apply Kd.qv1_|apply Kd.R_drew));exact Kd.R_mono HO_5.out (fun _ hk=>(by simp [Value.ownBlock]))⟩,⟨by repeat (first|(with_reducible first|exact HB.out|apply qb_|apply qa_|apply qc_)|exact HB.out)⟩⟩
    case round =>
     clear H'
     try clear c2
     try clear p2
     try clear c5
     try clear c5b0
     try clear p2
     obtain ⟨x6_2,x16_2,rfl,HA,HK2,HO_6,HO_14,HB⟩:=hrel
     cases gk with
     | zero=>exact absurd HA.out (by simp [qz_.l1])
     | succ k2 =>
      have H:=HA.out
      clear HA
      simp only [qz_.l1] at H
      by_cases c7:x16_2 < (x5_1.length:Int)
      ·rw [if_pos c7] at H
       have c7b0:decide (x16_2 < (x5_1.length:Int))=true:=decide_eq_true c7
       clear c7
       by_cases c8:0≤x16_2
       ·rw [if_pos c8] at H
        have c8b0:decide (0≤x16_2)=true:=decide_eq_true c8
        clear c8
        by_cases c9:x16_2 < (x5_1.length:Int)
        ·rw [if_pos c9] at H
         have c9b0:decide (x16_2 < (x5_1.length:Int))=true:=decide_eq_true c9
         clear c9
         have H':=aK H
         clear H
         have p421:0≤(x16_2:Int):=of_decide_eq_true (by first|(with_reducible assumption)|assumption)
         have q421:x16_2 < (x5_1.length:Int):=of_decide_eq_true (by first|(with_reducible assumption)|assumption)
         obtain ⟨ad421,e421,hx421_0⟩:=Kd.at_string (Kd.qg3_ HO_14.out).2.2 x16_2 p421 q421
         cases e421
         replace p421:=eq_true p421
         replace q421:=eq_true q421
         go_wp2
         go_loopg [6,21] k2 (fun kq v6 v21 w'=>∃ (x6_3:List ByteArray) (x21_3:Int),v21=.int .i64 x21_3∧Aside0 (qz_.l2 kq a0 x6_3 (rdOf ByteArray.empty x5_1 x16_2) a1 x12_1 x5_1 (x5_1.length:Int) x16_2 a0 x21_3=some r)∧Aside0 (kq≤k2)∧Aside0 (Kd.R Kd.string 9 w' w.heap.size (fun k_=>some k_ ≠ ((.slice (some ad421) x5_1.length co6):Value).ownBlock) v6 x6_3)∧Aside0 (Kd.R Kd.string 9 w' w.heap.size (fun k_=>some k_ ≠ (v6:Value).ownBlock) (.slice (some ad421) x5_1.length co6) x5_1)∧Aside0 (Below w.heap.size w w'))
         case atStart=>exact ⟨(x6_2),(0),(by first|rfl|(simp;done)|(simp [*];done)),H',⟨Nat.le_refl _⟩,⟨by (with_reducible repeat (first|apply Kd.qi1_|apply Kd.qv1_|apply Kd.R_drew));exact HO_6.out⟩,⟨by (with_reducible repeat (first|apply Kd.qi1_|apply Kd.qv1_|apply Kd.R_drew));exact HO_14.out⟩,⟨by repeat (first|(with_reducible first|exact HB.out|apply qb_|apply qa_|apply qc_)|exact HB.out)⟩⟩
         case round =>
          clear H'
          try clear c2
          try clear p2
          try clear p4
          try clear q4
          try clear hx4
          try clear c5
          try clear c5b0
          try clear c7
          try clear c7b0
          try clear c8
          try clear c8b0
          try clear c9
          try clear c9b0
          try clear hx421_0
          try clear p2
          try clear p421
          try clear q421
          obtain ⟨x6_3,x21_3,rfl,HA,HK3,HO_6,HO_14,HB⟩:=hrel
          cases gk with
          | zero=>exact absurd HA.out (by simp [qz_.l2])
          | succ k3 =>
           have H:=HA.out
           clear HA
           simp only [qz_.l2] at H
           by_cases c10:x21_3 < a0
           ·rw [if_pos c10] at H
            have c10b0:decide (x21_3 < a0)=true:=decide_eq_true c10
            clear c10
            replace H:=Option.bind_eq_some_iff.mp H
            obtain ⟨t422,A110,H⟩:=H
            replace H:(if (rdOf ByteArray.empty x5_1 x16_2).size+t422.size≤9223372036854775807 then (if x6_3.length < 8796093022208 then (qz_.l2 k3 a0 (x6_3 ++ [(rdOf ByteArray.empty x5_1 x16_2) ++ t422]) (rdOf ByteArray.empty x5_1 x16_2) a1 x12_1 x5_1 (x5_1.length:Int) x16_2 a0 (wrap64 (x21_3+1))) else (none)) else (none))=some r:=H
            have A11:=aK A110
            clear A110
            by_cases c12:(rdOf ByteArray.empty x5_1 x16_2).size+t422.size≤9223372036854775807
            ·rw [if_pos c12] at H
             have c12b0:=eq_true c12
             have c12b1:decide ((rdOf ByteArray.empty x5_1 x16_2).size+t422.size≤9223372036854775807)=true:=decide_eq_true c12
             try have c12b2:(9223372036854775807 < (rdOf ByteArray.empty x5_1 x16_2).size+t422.size)=False:=eq_false (Nat.not_lt.2 c12)
             by_cases c13:x6_3.length < 8796093022208
             ·rw [if_pos c13] at H
              have LMc13:=aK c13
              clear c13
              obtain ⟨y423,hy423⟩:∃ y_:List ByteArray,y_=(x6_3 ++ [(rdOf ByteArray.empty x5_1 x16_2) ++ t422]):=⟨_,rfl⟩
              replace H:(qz_.l2 k3 a0 y423 (rdOf ByteArray.empty x5_1 x16_2) a1 x12_1 x5_1 (x5_1.length:Int) x16_2 a0 (wrap64 (x21_3+1)))=some r:=by first|(rw [hy423];with_reducible exact H)|(have H2_:=(Option.bind_some _ _).symm.trans H;rw [hy423];with_reducible exact H2_)|(have H2_:=(Option.bind_some _ _).symm.trans H;with_reducible exact H2_)|with_reducible exact H|(rw [hy423];exact H)|exact H
              have Ny423:=aK hy423
              clear hy423
              have H':=aK H
              clear H
              go_wp2_with (first|((with_reducible refine qc1_ (f:=225) rfl ?_);refine goesL_ (some 27) rfl rfl Try.func225 (by kernel_rfl) rfl #[.int .i64 x21_3] rfl (by (try simp only [List.map_toArray,List.map_cons,List.map_nil]);first|done|rfl|(simp only [List.length_drop,List.length_take];rfl)) ?_;(with_reducible refine (qj3_.calls x21_3 t422 _ A11.out).mono ?_);rintro e w14 ⟨rfl,hb⟩;refine ⟨_,rfl,?_⟩;have n0_:=aK (Kd.ql2_ (by (with_reducible repeat (first|apply Kd.qi1_|apply Kd.qv1_|apply Kd.R_drew));exact HO_6.out) hb);have n1_:=aK (Kd.ql2_ (by (with_reducible repeat (first|apply Kd.qi1_|apply Kd.qv1_|apply Kd.R_drew));exact HO_14.out) hb);have n2_:=aK (qf_ (by repeat (first|(with_reducible first|exact HB.out|apply qb_|apply qa_|apply qc_)|exact HB.out)) hb);clear HO_6;clear HO_14;clear HB;have HO_6:=n0_;have HO_14:=n1_;have HB:=n2_;clear n0_ n1_ n2_;(try clear hb);(try clear hb2);(try clear hk);(try clear hi))|((with_reducible refine qh2_ (b:=.append) (xs:=#[.tmp 24,.tmp 29]) rfl ?_);at_builtin;refine Kd.R_append Kd.string (w0:=w) w.heap.size rfl (.tmp 24) (.tmp 29) 156 9 (.string ⟨#[]⟩) 16 rfl Try.underlying156 info9 rfl (by decide) (by omega) u6 x6_3 ((rdOf ByteArray.empty x5_1 x16_2) ++ t422) [.string ((rdOf ByteArray.empty x5_1 x16_2) ++ t422)] (fun k_=>some k_ ≠ (.slice (some ad421) x5_1.length co6:Value).ownBlock) (fun _=>False) rfl rfl ?aP (fun _ hk=>hk.elim) ?aF ?aO ?aB ?aS ?aL ?_;(case aP=>exact rfl);(case aB=>exact (by repeat (first|(with_reducible first|exact HB.out|apply qb_|apply qa_|apply qc_)|exact HB.out)));(case aF=>exact (fun k_ hk=>Kd.fresh' (Kd.R_lt (by (with_reducible repeat (first|apply Kd.qi1_|apply Kd.qv1_|apply Kd.R_drew));exact HO_14.out)) k_ hk));(case aO=>exact (by (with_reducible repeat (first|apply Kd.qi1_|apply Kd.qv1_|apply Kd.R_drew));exact HO_6.out));(case aS=>exact (qk_ (by repeat (first|(with_reducible first|exact HB.out|apply qb_|apply qa_|apply qc_)|exact HB.out))));(case aL=>have:=LMc13.out;omega);intro v424 w15 ho hb hg hat;rw [← Ny423.out] at ho;have n0_:=aK (Kd.R_after (ok:=(fun _=>True)) (by (with_reducible repeat (first|apply Kd.qi1_|apply Kd.qv1_|apply Kd.R_drew));exact Kd.R_mono HO_14.out (fun _ hk=>⟨trivial,hk⟩)) hg hat);have n1_:=aK (hb);have n2_:=aK (ho);clear HO_14;clear HB;clear HO_6;have HO_14:=n0_;have HB:=n1_;have HO425:=n2_;clear n0_ n1_ n2_;clear ho hb hg hat))
              go_roundg k3
              case measure=>have:=HK1.out;have:=HK2.out;have:=HK3.out;omega
              case rel=>exact ⟨(y423),(wrap64 (x21_3+1)),(by first|rfl|(simp;done)|(simp [*];done)),H',⟨by have:=HK1.out;have:=HK2.out;have:=HK3.out;omega⟩,⟨by (with_reducible repeat (first|apply Kd.qi1_|apply Kd.qv1_|apply Kd.R_drew));exact HO425.out⟩,⟨by (with_reducible repeat (first|apply Kd.qi1_|apply Kd.qv1_|apply Kd.R_drew));exact Kd.R_mono HO_14.out (fun _ hk=>hk.2)⟩,⟨by repeat (first|(with_reducible first|exact HB.out|apply qb_|apply qa_|apply qc_)|exact HB.out)⟩⟩
             ·rw [if_neg c13] at H
              exact absurd H (by simp)
            ·rw [if_neg c12] at H
             exact absurd H (by simp)
           ·rw [if_neg c10] at H
            have c10b0:decide (x21_3 < a0)=false:=decide_eq_false c10
            clear c10
            have H':=aK H
            clear H
            go_wp2
            go_roundg k3
            case measure=>have:=HK1.out;have:=HK2.out;have:=HK3.out;omega
            case rel=>exact ⟨(x6_3),(wrap64 (x16_2+1)),(by first|rfl|(simp;done)|(simp [*];done)),H',⟨by have:=HK1.out;have:=HK2.out;have:=HK3.out;omega⟩,⟨by (with_reducible repeat (first|apply Kd.qi1_|apply Kd.qv1_|apply Kd.R_drew));exact HO_6.out⟩,⟨by (with_reducible repeat (first|apply Kd.qi1_|apply Kd.qv1_|apply Kd.R_drew));exact HO_14.out⟩,⟨by repeat (first|(with_reducible first|exact HB.out|apply qb_|apply qa_|apply qc_)|exact HB.out)⟩⟩
        ·rw [if_neg c9] at H
         exact absurd H (by simp)
       ·rw [if_neg c8] at H
        exact absurd H (by simp)
      ·rw [if_neg c7] at H
       have c7b0:decide (x16_2 < (x5_1.length:Int))=false:=decide_eq_false c7
       clear c7
       have H':=aK H
       clear H
       go_wp2
       go_roundg k2
       case measure=>have:=HK1.out;have:=HK2.out;omega
       case rel=>exact ⟨(x6_2),(wrap64 (x12_1+1)),(by first|rfl|(simp;done)|(simp [*];done)),H',⟨by have:=HK1.out;have:=HK2.out;omega⟩,⟨by (with_reducible repeat (first|apply Kd.qi1_|apply Kd.qv1_|apply Kd.R_drew));exact Kd.R_mono HO_6.out (fun _ hk=>trivial)⟩,⟨by repeat (first|(with_reducible first|exact HB.out|apply qb_|apply qa_|apply qc_)|exact HB.out)⟩⟩
   ·rw [if_neg c5] at H
    have c5b0:decide (x12_1 < a1)=false:=decide_eq_false c5
    clear c5
    obtain rfl:=Option.some.inj H
    go_wp2
    go_ret
    exact ⟨_,by first|rfl|(simp [qn_,qm_] <;> rfl)|(simp [*,qn_,qm_] <;> rfl),by (with_reducible repeat (first|apply Kd.qi1_|apply Kd.qv1_|apply Kd.R_drew));exact HO_5.out,by repeat (first|(with_reducible first|exact HB.out|apply qb_|apply qa_|apply qc_)|exact HB.out)⟩
end Go.Proofs.Ytaiefdhenikiiaa.Base
namespace Go.Proofs.Ytaiefdhenikiiaa.Base
open Go.RowKit Go.Proofs.YtaiefdhenikiiaaW.PrintWords Go.Proofs.YtaiefdhenikiiaaW.PrintLast Go.Proofs.YtaiefdhenikiiaaW.PrintMore
attribute [local go_sem] max2_int qp1_ max_two min_two max_three min_three max_four min_four Go.Proofs.YtaiefdhenikiiaaZ.qv_   -- for this text's walks alone
set_option linter.unusedVariables false
set_option linter.unusedSimpArgs false
def qo1_.l0:Nat→Int→List ByteArray→Int→Int→Option (List ByteArray)
 | 0,_,_,_,_=>none
 | k+1,x0,x5,x8,x9=>if x9 < x8 then ((qz_.f k x0 x9).bind fun t426=>(if x5.length+t426.length < 8796093022208 then (qo1_.l0 k x0 (x5 ++ t426) x8 (wrap64 (x9+1))) else (none))) else (some x5)
def qo1_.f (k:Nat) (a0:Int) (a1:Int):Option (List ByteArray):=qo1_.l0 k a0 ([]:List ByteArray) (wrap64 (a1+1)) 0
theorem qo1_.mono_l:∀ k,(∀ y0 y1 y2 y3,LeO (qo1_.l0 k y0 y1 y2 y3) (qo1_.l0 (k+1) y0 y1 y2 y3))
 | 0=>fun _ _ _ _ r h=>by simp [qo1_.l0] at h
 | k+1=>by
  have ih0:=qo1_.mono_l k
  ·intro y0 y1 y2 y3
   unfold qo1_.l0
   repeat' first
   | (with_reducible exact ih0 _ _ _ _)
   | (with_reducible exact qz_.mono _ _ _)
   | (with_reducible exact LeO.refl _)
   | (with_reducible exact LeO.none _)
   | (with_reducible refine LeO.ite ?_ ?_)
   | (with_reducible refine LeO.bind ?_ (fun _=>?_))
   | exact ih0 _ _ _ _
   | exact qz_.mono _ _ _
   | exact LeO.none _
   | refine LeO.ite ?_ ?_
   | refine LeO.bind ?_ (fun _=>?_)
theorem qo1_.mono:∀ a0 a1 k,LeO (qo1_.f k a0 a1) (qo1_.f (k+1) a0 a1):=by
 intro a0 a1 k
 have ih0:=qo1_.mono_l k
 unfold qo1_.f
 repeat' first
   | (with_reducible exact ih0 _ _ _ _)
   | (with_reducible exact qz_.mono _ _ _)
   | (with_reducible exact LeO.refl _)
   | (with_reducible exact LeO.none _)
   | (with_reducible refine LeO.ite ?_ ?_)
   | (with_reducible refine LeO.bind ?_ (fun _=>?_))
   | exact ih0 _ _ _ _
   | exact qz_.mono _ _ _
   | exact LeO.none _
   | refine LeO.ite ?_ ?_
   | refine LeO.bind ?_ (fun _=>?_)
set_option maxHeartbeats 8000000 in
set_option maxRecDepth 100000 in
theorem qo1_.calls (k:Nat) (a0:Int) (a1:Int) (r:List ByteArray) (w:World) (h:qo1_.f k a0 a1=some r) :
  Calls Try.prog 175 #[.int .i64 a0,.int .i64 a1] w fun e w'=>∃ v0_:Value,e=.returned (v0_)∧Kd.R Kd.string 9 w' w.heap.size (fun _=>True) v0_ r∧Below w.heap.size w w':=by
 have HB:=aK (Below.refl w.heap.size w)
 have H:(qo1_.l0 k a0 ([]:List ByteArray) (wrap64 (a1+1)) 0)=some r:=h
 clear h
 have H':=aK H
 clear H
 go_enter Try.func175,Try.ntmps175
 go_wp2
 go_loopg [5,9] k (fun kq v5 v9 w'=>∃ (x5_1:List ByteArray) (x9_1:Int),v9=.int .i64 x9_1∧Aside0 (qo1_.l0 kq a0 x5_1 (wrap64 (a1+1)) x9_1=some r)∧Aside0 (kq≤k)∧Aside0 (Kd.R Kd.string 9 w' w.heap.size (fun _=>True) v5 x5_1)∧Aside0 (Below w.heap.size w w'))
 case atStart=>exact ⟨(([]:List ByteArray)),(0),(by first|rfl|(simp;done)|(simp [*];done)),H',⟨Nat.le_refl _⟩,⟨by first|exact Kd.R_nil _ _ _ _ _|exact Kd.N_nil _ _ _ _ _|exact Kd.V_nil _ _ _ _ _|exact Kd.Q_nil _ _ _ _ _|exact Kd.S_nil _ _ _ _ _⟩,⟨by repeat (first|(with_reducible first|exact HB.out|apply qb_|apply qa_|apply qc_)|exact HB.out)⟩⟩
 case round =>
  clear H'
  try clear c1
  try clear p2
  obtain ⟨x5_1,x9_1,rfl,HA,HK1,HO_5,HB⟩:=hrel
  cases gk with
  | zero=>exact absurd HA.out (by simp [qo1_.l0])
  | succ k1 =>
   have H:=HA.out
   clear HA
   simp only [qo1_.l0] at H
   by_cases c3:x9_1 < (wrap64 (a1+1))
   ·rw [if_pos c3] at H
    have c3b0:decide (x9_1 < (wrap64 (a1+1)))=true:=decide_eq_true c3
    clear c3
    replace H:=Option.bind_eq_some_iff.mp H
    obtain ⟨t426,A40,H⟩:=H
    replace H:(if x5_1.length+t426.length < 8796093022208 then (qo1_.l0 k1 a0 (x5_1 ++ t426) (wrap64 (a1+1)) (wrap64 (x9_1+1))) else (none))=some r:=H
    have A4:=aK A40
    clear A40
    by_cases c5:x5_1.length+t426.length < 8796093022208
    ·rw [if_pos c5] at H
     have LMc5:=aK c5
     clear c5
     obtain ⟨y429,hy429⟩:∃ y_:List ByteArray,y_=(x5_1 ++ t426):=⟨_,rfl⟩
     replace H:(qo1_.l0 k1 a0 y429 (wrap64 (a1+1)) (wrap64 (x9_1+1)))=some r:=by first|(rw [hy429];with_reducible exact H)|(have H2_:=(Option.bind_some _ _).symm.trans H;rw [hy429];with_reducible exact H2_)|(have H2_:=(Option.bind_some _ _).symm.trans H;with_reducible exact H2_)|with_reducible exact H|(rw [hy429];exact H)|exact H
     have Ny429:=aK hy429
     clear hy429
     have H':=aK H
     clear H
     go_wp2_with (first|((with_reducible refine qc1_ (f:=215) rfl ?_);refine goesL_ (some 15) rfl rfl Try.func215 (by kernel_rfl) rfl #[.int .i64 a0,.int .i64 x9_1] rfl (by (try simp only [List.map_toArray,List.map_cons,List.map_nil]);first|done|rfl|(simp only [List.length_drop,List.length_take];rfl)) ?_;(with_reducible refine (qz_.calls k1 a0 x9_1 t426 _ A4.out).mono ?_);rintro e w6 ⟨v427,rfl,ho0,hb⟩;refine ⟨_,rfl,?_⟩;have n0_:=aK (Kd.R_elder' (by (with_reducible repeat (first|apply Kd.qi1_|apply Kd.qv1_|apply Kd.R_drew));exact HO_5.out) (Kd.R_base ho0) hb);have n1_:=aK (Kd.qj2_ (Kd.R_new' ho0 (Kd.R_lt (by (with_reducible repeat (first|apply Kd.qi1_|apply Kd.qv1_|apply Kd.R_drew));exact HO_5.out))) (qk_ (by repeat (first|(with_reducible first|exact HB.out|apply qb_|apply qa_|apply qc_)|exact HB.out))));have n2_:=aK (qf_ (by repeat (first|(with_reducible first|exact HB.out|apply qb_|apply qa_|apply qc_)|exact HB.out)) hb);clear HO_5;clear HB;have HO_5:=n0_;have HO428:=n1_;have HB:=n2_;clear n0_ n1_ n2_;(try clear hb);(try clear hb2);(try clear hk);(try clear hi);(try clear ho0);obtain ⟨Ao8,co8,eo8⟩:=Kd.qa2_ HO428.out;subst eo8)|((with_reducible refine qh2_ (b:=.append) (xs:=#[.tmp 12,.tmp 15]) rfl ?_);at_builtin;refine Kd.qr2_ Kd.string (w0:=w) w.heap.size rfl (.tmp 12) (.tmp 15) 156 9 (.string ⟨#[]⟩) 16 rfl Try.underlying156 info9 rfl (by decide) (by omega) u5 x5_1 t426 _ _ _ (fun k_=>some k_ ≠ (.slice Ao8 t426.length co8:Value).ownBlock) (fun _=>False) rfl rfl ?aO ?aR (fun _ _ h=>h) (fun _ h=>h.elim) ?aF ?aB ?aS ?aL ?_;(case aR=>repeat (first|exact (Kd.qg3_ HO428.out).2.2|(with_reducible refine Kd.C_alloc ?_ _)|(with_reducible refine Kd.C_drewN ?_ _)|(with_reducible refine Kd.C_drew ?_)));(case aB=>exact (by repeat (first|(with_reducible first|exact HB.out|apply qb_|apply qa_|apply qc_)|exact HB.out)));(case aF=>exact (fun k_ hk=>Kd.fresh' (Kd.R_lt (by (with_reducible repeat (first|apply Kd.qi1_|apply Kd.qv1_|apply Kd.R_drew));exact HO428.out)) k_ hk));(case aO=>exact (by (with_reducible repeat (first|apply Kd.qi1_|apply Kd.qv1_|apply Kd.R_drew));exact Kd.R_mono HO_5.out (fun _ hk=>hk.2)));(case aS=>exact (qk_ (by repeat (first|(with_reducible first|exact HB.out|apply qb_|apply qa_|apply qc_)|exact HB.out))));(case aL=>have:=LMc5.out;omega);intro v430 w7 ho hb hg hat;rw [← Ny429.out] at ho;have n0_:=aK (Kd.R_after (ok:=(fun _=>True)) (by (with_reducible repeat (first|apply Kd.qi1_|apply Kd.qv1_|apply Kd.R_drew));exact HO428.out) hg hat);have n1_:=aK (hb);have n2_:=aK (ho);clear HO428;clear HB;clear HO_5;have HO428:=n0_;have HB:=n1_;have HO431:=n2_;clear n0_ n1_ n2_;clear ho hb hg hat))
     go_roundg k1
     case measure=>have:=HK1.out;omega
     case rel=>exact ⟨(y429),(wrap64 (x9_1+1)),(by first|rfl|(simp;done)|(simp [*];done)),H',⟨by have:=HK1.out;omega⟩,⟨by (with_reducible repeat (first|apply Kd.qi1_|apply Kd.qv1_|apply Kd.R_drew));exact Kd.R_mono HO431.out (fun _ hk=>trivial)⟩,⟨by repeat (first|(with_reducible first|exact HB.out|apply qb_|apply qa_|apply qc_)|exact HB.out)⟩⟩
    ·rw [if_neg c5] at H
     exact absurd H (by simp)
   ·rw [if_neg c3] at H
    have c3b0:decide (x9_1 < (wrap64 (a1+1)))=false:=decide_eq_false c3
    clear c3
    obtain rfl:=Option.some.inj H
    go_wp2
    go_ret
    exact ⟨_,by first|rfl|(simp [qn_,qm_] <;> rfl)|(simp [*,qn_,qm_] <;> rfl),by (with_reducible repeat (first|apply Kd.qi1_|apply Kd.qv1_|apply Kd.R_drew));exact HO_5.out,by repeat (first|(with_reducible first|exact HB.out|apply qb_|apply qa_|apply qc_)|exact HB.out)⟩
end Go.Proofs.Ytaiefdhenikiiaa.Base
namespace Go.Proofs.Ytaiefdhenikiiaa.Base
open Go.RowKit Go.Proofs.YtaiefdhenikiiaaW.PrintWords Go.Proofs.YtaiefdhenikiiaaW.PrintLast Go.Proofs.YtaiefdhenikiiaaW.PrintMore
attribute [local go_sem] max2_int qp1_ max_two min_two max_three min_three max_four min_four Go.Proofs.YtaiefdhenikiiaaZ.qv_   -- for this text's walks alone
set_option linter.unusedVariables false
set_option linter.unusedSimpArgs false
def bits_Mul64.f (a0:Int) (a1:Int):Option (Int × Int):=some (IntKind.u64.wrap ((IntKind.u64.wrap ((IntKind.u64.wrap ((a0 / 4294967296) * (a1 / 4294967296)))+((IntKind.u64.wrap ((IntKind.u64.wrap ((a0 / 4294967296) * (Go.bits .and .u64 a1 4294967295)))+((IntKind.u64.wrap ((Go.bits .and .u64 a0 4294967295) * (Go.bits .and .u64 a1 4294967295))) / 4294967296))) / 4294967296)))+((IntKind.u64.wrap ((Go.bits .and .u64 (IntKind.u64.wrap ((IntKind.u64.wrap ((a0 / 4294967296) * (Go.bits .and .u64 a1 4294967295)))+((IntKind.u64.wrap ((Go.bits .and .u64 a0 4294967295) * (Go.bits .and .u64 a1 4294967295))) / 4294967296))) 4294967295)+(IntKind.u64.wrap ((Go.bits .and .u64 a0 4294967295) * (a1 / 4294967296))))) / 4294967296)),IntKind.u64.wrap (a0 * a1))
set_option maxHeartbeats 8000000 in
set_option maxRecDepth 100000 in
theorem bits_Mul64.calls (a0:Int) (a1:Int) (r1:Int) (r2:Int) (w:World) (h:bits_Mul64.f a0 a1=some (r1,r2)) :
  Calls Try.prog 227 #[.int .u64 a0,.int .u64 a1] w fun e w'=>e=.returned (.tuple #[.int .u64 r1,.int .u64 r2])∧Drawn0 w w':=by
 have H:(some (IntKind.u64.wrap ((IntKind.u64.wrap ((IntKind.u64.wrap ((a0 / 4294967296) * (a1 / 4294967296)))+((IntKind.u64.wrap ((IntKind.u64.wrap ((a0 / 4294967296) * (Go.bits .and .u64 a1 4294967295)))+((IntKind.u64.wrap ((Go.bits .and .u64 a0 4294967295) * (Go.bits .and .u64 a1 4294967295))) / 4294967296))) / 4294967296)))+((IntKind.u64.wrap ((Go.bits .and .u64 (IntKind.u64.wrap ((IntKind.u64.wrap ((a0 / 4294967296) * (Go.bits .and .u64 a1 4294967295)))+((IntKind.u64.wrap ((Go.bits .and .u64 a0 4294967295) * (Go.bits .and .u64 a1 4294967295))) / 4294967296))) 4294967295)+(IntKind.u64.wrap ((Go.bits .and .u64 a0 4294967295) * (a1 / 4294967296))))) / 4294967296)),IntKind.u64.wrap (a0 * a1)))=some (r1,r2):=h
 clear h
 simp only [Option.some.injEq,Prod.mk.injEq] at H
 obtain ⟨rfl,rfl⟩:=H
 go_enter Try.func227,Try.ntmps227
 go_wp2
 go_ret2
 exact ⟨by first|rfl|(simp;done)|(simp [*];done)|(simp [Go.Proofs.YtaiefdhenikiiaaZ.bne_nil];done),by repeat (first|exact Drawn0.refl _|apply Drawn0.step)⟩
end Go.Proofs.Ytaiefdhenikiiaa.Base
namespace Go.Proofs.Ytaiefdhenikiiaa.Base
open Go.RowKit Go.Proofs.YtaiefdhenikiiaaW.PrintWords Go.Proofs.YtaiefdhenikiiaaW.PrintLast Go.Proofs.YtaiefdhenikiiaaW.PrintMore
attribute [local go_sem] max2_int qp1_ max_two min_two max_three min_three max_four min_four Go.Proofs.YtaiefdhenikiiaaZ.qv_   -- for this text's walks alone
set_option linter.unusedVariables false
set_option linter.unusedSimpArgs false
def bits_Mul.f (a0:Int) (a1:Int):Option (Int × Int):=(bits_Mul64.f a0 a1).bind fun bt444=>(some (bt444.1,bt444.2))
set_option maxHeartbeats 8000000 in
set_option maxRecDepth 100000 in
theorem bits_Mul.calls (a0:Int) (a1:Int) (r1:Int) (r2:Int) (w:World) (h:bits_Mul.f a0 a1=some (r1,r2)) :
  Calls Try.prog 216 #[.int .u64 a0,.int .u64 a1] w fun e w'=>e=.returned (.tuple #[.int .u64 r1,.int .u64 r2])∧Drawn0 w w':=by
 have H:((bits_Mul64.f a0 a1).bind fun bt444=>(some (bt444.1,bt444.2)))=some (r1,r2):=h
 clear h
 replace H:=Option.bind_eq_some_iff.mp H
 obtain ⟨⟨t444,t445⟩,A30,H⟩:=H
 replace H:(some (t444,t445))=some (r1,r2):=H
 have A3:=aK A30
 clear A30
 simp only [Option.some.injEq,Prod.mk.injEq] at H
 obtain ⟨rfl,rfl⟩:=H
 go_enter Try.func216,Try.ntmps216
 go_wp2_with (first|((with_reducible refine qc1_ (f:=227) rfl ?_);refine goesL_ (some 25) rfl rfl Try.func227 (by kernel_rfl) rfl #[.int .u64 a0,.int .u64 a1] rfl (by (try simp only [List.map_toArray,List.map_cons,List.map_nil]);first|done|rfl|(simp only [List.length_drop,List.length_take];rfl)) ?_;(with_reducible refine (bits_Mul64.calls a0 a1 t444 t445 _ A3.out).mono ?_);rintro e w' ⟨rfl,⟨nd,rfl⟩⟩;refine ⟨_,rfl,?_⟩))
 go_ret2
 exact ⟨by first|rfl|(simp;done)|(simp [*];done)|(simp [Go.Proofs.YtaiefdhenikiiaaZ.bne_nil];done),by repeat (first|exact Drawn0.refl _|apply Drawn0.step)⟩
end Go.Proofs.Ytaiefdhenikiiaa.Base
namespace Go.Proofs.Ytaiefdhenikiiaa.Base
open Go.RowKit Go.Proofs.YtaiefdhenikiiaaW.PrintWords Go.Proofs.YtaiefdhenikiiaaW.PrintLast Go.Proofs.YtaiefdhenikiiaaW.PrintMore
attribute [local go_sem] max2_int qp1_ max_two min_two max_three min_three max_four min_four Go.Proofs.YtaiefdhenikiiaaZ.qv_   -- for this text's walks alone
set_option linter.unusedVariables false
set_option linter.unusedSimpArgs false
def impl_whole.f (a0:Int):Option (Int × Int):=some (a0,1)
set_option maxHeartbeats 8000000 in
set_option maxRecDepth 100000 in
theorem impl_whole.calls (a0:Int) (r1:Int) (r2:Int) (w:World) (h:impl_whole.f a0=some (r1,r2)) :
  Calls Try.prog 165 #[.int .i64 a0] w fun e w'=>e=.returned (.agg #[.int .i64 r1,.int .i64 r2])∧Below w.heap.size w w':=by
 have hu77:=Try.underlying77
 have HB:=aK (Below.refl w.heap.size w)
 have H:(some (a0,1))=some (r1,r2):=h
 clear h
 simp only [Option.some.injEq,Prod.mk.injEq] at H
 obtain ⟨rfl,rfl⟩:=H
 go_enter Try.func165,Try.ntmps165
 go_wp2_with (first|((with_reducible refine qa1_ (N:=2) rfl ?_);refine qx_ ?hg (N:=2) ?hd (cs:=#[.int .i64 0,.int .i64 0]) (t:=77) ?hr ?_;(case hd=>rfl);(case hg=>rfl);(case hr=>first|(go_simp;done)|(go_simp;rfl));intro gb790 hg w2 hbox hb;have n0_:=aK (qf_ (by repeat (first|(with_reducible first|exact HB.out|apply qb_|apply qa_|apply qc_)|exact HB.out)) hb);have n1_:=aK (hbox);have n2_:=aK ((by rw [hg];exact (qk_ (by repeat (first|(with_reducible first|exact HB.out|apply qb_|apply qa_|apply qc_)|exact HB.out))):w.heap.size≤gb790));have n3_:=aK ((by rw [hg];exact (qk_ (by repeat (first|(with_reducible first|exact HB.out|apply qb_|apply qa_|apply qc_)|exact HB.out))):w.heap.size≤gb790));clear HB;have HB:=n0_;have BK790:=n1_;have GW790:=n2_;have GE790:=n3_;clear n0_ n1_ n2_ n3_;clear hb hbox hg;have hcz3_0:w2.cell? ⟨gb790,0,none⟩=some (.int .i64 0):=(qj_ BK790.out 0).trans rfl;have hcz3_1:w2.cell? ⟨gb790,1,none⟩=some (.int .i64 0):=(qj_ BK790.out 1).trans rfl;have hfz3_0:=qd_ BK790.out 0;have hfz3_1:=qd_ BK790.out 1))
 refine bodyPost_ret (results_cell_row rfl _ _ gb790 77 #[.int .i64 a0,.int .i64 1] (0,0) _ rfl (by (with_reducible repeat (first|refine qg_ ?_ _|refine qi_ ?_|refine qe_ ?_ _));refine qm1_ (cs:=#[.int .i64 a0,.int .i64 0]) ?_ 1 _ rfl;(with_reducible repeat (first|refine qg_ ?_ _|refine qi_ ?_|refine qe_ ?_ _));refine qm1_ (cs:=#[.int .i64 0,.int .i64 0]) ?_ 0 _ rfl;(with_reducible repeat (first|refine qg_ ?_ _|refine qi_ ?_|refine qe_ ?_ _));exact BK790.out) Try.underlying77 rfl (by kernel_rfl)) rfl ?_
 exact ⟨by first|rfl|(simp [qn_,qm_] <;> rfl)|(simp [*,qn_,qm_] <;> rfl),by repeat (first|(with_reducible first|exact HB.out|apply qb_|apply qa_|apply qc_|refine qh_ ?_ GE790.out)|exact HB.out)⟩
end Go.Proofs.Ytaiefdhenikiiaa.Base
namespace Go.Proofs.Ytaiefdhenikiiaa.Base
open Go.RowKit Go.Proofs.YtaiefdhenikiiaaW.PrintWords Go.Proofs.YtaiefdhenikiiaaW.PrintLast Go.Proofs.YtaiefdhenikiiaaW.PrintMore
attribute [local go_sem] max2_int qp1_ max_two min_two max_three min_three max_four min_four Go.Proofs.YtaiefdhenikiiaaZ.qv_   -- for this text's walks alone
set_option linter.unusedVariables false
set_option linter.unusedSimpArgs false
def qt_.l0:Nat→ByteArray→Int→Option (Bool)
 | 0,_,_=>none
 | k+1,x0,x3=>if x3 < (x0.size:Int) then (if 0≤x3 then (if x3≤(x0.size:Int) then (if ((Op.bytesLess x0.toList ((x0.extract (x3:Int).toNat x0.size).toList))=true) then (qt_.l0 k x0 (wrap64 (x3+1))) else (some false)) else (none)) else (none)) else (some (x0.toList != ([]:List UInt8)))
def qt_.f (k:Nat) (a0:ByteArray):Option (Bool):=qt_.l0 k a0 1
theorem qt_.mono_l:∀ k,(∀ y0 y1,LeO (qt_.l0 k y0 y1) (qt_.l0 (k+1) y0 y1))
 | 0=>fun _ _ r h=>by simp [qt_.l0] at h
 | k+1=>by
  have ih0:=qt_.mono_l k
  ·intro y0 y1
   unfold qt_.l0
   repeat' first
   | (with_reducible exact ih0 _ _)
   | (with_reducible exact LeO.refl _)
   | (with_reducible exact LeO.none _)
   | (with_reducible refine LeO.ite ?_ ?_)
   | (with_reducible refine LeO.bind ?_ (fun _=>?_))
   | exact ih0 _ _
   | exact LeO.none _
   | refine LeO.ite ?_ ?_
   | refine LeO.bind ?_ (fun _=>?_)
theorem qt_.mono:∀ a0 k,LeO (qt_.f k a0) (qt_.f (k+1) a0):=by
 intro a0 k
 have ih0:=qt_.mono_l k
 unfold qt_.f
 repeat' first
   | (with_reducible exact ih0 _ _)
   | (with_reducible exact LeO.refl _)
   | (with_reducible exact LeO.none _)
   | (with_reducible refine LeO.ite ?_ ?_)
   | (with_reducible refine LeO.bind ?_ (fun _=>?_))
   | exact ih0 _ _
   | exact LeO.none _
   | refine LeO.ite ?_ ?_
   | refine LeO.bind ?_ (fun _=>?_)
set_option maxHeartbeats 8000000 in
set_option maxRecDepth 100000 in
theorem qt_.calls (k:Nat) (a0:ByteArray) (r:Bool) (w:World) (h:qt_.f k a0=some r) :
  Calls Try.prog 99 #[.string a0] w fun e w'=>e=.returned (.bool r)∧Drawn0 w w':=by
 have H:(qt_.l0 k a0 1)=some r:=h
 clear h
 have H':=aK H
 clear H
 go_enter Try.func99,Try.ntmps99
 go_wp2
 go_loopg [3] k (fun kq v3 w'=>∃ (x3_1:Int),v3=.int .i64 x3_1∧Aside0 (qt_.l0 kq a0 x3_1=some r)∧Aside0 (kq≤k)∧Drawn0 w w')
 case atStart=>exact ⟨(1),(by first|rfl|(simp;done)|(simp [*];done)),H',⟨Nat.le_refl _⟩,by repeat (first|exact Drawn0.refl _|apply Drawn0.step)⟩
 case round =>
  clear H'
  obtain ⟨x3_1,rfl,HA,HK1,⟨m1,rfl⟩⟩:=hrel
  cases gk with
  | zero=>exact absurd HA.out (by simp [qt_.l0])
  | succ k1 =>
   have H:=HA.out
   clear HA
   simp only [qt_.l0] at H
   by_cases c2:x3_1 < (a0.size:Int)
   ·rw [if_pos c2] at H
    have c2b0:decide (x3_1 < (a0.size:Int))=true:=decide_eq_true c2
    clear c2
    by_cases c3:0≤x3_1
    ·rw [if_pos c3] at H
     have c3b0:=eq_true c3
     have c3b1:decide (0≤x3_1)=true:=decide_eq_true c3
     clear c3
     by_cases c4:x3_1≤(a0.size:Int)
     ·rw [if_pos c4] at H
      have c4b0:=eq_true c4
      have c4b1:decide (x3_1≤(a0.size:Int))=true:=decide_eq_true c4
      clear c4
      by_cases c5:((Op.bytesLess a0.toList ((a0.extract (x3_1:Int).toNat a0.size).toList))=true)
      ·rw [if_pos c5] at H
       have c5b0:(Op.bytesLess a0.toList ((a0.extract (x3_1:Int).toNat a0.size).toList))=true:=c5
       have c5b0x:(Op.bytesLess ((a0.extract (x3_1:Int).toNat a0.size).toList) a0.toList || ((a0.extract (x3_1:Int).toNat a0.size).toList) == a0.toList)=false:=Go.Proofs.YtaiefdhenikiiaaZ.less_yes c5b0
       clear c5
       have H':=aK H
       clear H
       go_wp2
       go_roundg k1
       case measure=>have:=HK1.out;omega
       case rel=>exact ⟨(wrap64 (x3_1+1)),(by first|rfl|(simp;done)|(simp [*];done)),H',⟨by have:=HK1.out;omega⟩,by repeat (first|exact Drawn0.refl _|apply Drawn0.step)⟩
      ·rw [if_neg c5] at H
       have c5b0:(Op.bytesLess a0.toList ((a0.extract (x3_1:Int).toNat a0.size).toList))=false:=by simpa using c5
       have c5b0x:(Op.bytesLess ((a0.extract (x3_1:Int).toNat a0.size).toList) a0.toList || ((a0.extract (x3_1:Int).toNat a0.size).toList) == a0.toList)=true:=Go.Proofs.YtaiefdhenikiiaaZ.less_no c5b0
       clear c5
       obtain rfl:=Option.some.inj H
       go_wp2
       go_ret
       exact ⟨by first|rfl|(simp;done)|(simp [*];done)|(simp [Go.Proofs.YtaiefdhenikiiaaZ.bne_nil];done),by repeat (first|exact Drawn0.refl _|apply Drawn0.step)⟩
     ·rw [if_neg c4] at H
      exact absurd H (by simp)
    ·rw [if_neg c3] at H
     exact absurd H (by simp)
   ·rw [if_neg c2] at H
    have c2b0:decide (x3_1 < (a0.size:Int))=false:=decide_eq_false c2
    clear c2
    obtain rfl:=Option.some.inj H
    go_wp2
    go_ret
    exact ⟨by first|rfl|(simp;done)|(simp [*];done)|(simp [Go.Proofs.YtaiefdhenikiiaaZ.bne_nil];done),by repeat (first|exact Drawn0.refl _|apply Drawn0.step)⟩
end Go.Proofs.Ytaiefdhenikiiaa.Base
namespace Go.Proofs.Ytaiefdhenikiiaa.Base
open Go.RowKit Go.Proofs.YtaiefdhenikiiaaW.PrintWords Go.Proofs.YtaiefdhenikiiaaW.PrintLast Go.Proofs.YtaiefdhenikiiaaW.PrintMore
attribute [local go_sem] max2_int qp1_ max_two min_two max_three min_three max_four min_four Go.Proofs.YtaiefdhenikiiaaZ.qv_   -- for this text's walks alone
set_option linter.unusedVariables false
set_option linter.unusedSimpArgs false
def qk2_.l0:Nat→ByteArray→Int→Option (ByteArray × ByteArray)
 | 0,_,_=>none
 | k+1,x0,x4=>if 0≤x4 then (if x4≤(x0.size:Int) then ((qt_.f k (x0.extract (x4:Int).toNat x0.size)).bind fun t791=>(if t791=true then (some (x0.extract 0 (x4:Int).toNat,x0.extract (x4:Int).toNat x0.size)) else (qk2_.l0 k x0 (wrap64 (x4+1))))) else (none)) else (none)
def qk2_.f (k:Nat) (a0:ByteArray):Option (ByteArray × ByteArray):=qk2_.l0 k a0 1
theorem qk2_.mono_l:∀ k,(∀ y0 y1,LeO (qk2_.l0 k y0 y1) (qk2_.l0 (k+1) y0 y1))
 | 0=>fun _ _ r h=>by simp [qk2_.l0] at h
 | k+1=>by
  have ih0:=qk2_.mono_l k
  ·intro y0 y1
   unfold qk2_.l0
   repeat' first
   | (with_reducible exact ih0 _ _)
   | (with_reducible exact qt_.mono _ _)
   | (with_reducible exact LeO.refl _)
   | (with_reducible exact LeO.none _)
   | (with_reducible refine LeO.ite ?_ ?_)
   | (with_reducible refine LeO.bind ?_ (fun _=>?_))
   | exact ih0 _ _
   | exact qt_.mono _ _
   | exact LeO.none _
   | refine LeO.ite ?_ ?_
   | refine LeO.bind ?_ (fun _=>?_)
theorem qk2_.mono:∀ a0 k,LeO (qk2_.f k a0) (qk2_.f (k+1) a0):=by
 intro a0 k
 have ih0:=qk2_.mono_l k
 unfold qk2_.f
 repeat' first
   | (with_reducible exact ih0 _ _)
   | (with_reducible exact qt_.mono _ _)
   | (with_reducible exact LeO.refl _)
   | (with_reducible exact LeO.none _)
   | (with_reducible refine LeO.ite ?_ ?_)
   | (with_reducible refine LeO.bind ?_ (fun _=>?_))
   | exact ih0 _ _
   | exact qt_.mono _ _
   | exact LeO.none _
   | refine LeO.ite ?_ ?_
   | refine LeO.bind ?_ (fun _=>?_)
set_option maxHeartbeats 8000000 in
set_option maxRecDepth 100000 in
theorem qk2_.calls (k:Nat) (a0:ByteArray) (r1:ByteArray) (r2:ByteArray) (w:World) (h:qk2_.f k a0=some (r1,r2)) :
  Calls Try.prog 167 #[.string a0] w fun e w'=>e=.returned (.tuple #[.string r1,.string r2])∧Drawn0 w w':=by
 have H:(qk2_.l0 k a0 1)=some (r1,r2):=h
 clear h
 have H':=aK H
 clear H
 go_enter Try.func167,Try.ntmps167
 go_wp2
 repeat (go_quiet (fail);try go_wp2)
 go_loopg [4] k (fun kq v4 w'=>∃ (x4_1:Int),v4=.int .i64 x4_1∧Aside0 (qk2_.l0 kq a0 x4_1=some (r1,r2))∧Aside0 (kq≤k)∧Drawn0 w w')
 case atStart=>exact ⟨(1),(by first|rfl|(simp;done)|(simp [*];done)),H',⟨Nat.le_refl _⟩,by repeat (first|exact Drawn0.refl _|apply Drawn0.step)⟩
 case round =>
  clear H'
  try clear c1
  obtain ⟨x4_1,rfl,HA,HK1,⟨m1,rfl⟩⟩:=hrel
  cases gk with
  | zero=>exact absurd HA.out (by simp [qk2_.l0])
  | succ k1 =>
   have H:=HA.out
   clear HA
   simp only [qk2_.l0] at H
   by_cases c2:0≤x4_1
   ·rw [if_pos c2] at H
    have c2b0:=eq_true c2
    have c2b1:decide (0≤x4_1)=true:=decide_eq_true c2
    clear c2
    by_cases c3:x4_1≤(a0.size:Int)
    ·rw [if_pos c3] at H
     have c3b0:=eq_true c3
     have c3b1:decide (x4_1≤(a0.size:Int))=true:=decide_eq_true c3
     clear c3
     replace H:=Option.bind_eq_some_iff.mp H
     obtain ⟨t791,A40,H⟩:=H
     replace H:(if t791=true then (some (a0.extract 0 (x4_1:Int).toNat,a0.extract (x4_1:Int).toNat a0.size)) else (qk2_.l0 k1 a0 (wrap64 (x4_1+1))))=some (r1,r2):=H
     have A4:=aK A40
     clear A40
     by_cases c5:t791=true
     ·subst c5
      have H1:(some (a0.extract 0 (x4_1:Int).toNat,a0.extract (x4_1:Int).toNat a0.size))=some (r1,r2):=by rw [if_pos rfl] at H;exact H
      clear H
      have H:=H1
      clear H1
      have c6b0:=eq_true (of_decide_eq_true (by first|(with_reducible assumption)|assumption):0≤x4_1)
      have c7b0:=eq_true (of_decide_eq_true (by first|(with_reducible assumption)|assumption):x4_1≤(a0.size:Int))
      have c8b0:=eq_true (of_decide_eq_true (by first|(with_reducible assumption)|assumption):0≤x4_1)
      have c9b0:=eq_true (of_decide_eq_true (by first|(with_reducible assumption)|assumption):x4_1≤(a0.size:Int))
      simp only [Option.some.injEq,Prod.mk.injEq] at H
      obtain ⟨rfl,rfl⟩:=H
      go_wp2_with (first|(go_at_call 99;(with_reducible refine (qt_.calls k1 (a0.extract (x4_1:Int).toNat a0.size) true _ A4.out).mono ?_);rintro e w' ⟨rfl,⟨nd,rfl⟩⟩;(try first|exact ⟨rfl,_,World.drewN_drewN _ _ _⟩|exact ⟨rfl,_,Eq.trans (World.drewN_drewN _ _ _) (congrArg (World.drewN _) (Nat.add_assoc _ _ _))⟩)))
      repeat (go_quiet (first|(go_at_call 99;(with_reducible refine (qt_.calls k1 (a0.extract (x4_1:Int).toNat a0.size) true _ A4.out).mono ?_);rintro e w' ⟨rfl,⟨nd,rfl⟩⟩;(try first|exact ⟨rfl,_,World.drewN_drewN _ _ _⟩|exact ⟨rfl,_,Eq.trans (World.drewN_drewN _ _ _) (congrArg (World.drewN _) (Nat.add_assoc _ _ _))⟩)));try go_wp2_with (first|(go_at_call 99;(with_reducible refine (qt_.calls k1 (a0.extract (x4_1:Int).toNat a0.size) true _ A4.out).mono ?_);rintro e w' ⟨rfl,⟨nd,rfl⟩⟩;(try first|exact ⟨rfl,_,World.drewN_drewN _ _ _⟩|exact ⟨rfl,_,Eq.trans (World.drewN_drewN _ _ _) (congrArg (World.drewN _) (Nat.add_assoc _ _ _))⟩))))
      go_ret2
      exact ⟨by first|rfl|(simp;done)|(simp [*];done)|(simp [Go.Proofs.YtaiefdhenikiiaaZ.bne_nil];done),by repeat (first|exact Drawn0.refl _|apply Drawn0.step)⟩
     ·replace c5:=Bool.eq_false_iff.mpr c5
      subst c5
      have H1:(qk2_.l0 k1 a0 (wrap64 (x4_1+1)))=some (r1,r2):=by rw [if_neg (show ¬ (false=true) by decide)] at H;exact H
      clear H
      have H:=H1
      clear H1
      have H':=aK H
      clear H
      go_wp2_with (first|(go_at_call 99;(with_reducible refine (qt_.calls k1 (a0.extract (x4_1:Int).toNat a0.size) false _ A4.out).mono ?_);rintro e w' ⟨rfl,⟨nd,rfl⟩⟩;(try first|exact ⟨rfl,_,World.drewN_drewN _ _ _⟩|exact ⟨rfl,_,Eq.trans (World.drewN_drewN _ _ _) (congrArg (World.drewN _) (Nat.add_assoc _ _ _))⟩)))
      repeat (go_quiet (first|(go_at_call 99;(with_reducible refine (qt_.calls k1 (a0.extract (x4_1:Int).toNat a0.size) false _ A4.out).mono ?_);rintro e w' ⟨rfl,⟨nd,rfl⟩⟩;(try first|exact ⟨rfl,_,World.drewN_drewN _ _ _⟩|exact ⟨rfl,_,Eq.trans (World.drewN_drewN _ _ _) (congrArg (World.drewN _) (Nat.add_assoc _ _ _))⟩)));try go_wp2_with (first|(go_at_call 99;(with_reducible refine (qt_.calls k1 (a0.extract (x4_1:Int).toNat a0.size) false _ A4.out).mono ?_);rintro e w' ⟨rfl,⟨nd,rfl⟩⟩;(try first|exact ⟨rfl,_,World.drewN_drewN _ _ _⟩|exact ⟨rfl,_,Eq.trans (World.drewN_drewN _ _ _) (congrArg (World.drewN _) (Nat.add_assoc _ _ _))⟩))))
      go_roundg k1
      case measure=>have:=HK1.out;omega
      case rel=>exact ⟨(wrap64 (x4_1+1)),(by first|rfl|(simp;done)|(simp [*];done)),H',⟨by have:=HK1.out;omega⟩,by repeat (first|exact Drawn0.refl _|apply Drawn0.step)⟩
    ·rw [if_neg c3] at H
     exact absurd H (by simp)
   ·rw [if_neg c2] at H
    exact absurd H (by simp)
end Go.Proofs.Ytaiefdhenikiiaa.Base
namespace Go.Proofs.Ytaiefdhenikiiaa.Base
open Go.RowKit Go.Proofs.YtaiefdhenikiiaaW.PrintWords Go.Proofs.YtaiefdhenikiiaaW.PrintLast Go.Proofs.YtaiefdhenikiiaaW.PrintMore
attribute [local go_sem] max2_int qp1_ max_two min_two max_three min_three max_four min_four Go.Proofs.YtaiefdhenikiiaaZ.qv_   -- for this text's walks alone
set_option linter.unusedVariables false
set_option linter.unusedSimpArgs false
def qq1_.l0:Nat→Int→ByteArray→Int→Int→Int→Option (Bool)
 | 0,_,_,_,_,_=>none
 | k+1,x0,x1,x2,x9,x10=>if x10 < x9 then (if 0≤x10 then (if x10 < (x1.size:Int) then (if (wrap64 (bt x1 x10)) < 48 then (some false) else (if (wrap64 (bt x1 x10)) ≥ (wrap64 (48+x0)) then (some false) else (qq1_.l0 k x0 x1 x2 x9 (wrap64 (x10+1))))) else (none)) else (none)) else (some (decide ((x1.size:Int)≤x2)))
def qq1_.f (k:Nat) (a0:Int) (a1:ByteArray) (a2:Int):Option (Bool):=qq1_.l0 k a0 a1 a2 (a1.size:Int) 0
theorem qq1_.mono_l:∀ k,(∀ y0 y1 y2 y3 y4,LeO (qq1_.l0 k y0 y1 y2 y3 y4) (qq1_.l0 (k+1) y0 y1 y2 y3 y4))
 | 0=>fun _ _ _ _ _ r h=>by simp [qq1_.l0] at h
 | k+1=>by
  have ih0:=qq1_.mono_l k
  ·intro y0 y1 y2 y3 y4
   unfold qq1_.l0
   repeat' first
   | (with_reducible exact ih0 _ _ _ _ _)
   | (with_reducible exact LeO.refl _)
   | (with_reducible exact LeO.none _)
   | (with_reducible refine LeO.ite ?_ ?_)
   | (with_reducible refine LeO.bind ?_ (fun _=>?_))
   | exact ih0 _ _ _ _ _
   | exact LeO.none _
   | refine LeO.ite ?_ ?_
   | refine LeO.bind ?_ (fun _=>?_)
theorem qq1_.mono:∀ a0 a1 a2 k,LeO (qq1_.f k a0 a1 a2) (qq1_.f (k+1) a0 a1 a2):=by
 intro a0 a1 a2 k
 have ih0:=qq1_.mono_l k
 unfold qq1_.f
 repeat' first
   | (with_reducible exact ih0 _ _ _ _ _)
   | (with_reducible exact LeO.refl _)
   | (with_reducible exact LeO.none _)
   | (with_reducible refine LeO.ite ?_ ?_)
   | (with_reducible refine LeO.bind ?_ (fun _=>?_))
   | exact ih0 _ _ _ _ _
   | exact LeO.none _
   | refine LeO.ite ?_ ?_
   | refine LeO.bind ?_ (fun _=>?_)
set_option maxHeartbeats 8000000 in
set_option maxRecDepth 100000 in
theorem qq1_.calls (k:Nat) (a0:Int) (a1:ByteArray) (a2:Int) (r:Bool) (w:World) (h:qq1_.f k a0 a1 a2=some r) :
  Calls Try.prog 139 #[.int .i64 a0,.string a1,.int .i64 a2] w fun e w'=>e=.returned (.bool r)∧Drawn0 w w':=by
 have H:(qq1_.l0 k a0 a1 a2 (a1.size:Int) 0)=some r:=h
 clear h
 have H':=aK H
 clear H
 go_enter Try.func139,Try.ntmps139
 go_wp2
 go_loopg [10] k (fun kq v10 w'=>∃ (x10_1:Int),v10=.int .i64 x10_1∧Aside0 (qq1_.l0 kq a0 a1 a2 (a1.size:Int) x10_1=some r)∧Aside0 (kq≤k)∧Drawn0 w w')
 case atStart=>exact ⟨(0),(by first|rfl|(simp;done)|(simp [*];done)),H',⟨Nat.le_refl _⟩,by repeat (first|exact Drawn0.refl _|apply Drawn0.step)⟩
 case round =>
  clear H'
  try clear c1
  try clear p2
  obtain ⟨x10_1,rfl,HA,HK1,⟨m1,rfl⟩⟩:=hrel
  cases gk with
  | zero=>exact absurd HA.out (by simp [qq1_.l0])
  | succ k1 =>
   have H:=HA.out
   clear HA
   simp only [qq1_.l0] at H
   by_cases c4:x10_1 < (a1.size:Int)
   ·rw [if_pos c4] at H
    have c4b0:decide (x10_1 < (a1.size:Int))=true:=decide_eq_true c4
    clear c4
    by_cases c5:0≤x10_1
    ·rw [if_pos c5] at H
     have c5b0:decide (0≤x10_1)=true:=decide_eq_true c5
     clear c5
     by_cases c6:x10_1 < (a1.size:Int)
     ·rw [if_pos c6] at H
      have c6b0:decide (x10_1 < (a1.size:Int))=true:=decide_eq_true c6
      clear c6
      by_cases c8:(wrap64 (bt a1 x10_1)) < 48
      ·rw [if_pos c8] at H
       have c8b0:decide ((wrap64 (bt a1 x10_1)) < 48)=true:=decide_eq_true c8
       clear c8
       obtain rfl:=Option.some.inj H
       have p7:0≤(x10_1:Int):=of_decide_eq_true (by first|(with_reducible assumption)|assumption)
       have q7:x10_1 < (a1.size:Int):=of_decide_eq_true (by first|(with_reducible assumption)|assumption)
       have hx7:=bt_at a1 x10_1
       replace p7:=eq_true p7
       replace q7:=eq_true q7
       go_wp2
       go_ret
       exact ⟨by first|rfl|(simp;done)|(simp [*];done)|(simp [Go.Proofs.YtaiefdhenikiiaaZ.bne_nil];done),by repeat (first|exact Drawn0.refl _|apply Drawn0.step)⟩
      ·rw [if_neg c8] at H
       have c8b0:decide ((wrap64 (bt a1 x10_1)) < 48)=false:=decide_eq_false c8
       clear c8
       by_cases c10:(wrap64 (bt a1 x10_1)) ≥ (wrap64 (48+a0))
       ·rw [if_pos c10] at H
        have c10b0:decide ((wrap64 (48+a0))≤(wrap64 (bt a1 x10_1)))=true:=decide_eq_true c10
        clear c10
        obtain rfl:=Option.some.inj H
        have p7:0≤(x10_1:Int):=of_decide_eq_true (by first|(with_reducible assumption)|assumption)
        have q7:x10_1 < (a1.size:Int):=of_decide_eq_true (by first|(with_reducible assumption)|assumption)
        have hx7:=bt_at a1 x10_1
        replace p7:=eq_true p7
        replace q7:=eq_true q7
        have p9:0≤(x10_1:Int):=of_decide_eq_true (by first|(with_reducible assumption)|assumption)
        have q9:x10_1 < (a1.size:Int):=of_decide_eq_true (by first|(with_reducible assumption)|assumption)
        have hx9:=bt_at a1 x10_1
        replace p9:=eq_true p9
        replace q9:=eq_true q9
        go_wp2
        go_ret
        exact ⟨by first|rfl|(simp;done)|(simp [*];done)|(simp [Go.Proofs.YtaiefdhenikiiaaZ.bne_nil];done),by repeat (first|exact Drawn0.refl _|apply Drawn0.step)⟩
       ·rw [if_neg c10] at H
        have c10b0:decide ((wrap64 (48+a0))≤(wrap64 (bt a1 x10_1)))=false:=decide_eq_false c10
        clear c10
        have H':=aK H
        clear H
        have p7:0≤(x10_1:Int):=of_decide_eq_true (by first|(with_reducible assumption)|assumption)
        have q7:x10_1 < (a1.size:Int):=of_decide_eq_true (by first|(with_reducible assumption)|assumption)
        have hx7:=bt_at a1 x10_1
        replace p7:=eq_true p7
        replace q7:=eq_true q7
        have p9:0≤(x10_1:Int):=of_decide_eq_true (by first|(with_reducible assumption)|assumption)
        have q9:x10_1 < (a1.size:Int):=of_decide_eq_true (by first|(with_reducible assumption)|assumption)
        have hx9:=bt_at a1 x10_1
        replace p9:=eq_true p9
        replace q9:=eq_true q9
        go_wp2
        go_roundg k1
        case measure=>have:=HK1.out;omega
        case rel=>exact ⟨(wrap64 (x10_1+1)),(by first|rfl|(simp;done)|(simp [*];done)),H',⟨by have:=HK1.out;omega⟩,by repeat (first|exact Drawn0.refl _|apply Drawn0.step)⟩
     ·rw [if_neg c6] at H
      exact absurd H (by simp)
    ·rw [if_neg c5] at H
     exact absurd H (by simp)
   ·rw [if_neg c4] at H
    have c4b0:decide (x10_1 < (a1.size:Int))=false:=decide_eq_false c4
    clear c4
    obtain rfl:=Option.some.inj H
    go_wp2
    go_ret
    exact ⟨by first|rfl|(simp;done)|(simp [*];done)|(simp [Go.Proofs.YtaiefdhenikiiaaZ.bne_nil];done),by repeat (first|exact Drawn0.refl _|apply Drawn0.step)⟩
end Go.Proofs.Ytaiefdhenikiiaa.Base
namespace Go.Proofs.Ytaiefdhenikiiaa.Base
open Go.RowKit Go.Proofs.YtaiefdhenikiiaaW.PrintWords Go.Proofs.YtaiefdhenikiiaaW.PrintLast Go.Proofs.YtaiefdhenikiiaaW.PrintMore
attribute [local go_sem] max2_int qp1_ max_two min_two max_three min_three max_four min_four Go.Proofs.YtaiefdhenikiiaaZ.qv_   -- for this text's walks alone
set_option linter.unusedVariables false
set_option linter.unusedSimpArgs false
def qv2_.f (a0_0:Int) (a0_1:Int):Option (Bool):=some (a0_0 == 0)
set_option maxHeartbeats 8000000 in
set_option maxRecDepth 100000 in
theorem qv2_.calls (a0_0:Int) (a0_1:Int) (r:Bool) (w:World) (h:qv2_.f a0_0 a0_1=some r) :
  Calls Try.prog 141 #[.agg #[.int .i64 a0_0,.int .i64 a0_1]] w fun e w'=>e=.returned (.bool r)∧Below w.heap.size w w':=by
 have hu77:=Try.underlying77
 have HB:=aK (Below.refl w.heap.size w)
 have H:(some (a0_0 == 0))=some r:=h
 clear h
 obtain rfl:=Option.some.inj H
 go_enter Try.func141,Try.ntmps141
 go_wp2_with (first|((with_reducible refine qa1_ (N:=1) rfl ?_);refine qx_ ?hg (N:=1) ?hd (cs:=#[.int .i64 a0_0,.int .i64 a0_1]) (t:=77) ?hr ?_;(case hd=>rfl);(case hg=>rfl);(case hr=>first|(go_simp;done)|(go_simp;rfl));intro gb104 hg w2 hbox hb;have n0_:=aK (qf_ (by repeat (first|(with_reducible first|exact HB.out|apply qb_|apply qa_|apply qc_)|exact HB.out)) hb);have n1_:=aK (hbox);have n2_:=aK ((by rw [hg];exact (qk_ (by repeat (first|(with_reducible first|exact HB.out|apply qb_|apply qa_|apply qc_)|exact HB.out))):w.heap.size≤gb104));have n3_:=aK ((by rw [hg];exact (qk_ (by repeat (first|(with_reducible first|exact HB.out|apply qb_|apply qa_|apply qc_)|exact HB.out))):w.heap.size≤gb104));clear HB;have HB:=n0_;have BK104:=n1_;have GW104:=n2_;have GE104:=n3_;clear n0_ n1_ n2_ n3_;clear hb hbox hg;have hcz3_0:w2.cell? ⟨gb104,0,none⟩=some (.int .i64 a0_0):=(qj_ BK104.out 0).trans rfl;have hcz3_1:w2.cell? ⟨gb104,1,none⟩=some (.int .i64 a0_1):=(qj_ BK104.out 1).trans rfl;have hfz3_0:=qd_ BK104.out 0;have hfz3_1:=qd_ BK104.out 1))
 go_ret
 exact ⟨by first|rfl|(simp [qn_,qm_] <;> rfl)|(simp [*,qn_,qm_] <;> rfl),by repeat (first|(with_reducible first|exact HB.out|apply qb_|apply qa_|apply qc_|refine qh_ ?_ GE104.out)|exact HB.out)⟩
end Go.Proofs.Ytaiefdhenikiiaa.Base
namespace Go.Proofs.Ytaiefdhenikiiaa.Base
open Go.RowKit Go.Proofs.YtaiefdhenikiiaaW.PrintWords Go.Proofs.YtaiefdhenikiiaaW.PrintLast Go.Proofs.YtaiefdhenikiiaaW.PrintMore
attribute [local go_sem] max2_int qp1_ max_two min_two max_three min_three max_four min_four Go.Proofs.YtaiefdhenikiiaaZ.qv_   -- for this text's walks alone
set_option linter.unusedVariables false
set_option linter.unusedSimpArgs false
def qk1_.l0:Nat→Int→ByteArray→Int→Option (Bool)
 | 0,_,_,_=>none
 | k+1,x0,x1,x5=>if x5 < (x1.size:Int) then (if 0≤x5 then (if (bt x1 x5) < 48 then (some false) else (if (((bt x1 x5) - 48) % 256) ≥ x0 then (some false) else (qk1_.l0 k x0 x1 (wrap64 (x5+1))))) else (none)) else (some true)
def qk1_.f (k:Nat) (a0:Int) (a1:ByteArray):Option (Bool):=qk1_.l0 k a0 a1 0
theorem qk1_.mono_l:∀ k,(∀ y0 y1 y2,LeO (qk1_.l0 k y0 y1 y2) (qk1_.l0 (k+1) y0 y1 y2))
 | 0=>fun _ _ _ r h=>by simp [qk1_.l0] at h
 | k+1=>by
  have ih0:=qk1_.mono_l k
  ·intro y0 y1 y2
   unfold qk1_.l0
   repeat' first
   | (with_reducible exact ih0 _ _ _)
   | (with_reducible exact LeO.refl _)
   | (with_reducible exact LeO.none _)
   | (with_reducible refine LeO.ite ?_ ?_)
   | (with_reducible refine LeO.bind ?_ (fun _=>?_))
   | exact ih0 _ _ _
   | exact LeO.none _
   | refine LeO.ite ?_ ?_
   | refine LeO.bind ?_ (fun _=>?_)
theorem qk1_.mono:∀ a0 a1 k,LeO (qk1_.f k a0 a1) (qk1_.f (k+1) a0 a1):=by
 intro a0 a1 k
 have ih0:=qk1_.mono_l k
 unfold qk1_.f
 repeat' first
   | (with_reducible exact ih0 _ _ _)
   | (with_reducible exact LeO.refl _)
   | (with_reducible exact LeO.none _)
   | (with_reducible refine LeO.ite ?_ ?_)
   | (with_reducible refine LeO.bind ?_ (fun _=>?_))
   | exact ih0 _ _ _
   | exact LeO.none _
   | refine LeO.ite ?_ ?_
   | refine LeO.bind ?_ (fun _=>?_)
set_option maxHeartbeats 8000000 in
set_option maxRecDepth 100000 in
theorem qk1_.calls (k:Nat) (a0:Int) (a1:ByteArray) (r:Bool) (w:World) (h:qk1_.f k a0 a1=some r) :
  Calls Try.prog 150 #[.int .i64 a0,.string a1] w fun e w'=>e=.returned (.bool r)∧Drawn0 w w':=by
 have H:(qk1_.l0 k a0 a1 0)=some r:=h
 clear h
 have H':=aK H
 clear H
 go_enter Try.func150,Try.ntmps150
 go_wp2
 go_loopg [5] k (fun kq v5 w'=>∃ (x5_1:Int),v5=.int .i64 x5_1∧Aside0 (qk1_.l0 kq a0 a1 x5_1=some r)∧Aside0 (kq≤k)∧Drawn0 w w')
 case atStart=>exact ⟨(0),(by first|rfl|(simp;done)|(simp [*];done)),H',⟨Nat.le_refl _⟩,by repeat (first|exact Drawn0.refl _|apply Drawn0.step)⟩
 case round =>
  clear H'
  try clear c1
  try clear p2
  obtain ⟨x5_1,rfl,HA,HK1,⟨m1,rfl⟩⟩:=hrel
  cases gk with
  | zero=>exact absurd HA.out (by simp [qk1_.l0])
  | succ k1 =>
   have H:=HA.out
   clear HA
   simp only [qk1_.l0] at H
   by_cases c3:x5_1 < (a1.size:Int)
   ·rw [if_pos c3] at H
    have c3b0:decide (x5_1 < (a1.size:Int))=true:=decide_eq_true c3
    clear c3
    by_cases c4:0≤x5_1
    ·rw [if_pos c4] at H
     have c4b0:decide (0≤x5_1)=true:=decide_eq_true c4
     clear c4
     by_cases c6:(bt a1 x5_1) < 48
     ·rw [if_pos c6] at H
      have c6b0:decide ((bt a1 x5_1) < 48)=true:=decide_eq_true c6
      clear c6
      obtain rfl:=Option.some.inj H
      have p5:0≤(x5_1:Int):=of_decide_eq_true (by first|(with_reducible assumption)|assumption)
      have q5:x5_1 < (a1.size:Int):=of_decide_eq_true (by first|(with_reducible assumption)|assumption)
      have hx5:=bt_at a1 x5_1
      replace p5:=eq_true p5
      replace q5:=eq_true q5
      go_wp2
      go_ret
      exact ⟨by first|rfl|(simp;done)|(simp [*];done)|(simp [Go.Proofs.YtaiefdhenikiiaaZ.bne_nil];done),by repeat (first|exact Drawn0.refl _|apply Drawn0.step)⟩
     ·rw [if_neg c6] at H
      have c6b0:decide ((bt a1 x5_1) < 48)=false:=decide_eq_false c6
      clear c6
      by_cases c8:(((bt a1 x5_1) - 48) % 256) ≥ a0
      ·rw [if_pos c8] at H
       have c8b0:decide (a0≤(((bt a1 x5_1) - 48) % 256))=true:=decide_eq_true c8
       clear c8
       obtain rfl:=Option.some.inj H
       have p5:0≤(x5_1:Int):=of_decide_eq_true (by first|(with_reducible assumption)|assumption)
       have q5:x5_1 < (a1.size:Int):=of_decide_eq_true (by first|(with_reducible assumption)|assumption)
       have hx5:=bt_at a1 x5_1
       replace p5:=eq_true p5
       replace q5:=eq_true q5
       have p7:0≤(x5_1:Int):=of_decide_eq_true (by first|(with_reducible assumption)|assumption)
       have q7:x5_1 < (a1.size:Int):=of_decide_eq_true (by first|(with_reducible assumption)|assumption)
       have hx7:=bt_at a1 x5_1
       replace p7:=eq_true p7
       replace q7:=eq_true q7
       go_wp2
       go_ret
       exact ⟨by first|rfl|(simp;done)|(simp [*];done)|(simp [Go.Proofs.YtaiefdhenikiiaaZ.bne_nil];done),by repeat (first|exact Drawn0.refl _|apply Drawn0.step)⟩
      ·rw [if_neg c8] at H
       have c8b0:decide (a0≤(((bt a1 x5_1) - 48) % 256))=false:=decide_eq_false c8
       clear c8
       have H':=aK H
       clear H
       have p5:0≤(x5_1:Int):=of_decide_eq_true (by first|(with_reducible assumption)|assumption)
       have q5:x5_1 < (a1.size:Int):=of_decide_eq_true (by first|(with_reducible assumption)|assumption)
       have hx5:=bt_at a1 x5_1
       replace p5:=eq_true p5
       replace q5:=eq_true q5
       have p7:0≤(x5_1:Int):=of_decide_eq_true (by first|(with_reducible assumption)|assumption)
       have q7:x5_1 < (a1.size:Int):=of_decide_eq_true (by first|(with_reducible assumption)|assumption)
       have hx7:=bt_at a1 x5_1
       replace p7:=eq_true p7
       replace q7:=eq_true q7
       go_wp2
       go_roundg k1
       case measure=>have:=HK1.out;omega
       case rel=>exact ⟨(wrap64 (x5_1+1)),(by first|rfl|(simp;done)|(simp [*];done)),H',⟨by have:=HK1.out;omega⟩,by repeat (first|exact Drawn0.refl _|apply Drawn0.step)⟩
    ·rw [if_neg c4] at H
     exact absurd H (by simp)
   ·rw [if_neg c3] at H
    have c3b0:decide (x5_1 < (a1.size:Int))=false:=decide_eq_false c3
    clear c3
    obtain rfl:=Option.some.inj H
    go_wp2
    go_ret
    exact ⟨by first|rfl|(simp;done)|(simp [*];done)|(simp [Go.Proofs.YtaiefdhenikiiaaZ.bne_nil];done),by repeat (first|exact Drawn0.refl _|apply Drawn0.step)⟩
end Go.Proofs.Ytaiefdhenikiiaa.Base
namespace Go.Proofs.Ytaiefdhenikiiaa.Base
open Go.RowKit Go.Proofs.YtaiefdhenikiiaaW.PrintWords Go.Proofs.YtaiefdhenikiiaaW.PrintLast Go.Proofs.YtaiefdhenikiiaaW.PrintMore
attribute [local go_sem] max2_int qp1_ max_two min_two max_three min_three max_four min_four Go.Proofs.YtaiefdhenikiiaaZ.qv_   -- for this text's walks alone
set_option linter.unusedVariables false
set_option linter.unusedSimpArgs false
def qn2_.f (a0:ByteArray) (a1:ByteArray):Option (Bool):=if (a0.size:Int)=(a1.size:Int) then (some (Op.bytesLess a0.toList a1.toList)) else (some (decide ((a0.size:Int) < (a1.size:Int))))
set_option maxHeartbeats 8000000 in
set_option maxRecDepth 100000 in
theorem qn2_.calls (a0:ByteArray) (a1:ByteArray) (r:Bool) (w:World) (h:qn2_.f a0 a1=some r) :
  Calls Try.prog 152 #[.string a0,.string a1] w fun e w'=>e=.returned (.bool r)∧Drawn0 w w':=by
 have H:(if (a0.size:Int)=(a1.size:Int) then (some (Op.bytesLess a0.toList a1.toList)) else (some (decide ((a0.size:Int) < (a1.size:Int)))))=some r:=h
 clear h
 by_cases c3:(a0.size:Int)=(a1.size:Int)
 ·rw [if_pos c3] at H
  have c3b0:((a0.size:Int) == (a1.size:Int))=true:=beq_iff_eq.mpr c3
  have c3b1:((a0.size:Int) != (a1.size:Int))=false:=bne_eq_false_iff_eq.mpr c3
  have c3b2:(a0.size == a1.size)=true:=by first|simpa using c3|(simp at c3 ⊢;omega)
  clear c3
  obtain rfl:=Option.some.inj H
  go_enter Try.func152,Try.ntmps152
  go_wp2
  go_ret
  exact ⟨by first|rfl|(simp;done)|(simp [*];done)|(simp [Go.Proofs.YtaiefdhenikiiaaZ.bne_nil];done),by repeat (first|exact Drawn0.refl _|apply Drawn0.step)⟩
 ·rw [if_neg c3] at H
  have c3b0:((a0.size:Int) == (a1.size:Int))=false:=beq_eq_false_iff_ne.mpr c3
  have c3b1:((a0.size:Int) != (a1.size:Int))=true:=bne_iff_ne.mpr c3
  have c3b2:(a0.size == a1.size)=false:=by first|simpa using c3|(simp at c3 ⊢;omega)
  obtain rfl:=Option.some.inj H
  go_enter Try.func152,Try.ntmps152
  go_wp2
  go_ret
  exact ⟨by first|rfl|(simp;done)|(simp [*];done)|(simp [Go.Proofs.YtaiefdhenikiiaaZ.bne_nil];done),by repeat (first|exact Drawn0.refl _|apply Drawn0.step)⟩
end Go.Proofs.Ytaiefdhenikiiaa.Base
namespace Go.Proofs.Ytaiefdhenikiiaa.Base
open Go.RowKit Go.Proofs.YtaiefdhenikiiaaW.PrintWords Go.Proofs.YtaiefdhenikiiaaW.PrintLast Go.Proofs.YtaiefdhenikiiaaW.PrintMore
attribute [local go_sem] max2_int qp1_ max_two min_two max_three min_three max_four min_four Go.Proofs.YtaiefdhenikiiaaZ.qv_   -- for this text's walks alone
set_option linter.unusedVariables false
set_option linter.unusedSimpArgs false
def qy_.l0:Nat→ByteArray→Int→Option (Bool)
 | 0,_,_=>none
 | k+1,x0,x3=>if x3 < (x0.size:Int) then (if 0≤x3 then (if x3≤(x0.size:Int) then (if ((Op.bytesLess x0.toList ((x0.extract (x3:Int).toNat x0.size).toList))=true) then (qy_.l0 k x0 (wrap64 (x3+1))) else (some false)) else (none)) else (none)) else (some (decide ((x0.size:Int) > 0)))
def qy_.f (k:Nat) (a0:ByteArray):Option (Bool):=qy_.l0 k a0 1
theorem qy_.mono_l:∀ k,(∀ y0 y1,LeO (qy_.l0 k y0 y1) (qy_.l0 (k+1) y0 y1))
 | 0=>fun _ _ r h=>by simp [qy_.l0] at h
 | k+1=>by
  have ih0:=qy_.mono_l k
  ·intro y0 y1
   unfold qy_.l0
   repeat' first
   | (with_reducible exact ih0 _ _)
   | (with_reducible exact LeO.refl _)
   | (with_reducible exact LeO.none _)
   | (with_reducible refine LeO.ite ?_ ?_)
   | (with_reducible refine LeO.bind ?_ (fun _=>?_))
   | exact ih0 _ _
   | exact LeO.none _
   | refine LeO.ite ?_ ?_
   | refine LeO.bind ?_ (fun _=>?_)
theorem qy_.mono:∀ a0 k,LeO (qy_.f k a0) (qy_.f (k+1) a0):=by
 intro a0 k
 have ih0:=qy_.mono_l k
 unfold qy_.f
 repeat' first
   | (with_reducible exact ih0 _ _)
   | (with_reducible exact LeO.refl _)
   | (with_reducible exact LeO.none _)
   | (with_reducible refine LeO.ite ?_ ?_)
   | (with_reducible refine LeO.bind ?_ (fun _=>?_))
   | exact ih0 _ _
   | exact LeO.none _
   | refine LeO.ite ?_ ?_
   | refine LeO.bind ?_ (fun _=>?_)
set_option maxHeartbeats 8000000 in
set_option maxRecDepth 100000 in
theorem qy_.calls (k:Nat) (a0:ByteArray) (r:Bool) (w:World) (h:qy_.f k a0=some r) :
  Calls Try.prog 97 #[.string a0] w fun e w'=>e=.returned (.bool r)∧Drawn0 w w':=by
 have H:(qy_.l0 k a0 1)=some r:=h
 clear h
 have H':=aK H
 clear H
 go_enter Try.func97,Try.ntmps97
 go_wp2
 go_loopg [3] k (fun kq v3 w'=>∃ (x3_1:Int),v3=.int .i64 x3_1∧Aside0 (qy_.l0 kq a0 x3_1=some r)∧Aside0 (kq≤k)∧Drawn0 w w')
 case atStart=>exact ⟨(1),(by first|rfl|(simp;done)|(simp [*];done)),H',⟨Nat.le_refl _⟩,by repeat (first|exact Drawn0.refl _|apply Drawn0.step)⟩
 case round =>
  clear H'
  obtain ⟨x3_1,rfl,HA,HK1,⟨m1,rfl⟩⟩:=hrel
  cases gk with
  | zero=>exact absurd HA.out (by simp [qy_.l0])
  | succ k1 =>
   have H:=HA.out
   clear HA
   simp only [qy_.l0] at H
   by_cases c2:x3_1 < (a0.size:Int)
   ·rw [if_pos c2] at H
    have c2b0:decide (x3_1 < (a0.size:Int))=true:=decide_eq_true c2
    clear c2
    by_cases c3:0≤x3_1
    ·rw [if_pos c3] at H
     have c3b0:=eq_true c3
     have c3b1:decide (0≤x3_1)=true:=decide_eq_true c3
     clear c3
     by_cases c4:x3_1≤(a0.size:Int)
     ·rw [if_pos c4] at H
      have c4b0:=eq_true c4
      have c4b1:decide (x3_1≤(a0.size:Int))=true:=decide_eq_true c4
      clear c4
      by_cases c5:((Op.bytesLess a0.toList ((a0.extract (x3_1:Int).toNat a0.size).toList))=true)
      ·rw [if_pos c5] at H
       have c5b0:(Op.bytesLess a0.toList ((a0.extract (x3_1:Int).toNat a0.size).toList))=true:=c5
       have c5b0x:(Op.bytesLess ((a0.extract (x3_1:Int).toNat a0.size).toList) a0.toList || ((a0.extract (x3_1:Int).toNat a0.size).toList) == a0.toList)=false:=Go.Proofs.YtaiefdhenikiiaaZ.less_yes c5b0
       clear c5
       have H':=aK H
       clear H
       go_wp2
       go_roundg k1
       case measure=>have:=HK1.out;omega
       case rel=>exact ⟨(wrap64 (x3_1+1)),(by first|rfl|(simp;done)|(simp [*];done)),H',⟨by have:=HK1.out;omega⟩,by repeat (first|exact Drawn0.refl _|apply Drawn0.step)⟩
      ·rw [if_neg c5] at H
       have c5b0:(Op.bytesLess a0.toList ((a0.extract (x3_1:Int).toNat a0.size).toList))=false:=by simpa using c5
       have c5b0x:(Op.bytesLess ((a0.extract (x3_1:Int).toNat a0.size).toList) a0.toList || ((a0.extract (x3_1:Int).toNat a0.size).toList) == a0.toList)=true:=Go.Proofs.YtaiefdhenikiiaaZ.less_no c5b0
       clear c5
       obtain rfl:=Option.some.inj H
       go_wp2
       go_ret
       exact ⟨by first|rfl|(simp;done)|(simp [*];done)|(simp [Go.Proofs.YtaiefdhenikiiaaZ.bne_nil];done),by repeat (first|exact Drawn0.refl _|apply Drawn0.step)⟩
     ·rw [if_neg c4] at H
      exact absurd H (by simp)
    ·rw [if_neg c3] at H
     exact absurd H (by simp)
   ·rw [if_neg c2] at H
    have c2b0:decide (x3_1 < (a0.size:Int))=false:=decide_eq_false c2
    clear c2
    obtain rfl:=Option.some.inj H
    go_wp2
    go_ret
    exact ⟨by first|rfl|(simp;done)|(simp [*];done)|(simp [Go.Proofs.YtaiefdhenikiiaaZ.bne_nil];done),by repeat (first|exact Drawn0.refl _|apply Drawn0.step)⟩
end Go.Proofs.Ytaiefdhenikiiaa.Base
namespace Go.Proofs.Ytaiefdhenikiiaa.Base
open Go.RowKit Go.Proofs.YtaiefdhenikiiaaW.PrintWords Go.Proofs.YtaiefdhenikiiaaW.PrintLast Go.Proofs.YtaiefdhenikiiaaW.PrintMore
attribute [local go_sem] max2_int qp1_ max_two min_two max_three min_three max_four min_four Go.Proofs.YtaiefdhenikiiaaZ.qv_   -- for this text's walks alone
set_option linter.unusedVariables false
set_option linter.unusedSimpArgs false
def qa3_.f (a0:Int) (a1:Int):Option (Bool):=(qx1_.f a0 1 3).bind fun t105=>(if t105=true then ((qx1_.f a1 1 5).bind fun t106=>(if t106=true then (if a0 < 3 then (some true) else (some (decide (a1 < 5)))) else (some false))) else (some false))
set_option maxHeartbeats 8000000 in
set_option maxRecDepth 100000 in
theorem qa3_.calls (a0:Int) (a1:Int) (r:Bool) (w:World) (h:qa3_.f a0 a1=some r) :
  Calls Try.prog 149 #[.int .i64 a0,.int .i64 a1] w fun e w'=>e=.returned (.bool r)∧Drawn0 w w':=by
 have H:((qx1_.f a0 1 3).bind fun t105=>(if t105=true then ((qx1_.f a1 1 5).bind fun t106=>(if t106=true then (if a0 < 3 then (some true) else (some (decide (a1 < 5)))) else (some false))) else (some false)))=some r:=h
 clear h
 replace H:=Option.bind_eq_some_iff.mp H
 obtain ⟨t105,A30,H⟩:=H
 replace H:(if t105=true then ((qx1_.f a1 1 5).bind fun t106=>(if t106=true then (if a0 < 3 then (some true) else (some (decide (a1 < 5)))) else (some false))) else (some false))=some r:=H
 have A3:=aK A30
 clear A30
 by_cases c4:t105=true
 ·subst c4
  have H1:((qx1_.f a1 1 5).bind fun t106=>(if t106=true then (if a0 < 3 then (some true) else (some (decide (a1 < 5)))) else (some false)))=some r:=by rw [if_pos rfl] at H;exact H
  clear H
  have H:=H1
  clear H1
  replace H:=Option.bind_eq_some_iff.mp H
  obtain ⟨t106,A50,H⟩:=H
  replace H:(if t106=true then (if a0 < 3 then (some true) else (some (decide (a1 < 5)))) else (some false))=some r:=H
  have A5:=aK A50
  clear A50
  by_cases c6:t106=true
  ·subst c6
   have H1:(if a0 < 3 then (some true) else (some (decide (a1 < 5))))=some r:=by rw [if_pos rfl] at H;exact H
   clear H
   have H:=H1
   clear H1
   by_cases c7:a0 < 3
   ·rw [if_pos c7] at H
    have c7b0:decide (a0 < 3)=true:=decide_eq_true c7
    clear c7
    obtain rfl:=Option.some.inj H
    go_enter Try.func149,Try.ntmps149
    go_wp2_with (first|((with_reducible refine qc1_ (f:=107) rfl ?_);refine goesL_ (some 6) rfl rfl Try.func107 (by kernel_rfl) rfl #[.int .i64 a0,.int .i64 1,.int .i64 3] rfl (by (try simp only [List.map_toArray,List.map_cons,List.map_nil]);first|done|rfl|(simp only [List.length_drop,List.length_take];rfl)) ?_;(with_reducible refine (qx1_.calls a0 1 3 true _ A3.out).mono ?_);rintro e w' ⟨rfl,⟨nd,rfl⟩⟩;refine ⟨_,rfl,?_⟩)|(go_at_call 107;(with_reducible refine (qx1_.calls a1 1 5 true _ A5.out).mono ?_);rintro e w' ⟨rfl,⟨nd,rfl⟩⟩))
    go_ret
    exact ⟨by first|rfl|(simp;done)|(simp [*];done)|(simp [Go.Proofs.YtaiefdhenikiiaaZ.bne_nil];done),by repeat (first|exact Drawn0.refl _|apply Drawn0.step)⟩
   ·rw [if_neg c7] at H
    have c7b0:decide (a0 < 3)=false:=decide_eq_false c7
    clear c7
    obtain rfl:=Option.some.inj H
    go_enter Try.func149,Try.ntmps149
    go_wp2_with (first|((with_reducible refine qc1_ (f:=107) rfl ?_);refine goesL_ (some 6) rfl rfl Try.func107 (by kernel_rfl) rfl #[.int .i64 a0,.int .i64 1,.int .i64 3] rfl (by (try simp only [List.map_toArray,List.map_cons,List.map_nil]);first|done|rfl|(simp only [List.length_drop,List.length_take];rfl)) ?_;(with_reducible refine (qx1_.calls a0 1 3 true _ A3.out).mono ?_);rintro e w' ⟨rfl,⟨nd,rfl⟩⟩;refine ⟨_,rfl,?_⟩)|(go_at_call 107;(with_reducible refine (qx1_.calls a1 1 5 true _ A5.out).mono ?_);rintro e w' ⟨rfl,⟨nd,rfl⟩⟩))
    go_ret
    exact ⟨by first|rfl|(simp;done)|(simp [*];done)|(simp [Go.Proofs.YtaiefdhenikiiaaZ.bne_nil];done),by repeat (first|exact Drawn0.refl _|apply Drawn0.step)⟩
  ·replace c6:=Bool.eq_false_iff.mpr c6
   subst c6
   have H1:(some false)=some r:=by rw [if_neg (show ¬ (false=true) by decide)] at H;exact H
   clear H
   have H:=H1
   clear H1
   obtain rfl:=Option.some.inj H
   go_enter Try.func149,Try.ntmps149
   go_wp2_with (first|((with_reducible refine qc1_ (f:=107) rfl ?_);refine goesL_ (some 6) rfl rfl Try.func107 (by kernel_rfl) rfl #[.int .i64 a0,.int .i64 1,.int .i64 3] rfl (by (try simp only [List.map_toArray,List.map_cons,List.map_nil]);first|done|rfl|(simp only [List.length_drop,List.length_take];rfl)) ?_;(with_reducible refine (qx1_.calls a0 1 3 true _ A3.out).mono ?_);rintro e w' ⟨rfl,⟨nd,rfl⟩⟩;refine ⟨_,rfl,?_⟩)|(go_at_call 107;(with_reducible refine (qx1_.calls a1 1 5 false _ A5.out).mono ?_);rintro e w' ⟨rfl,⟨nd,rfl⟩⟩))
   go_ret
   exact ⟨by first|rfl|(simp;done)|(simp [*];done)|(simp [Go.Proofs.YtaiefdhenikiiaaZ.bne_nil];done),by repeat (first|exact Drawn0.refl _|apply Drawn0.step)⟩
 ·replace c4:=Bool.eq_false_iff.mpr c4
  subst c4
  have H1:(some false)=some r:=by rw [if_neg (show ¬ (false=true) by decide)] at H;exact H
  clear H
  have H:=H1
  clear H1
  obtain rfl:=Option.some.inj H
  go_enter Try.func149,Try.ntmps149
  go_wp2_with (first|((with_reducible refine qc1_ (f:=107) rfl ?_);refine goesL_ (some 6) rfl rfl Try.func107 (by kernel_rfl) rfl #[.int .i64 a0,.int .i64 1,.int .i64 3] rfl (by (try simp only [List.map_toArray,List.map_cons,List.map_nil]);first|done|rfl|(simp only [List.length_drop,List.length_take];rfl)) ?_;(with_reducible refine (qx1_.calls a0 1 3 false _ A3.out).mono ?_);rintro e w' ⟨rfl,⟨nd,rfl⟩⟩;refine ⟨_,rfl,?_⟩))
  go_ret
  exact ⟨by first|rfl|(simp;done)|(simp [*];done)|(simp [Go.Proofs.YtaiefdhenikiiaaZ.bne_nil];done),by repeat (first|exact Drawn0.refl _|apply Drawn0.step)⟩
end Go.Proofs.Ytaiefdhenikiiaa.Base
namespace Go.Proofs.Ytaiefdhenikiiaa.Base
open Go.RowKit Go.Proofs.YtaiefdhenikiiaaW.PrintWords Go.Proofs.YtaiefdhenikiiaaW.PrintLast Go.Proofs.YtaiefdhenikiiaaW.PrintMore
attribute [local go_sem] max2_int qp1_ max_two min_two max_three min_three max_four min_four Go.Proofs.YtaiefdhenikiiaaZ.qv_   -- for this text's walks alone
set_option linter.unusedVariables false
set_option linter.unusedSimpArgs false
mutual
def qo_.l0:Nat→Int→Int→List (S79)→Int→Option (Bool)
 | 0,_,_,_,_=>none
 | k+1,x0,x1,x2,x7=>if x7 < (x2.length:Int) then (if 0≤x7 then ((qk1_.f k x0 ((rd_T79 x2 x7).f0)).bind fun t113=>(if t113=true then (if (((rd_T79 x2 x7).f0).size:Int) > x1 then (qo_.j1 k x0 x1 x2 x7 ((rd_T79 x2 x7).f0) true) else ((qy_.f k ((rd_T79 x2 x7).f0)).bind fun t114=>(if t114=true then ((qw_.f k ((rd_T79 x2 x7).f1.f0) ((rd_T79 x2 x7).f1.f1)).bind fun t116=>(if t116=true then ((qv2_.f ((rd_T79 x2 x7).f1.f0) ((rd_T79 x2 x7).f1.f1)).bind fun t118=>(qo_.j1 k x0 x1 x2 x7 ((rd_T79 x2 x7).f0) t118)) else (qo_.j1 k x0 x1 x2 x7 ((rd_T79 x2 x7).f0) true))) else (qo_.j1 k x0 x1 x2 x7 ((rd_T79 x2 x7).f0) true)))) else (qo_.j1 k x0 x1 x2 x7 ((rd_T79 x2 x7).f0) true))) else (none)) else (some true)
def qo_.j1:Nat→Int→Int→List (S79)→Int→ByteArray→Bool→Option (Bool)
 | 0,_,_,_,_,_,_=>none
 | k+1,x0,x1,x2,x7,x8,x55=>if x55=true then (some false) else (if x7 > 0 then (if 0≤(wrap64 (x7 - 1)) then (if (wrap64 (x7 - 1)) < (x2.length:Int) then ((qn2_.f ((rd_T79 x2 (wrap64 (x7 - 1))).f0) x8).bind fun t120=>(if t120=true then (qo_.l0 k x0 x1 x2 (wrap64 (x7+1))) else (some false))) else (none)) else (none)) else (qo_.l0 k x0 x1 x2 (wrap64 (x7+1))))
end
def qo_.f (k:Nat) (a0:Int) (a1:Int) (l2:List (S79)):Option (Bool):=(qa3_.f a0 a1).bind fun t111=>(if t111=true then (qo_.l0 k a0 a1 l2 0) else (some false))
theorem qo_.mono_l:∀ k,(∀ y0 y1 y2 y3,LeO (qo_.l0 k y0 y1 y2 y3) (qo_.l0 (k+1) y0 y1 y2 y3))∧(∀ y0 y1 y2 y3 y4 y5,LeO (qo_.j1 k y0 y1 y2 y3 y4 y5) (qo_.j1 (k+1) y0 y1 y2 y3 y4 y5))
 | 0=>⟨fun _ _ _ _ r h=>by simp [qo_.l0] at h,fun _ _ _ _ _ _ r h=>by simp [qo_.j1] at h⟩
 | k+1=>by
  obtain ⟨ih0,ih1⟩:=qo_.mono_l k
  refine ⟨?_,?_⟩
  ·intro y0 y1 y2 y3
   unfold qo_.l0
   repeat' first
   | (with_reducible exact ih0 _ _ _ _)
   | (with_reducible exact ih1 _ _ _ _ _ _)
   | (with_reducible exact qw_.mono _ _ _)
   | (with_reducible exact qk1_.mono _ _ _)
   | (with_reducible exact qy_.mono _ _)
   | (with_reducible exact LeO.refl _)
   | (with_reducible exact LeO.none _)
   | (with_reducible refine LeO.ite ?_ ?_)
   | (with_reducible refine LeO.bind ?_ (fun _=>?_))
   | exact ih0 _ _ _ _
   | exact ih1 _ _ _ _ _ _
   | exact qw_.mono _ _ _
   | exact qk1_.mono _ _ _
   | exact qy_.mono _ _
   | exact LeO.none _
   | refine LeO.ite ?_ ?_
   | refine LeO.bind ?_ (fun _=>?_)
  ·intro y0 y1 y2 y3 y4 y5
   unfold qo_.j1
   repeat' first
   | (with_reducible exact ih0 _ _ _ _)
   | (with_reducible exact ih1 _ _ _ _ _ _)
   | (with_reducible exact qw_.mono _ _ _)
   | (with_reducible exact qk1_.mono _ _ _)
   | (with_reducible exact qy_.mono _ _)
   | (with_reducible exact LeO.refl _)
   | (with_reducible exact LeO.none _)
   | (with_reducible refine LeO.ite ?_ ?_)
   | (with_reducible refine LeO.bind ?_ (fun _=>?_))
   | exact ih0 _ _ _ _
   | exact ih1 _ _ _ _ _ _
   | exact qw_.mono _ _ _
   | exact qk1_.mono _ _ _
   | exact qy_.mono _ _
   | exact LeO.none _
   | refine LeO.ite ?_ ?_
   | refine LeO.bind ?_ (fun _=>?_)
theorem qo_.mono:∀ a0 a1 a2 k,LeO (qo_.f k a0 a1 a2) (qo_.f (k+1) a0 a1 a2):=by
 intro a0 a1 a2 k
 obtain ⟨ih0,ih1⟩:=qo_.mono_l k
 unfold qo_.f
 repeat' first
   | (with_reducible exact ih0 _ _ _ _)
   | (with_reducible exact ih1 _ _ _ _ _ _)
   | (with_reducible exact qw_.mono _ _ _)
   | (with_reducible exact qk1_.mono _ _ _)
   | (with_reducible exact qy_.mono _ _)
   | (with_reducible exact LeO.refl _)
   | (with_reducible exact LeO.none _)
   | (with_reducible refine LeO.ite ?_ ?_)
   | (with_reducible refine LeO.bind ?_ (fun _=>?_))
   | exact ih0 _ _ _ _
   | exact ih1 _ _ _ _ _ _
   | exact qw_.mono _ _ _
   | exact qk1_.mono _ _ _
   | exact qy_.mono _ _
   | exact LeO.none _
   | refine LeO.ite ?_ ?_
   | refine LeO.bind ?_ (fun _=>?_)
set_option maxHeartbeats 8000000 in
set_option maxRecDepth 100000 in
theorem qo_.calls (k:Nat) (a0:Int) (a1:Int) (A2:Option Addr) (c2:Nat) (l2:List (S79)) (r:Bool) (w:World) (hr2:Kd.C k79 w A2 l2.length l2) (hc2:l2.length≤c2) (h:qo_.f k a0 a1 l2=some r) :
  Calls Try.prog 76 #[.int .i64 a0,.int .i64 a1,.slice A2 l2.length c2] w fun e w'=>e=.returned (.bool r)∧Below w.heap.size w w':=by
 have hu77:=Try.underlying77
 have HR2:=aK hr2
 have HC2:=aK hc2
 clear hr2 hc2
 have HB:=aK (Below.refl w.heap.size w)
 have H:((qa3_.f a0 a1).bind fun t111=>(if t111=true then (qo_.l0 k a0 a1 l2 0) else (some false)))=some r:=h
 clear h
 replace H:=Option.bind_eq_some_iff.mp H
 obtain ⟨t111,A40,H⟩:=H
 replace H:(if t111=true then (qo_.l0 k a0 a1 l2 0) else (some false))=some r:=H
 have A4:=aK A40
 clear A40
 by_cases c5:t111=true
 ·subst c5
  have H1:(qo_.l0 k a0 a1 l2 0)=some r:=by rw [if_pos rfl] at H;exact H
  clear H
  have H:=H1
  clear H1
  have H':=aK H
  clear H
  go_enter Try.func76,Try.ntmps76
  go_wp2_with (first|((with_reducible refine qc1_ (f:=149) rfl ?_);refine goesL_ (some 11) rfl rfl Try.func149 (by kernel_rfl) rfl #[.int .i64 a0,.int .i64 a1] rfl (by (try simp only [List.map_toArray,List.map_cons,List.map_nil]);first|done|rfl|(simp only [List.length_drop,List.length_take];rfl)) ?_;(with_reducible refine (qa3_.calls a0 a1 true _ A4.out).mono ?_);rintro e w' ⟨rfl,⟨nd,rfl⟩⟩;refine ⟨_,rfl,?_⟩))
  go_loopg [7] k (fun kq v7 w'=>∃ (x7_1:Int),v7=.int .i64 x7_1∧Aside0 (qo_.l0 kq a0 a1 l2 x7_1=some r)∧Aside0 (kq≤k)∧Aside0 (Below w.heap.size w w'))
  case atStart=>exact ⟨(0),(by first|rfl|(simp;done)|(simp [*];done)),H',⟨Nat.le_refl _⟩,⟨by repeat (first|(with_reducible first|exact HB.out|apply qb_|apply qa_|apply qc_)|exact HB.out)⟩⟩
  case round =>
   clear H'
   try clear c1
   try clear c2
   try clear p2
   try clear c5
   obtain ⟨x7_1,rfl,HA,HK1,HB⟩:=hrel
   cases gk with
   | zero=>exact absurd HA.out (by simp [qo_.l0])
   | succ k1 =>
    have H:=HA.out
    clear HA
    simp only [qo_.l0] at H
    by_cases c6:x7_1 < (l2.length:Int)
    ·rw [if_pos c6] at H
     have c6b0:decide (x7_1 < (l2.length:Int))=true:=decide_eq_true c6
     clear c6
     by_cases c7:0≤x7_1
     ·rw [if_pos c7] at H
      have c7b0:decide (0≤x7_1)=true:=decide_eq_true c7
      clear c7
      have HC8:=aK H
      clear H
      have p112:0≤(x7_1:Int):=of_decide_eq_true (by first|(with_reducible assumption)|assumption)
      have q112:x7_1 < (l2.length:Int):=of_decide_eq_true (by first|(with_reducible assumption)|assumption)
      obtain ⟨ad112,e112,hx112_0,hx112_1,hx112_2⟩:=at_T79 HR2.out x7_1 p112 q112
      cases e112
      replace hx112_0:=(HB.out.cell (World.block_lt_of_cell? w _ hx112_0)).trans hx112_0
      replace hx112_1:=(HB.out.cell (World.block_lt_of_cell? w _ hx112_1)).trans hx112_1
      replace hx112_2:=(HB.out.cell (World.block_lt_of_cell? w _ hx112_2)).trans hx112_2
      replace p112:=eq_true p112
      replace q112:=eq_true q112
      go_upto_region 7 with (fail)
      go_cut [55] (fun v55 wc=>∃ (kq:Nat) (x55_7:Bool),v55=.bool x55_7∧Aside0 (qo_.j1 kq a0 a1 l2 x7_1 ((rd_T79 l2 x7_1).f0) x55_7=some r)∧Aside0 (kq≤k1)∧Aside0 (Below w.heap.size w wc))
      case first =>
       have H:=HC8.out
       clear HC8
       replace H:=Option.bind_eq_some_iff.mp H
       obtain ⟨t113,A90,H⟩:=H
       replace H:(if t113=true then (if (((rd_T79 l2 x7_1).f0).size:Int) > a1 then (qo_.j1 k1 a0 a1 l2 x7_1 ((rd_T79 l2 x7_1).f0) true) else ((qy_.f k1 ((rd_T79 l2 x7_1).f0)).bind fun t114=>(if t114=true then ((qw_.f k1 ((rd_T79 l2 x7_1).f1.f0) ((rd_T79 l2 x7_1).f1.f1)).bind fun t116=>(if t116=true then ((qv2_.f ((rd_T79 l2 x7_1).f1.f0) ((rd_T79 l2 x7_1).f1.f1)).bind fun t118=>(qo_.j1 k1 a0 a1 l2 x7_1 ((rd_T79 l2 x7_1).f0) t118)) else (qo_.j1 k1 a0 a1 l2 x7_1 ((rd_T79 l2 x7_1).f0) true))) else (qo_.j1 k1 a0 a1 l2 x7_1 ((rd_T79 l2 x7_1).f0) true)))) else (qo_.j1 k1 a0 a1 l2 x7_1 ((rd_T79 l2 x7_1).f0) true))=some r:=H
       have A9:=aK A90
       clear A90
       by_cases c10:t113=true
       ·subst c10
        have H1:(if (((rd_T79 l2 x7_1).f0).size:Int) > a1 then (qo_.j1 k1 a0 a1 l2 x7_1 ((rd_T79 l2 x7_1).f0) true) else ((qy_.f k1 ((rd_T79 l2 x7_1).f0)).bind fun t114=>(if t114=true then ((qw_.f k1 ((rd_T79 l2 x7_1).f1.f0) ((rd_T79 l2 x7_1).f1.f1)).bind fun t116=>(if t116=true then ((qv2_.f ((rd_T79 l2 x7_1).f1.f0) ((rd_T79 l2 x7_1).f1.f1)).bind fun t118=>(qo_.j1 k1 a0 a1 l2 x7_1 ((rd_T79 l2 x7_1).f0) t118)) else (qo_.j1 k1 a0 a1 l2 x7_1 ((rd_T79 l2 x7_1).f0) true))) else (qo_.j1 k1 a0 a1 l2 x7_1 ((rd_T79 l2 x7_1).f0) true))))=some r:=by rw [if_pos rfl] at H;exact H
        clear H
        have H:=H1
        clear H1
        by_cases c11:(((rd_T79 l2 x7_1).f0).size:Int) > a1
        ·rw [if_pos c11] at H
         have c11b0:decide (a1 < (((rd_T79 l2 x7_1).f0).size:Int))=true:=decide_eq_true c11
         clear c11
         (first|rw [c11b0]|(simp only [i64_w,i32_w];rw [c11b0])|skip)
         have H':=aK H
         clear H
         go_wp2_with (first|((with_reducible refine qc1_ (f:=150) rfl ?_);refine goesL_ (some 26) rfl rfl Try.func150 (by kernel_rfl) rfl #[.int .i64 a0,.string ((rd_T79 l2 x7_1).f0)] rfl (by (try simp only [List.map_toArray,List.map_cons,List.map_nil]);first|done|rfl|(simp only [List.length_drop,List.length_take];rfl)) ?_;(with_reducible refine (qk1_.calls k1 a0 ((rd_T79 l2 x7_1).f0) true _ A9.out).mono ?_);rintro e w' ⟨rfl,⟨nd,rfl⟩⟩;refine ⟨_,rfl,?_⟩))
         go_meet
         case rel=>exact ⟨_,(true),(by first|rfl|(simp;done)|(simp [*];done)),H',⟨by have:=HK1.out;first|omega|exact Nat.le_refl _⟩,⟨by repeat (first|(with_reducible first|exact HB.out|apply qb_|apply qa_|apply qc_)|exact HB.out)⟩⟩
        ·rw [if_neg c11] at H
         have c11b0:decide (a1 < (((rd_T79 l2 x7_1).f0).size:Int))=false:=decide_eq_false c11
         clear c11
         (first|rw [c11b0]|(simp only [i64_w,i32_w];rw [c11b0])|skip)
         replace H:=Option.bind_eq_some_iff.mp H
         obtain ⟨t114,A120,H⟩:=H
         replace H:(if t114=true then ((qw_.f k1 ((rd_T79 l2 x7_1).f1.f0) ((rd_T79 l2 x7_1).f1.f1)).bind fun t116=>(if t116=true then ((qv2_.f ((rd_T79 l2 x7_1).f1.f0) ((rd_T79 l2 x7_1).f1.f1)).bind fun t118=>(qo_.j1 k1 a0 a1 l2 x7_1 ((rd_T79 l2 x7_1).f0) t118)) else (qo_.j1 k1 a0 a1 l2 x7_1 ((rd_T79 l2 x7_1).f0) true))) else (qo_.j1 k1 a0 a1 l2 x7_1 ((rd_T79 l2 x7_1).f0) true))=some r:=H
         have A12:=aK A120
         clear A120
         by_cases c13:t114=true
         ·subst c13
          have H1:((qw_.f k1 ((rd_T79 l2 x7_1).f1.f0) ((rd_T79 l2 x7_1).f1.f1)).bind fun t116=>(if t116=true then ((qv2_.f ((rd_T79 l2 x7_1).f1.f0) ((rd_T79 l2 x7_1).f1.f1)).bind fun t118=>(qo_.j1 k1 a0 a1 l2 x7_1 ((rd_T79 l2 x7_1).f0) t118)) else (qo_.j1 k1 a0 a1 l2 x7_1 ((rd_T79 l2 x7_1).f0) true)))=some r:=by rw [if_pos rfl] at H;exact H
          clear H
          have H:=H1
          clear H1
          replace H:=Option.bind_eq_some_iff.mp H
          obtain ⟨t116,A140,H⟩:=H
          replace H:(if t116=true then ((qv2_.f ((rd_T79 l2 x7_1).f1.f0) ((rd_T79 l2 x7_1).f1.f1)).bind fun t118=>(qo_.j1 k1 a0 a1 l2 x7_1 ((rd_T79 l2 x7_1).f0) t118)) else (qo_.j1 k1 a0 a1 l2 x7_1 ((rd_T79 l2 x7_1).f0) true))=some r:=H
          have A14:=aK A140
          clear A140
          by_cases c15:t116=true
          ·subst c15
           have H1:((qv2_.f ((rd_T79 l2 x7_1).f1.f0) ((rd_T79 l2 x7_1).f1.f1)).bind fun t118=>(qo_.j1 k1 a0 a1 l2 x7_1 ((rd_T79 l2 x7_1).f0) t118))=some r:=by rw [if_pos rfl] at H;exact H
           clear H
           have H:=H1
           clear H1
           replace H:=Option.bind_eq_some_iff.mp H
           obtain ⟨t118,A160,H⟩:=H
           replace H:(qo_.j1 k1 a0 a1 l2 x7_1 ((rd_T79 l2 x7_1).f0) t118)=some r:=H
           have A16:=aK A160
           clear A160
           have H':=aK H
           clear H
           go_wp2_with (first|((with_reducible refine qc1_ (f:=150) rfl ?_);refine goesL_ (some 26) rfl rfl Try.func150 (by kernel_rfl) rfl #[.int .i64 a0,.string ((rd_T79 l2 x7_1).f0)] rfl (by (try simp only [List.map_toArray,List.map_cons,List.map_nil]);first|done|rfl|(simp only [List.length_drop,List.length_take];rfl)) ?_;(with_reducible refine (qk1_.calls k1 a0 ((rd_T79 l2 x7_1).f0) true _ A9.out).mono ?_);rintro e w' ⟨rfl,⟨nd,rfl⟩⟩;refine ⟨_,rfl,?_⟩)|(go_at_call 97;(with_reducible refine (qy_.calls k1 ((rd_T79 l2 x7_1).f0) true _ A12.out).mono ?_);rintro e w' ⟨rfl,⟨nd,rfl⟩⟩;have p115:0≤(x7_1:Int):=of_decide_eq_true (by first|(with_reducible assumption)|assumption);have q115:x7_1 < (l2.length:Int):=of_decide_eq_true (by first|(with_reducible assumption)|assumption);obtain ⟨ad115,e115,hx115_0,hx115_1,hx115_2⟩:=at_T79 HR2.out x7_1 p115 q115;obtain rfl:ad112=ad115:=(by injection e115);replace hx115_0:=(HB.out.cell (World.block_lt_of_cell? w _ hx115_0)).trans hx115_0;replace hx115_1:=(HB.out.cell (World.block_lt_of_cell? w _ hx115_1)).trans hx115_1;replace hx115_2:=(HB.out.cell (World.block_lt_of_cell? w _ hx115_2)).trans hx115_2;replace p115:=eq_true p115;replace q115:=eq_true q115)|(go_at_call 151;(with_reducible refine (qw_.calls k1 ((rd_T79 l2 x7_1).f1.f0) ((rd_T79 l2 x7_1).f1.f1) true _ A14.out).mono ?_);rintro e w17 ⟨rfl,hb⟩;have n0_:=aK (qf_ (by repeat (first|(with_reducible first|exact HB.out|apply qb_|apply qa_|apply qc_)|exact HB.out)) hb);clear HB;have HB:=n0_;clear n0_;(try clear hb);(try clear hb2);(try clear hk);(try clear hi);have p117:0≤(x7_1:Int):=of_decide_eq_true (by first|(with_reducible assumption)|assumption);have q117:x7_1 < (l2.length:Int):=of_decide_eq_true (by first|(with_reducible assumption)|assumption);obtain ⟨ad117,e117,hx117_0,hx117_1,hx117_2⟩:=at_T79 HR2.out x7_1 p117 q117;obtain rfl:ad112=ad117:=(by injection e117);replace hx117_0:=(HB.out.cell (World.block_lt_of_cell? w _ hx117_0)).trans hx117_0;replace hx117_1:=(HB.out.cell (World.block_lt_of_cell? w _ hx117_1)).trans hx117_1;replace hx117_2:=(HB.out.cell (World.block_lt_of_cell? w _ hx117_2)).trans hx117_2;replace p117:=eq_true p117;replace q117:=eq_true q117)|(go_at_call 141;(with_reducible refine (qv2_.calls ((rd_T79 l2 x7_1).f1.f0) ((rd_T79 l2 x7_1).f1.f1) t118 _ A16.out).mono ?_);rintro e w18 ⟨rfl,hb⟩;have n0_:=aK (qf_ (by repeat (first|(with_reducible first|exact HB.out|apply qb_|apply qa_|apply qc_)|exact HB.out)) hb);clear HB;have HB:=n0_;clear n0_;(try clear hb);(try clear hb2);(try clear hk);(try clear hi)))
           go_meet
           case rel=>exact ⟨_,(t118),(by first|rfl|(simp;done)|(simp [*];done)),H',⟨by have:=HK1.out;first|omega|exact Nat.le_refl _⟩,⟨by repeat (first|(with_reducible first|exact HB.out|apply qb_|apply qa_|apply qc_)|exact HB.out)⟩⟩
          ·replace c15:=Bool.eq_false_iff.mpr c15
           subst c15
           have H1:(qo_.j1 k1 a0 a1 l2 x7_1 ((rd_T79 l2 x7_1).f0) true)=some r:=by rw [if_neg (show ¬ (false=true) by decide)] at H;exact H
           clear H
           have H:=H1
           clear H1
           have H':=aK H
           clear H
           go_wp2_with (first|((with_reducible refine qc1_ (f:=150) rfl ?_);refine goesL_ (some 26) rfl rfl Try.func150 (by kernel_rfl) rfl #[.int .i64 a0,.string ((rd_T79 l2 x7_1).f0)] rfl (by (try simp only [List.map_toArray,List.map_cons,List.map_nil]);first|done|rfl|(simp only [List.length_drop,List.length_take];rfl)) ?_;(with_reducible refine (qk1_.calls k1 a0 ((rd_T79 l2 x7_1).f0) true _ A9.out).mono ?_);rintro e w' ⟨rfl,⟨nd,rfl⟩⟩;refine ⟨_,rfl,?_⟩)|(go_at_call 97;(with_reducible refine (qy_.calls k1 ((rd_T79 l2 x7_1).f0) true _ A12.out).mono ?_);rintro e w' ⟨rfl,⟨nd,rfl⟩⟩;have p115:0≤(x7_1:Int):=of_decide_eq_true (by first|(with_reducible assumption)|assumption);have q115:x7_1 < (l2.length:Int):=of_decide_eq_true (by first|(with_reducible assumption)|assumption);obtain ⟨ad115,e115,hx115_0,hx115_1,hx115_2⟩:=at_T79 HR2.out x7_1 p115 q115;obtain rfl:ad112=ad115:=(by injection e115);replace hx115_0:=(HB.out.cell (World.block_lt_of_cell? w _ hx115_0)).trans hx115_0;replace hx115_1:=(HB.out.cell (World.block_lt_of_cell? w _ hx115_1)).trans hx115_1;replace hx115_2:=(HB.out.cell (World.block_lt_of_cell? w _ hx115_2)).trans hx115_2;replace p115:=eq_true p115;replace q115:=eq_true q115)|(go_at_call 151;(with_reducible refine (qw_.calls k1 ((rd_T79 l2 x7_1).f1.f0) ((rd_T79 l2 x7_1).f1.f1) false _ A14.out).mono ?_);rintro e w19 ⟨rfl,hb⟩;have n0_:=aK (qf_ (by repeat (first|(with_reducible first|exact HB.out|apply qb_|apply qa_|apply qc_)|exact HB.out)) hb);clear HB;have HB:=n0_;clear n0_;(try clear hb);(try clear hb2);(try clear hk);(try clear hi)))
           go_meet
           case rel=>exact ⟨_,(true),(by first|rfl|(simp;done)|(simp [*];done)),H',⟨by have:=HK1.out;first|omega|exact Nat.le_refl _⟩,⟨by repeat (first|(with_reducible first|exact HB.out|apply qb_|apply qa_|apply qc_)|exact HB.out)⟩⟩
         ·replace c13:=Bool.eq_false_iff.mpr c13
          subst c13
          have H1:(qo_.j1 k1 a0 a1 l2 x7_1 ((rd_T79 l2 x7_1).f0) true)=some r:=by rw [if_neg (show ¬ (false=true) by decide)] at H;exact H
          clear H
          have H:=H1
          clear H1
          have H':=aK H
          clear H
          go_wp2_with (first|((with_reducible refine qc1_ (f:=150) rfl ?_);refine goesL_ (some 26) rfl rfl Try.func150 (by kernel_rfl) rfl #[.int .i64 a0,.string ((rd_T79 l2 x7_1).f0)] rfl (by (try simp only [List.map_toArray,List.map_cons,List.map_nil]);first|done|rfl|(simp only [List.length_drop,List.length_take];rfl)) ?_;(with_reducible refine (qk1_.calls k1 a0 ((rd_T79 l2 x7_1).f0) true _ A9.out).mono ?_);rintro e w' ⟨rfl,⟨nd,rfl⟩⟩;refine ⟨_,rfl,?_⟩)|(go_at_call 97;(with_reducible refine (qy_.calls k1 ((rd_T79 l2 x7_1).f0) false _ A12.out).mono ?_);rintro e w' ⟨rfl,⟨nd,rfl⟩⟩))
          go_meet
          case rel=>exact ⟨_,(true),(by first|rfl|(simp;done)|(simp [*];done)),H',⟨by have:=HK1.out;first|omega|exact Nat.le_refl _⟩,⟨by repeat (first|(with_reducible first|exact HB.out|apply qb_|apply qa_|apply qc_)|exact HB.out)⟩⟩
       ·replace c10:=Bool.eq_false_iff.mpr c10
        subst c10
        have H1:(qo_.j1 k1 a0 a1 l2 x7_1 ((rd_T79 l2 x7_1).f0) true)=some r:=by rw [if_neg (show ¬ (false=true) by decide)] at H;exact H
        clear H
        have H:=H1
        clear H1
        have H':=aK H
        clear H
        go_wp2_with (first|((with_reducible refine qc1_ (f:=150) rfl ?_);refine goesL_ (some 26) rfl rfl Try.func150 (by kernel_rfl) rfl #[.int .i64 a0,.string ((rd_T79 l2 x7_1).f0)] rfl (by (try simp only [List.map_toArray,List.map_cons,List.map_nil]);first|done|rfl|(simp only [List.length_drop,List.length_take];rfl)) ?_;(with_reducible refine (qk1_.calls k1 a0 ((rd_T79 l2 x7_1).f0) false _ A9.out).mono ?_);rintro e w' ⟨rfl,⟨nd,rfl⟩⟩;refine ⟨_,rfl,?_⟩))
        go_meet
        case rel=>exact ⟨_,(true),(by first|rfl|(simp;done)|(simp [*];done)),H',⟨by have:=HK1.out;first|omega|exact Nat.le_refl _⟩,⟨by repeat (first|(with_reducible first|exact HB.out|apply qb_|apply qa_|apply qc_)|exact HB.out)⟩⟩
      case rest =>
       clear HC8
       try clear c1
       try clear p1
       try clear q1
       try clear hx1
       try clear c2
       try clear p2
       try clear c5
       try clear c6
       try clear c6b0
       try clear c7
       try clear c7b0
       try clear c10
       try clear c11
       try clear c11b0
       try clear p11
       try clear q11
       try clear hx11
       try clear c13
       try clear c14
       try clear c15
       try clear hx112_0
       try clear hx112_1
       try clear hx112_2
       try clear hx115_0
       try clear hx115_1
       try clear hx115_2
       try clear hx117_0
       try clear hx117_1
       try clear hx117_2
       try clear p112
       try clear p115
       try clear p117
       try clear p2
       try clear q112
       try clear q115
       try clear q117
       obtain ⟨kq,x55_7,rfl,HA,HJ7,HB⟩:=hcut
       cases kq with
       | zero=>exact absurd HA.out (by simp [qo_.j1])
       | succ kj7 =>
        have H:=HA.out
        clear HA
        simp only [qo_.j1] at H
        by_cases c20:x55_7=true
        ·subst c20
         have H1:(some false)=some r:=by rw [if_pos rfl] at H;exact H
         clear H
         have H:=H1
         clear H1
         obtain rfl:=Option.some.inj H
         go_wp2
         go_ret
         exact ⟨by first|rfl|(simp [qn_,qm_] <;> rfl)|(simp [*,qn_,qm_] <;> rfl),by repeat (first|(with_reducible first|exact HB.out|apply qb_|apply qa_|apply qc_)|exact HB.out)⟩
        ·replace c20:=Bool.eq_false_iff.mpr c20
         subst c20
         have H1:(if x7_1 > 0 then (if 0≤(wrap64 (x7_1 - 1)) then (if (wrap64 (x7_1 - 1)) < (l2.length:Int) then ((qn2_.f ((rd_T79 l2 (wrap64 (x7_1 - 1))).f0) ((rd_T79 l2 x7_1).f0)).bind fun t120=>(if t120=true then (qo_.l0 kj7 a0 a1 l2 (wrap64 (x7_1+1))) else (some false))) else (none)) else (none)) else (qo_.l0 kj7 a0 a1 l2 (wrap64 (x7_1+1))))=some r:=by rw [if_neg (show ¬ (false=true) by decide)] at H;exact H
         clear H
         have H:=H1
         clear H1
         by_cases c21:x7_1 > 0
         ·rw [if_pos c21] at H
          have c21b0:decide (0 < x7_1)=true:=decide_eq_true c21
          clear c21
          obtain ⟨ji22,hji22⟩:∃ j_:Int,(wrap64 (x7_1 - 1))=j_:=⟨_,rfl⟩
          replace H:(if 0≤(ji22) then (if (ji22) < (l2.length:Int) then ((qn2_.f ((rd_T79 l2 (ji22)).f0) ((rd_T79 l2 x7_1).f0)).bind fun t120=>(if t120=true then (qo_.l0 kj7 a0 a1 l2 (wrap64 (x7_1+1))) else (some false))) else (none)) else (none))=some r:=by first|(rw [hji22] at H;exact H)|(simp only [hji22] at H ⊢;exact H)
          have hji22w:(IntKind.i64.wrap (x7_1 - 1))=ji22:=(i64_w _).trans hji22
          by_cases c23:0≤(ji22)
          ·rw [if_pos c23] at H
           have c23b0:decide (0≤(ji22))=true:=decide_eq_true c23
           clear c23
           by_cases c24:(ji22) < (l2.length:Int)
           ·rw [if_pos c24] at H
            have c24b0:decide ((ji22) < (l2.length:Int))=true:=decide_eq_true c24
            clear c24
            replace H:=Option.bind_eq_some_iff.mp H
            obtain ⟨t120,A250,H⟩:=H
            replace H:(if t120=true then (qo_.l0 kj7 a0 a1 l2 (wrap64 (x7_1+1))) else (some false))=some r:=H
            have A25:=aK A250
            clear A250
            by_cases c26:t120=true
            ·subst c26
             have H1:(qo_.l0 kj7 a0 a1 l2 (wrap64 (x7_1+1)))=some r:=by rw [if_pos rfl] at H;exact H
             clear H
             have H:=H1
             clear H1
             have H':=aK H
             clear H
             have p119:0≤((ji22):Int):=of_decide_eq_true (by first|(with_reducible assumption)|assumption)
             have q119:(ji22) < (l2.length:Int):=of_decide_eq_true (by first|(with_reducible assumption)|assumption)
             obtain ⟨ad119,e119,hx119_0,hx119_1,hx119_2⟩:=at_T79 HR2.out (ji22) p119 q119
             obtain rfl:ad112=ad119:=(by injection e119)
             replace hx119_0:=(HB.out.cell (World.block_lt_of_cell? w _ hx119_0)).trans hx119_0
             replace hx119_1:=(HB.out.cell (World.block_lt_of_cell? w _ hx119_1)).trans hx119_1
             replace hx119_2:=(HB.out.cell (World.block_lt_of_cell? w _ hx119_2)).trans hx119_2
             replace p119:=eq_true p119
             replace q119:=eq_true q119
             go_wp2_with (first|(go_at_call 152;(with_reducible refine (qn2_.calls ((rd_T79 l2 (ji22)).f0) ((rd_T79 l2 x7_1).f0) true _ A25.out).mono ?_);rintro e w' ⟨rfl,⟨nd,rfl⟩⟩))
             go_roundg kj7
             case measure=>have:=HK1.out;have:=HJ7.out;omega
             case rel=>exact ⟨(wrap64 (x7_1+1)),(by first|rfl|(simp;done)|(simp [*];done)),H',⟨by have:=HK1.out;have:=HJ7.out;omega⟩,⟨by repeat (first|(with_reducible first|exact HB.out|apply qb_|apply qa_|apply qc_)|exact HB.out)⟩⟩
            ·replace c26:=Bool.eq_false_iff.mpr c26
             subst c26
             have H1:(some false)=some r:=by rw [if_neg (show ¬ (false=true) by decide)] at H;exact H
             clear H
             have H:=H1
             clear H1
             obtain rfl:=Option.some.inj H
             have p119:0≤((ji22):Int):=of_decide_eq_true (by first|(with_reducible assumption)|assumption)
             have q119:(ji22) < (l2.length:Int):=of_decide_eq_true (by first|(with_reducible assumption)|assumption)
             obtain ⟨ad119,e119,hx119_0,hx119_1,hx119_2⟩:=at_T79 HR2.out (ji22) p119 q119
             obtain rfl:ad112=ad119:=(by injection e119)
             replace hx119_0:=(HB.out.cell (World.block_lt_of_cell? w _ hx119_0)).trans hx119_0
             replace hx119_1:=(HB.out.cell (World.block_lt_of_cell? w _ hx119_1)).trans hx119_1
             replace hx119_2:=(HB.out.cell (World.block_lt_of_cell? w _ hx119_2)).trans hx119_2
             replace p119:=eq_true p119
             replace q119:=eq_true q119
             go_wp2_with (first|(go_at_call 152;(with_reducible refine (qn2_.calls ((rd_T79 l2 (ji22)).f0) ((rd_T79 l2 x7_1).f0) false _ A25.out).mono ?_);rintro e w' ⟨rfl,⟨nd,rfl⟩⟩))
             go_ret
             exact ⟨by first|rfl|(simp [qn_,qm_] <;> rfl)|(simp only [← hji22];first|rfl|(simp [qn_,qm_] <;> rfl))|(simp [*,qn_,qm_] <;> rfl),by repeat (first|(with_reducible first|exact HB.out|apply qb_|apply qa_|apply qc_)|exact HB.out)⟩
           ·rw [if_neg c24] at H
            exact absurd H (by simp)
          ·rw [if_neg c23] at H
           exact absurd H (by simp)
         ·rw [if_neg c21] at H
          have c21b0:decide (0 < x7_1)=false:=decide_eq_false c21
          clear c21
          have H':=aK H
          clear H
          go_wp2
          go_roundg kj7
          case measure=>have:=HK1.out;have:=HJ7.out;omega
          case rel=>exact ⟨(wrap64 (x7_1+1)),(by first|rfl|(simp;done)|(simp [*];done)),H',⟨by have:=HK1.out;have:=HJ7.out;omega⟩,⟨by repeat (first|(with_reducible first|exact HB.out|apply qb_|apply qa_|apply qc_)|exact HB.out)⟩⟩
     ·rw [if_neg c7] at H
      exact absurd H (by simp)
    ·rw [if_neg c6] at H
     have c6b0:decide (x7_1 < (l2.length:Int))=false:=decide_eq_false c6
     clear c6
     obtain rfl:=Option.some.inj H
     go_wp2
     go_ret
     exact ⟨by first|rfl|(simp [qn_,qm_] <;> rfl)|(simp [*,qn_,qm_] <;> rfl),by repeat (first|(with_reducible first|exact HB.out|apply qb_|apply qa_|apply qc_)|exact HB.out)⟩
 ·replace c5:=Bool.eq_false_iff.mpr c5
  subst c5
  have H1:(some false)=some r:=by rw [if_neg (show ¬ (false=true) by decide)] at H;exact H
  clear H
  have H:=H1
  clear H1
  obtain rfl:=Option.some.inj H
  go_enter Try.func76,Try.ntmps76
  go_wp2_with (first|((with_reducible refine qc1_ (f:=149) rfl ?_);refine goesL_ (some 11) rfl rfl Try.func149 (by kernel_rfl) rfl #[.int .i64 a0,.int .i64 a1] rfl (by (try simp only [List.map_toArray,List.map_cons,List.map_nil]);first|done|rfl|(simp only [List.length_drop,List.length_take];rfl)) ?_;(with_reducible refine (qa3_.calls a0 a1 false _ A4.out).mono ?_);rintro e w' ⟨rfl,⟨nd,rfl⟩⟩;refine ⟨_,rfl,?_⟩))
  go_ret
  exact ⟨by first|rfl|(simp [qn_,qm_] <;> rfl)|(simp [*,qn_,qm_] <;> rfl),by repeat (first|(with_reducible first|exact HB.out|apply qb_|apply qa_|apply qc_)|exact HB.out)⟩
end Go.Proofs.Ytaiefdhenikiiaa.Base
namespace Go.Proofs.Ytaiefdhenikiiaa.Base
open Go.RowKit Go.Proofs.YtaiefdhenikiiaaW.PrintWords Go.Proofs.YtaiefdhenikiiaaW.PrintLast Go.Proofs.YtaiefdhenikiiaaW.PrintMore
attribute [local go_sem] max2_int qp1_ max_two min_two max_three min_three max_four min_four Go.Proofs.YtaiefdhenikiiaaZ.qv_   -- for this text's walks alone
set_option linter.unusedVariables false
set_option linter.unusedSimpArgs false
def qs2_.f (a0:Int):Option (Bool):=(qz1_.f a0 1 3).bind fun t137=>(some t137)
set_option maxHeartbeats 8000000 in
set_option maxRecDepth 100000 in
theorem qs2_.calls (a0:Int) (r:Bool) (w:World) (h:qs2_.f a0=some r) :
  Calls Try.prog 163 #[.int .i64 a0] w fun e w'=>e=.returned (.bool r)∧Drawn0 w w':=by
 have H:((qz1_.f a0 1 3).bind fun t137=>(some t137))=some r:=h
 clear h
 replace H:=Option.bind_eq_some_iff.mp H
 obtain ⟨t137,A20,H⟩:=H
 replace H:(some t137)=some r:=H
 have A2:=aK A20
 clear A20
 obtain rfl:=Option.some.inj H
 go_enter Try.func163,Try.ntmps163
 go_wp2_with (first|((with_reducible refine qc1_ (f:=111) rfl ?_);refine goesL_ (some 4) rfl rfl Try.func111 (by kernel_rfl) rfl #[.int .i64 a0,.int .i64 1,.int .i64 3] rfl (by (try simp only [List.map_toArray,List.map_cons,List.map_nil]);first|done|rfl|(simp only [List.length_drop,List.length_take];rfl)) ?_;(with_reducible refine (qz1_.calls a0 1 3 t137 _ A2.out).mono ?_);rintro e w' ⟨rfl,⟨nd,rfl⟩⟩;refine ⟨_,rfl,?_⟩))
 go_ret
 exact ⟨by first|rfl|(simp;done)|(simp [*];done)|(simp [Go.Proofs.YtaiefdhenikiiaaZ.bne_nil];done),by repeat (first|exact Drawn0.refl _|apply Drawn0.step)⟩
end Go.Proofs.Ytaiefdhenikiiaa.Base
namespace Go.Proofs.Ytaiefdhenikiiaa.Base
open Go.RowKit Go.Proofs.YtaiefdhenikiiaaW.PrintWords Go.Proofs.YtaiefdhenikiiaaW.PrintLast Go.Proofs.YtaiefdhenikiiaaW.PrintMore
attribute [local go_sem] max2_int qp1_ max_two min_two max_three min_three max_four min_four Go.Proofs.YtaiefdhenikiiaaZ.qv_   -- for this text's walks alone
set_option linter.unusedVariables false
set_option linter.unusedSimpArgs false
def qc3_.f (a0:Int) (a1:Int):Option (Bool):=(qs2_.f a0).bind fun t138=>(if t138=true then ((qz1_.f a1 1 5).bind fun t139=>(if t139=true then (if a0 < 3 then (some true) else (some (decide (a1 < 5)))) else (some false))) else (some false))
set_option maxHeartbeats 8000000 in
set_option maxRecDepth 100000 in
theorem qc3_.calls (a0:Int) (a1:Int) (r:Bool) (w:World) (h:qc3_.f a0 a1=some r) :
  Calls Try.prog 138 #[.int .i64 a0,.int .i64 a1] w fun e w'=>e=.returned (.bool r)∧Drawn0 w w':=by
 have H:((qs2_.f a0).bind fun t138=>(if t138=true then ((qz1_.f a1 1 5).bind fun t139=>(if t139=true then (if a0 < 3 then (some true) else (some (decide (a1 < 5)))) else (some false))) else (some false)))=some r:=h
 clear h
 replace H:=Option.bind_eq_some_iff.mp H
 obtain ⟨t138,A30,H⟩:=H
 replace H:(if t138=true then ((qz1_.f a1 1 5).bind fun t139=>(if t139=true then (if a0 < 3 then (some true) else (some (decide (a1 < 5)))) else (some false))) else (some false))=some r:=H
 have A3:=aK A30
 clear A30
 by_cases c4:t138=true
 ·subst c4
  have H1:((qz1_.f a1 1 5).bind fun t139=>(if t139=true then (if a0 < 3 then (some true) else (some (decide (a1 < 5)))) else (some false)))=some r:=by rw [if_pos rfl] at H;exact H
  clear H
  have H:=H1
  clear H1
  replace H:=Option.bind_eq_some_iff.mp H
  obtain ⟨t139,A50,H⟩:=H
  replace H:(if t139=true then (if a0 < 3 then (some true) else (some (decide (a1 < 5)))) else (some false))=some r:=H
  have A5:=aK A50
  clear A50
  by_cases c6:t139=true
  ·subst c6
   have H1:(if a0 < 3 then (some true) else (some (decide (a1 < 5))))=some r:=by rw [if_pos rfl] at H;exact H
   clear H
   have H:=H1
   clear H1
   by_cases c7:a0 < 3
   ·rw [if_pos c7] at H
    have c7b0:decide (a0 < 3)=true:=decide_eq_true c7
    clear c7
    obtain rfl:=Option.some.inj H
    go_enter Try.func138,Try.ntmps138
    go_wp2_with (first|((with_reducible refine qc1_ (f:=163) rfl ?_);refine goesL_ (some 6) rfl rfl Try.func163 (by kernel_rfl) rfl #[.int .i64 a0] rfl (by (try simp only [List.map_toArray,List.map_cons,List.map_nil]);first|done|rfl|(simp only [List.length_drop,List.length_take];rfl)) ?_;(with_reducible refine (qs2_.calls a0 true _ A3.out).mono ?_);rintro e w' ⟨rfl,⟨nd,rfl⟩⟩;refine ⟨_,rfl,?_⟩)|(go_at_call 111;(with_reducible refine (qz1_.calls a1 1 5 true _ A5.out).mono ?_);rintro e w' ⟨rfl,⟨nd,rfl⟩⟩))
    go_ret
    exact ⟨by first|rfl|(simp;done)|(simp [*];done)|(simp [Go.Proofs.YtaiefdhenikiiaaZ.bne_nil];done),by repeat (first|exact Drawn0.refl _|apply Drawn0.step)⟩
   ·rw [if_neg c7] at H
    have c7b0:decide (a0 < 3)=false:=decide_eq_false c7
    clear c7
    obtain rfl:=Option.some.inj H
    go_enter Try.func138,Try.ntmps138
    go_wp2_with (first|((with_reducible refine qc1_ (f:=163) rfl ?_);refine goesL_ (some 6) rfl rfl Try.func163 (by kernel_rfl) rfl #[.int .i64 a0] rfl (by (try simp only [List.map_toArray,List.map_cons,List.map_nil]);first|done|rfl|(simp only [List.length_drop,List.length_take];rfl)) ?_;(with_reducible refine (qs2_.calls a0 true _ A3.out).mono ?_);rintro e w' ⟨rfl,⟨nd,rfl⟩⟩;refine ⟨_,rfl,?_⟩)|(go_at_call 111;(with_reducible refine (qz1_.calls a1 1 5 true _ A5.out).mono ?_);rintro e w' ⟨rfl,⟨nd,rfl⟩⟩))
    go_ret
    exact ⟨by first|rfl|(simp;done)|(simp [*];done)|(simp [Go.Proofs.YtaiefdhenikiiaaZ.bne_nil];done),by repeat (first|exact Drawn0.refl _|apply Drawn0.step)⟩
  ·replace c6:=Bool.eq_false_iff.mpr c6
   subst c6
   have H1:(some false)=some r:=by rw [if_neg (show ¬ (false=true) by decide)] at H;exact H
   clear H
   have H:=H1
   clear H1
   obtain rfl:=Option.some.inj H
   go_enter Try.func138,Try.ntmps138
   go_wp2_with (first|((with_reducible refine qc1_ (f:=163) rfl ?_);refine goesL_ (some 6) rfl rfl Try.func163 (by kernel_rfl) rfl #[.int .i64 a0] rfl (by (try simp only [List.map_toArray,List.map_cons,List.map_nil]);first|done|rfl|(simp only [List.length_drop,List.length_take];rfl)) ?_;(with_reducible refine (qs2_.calls a0 true _ A3.out).mono ?_);rintro e w' ⟨rfl,⟨nd,rfl⟩⟩;refine ⟨_,rfl,?_⟩)|(go_at_call 111;(with_reducible refine (qz1_.calls a1 1 5 false _ A5.out).mono ?_);rintro e w' ⟨rfl,⟨nd,rfl⟩⟩))
   go_ret
   exact ⟨by first|rfl|(simp;done)|(simp [*];done)|(simp [Go.Proofs.YtaiefdhenikiiaaZ.bne_nil];done),by repeat (first|exact Drawn0.refl _|apply Drawn0.step)⟩
 ·replace c4:=Bool.eq_false_iff.mpr c4
  subst c4
  have H1:(some false)=some r:=by rw [if_neg (show ¬ (false=true) by decide)] at H;exact H
  clear H
  have H:=H1
  clear H1
  obtain rfl:=Option.some.inj H
  go_enter Try.func138,Try.ntmps138
  go_wp2_with (first|((with_reducible refine qc1_ (f:=163) rfl ?_);refine goesL_ (some 6) rfl rfl Try.func163 (by kernel_rfl) rfl #[.int .i64 a0] rfl (by (try simp only [List.map_toArray,List.map_cons,List.map_nil]);first|done|rfl|(simp only [List.length_drop,List.length_take];rfl)) ?_;(with_reducible refine (qs2_.calls a0 false _ A3.out).mono ?_);rintro e w' ⟨rfl,⟨nd,rfl⟩⟩;refine ⟨_,rfl,?_⟩))
  go_ret
  exact ⟨by first|rfl|(simp;done)|(simp [*];done)|(simp [Go.Proofs.YtaiefdhenikiiaaZ.bne_nil];done),by repeat (first|exact Drawn0.refl _|apply Drawn0.step)⟩
end Go.Proofs.Ytaiefdhenikiiaa.Base
