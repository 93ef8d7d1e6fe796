/- Texts that the proof of FnExactRepeatedBracket needs, part 11. No condition. -/
import Derived.Test.YtaiefdhenikiiaaMFnExactRepeatedBracket10
namespace Go.Proofs.Ytaiefdhenikiiaa.Base
open Go.RowKit Go.Proofs.YtaiefdhenikiiaaW.PrintWords Go.Proofs.YtaiefdhenikiiaaW.PrintLast Go.Proofs.YtaiefdhenikiiaaW.PrintMore
attribute [local go_sem] max2_int qp1_ max_two min_two max_three min_three max_four min_four Go.Proofs.YtaiefdhenikiiaaZ.qw_   -- for this text's walks alone
set_option linter.unusedVariables false
set_option linter.unusedSimpArgs false
theorem qc1_.keep {w W:World} {a0:Addr} {v0:Value} {a1:Addr} {v1:Value} {a2:Addr} {v2:Value} {a3:Addr} {v3:Value} {a4:Addr} {v4:Value} {a5:Addr} {v5:Value} (p0:w.cell? a0=some v0) (p1:w.cell? a1=some v1) (p2:w.cell? a2=some v2) (p3:w.cell? a3=some v3) (p4:w.cell? a4=some v4) (p5:w.cell? a5=some v5) (hb:Below w.heap.size w W):W.cell? a0=some v0∧W.cell? a1=some v1∧W.cell? a2=some v2∧W.cell? a3=some v3∧W.cell? a4=some v4∧W.cell? a5=some v5:=⟨qt_ hb p0,qt_ hb p1,qt_ hb p2,qt_ hb p3,qt_ hb p4,qt_ hb p5⟩
def qc1_.f (k:Nat) (a0_0:Int) (a0_1:Int) (l0_2:List (S75)) (a1_0:Int) (a1_1:Int) (l1_2:List (S75)) (a2:Int):Option Bool:=(qf2_.f k a0_0 a0_1 l0_2 1048576).bind fun y1_0=>if y1_0 < 0 then some true else (qf2_.f k a1_0 a1_1 l1_2 y1_0).bind fun y2_0=>if y2_0 < 0 then some true else (qt1_.f k a0_0 a0_1 l0_2).bind fun p3=>(qt1_.f k a1_0 a1_1 l1_2).bind fun p4=>(ql2_.f p3.1 p3.2.1 p3.2.2 p4.1 p4.2.1 p4.2.2 a2).bind fun p5=>(qt1_.f k a0_0 a0_1 l0_2).bind fun p6=>(qt1_.f k a1_0 a1_1 l1_2).bind fun p7=>(qa2_.f p6.1 p6.2.1 p6.2.2 p7.1 p7.2.1 p7.2.2 a2).bind fun p8=>if p8.2.2.2=p5.2.2.2 then (qb2_.f k p8.1 p8.2.1 p8.2.2.1 p5.1 p5.2.1 p5.2.2.1).bind fun y9_0=>if y9_0=true then (qt1_.f k a0_0 a0_1 l0_2).bind fun p10=>(qb2_.f k p6.1 p6.2.1 p6.2.2 p10.1 p10.2.1 p10.2.2).bind fun y11_0=>if y11_0=true then (qt1_.f k a1_0 a1_1 l1_2).bind fun p12=>(qb2_.f k p7.1 p7.2.1 p7.2.2 p12.1 p12.2.1 p12.2.2).bind fun y13_0=>if y13_0=true then (qy1_.f k p6.1 p6.2.1 p6.2.2 1).bind fun p14=>if 0≤p14.1 then (qy1_.f k p7.1 p7.2.1 p7.2.2 p14.1).bind fun p15=>if 0≤p15.1 then (qb2_.f k p8.1 p8.2.1 p8.2.2.1 p5.1 p5.2.1 p5.2.2.1).bind fun y16_0=>if y16_0=true then (qy1_.f k p8.1 p8.2.1 p8.2.2.1 1).bind fun p17=>if 0≤p17.1 then (qh2_.f k p8.1 p8.2.1 p17.2 1).bind fun y18_0=>if 0≤y18_0∧y18_0=p17.1 then (qt1_.f k a0_0 a0_1 l0_2).bind fun p19=>(qt1_.f k a1_0 a1_1 l1_2).bind fun p20=>(qa2_.f p19.1 p19.2.1 p19.2.2 p20.1 p20.2.1 p20.2.2 a2).bind fun p21=>if p21.2.2.2=p5.2.2.2 then (qb2_.f k p21.1 p21.2.1 p21.2.2.1 p5.1 p5.2.1 p5.2.2.1).bind fun y22_0=>if y22_0=true then (qh2_.f k p8.1 p8.2.1 p17.2 1).bind fun y23_0=>if 0≤y23_0∧y23_0=p17.1 then some true else none else none else none else none else none else none else none else none else none else none else none else none
theorem qc1_.mono:∀ a0_0 a0_1 l0_2 a1_0 a1_1 l1_2 a2 k,LeO (qc1_.f k a0_0 a0_1 l0_2 a1_0 a1_1 l1_2 a2) (qc1_.f (k+1) a0_0 a0_1 l0_2 a1_0 a1_1 l1_2 a2):=by
 intro a0_0 a0_1 l0_2 a1_0 a1_1 l1_2 a2 k
 unfold qc1_.f
 repeat' first
  | (with_reducible exact qb2_.mono _ _ _ _ _ _ _)
  | (with_reducible exact qh2_.mono _ _ _ _ _)
  | (with_reducible exact qy1_.mono _ _ _ _ _)
  | (with_reducible exact qf2_.mono _ _ _ _ _)
  | (with_reducible exact qt1_.mono _ _ _ _)
  | (with_reducible exact LeO.refl _)
  | (with_reducible refine LeO.ite ?_ ?_)
  | (with_reducible refine LeO.bind ?_ (fun _=>?_))
  | exact LeO.refl _
  | exact LeO.none _
set_option maxHeartbeats 16000000 in
set_option maxRecDepth 100000 in
theorem qc1_.calls (k:Nat) (a0_0:Int) (a0_1:Int) (A0_2:Option Addr) (c0_2:Nat) (l0_2:List (S75)) (a1_0:Int) (a1_1:Int) (A1_2:Option Addr) (c1_2:Nat) (l1_2:List (S75)) (a2:Int) (r:Bool) (w:World) (hr0_2:Kd.C k75 w A0_2 l0_2.length l0_2) (hc0_2:l0_2.length≤c0_2) (hr1_2:Kd.C k75 w A1_2 l1_2.length l1_2) (hc1_2:l1_2.length≤c1_2) (h:qc1_.f k a0_0 a0_1 l0_2 a1_0 a1_1 l1_2 a2=some r) :
  Calls Try.prog 10 #[.agg #[.int .i64 a0_0,.int .i64 a0_1,.slice A0_2 l0_2.length c0_2],.agg #[.int .i64 a1_0,.int .i64 a1_1,.slice A1_2 l1_2.length c1_2],.int .i64 a2] w fun e w'=>e=.returned (.bool r)∧Below w.heap.size w w':=by
 have hu:=Try.underlying38
 unfold qc1_.f at h
 have HR0_2:=aK hr0_2
 have HC0_2:=aK hc0_2
 clear hr0_2 hc0_2
 have HR1_2:=aK hr1_2
 have HC1_2:=aK hc1_2
 clear hr1_2 hc1_2
 have B0:=aK (Below.refl w.heap.size w)
 have h0:=h
 clear h
 replace h0:=Option.bind_eq_some_iff.mp h0
 obtain ⟨y1_0,E1,h0⟩:=h0
 replace E1:=aK E1
 by_cases c1:y1_0 < 0
 ·rw [if_pos c1] at h0
  obtain rfl:=Option.some.inj h0
  clear h0
  have d1:decide (y1_0 < 0)=true:=decide_eq_true c1
  clear c1
  go_enter Try.func10,Try.ntmps10
  have z0_0_0:((w.alloc (.cells #[.int .i64 a0_0,.int .i64 a0_1,.slice A0_2 l0_2.length c0_2] 32)).alloc (.cells #[.int .i64 a1_0,.int .i64 a1_1,.slice A1_2 l1_2.length c1_2] 32)).cell? ⟨w.heap.size,0,none⟩=some (.int .i64 a0_0):=qe_ (old_at (new_at rfl)) 0
  have z0_0_1:((w.alloc (.cells #[.int .i64 a0_0,.int .i64 a0_1,.slice A0_2 l0_2.length c0_2] 32)).alloc (.cells #[.int .i64 a1_0,.int .i64 a1_1,.slice A1_2 l1_2.length c1_2] 32)).cell? ⟨w.heap.size,1,none⟩=some (.int .i64 a0_1):=qe_ (old_at (new_at rfl)) 1
  have z0_0_2:((w.alloc (.cells #[.int .i64 a0_0,.int .i64 a0_1,.slice A0_2 l0_2.length c0_2] 32)).alloc (.cells #[.int .i64 a1_0,.int .i64 a1_1,.slice A1_2 l1_2.length c1_2] 32)).cell? ⟨w.heap.size,2,none⟩=some (.slice A0_2 l0_2.length c0_2):=qe_ (old_at (new_at rfl)) 2
  go_wp2_with (go_at_call 28;(with_reducible refine (qf2_.calls k a0_0 a0_1 A0_2 c0_2 l0_2 1048576 y1_0 _ (Kd.qg1_ HR0_2.out (qb_ (qb_ B0.out _) _)) HC0_2.out E1.out).mono ?_);rintro e w1 ⟨rfl,hb⟩;have D_:Below w.heap.size w w1:=qh_ (qb_ (qb_ (Below.refl _ _) _) _) hb;have HS0:=aK (show w1.heap[w.heap.size]?=some (.cells #[.int .i64 a0_0,.int .i64 a0_1,.slice A0_2 l0_2.length c0_2] 32 (0,0)) from ql_ (old_at (new_at rfl)) hb);have HS1:=aK (show w1.heap[w.heap.size+1]?=some (.cells #[.int .i64 a1_0,.int .i64 a1_1,.slice A1_2 l1_2.length c1_2] 32 (0,0)) from ql_ (new_at (by simp)) hb);have OB0:=aK (show True from trivial);have OB1:=aK (show True from trivial);have B1:=aK (qh_ B0.out D_);have LB0:=aK (blk_lt HS0.out);have LB1:=aK (blk_lt HS1.out);clear D_ hb;clear z0_0_0 z0_0_1 z0_0_2;have z1_1_0:w1.cell? ⟨w.heap.size+1,0,none⟩=some (.int .i64 a1_0):=qe_ HS1.out 0;have z1_1_1:w1.cell? ⟨w.heap.size+1,1,none⟩=some (.int .i64 a1_1):=qe_ HS1.out 1;have z1_1_2:w1.cell? ⟨w.heap.size+1,2,none⟩=some (.slice A1_2 l1_2.length c1_2):=qe_ HS1.out 2)
  go_ret
  exact ⟨rfl,B1.out⟩
 ·rw [if_neg c1] at h0
  have d1:decide (y1_0 < 0)=false:=decide_eq_false c1
  clear c1
  replace h0:=Option.bind_eq_some_iff.mp h0
  obtain ⟨y2_0,E2,h0⟩:=h0
  replace E2:=aK E2
  by_cases c2:y2_0 < 0
  ·rw [if_pos c2] at h0
   obtain rfl:=Option.some.inj h0
   clear h0
   have d2:decide (y2_0 < 0)=true:=decide_eq_true c2
   clear c2
   go_enter Try.func10,Try.ntmps10
   have z0_0_0:((w.alloc (.cells #[.int .i64 a0_0,.int .i64 a0_1,.slice A0_2 l0_2.length c0_2] 32)).alloc (.cells #[.int .i64 a1_0,.int .i64 a1_1,.slice A1_2 l1_2.length c1_2] 32)).cell? ⟨w.heap.size,0,none⟩=some (.int .i64 a0_0):=qe_ (old_at (new_at rfl)) 0
   have z0_0_1:((w.alloc (.cells #[.int .i64 a0_0,.int .i64 a0_1,.slice A0_2 l0_2.length c0_2] 32)).alloc (.cells #[.int .i64 a1_0,.int .i64 a1_1,.slice A1_2 l1_2.length c1_2] 32)).cell? ⟨w.heap.size,1,none⟩=some (.int .i64 a0_1):=qe_ (old_at (new_at rfl)) 1
   have z0_0_2:((w.alloc (.cells #[.int .i64 a0_0,.int .i64 a0_1,.slice A0_2 l0_2.length c0_2] 32)).alloc (.cells #[.int .i64 a1_0,.int .i64 a1_1,.slice A1_2 l1_2.length c1_2] 32)).cell? ⟨w.heap.size,2,none⟩=some (.slice A0_2 l0_2.length c0_2):=qe_ (old_at (new_at rfl)) 2
   go_wp2_with (go_at_call 28;(with_reducible refine (qf2_.calls k a0_0 a0_1 A0_2 c0_2 l0_2 1048576 y1_0 _ (Kd.qg1_ HR0_2.out (qb_ (qb_ B0.out _) _)) HC0_2.out E1.out).mono ?_);rintro e w1 ⟨rfl,hb⟩;have D_:Below w.heap.size w w1:=qh_ (qb_ (qb_ (Below.refl _ _) _) _) hb;have HS0:=aK (show w1.heap[w.heap.size]?=some (.cells #[.int .i64 a0_0,.int .i64 a0_1,.slice A0_2 l0_2.length c0_2] 32 (0,0)) from ql_ (old_at (new_at rfl)) hb);have HS1:=aK (show w1.heap[w.heap.size+1]?=some (.cells #[.int .i64 a1_0,.int .i64 a1_1,.slice A1_2 l1_2.length c1_2] 32 (0,0)) from ql_ (new_at (by simp)) hb);have OB0:=aK (show True from trivial);have OB1:=aK (show True from trivial);have B1:=aK (qh_ B0.out D_);have LB0:=aK (blk_lt HS0.out);have LB1:=aK (blk_lt HS1.out);clear D_ hb;clear z0_0_0 z0_0_1 z0_0_2;have z1_1_0:w1.cell? ⟨w.heap.size+1,0,none⟩=some (.int .i64 a1_0):=qe_ HS1.out 0;have z1_1_1:w1.cell? ⟨w.heap.size+1,1,none⟩=some (.int .i64 a1_1):=qe_ HS1.out 1;have z1_1_2:w1.cell? ⟨w.heap.size+1,2,none⟩=some (.slice A1_2 l1_2.length c1_2):=qe_ HS1.out 2)
   go_wp2_with (go_at_call 28;(with_reducible refine (qf2_.calls k a1_0 a1_1 A1_2 c1_2 l1_2 y1_0 y2_0 _ (Kd.qg1_ HR1_2.out B1.out) HC1_2.out E2.out).mono ?_);rintro e w2 ⟨rfl,hb⟩;have D_:Below w1.heap.size w1 w2:=qh_ (Below.refl _ _) hb;replace HS0:=aK (ql_ HS0.out D_);replace HS1:=aK (ql_ HS1.out D_);have B2:=aK (qh_ B1.out D_);replace LB0:=aK (blk_lt HS0.out);replace LB1:=aK (blk_lt HS1.out);clear D_ hb;clear z1_1_0 z1_1_1 z1_1_2;have z2_0_0:w2.cell? ⟨w.heap.size,0,none⟩=some (.int .i64 a0_0):=qe_ HS0.out 0;have z2_0_1:w2.cell? ⟨w.heap.size,1,none⟩=some (.int .i64 a0_1):=qe_ HS0.out 1;have z2_0_2:w2.cell? ⟨w.heap.size,2,none⟩=some (.slice A0_2 l0_2.length c0_2):=qe_ HS0.out 2;have z2_1_0:w2.cell? ⟨w.heap.size+1,0,none⟩=some (.int .i64 a1_0):=qe_ HS1.out 0;have z2_1_1:w2.cell? ⟨w.heap.size+1,1,none⟩=some (.int .i64 a1_1):=qe_ HS1.out 1;have z2_1_2:w2.cell? ⟨w.heap.size+1,2,none⟩=some (.slice A1_2 l1_2.length c1_2):=qe_ HS1.out 2)
   go_ret
   exact ⟨rfl,B2.out⟩
  ·rw [if_neg c2] at h0
   have d2:decide (y2_0 < 0)=false:=decide_eq_false c2
   clear c2
   replace h0:=Option.bind_eq_some_iff.mp h0
   obtain ⟨⟨y3_0_0,y3_0_1,y3_0_2⟩,E3,h0⟩:=h0
   dsimp only at h0
   replace E3:=aK E3
   replace h0:=Option.bind_eq_some_iff.mp h0
   obtain ⟨⟨y4_0_0,y4_0_1,y4_0_2⟩,E4,h0⟩:=h0
   dsimp only at h0
   replace E4:=aK E4
   replace h0:=Option.bind_eq_some_iff.mp h0
   obtain ⟨⟨y5_0_0,y5_0_1,y5_0_2,y5_1⟩,E5,h0⟩:=h0
   dsimp only at h0
   replace E5:=aK E5
   replace h0:=Option.bind_eq_some_iff.mp h0
   obtain ⟨⟨y6_0_0,y6_0_1,y6_0_2⟩,E6,h0⟩:=h0
   dsimp only at h0
   replace E6:=aK E6
   replace h0:=Option.bind_eq_some_iff.mp h0
   obtain ⟨⟨y7_0_0,y7_0_1,y7_0_2⟩,E7,h0⟩:=h0
   dsimp only at h0
   replace E7:=aK E7
   replace h0:=Option.bind_eq_some_iff.mp h0
   obtain ⟨⟨y8_0_0,y8_0_1,y8_0_2,y8_1⟩,E8,h0⟩:=h0
   dsimp only at h0
   replace E8:=aK E8
   by_cases c8:y8_1=y5_1
   rotate_left
   ·rw [if_neg c8] at h0;cases h0
   rw [if_pos c8] at h0
   have f8_0:(y8_1 != y5_1)=false:=by rw [bne_eq_false_iff_eq];exact c8
   clear c8
   replace h0:=Option.bind_eq_some_iff.mp h0
   obtain ⟨y9_0,E9,h0⟩:=h0
   replace E9:=aK E9
   by_cases c9:y9_0=true
   rotate_left
   ·rw [if_neg c9] at h0;cases h0
   rw [if_pos c9] at h0
   subst c9
   replace h0:=Option.bind_eq_some_iff.mp h0
   obtain ⟨⟨y10_0_0,y10_0_1,y10_0_2⟩,E10,h0⟩:=h0
   dsimp only at h0
   replace E10:=aK E10
   replace h0:=Option.bind_eq_some_iff.mp h0
   obtain ⟨y11_0,E11,h0⟩:=h0
   replace E11:=aK E11
   by_cases c11:y11_0=true
   rotate_left
   ·rw [if_neg c11] at h0;cases h0
   rw [if_pos c11] at h0
   subst c11
   replace h0:=Option.bind_eq_some_iff.mp h0
   obtain ⟨⟨y12_0_0,y12_0_1,y12_0_2⟩,E12,h0⟩:=h0
   dsimp only at h0
   replace E12:=aK E12
   replace h0:=Option.bind_eq_some_iff.mp h0
   obtain ⟨y13_0,E13,h0⟩:=h0
   replace E13:=aK E13
   by_cases c13:y13_0=true
   rotate_left
   ·rw [if_neg c13] at h0;cases h0
   rw [if_pos c13] at h0
   subst c13
   replace h0:=Option.bind_eq_some_iff.mp h0
   obtain ⟨⟨y14_0,z14⟩,E14,h0⟩:=h0
   dsimp only at h0
   replace E14:=aK E14
   by_cases c14:0≤y14_0
   rotate_left
   ·rw [if_neg c14] at h0;cases h0
   rw [if_pos c14] at h0
   have d14:decide (y14_0 < 0)=false:=decide_eq_false (by omega)
   clear c14
   replace h0:=Option.bind_eq_some_iff.mp h0
   obtain ⟨⟨y15_0,z15⟩,E15,h0⟩:=h0
   dsimp only at h0
   replace E15:=aK E15
   by_cases c15:0≤y15_0
   rotate_left
   ·rw [if_neg c15] at h0;cases h0
   rw [if_pos c15] at h0
   have d15:decide (y15_0 < 0)=false:=decide_eq_false (by omega)
   clear c15
   replace h0:=Option.bind_eq_some_iff.mp h0
   obtain ⟨y16_0,E16,h0⟩:=h0
   replace E16:=aK E16
   by_cases c16:y16_0=true
   rotate_left
   ·rw [if_neg c16] at h0;cases h0
   rw [if_pos c16] at h0
   subst c16
   replace h0:=Option.bind_eq_some_iff.mp h0
   obtain ⟨⟨y17_0,z17⟩,E17,h0⟩:=h0
   dsimp only at h0
   replace E17:=aK E17
   by_cases c17:0≤y17_0
   rotate_left
   ·rw [if_neg c17] at h0;cases h0
   rw [if_pos c17] at h0
   have d17:decide (y17_0 < 0)=false:=decide_eq_false (by omega)
   clear c17
   replace h0:=Option.bind_eq_some_iff.mp h0
   obtain ⟨y18_0,E18,h0⟩:=h0
   replace E18:=aK E18
   by_cases c18:0≤y18_0∧y18_0=y17_0
   rotate_left
   ·rw [if_neg c18] at h0;cases h0
   rw [if_pos c18] at h0
   have d18:decide (y18_0 < 0)=false:=decide_eq_false (by omega)
   have f18:(y18_0 != y17_0)=false:=by rw [bne_eq_false_iff_eq];exact c18.2
   clear c18
   replace h0:=Option.bind_eq_some_iff.mp h0
   obtain ⟨⟨y19_0_0,y19_0_1,y19_0_2⟩,E19,h0⟩:=h0
   dsimp only at h0
   replace E19:=aK E19
   replace h0:=Option.bind_eq_some_iff.mp h0
   obtain ⟨⟨y20_0_0,y20_0_1,y20_0_2⟩,E20,h0⟩:=h0
   dsimp only at h0
   replace E20:=aK E20
   replace h0:=Option.bind_eq_some_iff.mp h0
   obtain ⟨⟨y21_0_0,y21_0_1,y21_0_2,y21_1⟩,E21,h0⟩:=h0
   dsimp only at h0
   replace E21:=aK E21
   by_cases c21:y21_1=y5_1
   rotate_left
   ·rw [if_neg c21] at h0;cases h0
   rw [if_pos c21] at h0
   have f21_0:(y21_1 != y5_1)=false:=by rw [bne_eq_false_iff_eq];exact c21
   clear c21
   replace h0:=Option.bind_eq_some_iff.mp h0
   obtain ⟨y22_0,E22,h0⟩:=h0
   replace E22:=aK E22
   by_cases c22:y22_0=true
   rotate_left
   ·rw [if_neg c22] at h0;cases h0
   rw [if_pos c22] at h0
   subst c22
   replace h0:=Option.bind_eq_some_iff.mp h0
   obtain ⟨y23_0,E23,h0⟩:=h0
   replace E23:=aK E23
   by_cases c23:0≤y23_0∧y23_0=y17_0
   rotate_left
   ·rw [if_neg c23] at h0;cases h0
   rw [if_pos c23] at h0
   have d23:decide (y23_0 < 0)=false:=decide_eq_false (by omega)
   have f23:(y23_0 != y17_0)=false:=by rw [bne_eq_false_iff_eq];exact c23.2
   clear c23
   obtain rfl:=Option.some.inj h0
   clear h0
   go_enter Try.func10,Try.ntmps10
   have z0_0_0:((w.alloc (.cells #[.int .i64 a0_0,.int .i64 a0_1,.slice A0_2 l0_2.length c0_2] 32)).alloc (.cells #[.int .i64 a1_0,.int .i64 a1_1,.slice A1_2 l1_2.length c1_2] 32)).cell? ⟨w.heap.size,0,none⟩=some (.int .i64 a0_0):=qe_ (old_at (new_at rfl)) 0
   have z0_0_1:((w.alloc (.cells #[.int .i64 a0_0,.int .i64 a0_1,.slice A0_2 l0_2.length c0_2] 32)).alloc (.cells #[.int .i64 a1_0,.int .i64 a1_1,.slice A1_2 l1_2.length c1_2] 32)).cell? ⟨w.heap.size,1,none⟩=some (.int .i64 a0_1):=qe_ (old_at (new_at rfl)) 1
   have z0_0_2:((w.alloc (.cells #[.int .i64 a0_0,.int .i64 a0_1,.slice A0_2 l0_2.length c0_2] 32)).alloc (.cells #[.int .i64 a1_0,.int .i64 a1_1,.slice A1_2 l1_2.length c1_2] 32)).cell? ⟨w.heap.size,2,none⟩=some (.slice A0_2 l0_2.length c0_2):=qe_ (old_at (new_at rfl)) 2
   go_wp2_with (go_at_call 28;(with_reducible refine (qf2_.calls k a0_0 a0_1 A0_2 c0_2 l0_2 1048576 y1_0 _ (Kd.qg1_ HR0_2.out (qb_ (qb_ B0.out _) _)) HC0_2.out E1.out).mono ?_);rintro e w1 ⟨rfl,hb⟩;have D_:Below w.heap.size w w1:=qh_ (qb_ (qb_ (Below.refl _ _) _) _) hb;have HS0:=aK (show w1.heap[w.heap.size]?=some (.cells #[.int .i64 a0_0,.int .i64 a0_1,.slice A0_2 l0_2.length c0_2] 32 (0,0)) from ql_ (old_at (new_at rfl)) hb);have HS1:=aK (show w1.heap[w.heap.size+1]?=some (.cells #[.int .i64 a1_0,.int .i64 a1_1,.slice A1_2 l1_2.length c1_2] 32 (0,0)) from ql_ (new_at (by simp)) hb);have OB0:=aK (show True from trivial);have OB1:=aK (show True from trivial);have B1:=aK (qh_ B0.out D_);have LB0:=aK (blk_lt HS0.out);have LB1:=aK (blk_lt HS1.out);clear D_ hb;clear z0_0_0 z0_0_1 z0_0_2;have z1_1_0:w1.cell? ⟨w.heap.size+1,0,none⟩=some (.int .i64 a1_0):=qe_ HS1.out 0;have z1_1_1:w1.cell? ⟨w.heap.size+1,1,none⟩=some (.int .i64 a1_1):=qe_ HS1.out 1;have z1_1_2:w1.cell? ⟨w.heap.size+1,2,none⟩=some (.slice A1_2 l1_2.length c1_2):=qe_ HS1.out 2)
   go_wp2_with (go_at_call 28;(with_reducible refine (qf2_.calls k a1_0 a1_1 A1_2 c1_2 l1_2 y1_0 y2_0 _ (Kd.qg1_ HR1_2.out B1.out) HC1_2.out E2.out).mono ?_);rintro e w2 ⟨rfl,hb⟩;have D_:Below w1.heap.size w1 w2:=qh_ (Below.refl _ _) hb;replace HS0:=aK (ql_ HS0.out D_);replace HS1:=aK (ql_ HS1.out D_);have B2:=aK (qh_ B1.out D_);replace LB0:=aK (blk_lt HS0.out);replace LB1:=aK (blk_lt HS1.out);clear D_ hb;clear z1_1_0 z1_1_1 z1_1_2;have z2_0_0:w2.cell? ⟨w.heap.size,0,none⟩=some (.int .i64 a0_0):=qe_ HS0.out 0;have z2_0_1:w2.cell? ⟨w.heap.size,1,none⟩=some (.int .i64 a0_1):=qe_ HS0.out 1;have z2_0_2:w2.cell? ⟨w.heap.size,2,none⟩=some (.slice A0_2 l0_2.length c0_2):=qe_ HS0.out 2;have z2_1_0:w2.cell? ⟨w.heap.size+1,0,none⟩=some (.int .i64 a1_0):=qe_ HS1.out 0;have z2_1_1:w2.cell? ⟨w.heap.size+1,1,none⟩=some (.int .i64 a1_1):=qe_ HS1.out 1;have z2_1_2:w2.cell? ⟨w.heap.size+1,2,none⟩=some (.slice A1_2 l1_2.length c1_2):=qe_ HS1.out 2)
   go_cut [8,9] (fun v8 v9 wx=>∃ (b_ lo hi:Nat) (A:Option Addr) (c_:Nat),v8=.pointer (some ⟨b_,0,none⟩)∧v9=.int .i64 y5_1∧Aside0 (SrAt wx b_ y5_0_0 y5_0_1 (.slice A y5_0_2.length c_))∧Aside0 (Go.Proofs.YtaiefdhenikiiaaA.AtR k79 79 lo hi wx (.slice A y5_0_2.length c_) y5_0_2)∧Aside0 (y5_0_2.length≤c_)∧Aside0 (w2.heap.size≤lo∧lo≤hi∧w2.heap.size≤b_∧(b_ < lo ∨ hi≤b_))∧Aside0 (Below w2.heap.size w2 wx))
   case first =>
    go_region_held3 (fun w'=>w'.cell? ⟨w.heap.size,0,none⟩=some (.int .i64 a0_0)∧w'.cell? ⟨w.heap.size,1,none⟩=some (.int .i64 a0_1)∧w'.cell? ⟨w.heap.size,2,none⟩=some (.slice A0_2 l0_2.length c0_2)∧w'.cell? ⟨w.heap.size+1,0,none⟩=some (.int .i64 a1_0)∧w'.cell? ⟨w.heap.size+1,1,none⟩=some (.int .i64 a1_1)∧w'.cell? ⟨w.heap.size+1,2,none⟩=some (.slice A1_2 l1_2.length c1_2)) (exact qc1_.keep z2_0_0 z2_0_1 z2_0_2 z2_1_0 z2_1_1 z2_1_2 (by (repeat' (first|(with_reducible exact Below.refl _ _)|(with_reducible exact HK3.out)|(with_reducible exact HK4.out)|(with_reducible exact HK5.out)|(with_reducible refine Below.setCell ?_ ?_ _)|(with_reducible refine qc_ ?_)|(with_reducible refine qa_ ?_ _)|(with_reducible refine qb_ ?_ _)|(simp;done)|(simp;omega)|(have s3:=SZ3.out;(try simp at s3);have s4:=SZ4.out;(try simp at s4);have s5:=SZ5.out;(try simp at s5);have sl:=SL_H5_0_2.out;(try simp at sl);have sh:=SH_H5_0_2.out;have so:=SO_H5_0_2.out;(try simp);omega))))) (first|(go_at_call 30;(with_reducible refine (qt1_.calls k a0_0 a0_1 A0_2 c0_2 l0_2 y3_0_0 y3_0_1 y3_0_2 _ (Kd.qg1_ HR0_2.out (by repeat (first|(with_reducible first|exact B2.out|apply qb_|apply qa_|apply qc_)|exact B2.out))) HC0_2.out E3.out).mono ?_);rintro e w3 ⟨v_H3_0_2,rfl,ho_H3_0_2,hb⟩;have SZ3:=aK hb.size;(first|(refine (fun (Z:w3.heap[w2.heap.size]?=some (.cells #[.int .i64 0,.int .i64 0,.slice none 0 0] 38 (0,0)))=>?_) (ql_ ?_ hb);rotate_left;(first|exact new_at rfl|exact drew_at (new_at rfl)|exact drewN_at (new_at rfl));have HZZ:=aK Z;have cz0:=qe_ Z 0;have cz1:=qe_ Z 1;have cz2:=qe_ Z 2;have fz0:=qd_ Z 0;have fz1:=qd_ Z 1;have fz2:=qd_ Z 2;clear Z)|skip);have D_:Below w2.heap.size w2 w3:=qh_ (by repeat (first|(with_reducible first|exact Below.refl _ _|apply qb_|apply qa_|apply qc_)|exact Below.refl _ _)) hb;replace HS0:=aK (ql_ HS0.out D_);replace HS1:=aK (ql_ HS1.out D_);have B3:=aK (qh_ B2.out D_);obtain ⟨lo_H3_0_2,hi_H3_0_2,hlo_,hhi_,hsz_,hhe_,hx_⟩:∃ lo hi,w2.heap.size≤lo∧lo≤hi∧szLe hb lo∧hi=w3.heap.size∧Go.Proofs.YtaiefdhenikiiaaA.AtR k79 79 lo hi w3 v_H3_0_2 y3_0_2:=⟨_,_,by simp,by have:=hb.size;simpa using this,rfl,rfl,Go.Proofs.YtaiefdhenikiiaaA.AtR.of ho_H3_0_2⟩;have SL_H3_0_2:=aK hsz_.out;have SH_H3_0_2:=aK hhe_;have SO_H3_0_2:=aK hhi_;clear hsz_ hhe_;clear ho_H3_0_2;obtain ⟨A_H3_0_2,c_H3_0_2,rfl,l_⟩:=hx_.form;have H3_0_2L:=aK l_;have H3_0_2:=aK hx_;clear hx_ l_ hlo_ hhi_;replace LB0:=aK (blk_lt HS0.out);replace LB1:=aK (blk_lt HS1.out);have HK3:=aK (show Below w2.heap.size w2 w3 from D_);clear D_ hb)|(go_at_call 30;(with_reducible refine (qt1_.calls k a1_0 a1_1 A1_2 c1_2 l1_2 y4_0_0 y4_0_1 y4_0_2 _ (Kd.qg1_ HR1_2.out (by repeat (first|(with_reducible first|exact B3.out|apply qb_|apply qa_|apply qc_)|exact B3.out))) HC1_2.out E4.out).mono ?_);rintro e w4 ⟨v_H4_0_2,rfl,ho_H4_0_2,hb⟩;have SZ4:=aK hb.size;(first|(refine (fun (Z:w4.heap[w3.heap.size]?=some (.cells #[.int .i64 0,.int .i64 0,.slice none 0 0] 38 (0,0)))=>?_) (ql_ ?_ hb);rotate_left;(first|exact new_at rfl|exact drew_at (new_at rfl)|exact drewN_at (new_at rfl));have HZZ:=aK Z;have cz0:=qe_ Z 0;have cz1:=qe_ Z 1;have cz2:=qe_ Z 2;have fz0:=qd_ Z 0;have fz1:=qd_ Z 1;have fz2:=qd_ Z 2;clear Z)|(refine (fun (Z:w4.heap[w2.heap.size]?=some (.cells #[.int .i64 0,.int .i64 0,.slice none 0 0] 38 (0,0)))=>?_) (ql_ ?_ hb);rotate_left;(first|exact HZZ.out|exact drew_at HZZ.out|exact drewN_at HZZ.out);have HZZ:=aK Z;have cz0:=qe_ Z 0;have cz1:=qe_ Z 1;have cz2:=qe_ Z 2;have fz0:=qd_ Z 0;have fz1:=qd_ Z 1;have fz2:=qd_ Z 2;clear Z)|skip);have D_:Below w3.heap.size w3 w4:=qh_ (by repeat (first|(with_reducible first|exact Below.refl _ _|apply qb_|apply qa_|apply qc_)|exact Below.refl _ _)) hb;replace HS0:=aK (ql_ HS0.out D_);replace HS1:=aK (ql_ HS1.out D_);replace H3_0_2:=aK (H3_0_2.out.below D_);have B4:=aK (qh_ B3.out D_);obtain ⟨lo_H4_0_2,hi_H4_0_2,hlo_,hhi_,hsz_,hhe_,hx_⟩:∃ lo hi,w3.heap.size≤lo∧lo≤hi∧szLe hb lo∧hi=w4.heap.size∧Go.Proofs.YtaiefdhenikiiaaA.AtR k79 79 lo hi w4 v_H4_0_2 y4_0_2:=⟨_,_,by simp,by have:=hb.size;simpa using this,rfl,rfl,Go.Proofs.YtaiefdhenikiiaaA.AtR.of ho_H4_0_2⟩;have SL_H4_0_2:=aK hsz_.out;have SH_H4_0_2:=aK hhe_;have SO_H4_0_2:=aK hhi_;clear hsz_ hhe_;clear ho_H4_0_2;obtain ⟨A_H4_0_2,c_H4_0_2,rfl,l_⟩:=hx_.form;have H4_0_2L:=aK l_;have H4_0_2:=aK hx_;clear hx_ l_ hlo_ hhi_;replace LB0:=aK (blk_lt HS0.out);replace LB1:=aK (blk_lt HS1.out);have HK4:=aK (show Below w2.heap.size w2 w4 from qh_ HK3.out D_);clear D_ hb)|(go_at_call 51;(with_reducible refine (ql2_.calls y3_0_0 y3_0_1 _ _ y3_0_2 y4_0_0 y4_0_1 _ _ y4_0_2 a2 y5_0_0 y5_0_1 y5_0_2 y5_1 _ (Kd.qg1_ H3_0_2.out.C (by repeat (first|(with_reducible first|exact Below.refl _ _|apply qb_|apply qa_|apply qc_)|exact Below.refl _ _))) H3_0_2L.out (Kd.qg1_ H4_0_2.out.C (by repeat (first|(with_reducible first|exact Below.refl _ _|apply qb_|apply qa_|apply qc_)|exact Below.refl _ _))) H4_0_2L.out E5.out).mono ?_);rintro e w5 ⟨v_H5_0_2,rfl,ho_H5_0_2,hb⟩;have SZ5:=aK hb.size;(first|(refine (fun (Z:w5.heap[w4.heap.size]?=some (.cells #[.int .i64 0,.int .i64 0,.slice none 0 0] 38 (0,0)))=>?_) (ql_ ?_ hb);rotate_left;(first|exact new_at rfl|exact drew_at (new_at rfl)|exact drewN_at (new_at rfl));have HZZ:=aK Z;have cz0:=qe_ Z 0;have cz1:=qe_ Z 1;have cz2:=qe_ Z 2;have fz0:=qd_ Z 0;have fz1:=qd_ Z 1;have fz2:=qd_ Z 2;clear Z)|(refine (fun (Z:w5.heap[w2.heap.size]?=some (.cells #[.int .i64 0,.int .i64 0,.slice none 0 0] 38 (0,0)))=>?_) (ql_ ?_ hb);rotate_left;(first|exact HZZ.out|exact drew_at HZZ.out|exact drewN_at HZZ.out);have HZZ:=aK Z;have cz0:=qe_ Z 0;have cz1:=qe_ Z 1;have cz2:=qe_ Z 2;have fz0:=qd_ Z 0;have fz1:=qd_ Z 1;have fz2:=qd_ Z 2;clear Z)|(refine (fun (Z:w5.heap[w3.heap.size]?=some (.cells #[.int .i64 0,.int .i64 0,.slice none 0 0] 38 (0,0)))=>?_) (ql_ ?_ hb);rotate_left;(first|exact HZZ.out|exact drew_at HZZ.out|exact drewN_at HZZ.out);have HZZ:=aK Z;have cz0:=qe_ Z 0;have cz1:=qe_ Z 1;have cz2:=qe_ Z 2;have fz0:=qd_ Z 0;have fz1:=qd_ Z 1;have fz2:=qd_ Z 2;clear Z)|skip);have D_:Below w4.heap.size w4 w5:=qh_ (by repeat (first|(with_reducible first|exact Below.refl _ _|apply qb_|apply qa_|apply qc_)|exact Below.refl _ _)) hb;replace HS0:=aK (ql_ HS0.out D_);replace HS1:=aK (ql_ HS1.out D_);replace H3_0_2:=aK (H3_0_2.out.below D_);replace H4_0_2:=aK (H4_0_2.out.below D_);have B5:=aK (qh_ B4.out D_);obtain ⟨lo_H5_0_2,hi_H5_0_2,hlo_,hhi_,hsz_,hhe_,hx_⟩:∃ lo hi,w4.heap.size≤lo∧lo≤hi∧szLe hb lo∧hi=w5.heap.size∧Go.Proofs.YtaiefdhenikiiaaA.AtR k79 79 lo hi w5 v_H5_0_2 y5_0_2:=⟨_,_,by simp,by have:=hb.size;simpa using this,rfl,rfl,Go.Proofs.YtaiefdhenikiiaaA.AtR.of ho_H5_0_2⟩;have SL_H5_0_2:=aK hsz_.out;have SH_H5_0_2:=aK hhe_;have SO_H5_0_2:=aK hhi_;clear hsz_ hhe_;clear ho_H5_0_2;obtain ⟨A_H5_0_2,c_H5_0_2,rfl,l_⟩:=hx_.form;have H5_0_2L:=aK l_;have LO_H5_0_2:=aK (show w.heap.size≤lo_H5_0_2 from by have:=B4.out.size;omega);have OR_H5_0_2:=aK (show lo_H5_0_2≤hi_H5_0_2∧w.heap.size < lo_H5_0_2∧w.heap.size+1 < lo_H5_0_2 from ⟨hhi_,by have:=LB0.out;omega,by have:=LB1.out;omega⟩);have H5_0_2:=aK hx_;clear hx_ l_ hlo_ hhi_;replace LB0:=aK (blk_lt HS0.out);replace LB1:=aK (blk_lt HS1.out);have HK5:=aK (show Below w2.heap.size w2 w5 from qh_ HK4.out D_);clear D_ hb;have PS_H5_0_2:=aK (show hi_H5_0_2≤w5.heap.size from And.right H5_0_2.out)))
    all_goals
     go_wp2_with fail
     go_meet
     case rel =>
      refine ⟨_,lo_H5_0_2,hi_H5_0_2,A_H5_0_2,c_H5_0_2,rfl,rfl,⟨?_⟩,⟨?_⟩,H5_0_2L,⟨?_⟩,⟨?_⟩⟩
      ·(repeat' (first|((with_reducible refine SrAt.new ?_);simp;done)|(with_reducible refine SrAt.put3 ?_ _ _ _)|(with_reducible exact HZZ.out)|(with_reducible refine SrAt.alloc ?_ _)|(with_reducible refine SrAt.drew ?_)|(with_reducible refine drewN_at ?_)|(with_reducible refine drew_at ?_)|((with_reducible refine new_at ?_);simp;done)|(with_reducible refine old_at ?_)))
      ·(repeat' (first|(with_reducible exact H5_0_2.out)|(with_reducible refine atR_set ?_ _ ?_)|(with_reducible refine atR_alloc ?_ _)|(with_reducible refine atR_drew ?_)|(with_reducible refine atR_drewN ?_)|(have s3:=SZ3.out;(try simp at s3);have s4:=SZ4.out;(try simp at s4);have s5:=SZ5.out;(try simp at s5);have sl:=SL_H5_0_2.out;(try simp at sl);have sh:=SH_H5_0_2.out;have so:=SO_H5_0_2.out;(try simp);omega)))
      ·have s3:=SZ3.out;(try simp at s3);have s4:=SZ4.out;(try simp at s4);have s5:=SZ5.out;(try simp at s5);have sl:=SL_H5_0_2.out;(try simp at sl);have sh:=SH_H5_0_2.out;have so:=SO_H5_0_2.out;(try simp);omega
      ·(repeat' (first|(with_reducible exact Below.refl _ _)|(with_reducible exact HK3.out)|(with_reducible exact HK4.out)|(with_reducible exact HK5.out)|(with_reducible refine Below.setCell ?_ ?_ _)|(with_reducible refine qc_ ?_)|(with_reducible refine qa_ ?_ _)|(with_reducible refine qb_ ?_ _)|(simp;done)|(simp;omega)|(have s3:=SZ3.out;(try simp at s3);have s4:=SZ4.out;(try simp at s4);have s5:=SZ5.out;(try simp at s5);have sl:=SL_H5_0_2.out;(try simp at sl);have sh:=SH_H5_0_2.out;have so:=SO_H5_0_2.out;(try simp);omega)))
   case rest =>
    obtain ⟨b_2,lo_H5_0_2,hi_H5_0_2,A_H5_0_2,c_H5_0_2,rfl,rfl,HS2,H5_0_2,H5_0_2L,HQ_,HM_⟩:=hcut
    obtain ⟨w5,hw_⟩:∃ x,x=wc:=⟨_,rfl⟩
    rw [← hw_] at HS2 H5_0_2 HM_ ⊢
    clear hw_
    replace HS0:=aK (ql_ HS0.out HM_.out)
    replace HS1:=aK (ql_ HS1.out HM_.out)
    have B5:=aK (qh_ B2.out HM_.out)
    have LO_H5_0_2:=aK (show w.heap.size≤lo_H5_0_2 from by have:=B2.out.size;have:=HQ_.out;omega)
    have OR_H5_0_2:=aK (show lo_H5_0_2≤hi_H5_0_2∧w.heap.size < lo_H5_0_2∧w.heap.size+1 < lo_H5_0_2 from by have:=LB0.out;have:=LB1.out;have:=HQ_.out;omega)
    have OB2:=aK (show 0≤b_2∧(b_2 < lo_H5_0_2 ∨ hi_H5_0_2≤b_2) from by have:=HQ_.out;omega)
    clear HQ_ HM_
    replace LB0:=aK (blk_lt HS0.out)
    replace LB1:=aK (blk_lt HS1.out)
    have LB2:=aK (blk_lt HS2.out)
    have PS_H5_0_2:=aK (show hi_H5_0_2≤w5.heap.size from And.right H5_0_2.out)
    clear z2_0_0 z2_0_1 z2_0_2 z2_1_0 z2_1_1 z2_1_2
    have z5_0_0:w5.cell? ⟨w.heap.size,0,none⟩=some (.int .i64 a0_0):=qe_ HS0.out 0
    have z5_0_1:w5.cell? ⟨w.heap.size,1,none⟩=some (.int .i64 a0_1):=qe_ HS0.out 1
    have z5_0_2:w5.cell? ⟨w.heap.size,2,none⟩=some (.slice A0_2 l0_2.length c0_2):=qe_ HS0.out 2
    go_wp2_with (go_at_call 30;(with_reducible refine (qt1_.calls k a0_0 a0_1 A0_2 c0_2 l0_2 y6_0_0 y6_0_1 y6_0_2 _ (Kd.qg1_ HR0_2.out B5.out) HC0_2.out E6.out).mono ?_);rintro e w6 ⟨v_H6_0_2,rfl,ho_H6_0_2,hb⟩;have D_:Below w5.heap.size w5 w6:=qh_ (Below.refl _ _) hb;replace HS0:=aK (ql_ HS0.out D_);replace HS1:=aK (ql_ HS1.out D_);replace HS2:=aK (SrAt.below HS2.out D_);replace H5_0_2:=aK (H5_0_2.out.below D_);have B6:=aK (qh_ B5.out D_);obtain ⟨lo_H6_0_2,hi_H6_0_2,hlo_,hhi_,hx_⟩:∃ lo hi,w5.heap.size≤lo∧lo≤hi∧Go.Proofs.YtaiefdhenikiiaaA.AtR k79 79 lo hi w6 v_H6_0_2 y6_0_2:=⟨_,_,by simp,by have:=hb.size;simpa using this,Go.Proofs.YtaiefdhenikiiaaA.AtR.of ho_H6_0_2⟩;clear ho_H6_0_2;obtain ⟨A_H6_0_2,c_H6_0_2,rfl,l_⟩:=hx_.form;have H6_0_2L:=aK l_;have LO_H6_0_2:=aK (show w.heap.size≤lo_H6_0_2 from by have:=B5.out.size;omega);have OR_H6_0_2:=aK (show lo_H6_0_2≤hi_H6_0_2∧hi_H5_0_2≤lo_H6_0_2∧w.heap.size < lo_H6_0_2∧w.heap.size+1 < lo_H6_0_2∧b_2 < lo_H6_0_2 from ⟨hhi_,by have:=PS_H5_0_2.out;omega,by have:=LB0.out;omega,by have:=LB1.out;omega,by have:=LB2.out;omega⟩);have H6_0_2:=aK hx_;clear hx_ l_ hlo_ hhi_;replace LB0:=aK (blk_lt HS0.out);replace LB1:=aK (blk_lt HS1.out);replace LB2:=aK (blk_lt HS2.out);clear D_ hb;have PS_H5_0_2:=aK (show hi_H5_0_2≤w6.heap.size from And.right H5_0_2.out);have PS_H6_0_2:=aK (show hi_H6_0_2≤w6.heap.size from And.right H6_0_2.out);clear z5_0_0 z5_0_1 z5_0_2;have z6_1_0:(w6.alloc (.cells #[.int .i64 y6_0_0,.int .i64 y6_0_1,.slice A_H6_0_2 y6_0_2.length c_H6_0_2] 38)).cell? ⟨w.heap.size+1,0,none⟩=some (.int .i64 a1_0):=qe_ (old_at HS1.out) 0;have z6_1_1:(w6.alloc (.cells #[.int .i64 y6_0_0,.int .i64 y6_0_1,.slice A_H6_0_2 y6_0_2.length c_H6_0_2] 38)).cell? ⟨w.heap.size+1,1,none⟩=some (.int .i64 a1_1):=qe_ (old_at HS1.out) 1;have z6_1_2:(w6.alloc (.cells #[.int .i64 y6_0_0,.int .i64 y6_0_1,.slice A_H6_0_2 y6_0_2.length c_H6_0_2] 38)).cell? ⟨w.heap.size+1,2,none⟩=some (.slice A1_2 l1_2.length c1_2):=qe_ (old_at HS1.out) 2)
    go_wp2_with (go_at_call 30;(with_reducible refine (qt1_.calls k a1_0 a1_1 A1_2 c1_2 l1_2 y7_0_0 y7_0_1 y7_0_2 _ (Kd.qg1_ HR1_2.out (qb_ B6.out _)) HC1_2.out E7.out).mono ?_);rintro e w7 ⟨v_H7_0_2,rfl,ho_H7_0_2,hb⟩;have D_:Below w6.heap.size w6 w7:=qh_ (qb_ (Below.refl _ _) _) hb;have HS3:=aK (show SrAt w7 (w6.heap.size) (y6_0_0) (y6_0_1) (.slice A_H6_0_2 y6_0_2.length c_H6_0_2) from ql_ (new_at rfl) hb);replace HS0:=aK (ql_ HS0.out D_);replace HS1:=aK (ql_ HS1.out D_);replace HS2:=aK (SrAt.below HS2.out D_);have OB3:=aK (show True∧hi_H5_0_2≤w6.heap.size∧hi_H6_0_2≤w6.heap.size from ⟨trivial,Nat.le_trans (And.right H5_0_2.out) (by simp),Nat.le_trans (And.right H6_0_2.out) (by simp)⟩);replace H5_0_2:=aK (H5_0_2.out.below D_);replace H6_0_2:=aK (H6_0_2.out.below D_);have B7:=aK (qh_ B6.out D_);obtain ⟨lo_H7_0_2,hi_H7_0_2,hlo_,hhi_,hx_⟩:∃ lo hi,w6.heap.size+1≤lo∧lo≤hi∧Go.Proofs.YtaiefdhenikiiaaA.AtR k79 79 lo hi w7 v_H7_0_2 y7_0_2:=⟨_,_,by simp,by have:=hb.size;simpa using this,Go.Proofs.YtaiefdhenikiiaaA.AtR.of ho_H7_0_2⟩;clear ho_H7_0_2;obtain ⟨A_H7_0_2,c_H7_0_2,rfl,l_⟩:=hx_.form;have H7_0_2L:=aK l_;have LO_H7_0_2:=aK (show w.heap.size≤lo_H7_0_2 from by have:=B6.out.size;omega);have OR_H7_0_2:=aK (show lo_H7_0_2≤hi_H7_0_2∧hi_H5_0_2≤lo_H7_0_2∧hi_H6_0_2≤lo_H7_0_2∧w.heap.size < lo_H7_0_2∧w.heap.size+1 < lo_H7_0_2∧b_2 < lo_H7_0_2∧w6.heap.size < lo_H7_0_2 from ⟨hhi_,by have:=PS_H5_0_2.out;omega,by have:=PS_H6_0_2.out;omega,by have:=LB0.out;omega,by have:=LB1.out;omega,by have:=LB2.out;omega,by omega⟩);have H7_0_2:=aK hx_;clear hx_ l_ hlo_ hhi_;replace LB0:=aK (blk_lt HS0.out);replace LB1:=aK (blk_lt HS1.out);replace LB2:=aK (blk_lt HS2.out);have LB3:=aK (blk_lt HS3.out);clear D_ hb;have PS_H5_0_2:=aK (show hi_H5_0_2≤w7.heap.size from And.right H5_0_2.out);have PS_H6_0_2:=aK (show hi_H6_0_2≤w7.heap.size from And.right H6_0_2.out);have PS_H7_0_2:=aK (show hi_H7_0_2≤w7.heap.size from And.right H7_0_2.out);clear z6_1_0 z6_1_1 z6_1_2;have z7_3_0:(w7.alloc (.cells #[.int .i64 y7_0_0,.int .i64 y7_0_1,.slice A_H7_0_2 y7_0_2.length c_H7_0_2] 38)).cell? ⟨w6.heap.size,0,none⟩=some (.int .i64 y6_0_0):=SrAt.c0 (SrAt.alloc HS3.out _);have z7_3_1:(w7.alloc (.cells #[.int .i64 y7_0_0,.int .i64 y7_0_1,.slice A_H7_0_2 y7_0_2.length c_H7_0_2] 38)).cell? ⟨w6.heap.size,1,none⟩=some (.int .i64 y6_0_1):=SrAt.c1 (SrAt.alloc HS3.out _);have z7_3_2:(w7.alloc (.cells #[.int .i64 y7_0_0,.int .i64 y7_0_1,.slice A_H7_0_2 y7_0_2.length c_H7_0_2] 38)).cell? ⟨w6.heap.size,2,none⟩=some (.slice A_H6_0_2 y6_0_2.length c_H6_0_2):=SrAt.c2 (SrAt.alloc HS3.out _))
    go_wp2_with (go_at_call 52;(with_reducible refine (qa2_.calls y6_0_0 y6_0_1 _ _ y6_0_2 y7_0_0 y7_0_1 _ _ y7_0_2 a2 y8_0_0 y8_0_1 y8_0_2 y8_1 _ (Kd.qg1_ H6_0_2.out.C (qb_ (Below.refl _ _) _)) H6_0_2L.out (Kd.qg1_ H7_0_2.out.C (qb_ (Below.refl _ _) _)) H7_0_2L.out E8.out).mono ?_);rintro e w8 ⟨v_H8_0_2,rfl,ho_H8_0_2,hb⟩;have D_:Below w7.heap.size w7 w8:=qh_ (qb_ (Below.refl _ _) _) hb;have HS4:=aK (show SrAt w8 (w7.heap.size) (y7_0_0) (y7_0_1) (.slice A_H7_0_2 y7_0_2.length c_H7_0_2) from ql_ (new_at rfl) hb);replace HS0:=aK (ql_ HS0.out D_);replace HS1:=aK (ql_ HS1.out D_);replace HS2:=aK (SrAt.below HS2.out D_);replace HS3:=aK (SrAt.below HS3.out D_);have OB4:=aK (show True∧hi_H5_0_2≤w7.heap.size∧hi_H6_0_2≤w7.heap.size∧hi_H7_0_2≤w7.heap.size from ⟨trivial,Nat.le_trans (And.right H5_0_2.out) (by simp),Nat.le_trans (And.right H6_0_2.out) (by simp),Nat.le_trans (And.right H7_0_2.out) (by simp)⟩);replace H5_0_2:=aK (H5_0_2.out.below D_);replace H6_0_2:=aK (H6_0_2.out.below D_);replace H7_0_2:=aK (H7_0_2.out.below D_);have B8:=aK (qh_ B7.out D_);obtain ⟨lo_H8_0_2,hi_H8_0_2,hlo_,hhi_,hx_⟩:∃ lo hi,w7.heap.size+1≤lo∧lo≤hi∧Go.Proofs.YtaiefdhenikiiaaA.AtR k79 79 lo hi w8 v_H8_0_2 y8_0_2:=⟨_,_,by simp,by have:=hb.size;simpa using this,Go.Proofs.YtaiefdhenikiiaaA.AtR.of ho_H8_0_2⟩;clear ho_H8_0_2;obtain ⟨A_H8_0_2,c_H8_0_2,rfl,l_⟩:=hx_.form;have H8_0_2L:=aK l_;have LO_H8_0_2:=aK (show w.heap.size≤lo_H8_0_2 from by have:=B7.out.size;omega);have OR_H8_0_2:=aK (show lo_H8_0_2≤hi_H8_0_2∧hi_H5_0_2≤lo_H8_0_2∧hi_H6_0_2≤lo_H8_0_2∧hi_H7_0_2≤lo_H8_0_2∧w.heap.size < lo_H8_0_2∧w.heap.size+1 < lo_H8_0_2∧b_2 < lo_H8_0_2∧w6.heap.size < lo_H8_0_2∧w7.heap.size < lo_H8_0_2 from ⟨hhi_,by have:=PS_H5_0_2.out;omega,by have:=PS_H6_0_2.out;omega,by have:=PS_H7_0_2.out;omega,by have:=LB0.out;omega,by have:=LB1.out;omega,by have:=LB2.out;omega,by have:=LB3.out;omega,by omega⟩);have H8_0_2:=aK hx_;clear hx_ l_ hlo_ hhi_;replace LB0:=aK (blk_lt HS0.out);replace LB1:=aK (blk_lt HS1.out);replace LB2:=aK (blk_lt HS2.out);replace LB3:=aK (blk_lt HS3.out);have LB4:=aK (blk_lt HS4.out);clear D_ hb;have PS_H5_0_2:=aK (show hi_H5_0_2≤w8.heap.size from And.right H5_0_2.out);have PS_H6_0_2:=aK (show hi_H6_0_2≤w8.heap.size from And.right H6_0_2.out);have PS_H7_0_2:=aK (show hi_H7_0_2≤w8.heap.size from And.right H7_0_2.out);have PS_H8_0_2:=aK (show hi_H8_0_2≤w8.heap.size from And.right H8_0_2.out);clear z7_3_0 z7_3_1 z7_3_2;have z8_2_0:(w8.alloc (.cells #[.int .i64 y8_0_0,.int .i64 y8_0_1,.slice A_H8_0_2 y8_0_2.length c_H8_0_2] 38)).cell? ⟨b_2,0,none⟩=some (.int .i64 y5_0_0):=SrAt.c0 (SrAt.alloc HS2.out _);have z8_2_1:(w8.alloc (.cells #[.int .i64 y8_0_0,.int .i64 y8_0_1,.slice A_H8_0_2 y8_0_2.length c_H8_0_2] 38)).cell? ⟨b_2,1,none⟩=some (.int .i64 y5_0_1):=SrAt.c1 (SrAt.alloc HS2.out _);have z8_2_2:(w8.alloc (.cells #[.int .i64 y8_0_0,.int .i64 y8_0_1,.slice A_H8_0_2 y8_0_2.length c_H8_0_2] 38)).cell? ⟨b_2,2,none⟩=some (.slice A_H5_0_2 y5_0_2.length c_H5_0_2):=SrAt.c2 (SrAt.alloc HS2.out _))
    go_wp2_with (go_at_call 33;(with_reducible refine (qb2_.calls k y8_0_0 y8_0_1 _ _ y8_0_2 y5_0_0 y5_0_1 _ _ y5_0_2 true _ (Kd.qg1_ H8_0_2.out.C (qb_ (Below.refl _ _) _)) H8_0_2L.out (Kd.qg1_ H5_0_2.out.C (qb_ (Below.refl _ _) _)) H5_0_2L.out E9.out).mono ?_);rintro e w9 ⟨rfl,hb⟩;have D_:Below w8.heap.size w8 w9:=qh_ (qb_ (Below.refl _ _) _) hb;have HS5:=aK (show SrAt w9 (w8.heap.size) (y8_0_0) (y8_0_1) (.slice A_H8_0_2 y8_0_2.length c_H8_0_2) from ql_ (new_at rfl) hb);replace HS0:=aK (ql_ HS0.out D_);replace HS1:=aK (ql_ HS1.out D_);replace HS2:=aK (SrAt.below HS2.out D_);replace HS3:=aK (SrAt.below HS3.out D_);replace HS4:=aK (SrAt.below HS4.out D_);have OB5:=aK (show True∧hi_H5_0_2≤w8.heap.size∧hi_H6_0_2≤w8.heap.size∧hi_H7_0_2≤w8.heap.size∧hi_H8_0_2≤w8.heap.size from ⟨trivial,Nat.le_trans (And.right H5_0_2.out) (by simp),Nat.le_trans (And.right H6_0_2.out) (by simp),Nat.le_trans (And.right H7_0_2.out) (by simp),Nat.le_trans (And.right H8_0_2.out) (by simp)⟩);replace H5_0_2:=aK (H5_0_2.out.below D_);replace H6_0_2:=aK (H6_0_2.out.below D_);replace H7_0_2:=aK (H7_0_2.out.below D_);replace H8_0_2:=aK (H8_0_2.out.below D_);have B9:=aK (qh_ B8.out D_);replace LB0:=aK (blk_lt HS0.out);replace LB1:=aK (blk_lt HS1.out);replace LB2:=aK (blk_lt HS2.out);replace LB3:=aK (blk_lt HS3.out);replace LB4:=aK (blk_lt HS4.out);have LB5:=aK (blk_lt HS5.out);clear D_ hb;have PS_H5_0_2:=aK (show hi_H5_0_2≤w9.heap.size from And.right H5_0_2.out);have PS_H6_0_2:=aK (show hi_H6_0_2≤w9.heap.size from And.right H6_0_2.out);have PS_H7_0_2:=aK (show hi_H7_0_2≤w9.heap.size from And.right H7_0_2.out);have PS_H8_0_2:=aK (show hi_H8_0_2≤w9.heap.size from And.right H8_0_2.out);clear z8_2_0 z8_2_1 z8_2_2;have z9_0_0:w9.cell? ⟨w.heap.size,0,none⟩=some (.int .i64 a0_0):=qe_ HS0.out 0;have z9_0_1:w9.cell? ⟨w.heap.size,1,none⟩=some (.int .i64 a0_1):=qe_ HS0.out 1;have z9_0_2:w9.cell? ⟨w.heap.size,2,none⟩=some (.slice A0_2 l0_2.length c0_2):=qe_ HS0.out 2;have z9_3_0:w9.cell? ⟨w6.heap.size,0,none⟩=some (.int .i64 y6_0_0):=SrAt.c0 HS3.out;have z9_3_1:w9.cell? ⟨w6.heap.size,1,none⟩=some (.int .i64 y6_0_1):=SrAt.c1 HS3.out;have z9_3_2:w9.cell? ⟨w6.heap.size,2,none⟩=some (.slice A_H6_0_2 y6_0_2.length c_H6_0_2):=SrAt.c2 HS3.out)
    go_region_held3 (fun w'=>w'.cell? ⟨w.heap.size,0,none⟩=some (.int .i64 a0_0)∧w'.cell? ⟨w.heap.size,1,none⟩=some (.int .i64 a0_1)∧w'.cell? ⟨w.heap.size,2,none⟩=some (.slice A0_2 l0_2.length c0_2)∧w'.cell? ⟨w6.heap.size,0,none⟩=some (.int .i64 y6_0_0)∧w'.cell? ⟨w6.heap.size,1,none⟩=some (.int .i64 y6_0_1)∧w'.cell? ⟨w6.heap.size,2,none⟩=some (.slice A_H6_0_2 y6_0_2.length c_H6_0_2)) (exact qc1_.keep z9_0_0 z9_0_1 z9_0_2 z9_3_0 z9_3_1 z9_3_2 (by (repeat' (first|(with_reducible exact Below.refl _ _)|(with_reducible exact HK10.out)|(with_reducible exact HK11.out)|(with_reducible refine qc_ ?_)|(with_reducible refine qa_ ?_ _)|(with_reducible refine qb_ ?_ _))))) (first|(go_at_call 30;(with_reducible refine (qt1_.calls k a0_0 a0_1 A0_2 c0_2 l0_2 y10_0_0 y10_0_1 y10_0_2 _ (Kd.qg1_ HR0_2.out (by repeat (first|(with_reducible first|exact B9.out|apply qb_|apply qa_|apply qc_)|exact B9.out))) HC0_2.out E10.out).mono ?_);rintro e w10 ⟨v_H10_0_2,rfl,ho_H10_0_2,hb⟩;have D_:Below w9.heap.size w9 w10:=qh_ (by repeat (first|(with_reducible first|exact Below.refl _ _|apply qb_|apply qa_|apply qc_)|exact Below.refl _ _)) hb;replace HS0:=aK (ql_ HS0.out D_);replace HS1:=aK (ql_ HS1.out D_);replace HS2:=aK (SrAt.below HS2.out D_);replace HS3:=aK (SrAt.below HS3.out D_);replace HS4:=aK (SrAt.below HS4.out D_);replace HS5:=aK (SrAt.below HS5.out D_);replace H5_0_2:=aK (H5_0_2.out.below D_);replace H6_0_2:=aK (H6_0_2.out.below D_);replace H7_0_2:=aK (H7_0_2.out.below D_);replace H8_0_2:=aK (H8_0_2.out.below D_);have B10:=aK (qh_ B9.out D_);obtain ⟨lo_H10_0_2,hi_H10_0_2,hlo_,hhi_,hx_⟩:∃ lo hi,w9.heap.size≤lo∧lo≤hi∧Go.Proofs.YtaiefdhenikiiaaA.AtR k79 79 lo hi w10 v_H10_0_2 y10_0_2:=⟨_,_,by simp,by have:=hb.size;simpa using this,Go.Proofs.YtaiefdhenikiiaaA.AtR.of ho_H10_0_2⟩;clear ho_H10_0_2;obtain ⟨A_H10_0_2,c_H10_0_2,rfl,l_⟩:=hx_.form;have H10_0_2L:=aK l_;have H10_0_2:=aK hx_;clear hx_ l_ hlo_ hhi_;replace LB0:=aK (blk_lt HS0.out);replace LB1:=aK (blk_lt HS1.out);replace LB2:=aK (blk_lt HS2.out);replace LB3:=aK (blk_lt HS3.out);replace LB4:=aK (blk_lt HS4.out);replace LB5:=aK (blk_lt HS5.out);have HK10:=aK (show Below w9.heap.size w9 w10 from D_);clear D_ hb;have PS_H5_0_2:=aK (show hi_H5_0_2≤w10.heap.size from And.right H5_0_2.out);have PS_H6_0_2:=aK (show hi_H6_0_2≤w10.heap.size from And.right H6_0_2.out);have PS_H7_0_2:=aK (show hi_H7_0_2≤w10.heap.size from And.right H7_0_2.out);have PS_H8_0_2:=aK (show hi_H8_0_2≤w10.heap.size from And.right H8_0_2.out))|(go_at_call 33;(with_reducible refine (qb2_.calls k y6_0_0 y6_0_1 _ _ y6_0_2 y10_0_0 y10_0_1 _ _ y10_0_2 true _ (Kd.qg1_ H6_0_2.out.C (by repeat (first|(with_reducible first|exact Below.refl _ _|apply qb_|apply qa_|apply qc_)|exact Below.refl _ _))) H6_0_2L.out (Kd.qg1_ H10_0_2.out.C (by repeat (first|(with_reducible first|exact Below.refl _ _|apply qb_|apply qa_|apply qc_)|exact Below.refl _ _))) H10_0_2L.out E11.out).mono ?_);rintro e w11 ⟨rfl,hb⟩;have D_:Below w10.heap.size w10 w11:=qh_ (by repeat (first|(with_reducible first|exact Below.refl _ _|apply qb_|apply qa_|apply qc_)|exact Below.refl _ _)) hb;replace HS0:=aK (ql_ HS0.out D_);replace HS1:=aK (ql_ HS1.out D_);replace HS2:=aK (SrAt.below HS2.out D_);replace HS3:=aK (SrAt.below HS3.out D_);replace HS4:=aK (SrAt.below HS4.out D_);replace HS5:=aK (SrAt.below HS5.out D_);replace H5_0_2:=aK (H5_0_2.out.below D_);replace H6_0_2:=aK (H6_0_2.out.below D_);replace H7_0_2:=aK (H7_0_2.out.below D_);replace H8_0_2:=aK (H8_0_2.out.below D_);replace H10_0_2:=aK (H10_0_2.out.below D_);have B11:=aK (qh_ B10.out D_);replace LB0:=aK (blk_lt HS0.out);replace LB1:=aK (blk_lt HS1.out);replace LB2:=aK (blk_lt HS2.out);replace LB3:=aK (blk_lt HS3.out);replace LB4:=aK (blk_lt HS4.out);replace LB5:=aK (blk_lt HS5.out);have HK11:=aK (show Below w9.heap.size w9 w11 from qh_ HK10.out D_);clear D_ hb;have PS_H5_0_2:=aK (show hi_H5_0_2≤w11.heap.size from And.right H5_0_2.out);have PS_H6_0_2:=aK (show hi_H6_0_2≤w11.heap.size from And.right H6_0_2.out);have PS_H7_0_2:=aK (show hi_H7_0_2≤w11.heap.size from And.right H7_0_2.out);have PS_H8_0_2:=aK (show hi_H8_0_2≤w11.heap.size from And.right H8_0_2.out);have z11_1_0:w11.cell? ⟨w.heap.size+1,0,none⟩=some (.int .i64 a1_0):=qe_ HS1.out 0;have z11_1_1:w11.cell? ⟨w.heap.size+1,1,none⟩=some (.int .i64 a1_1):=qe_ HS1.out 1;have z11_1_2:w11.cell? ⟨w.heap.size+1,2,none⟩=some (.slice A1_2 l1_2.length c1_2):=qe_ HS1.out 2;have z11_4_0:w11.cell? ⟨w7.heap.size,0,none⟩=some (.int .i64 y7_0_0):=SrAt.c0 HS4.out;have z11_4_1:w11.cell? ⟨w7.heap.size,1,none⟩=some (.int .i64 y7_0_1):=SrAt.c1 HS4.out;have z11_4_2:w11.cell? ⟨w7.heap.size,2,none⟩=some (.slice A_H7_0_2 y7_0_2.length c_H7_0_2):=SrAt.c2 HS4.out))
    clear z9_0_0 z9_0_1 z9_0_2 z9_3_0 z9_3_1 z9_3_2 HK10 HK11
    go_wp2
    go_region_held3 (fun w'=>w'.cell? ⟨w.heap.size+1,0,none⟩=some (.int .i64 a1_0)∧w'.cell? ⟨w.heap.size+1,1,none⟩=some (.int .i64 a1_1)∧w'.cell? ⟨w.heap.size+1,2,none⟩=some (.slice A1_2 l1_2.length c1_2)∧w'.cell? ⟨w7.heap.size,0,none⟩=some (.int .i64 y7_0_0)∧w'.cell? ⟨w7.heap.size,1,none⟩=some (.int .i64 y7_0_1)∧w'.cell? ⟨w7.heap.size,2,none⟩=some (.slice A_H7_0_2 y7_0_2.length c_H7_0_2)) (exact qc1_.keep z11_1_0 z11_1_1 z11_1_2 z11_4_0 z11_4_1 z11_4_2 (by (repeat' (first|(with_reducible exact Below.refl _ _)|(with_reducible exact HK12.out)|(with_reducible exact HK13.out)|(with_reducible refine qc_ ?_)|(with_reducible refine qa_ ?_ _)|(with_reducible refine qb_ ?_ _))))) (first|(go_at_call 30;(with_reducible refine (qt1_.calls k a1_0 a1_1 A1_2 c1_2 l1_2 y12_0_0 y12_0_1 y12_0_2 _ (Kd.qg1_ HR1_2.out (by repeat (first|(with_reducible first|exact B11.out|apply qb_|apply qa_|apply qc_)|exact B11.out))) HC1_2.out E12.out).mono ?_);rintro e w12 ⟨v_H12_0_2,rfl,ho_H12_0_2,hb⟩;have D_:Below w11.heap.size w11 w12:=qh_ (by repeat (first|(with_reducible first|exact Below.refl _ _|apply qb_|apply qa_|apply qc_)|exact Below.refl _ _)) hb;replace HS0:=aK (ql_ HS0.out D_);replace HS1:=aK (ql_ HS1.out D_);replace HS2:=aK (SrAt.below HS2.out D_);replace HS3:=aK (SrAt.below HS3.out D_);replace HS4:=aK (SrAt.below HS4.out D_);replace HS5:=aK (SrAt.below HS5.out D_);replace H5_0_2:=aK (H5_0_2.out.below D_);replace H6_0_2:=aK (H6_0_2.out.below D_);replace H7_0_2:=aK (H7_0_2.out.below D_);replace H8_0_2:=aK (H8_0_2.out.below D_);have B12:=aK (qh_ B11.out D_);obtain ⟨lo_H12_0_2,hi_H12_0_2,hlo_,hhi_,hx_⟩:∃ lo hi,w11.heap.size≤lo∧lo≤hi∧Go.Proofs.YtaiefdhenikiiaaA.AtR k79 79 lo hi w12 v_H12_0_2 y12_0_2:=⟨_,_,by simp,by have:=hb.size;simpa using this,Go.Proofs.YtaiefdhenikiiaaA.AtR.of ho_H12_0_2⟩;clear ho_H12_0_2;obtain ⟨A_H12_0_2,c_H12_0_2,rfl,l_⟩:=hx_.form;have H12_0_2L:=aK l_;have H12_0_2:=aK hx_;clear hx_ l_ hlo_ hhi_;replace LB0:=aK (blk_lt HS0.out);replace LB1:=aK (blk_lt HS1.out);replace LB2:=aK (blk_lt HS2.out);replace LB3:=aK (blk_lt HS3.out);replace LB4:=aK (blk_lt HS4.out);replace LB5:=aK (blk_lt HS5.out);have HK12:=aK (show Below w11.heap.size w11 w12 from D_);clear D_ hb;have PS_H5_0_2:=aK (show hi_H5_0_2≤w12.heap.size from And.right H5_0_2.out);have PS_H6_0_2:=aK (show hi_H6_0_2≤w12.heap.size from And.right H6_0_2.out);have PS_H7_0_2:=aK (show hi_H7_0_2≤w12.heap.size from And.right H7_0_2.out);have PS_H8_0_2:=aK (show hi_H8_0_2≤w12.heap.size from And.right H8_0_2.out))|(go_at_call 33;(with_reducible refine (qb2_.calls k y7_0_0 y7_0_1 _ _ y7_0_2 y12_0_0 y12_0_1 _ _ y12_0_2 true _ (Kd.qg1_ H7_0_2.out.C (by repeat (first|(with_reducible first|exact Below.refl _ _|apply qb_|apply qa_|apply qc_)|exact Below.refl _ _))) H7_0_2L.out (Kd.qg1_ H12_0_2.out.C (by repeat (first|(with_reducible first|exact Below.refl _ _|apply qb_|apply qa_|apply qc_)|exact Below.refl _ _))) H12_0_2L.out E13.out).mono ?_);rintro e w13 ⟨rfl,hb⟩;have D_:Below w12.heap.size w12 w13:=qh_ (by repeat (first|(with_reducible first|exact Below.refl _ _|apply qb_|apply qa_|apply qc_)|exact Below.refl _ _)) hb;replace HS0:=aK (ql_ HS0.out D_);replace HS1:=aK (ql_ HS1.out D_);replace HS2:=aK (SrAt.below HS2.out D_);replace HS3:=aK (SrAt.below HS3.out D_);replace HS4:=aK (SrAt.below HS4.out D_);replace HS5:=aK (SrAt.below HS5.out D_);replace H5_0_2:=aK (H5_0_2.out.below D_);replace H6_0_2:=aK (H6_0_2.out.below D_);replace H7_0_2:=aK (H7_0_2.out.below D_);replace H8_0_2:=aK (H8_0_2.out.below D_);replace H12_0_2:=aK (H12_0_2.out.below D_);have B13:=aK (qh_ B12.out D_);replace LB0:=aK (blk_lt HS0.out);replace LB1:=aK (blk_lt HS1.out);replace LB2:=aK (blk_lt HS2.out);replace LB3:=aK (blk_lt HS3.out);replace LB4:=aK (blk_lt HS4.out);replace LB5:=aK (blk_lt HS5.out);have HK13:=aK (show Below w11.heap.size w11 w13 from qh_ HK12.out D_);clear D_ hb;have PS_H5_0_2:=aK (show hi_H5_0_2≤w13.heap.size from And.right H5_0_2.out);have PS_H6_0_2:=aK (show hi_H6_0_2≤w13.heap.size from And.right H6_0_2.out);have PS_H7_0_2:=aK (show hi_H7_0_2≤w13.heap.size from And.right H7_0_2.out);have PS_H8_0_2:=aK (show hi_H8_0_2≤w13.heap.size from And.right H8_0_2.out);have z13_3_0:w13.cell? ⟨w6.heap.size,0,none⟩=some (.int .i64 y6_0_0):=SrAt.c0 HS3.out;have z13_3_1:w13.cell? ⟨w6.heap.size,1,none⟩=some (.int .i64 y6_0_1):=SrAt.c1 HS3.out;have z13_3_2:w13.cell? ⟨w6.heap.size,2,none⟩=some (.slice A_H6_0_2 y6_0_2.length c_H6_0_2):=SrAt.c2 HS3.out))
    clear z11_1_0 z11_1_1 z11_1_2 z11_4_0 z11_4_1 z11_4_2 HK12 HK13
    go_wp2_with (go_at_call 34;(with_reducible refine (qy1_.calls k y6_0_0 y6_0_1 (fun k_=>lo_H6_0_2≤k_∧k_ < hi_H6_0_2) _ y6_0_2 1 y14_0 z14 w _ B13.out (Kd.qr2_ (Go.Proofs.YtaiefdhenikiiaaA.AtR.mark H6_0_2.out LO_H6_0_2.out) (Below.refl _ _)) E14.out).mono ?_);rintro e w14 ⟨rfl,ho,hb,hk⟩;have B14:=aK hb;have KP:=aK (show Kept w13 w14 (fun k_=>lo_H6_0_2≤k_∧k_ < hi_H6_0_2) from Kept.then_ (Kept.of_below (Below.refl _ _) _) hk (fun _ h_=>.inl h_));have HN:=aK (Go.Proofs.YtaiefdhenikiiaaA.AtR.of ho);clear ho hb hk;replace H5_0_2:=aK (Go.Proofs.YtaiefdhenikiiaaA.AtR.kept H5_0_2.out KP.out (by have:=OR_H6_0_2.out;have:=OR_H5_0_2.out;omega));replace H7_0_2:=aK (Go.Proofs.YtaiefdhenikiiaaA.AtR.kept H7_0_2.out KP.out (by have:=OR_H6_0_2.out;have:=OR_H7_0_2.out;omega));replace H8_0_2:=aK (Go.Proofs.YtaiefdhenikiiaaA.AtR.kept H8_0_2.out KP.out (by have:=OR_H6_0_2.out;have:=OR_H8_0_2.out;omega));replace HS0:=aK (show w14.heap[w.heap.size]?=some (.cells #[.int .i64 a0_0,.int .i64 a0_1,.slice A0_2 l0_2.length c0_2] 32 (0,0)) from (KP.out.2 _ (blk_lt HS0.out) (by have:=OR_H6_0_2.out;have:=OB0.out;omega)).trans HS0.out);replace HS1:=aK (show w14.heap[w.heap.size+1]?=some (.cells #[.int .i64 a1_0,.int .i64 a1_1,.slice A1_2 l1_2.length c1_2] 32 (0,0)) from (KP.out.2 _ (blk_lt HS1.out) (by have:=OR_H6_0_2.out;have:=OB1.out;omega)).trans HS1.out);replace HS2:=aK (show SrAt w14 (b_2) (y5_0_0) (y5_0_1) (.slice A_H5_0_2 y5_0_2.length c_H5_0_2) from (KP.out.2 _ (blk_lt HS2.out) (by have:=OR_H6_0_2.out;have:=OB2.out;omega)).trans HS2.out);replace HS4:=aK (show SrAt w14 (w7.heap.size) (y7_0_0) (y7_0_1) (.slice A_H7_0_2 y7_0_2.length c_H7_0_2) from (KP.out.2 _ (blk_lt HS4.out) (by have:=OR_H6_0_2.out;have:=OB4.out;omega)).trans HS4.out);replace HS5:=aK (show SrAt w14 (w8.heap.size) (y8_0_0) (y8_0_1) (.slice A_H8_0_2 y8_0_2.length c_H8_0_2) from (KP.out.2 _ (blk_lt HS5.out) (by have:=OR_H6_0_2.out;have:=OB5.out;omega)).trans HS5.out);replace H6_0_2:=HN;clear HN KP;obtain ⟨A_,c_,e_,l_⟩:=H6_0_2.out.form;injection e_ with e1_ e2_ e3_;replace H6_0_2L:=aK (e3_ ▸ l_);clear l_ e1_ e3_;(first|rw [e2_]|skip);replace H6_0_2:=aK (e2_ ▸ H6_0_2.out);clear e2_;replace LB0:=aK (blk_lt HS0.out);replace LB1:=aK (blk_lt HS1.out);replace LB2:=aK (blk_lt HS2.out);replace LB3:=aK (blk_lt HS3.out);replace LB4:=aK (blk_lt HS4.out);replace LB5:=aK (blk_lt HS5.out);have PS_H5_0_2:=aK (show hi_H5_0_2≤w14.heap.size from And.right H5_0_2.out);have PS_H7_0_2:=aK (show hi_H7_0_2≤w14.heap.size from And.right H7_0_2.out);have PS_H8_0_2:=aK (show hi_H8_0_2≤w14.heap.size from And.right H8_0_2.out);clear z13_3_0 z13_3_1 z13_3_2;have z14_4_0:w14.cell? ⟨w7.heap.size,0,none⟩=some (.int .i64 y7_0_0):=SrAt.c0 HS4.out;have z14_4_1:w14.cell? ⟨w7.heap.size,1,none⟩=some (.int .i64 y7_0_1):=SrAt.c1 HS4.out;have z14_4_2:w14.cell? ⟨w7.heap.size,2,none⟩=some (.slice A_H7_0_2 y7_0_2.length c_H7_0_2):=SrAt.c2 HS4.out)
    go_wp2_with (go_at_call 34;(with_reducible refine (qy1_.calls k y7_0_0 y7_0_1 (fun k_=>lo_H7_0_2≤k_∧k_ < hi_H7_0_2) _ y7_0_2 y14_0 y15_0 z15 w _ B14.out (Kd.qr2_ (Go.Proofs.YtaiefdhenikiiaaA.AtR.mark H7_0_2.out LO_H7_0_2.out) (Below.refl _ _)) E15.out).mono ?_);rintro e w15 ⟨rfl,ho,hb,hk⟩;have B15:=aK hb;have KP:=aK (show Kept w14 w15 (fun k_=>lo_H7_0_2≤k_∧k_ < hi_H7_0_2) from Kept.then_ (Kept.of_below (Below.refl _ _) _) hk (fun _ h_=>.inl h_));have HN:=aK (Go.Proofs.YtaiefdhenikiiaaA.AtR.of ho);clear ho hb hk;replace H5_0_2:=aK (Go.Proofs.YtaiefdhenikiiaaA.AtR.kept H5_0_2.out KP.out (by have:=OR_H7_0_2.out;have:=OR_H5_0_2.out;omega));replace H8_0_2:=aK (Go.Proofs.YtaiefdhenikiiaaA.AtR.kept H8_0_2.out KP.out (by have:=OR_H7_0_2.out;have:=OR_H8_0_2.out;omega));replace HS0:=aK (show w15.heap[w.heap.size]?=some (.cells #[.int .i64 a0_0,.int .i64 a0_1,.slice A0_2 l0_2.length c0_2] 32 (0,0)) from (KP.out.2 _ (blk_lt HS0.out) (by have:=OR_H7_0_2.out;have:=OB0.out;omega)).trans HS0.out);replace HS1:=aK (show w15.heap[w.heap.size+1]?=some (.cells #[.int .i64 a1_0,.int .i64 a1_1,.slice A1_2 l1_2.length c1_2] 32 (0,0)) from (KP.out.2 _ (blk_lt HS1.out) (by have:=OR_H7_0_2.out;have:=OB1.out;omega)).trans HS1.out);replace HS2:=aK (show SrAt w15 (b_2) (y5_0_0) (y5_0_1) (.slice A_H5_0_2 y5_0_2.length c_H5_0_2) from (KP.out.2 _ (blk_lt HS2.out) (by have:=OR_H7_0_2.out;have:=OB2.out;omega)).trans HS2.out);replace HS5:=aK (show SrAt w15 (w8.heap.size) (y8_0_0) (y8_0_1) (.slice A_H8_0_2 y8_0_2.length c_H8_0_2) from (KP.out.2 _ (blk_lt HS5.out) (by have:=OR_H7_0_2.out;have:=OB5.out;omega)).trans HS5.out);replace H7_0_2:=HN;clear HN KP;obtain ⟨A_,c_,e_,l_⟩:=H7_0_2.out.form;injection e_ with e1_ e2_ e3_;replace H7_0_2L:=aK (e3_ ▸ l_);clear l_ e1_ e3_;(first|rw [e2_]|skip);replace H7_0_2:=aK (e2_ ▸ H7_0_2.out);clear e2_;replace LB0:=aK (blk_lt HS0.out);replace LB1:=aK (blk_lt HS1.out);replace LB2:=aK (blk_lt HS2.out);replace LB4:=aK (blk_lt HS4.out);replace LB5:=aK (blk_lt HS5.out);have PS_H5_0_2:=aK (show hi_H5_0_2≤w15.heap.size from And.right H5_0_2.out);have PS_H8_0_2:=aK (show hi_H8_0_2≤w15.heap.size from And.right H8_0_2.out);clear z14_4_0 z14_4_1 z14_4_2;have z15_2_0:w15.cell? ⟨b_2,0,none⟩=some (.int .i64 y5_0_0):=SrAt.c0 HS2.out;have z15_2_1:w15.cell? ⟨b_2,1,none⟩=some (.int .i64 y5_0_1):=SrAt.c1 HS2.out;have z15_2_2:w15.cell? ⟨b_2,2,none⟩=some (.slice A_H5_0_2 y5_0_2.length c_H5_0_2):=SrAt.c2 HS2.out;have z15_5_0:w15.cell? ⟨w8.heap.size,0,none⟩=some (.int .i64 y8_0_0):=SrAt.c0 HS5.out;have z15_5_1:w15.cell? ⟨w8.heap.size,1,none⟩=some (.int .i64 y8_0_1):=SrAt.c1 HS5.out;have z15_5_2:w15.cell? ⟨w8.heap.size,2,none⟩=some (.slice A_H8_0_2 y8_0_2.length c_H8_0_2):=SrAt.c2 HS5.out)
    go_wp2_with (go_at_call 33;(with_reducible refine (qb2_.calls k y8_0_0 y8_0_1 _ _ y8_0_2 y5_0_0 y5_0_1 _ _ y5_0_2 true _ (Kd.qg1_ H8_0_2.out.C (Below.refl _ _)) H8_0_2L.out (Kd.qg1_ H5_0_2.out.C (Below.refl _ _)) H5_0_2L.out E16.out).mono ?_);rintro e w16 ⟨rfl,hb⟩;have D_:Below w15.heap.size w15 w16:=qh_ (Below.refl _ _) hb;replace HS0:=aK (ql_ HS0.out D_);replace HS1:=aK (ql_ HS1.out D_);replace HS2:=aK (SrAt.below HS2.out D_);replace HS5:=aK (SrAt.below HS5.out D_);replace H5_0_2:=aK (H5_0_2.out.below D_);replace H8_0_2:=aK (H8_0_2.out.below D_);have B16:=aK (qh_ B15.out D_);replace LB0:=aK (blk_lt HS0.out);replace LB1:=aK (blk_lt HS1.out);replace LB2:=aK (blk_lt HS2.out);replace LB5:=aK (blk_lt HS5.out);clear D_ hb;have PS_H5_0_2:=aK (show hi_H5_0_2≤w16.heap.size from And.right H5_0_2.out);have PS_H8_0_2:=aK (show hi_H8_0_2≤w16.heap.size from And.right H8_0_2.out);clear z15_2_0 z15_2_1 z15_2_2 z15_5_0 z15_5_1 z15_5_2;have z16_5_0:w16.cell? ⟨w8.heap.size,0,none⟩=some (.int .i64 y8_0_0):=SrAt.c0 HS5.out;have z16_5_1:w16.cell? ⟨w8.heap.size,1,none⟩=some (.int .i64 y8_0_1):=SrAt.c1 HS5.out;have z16_5_2:w16.cell? ⟨w8.heap.size,2,none⟩=some (.slice A_H8_0_2 y8_0_2.length c_H8_0_2):=SrAt.c2 HS5.out)
    go_wp2_with (go_at_call 34;(with_reducible refine (qy1_.calls k y8_0_0 y8_0_1 (fun k_=>lo_H8_0_2≤k_∧k_ < hi_H8_0_2) _ y8_0_2 1 y17_0 z17 w _ B16.out (Kd.qr2_ (Go.Proofs.YtaiefdhenikiiaaA.AtR.mark H8_0_2.out LO_H8_0_2.out) (Below.refl _ _)) E17.out).mono ?_);rintro e w17 ⟨rfl,ho,hb,hk⟩;have B17:=aK hb;have KP:=aK (show Kept w16 w17 (fun k_=>lo_H8_0_2≤k_∧k_ < hi_H8_0_2) from Kept.then_ (Kept.of_below (Below.refl _ _) _) hk (fun _ h_=>.inl h_));have HN:=aK (Go.Proofs.YtaiefdhenikiiaaA.AtR.of ho);clear ho hb hk;replace H5_0_2:=aK (Go.Proofs.YtaiefdhenikiiaaA.AtR.kept H5_0_2.out KP.out (by have:=OR_H8_0_2.out;have:=OR_H5_0_2.out;omega));replace HS0:=aK (show w17.heap[w.heap.size]?=some (.cells #[.int .i64 a0_0,.int .i64 a0_1,.slice A0_2 l0_2.length c0_2] 32 (0,0)) from (KP.out.2 _ (blk_lt HS0.out) (by have:=OR_H8_0_2.out;have:=OB0.out;omega)).trans HS0.out);replace HS1:=aK (show w17.heap[w.heap.size+1]?=some (.cells #[.int .i64 a1_0,.int .i64 a1_1,.slice A1_2 l1_2.length c1_2] 32 (0,0)) from (KP.out.2 _ (blk_lt HS1.out) (by have:=OR_H8_0_2.out;have:=OB1.out;omega)).trans HS1.out);replace HS2:=aK (show SrAt w17 (b_2) (y5_0_0) (y5_0_1) (.slice A_H5_0_2 y5_0_2.length c_H5_0_2) from (KP.out.2 _ (blk_lt HS2.out) (by have:=OR_H8_0_2.out;have:=OB2.out;omega)).trans HS2.out);replace HS5:=aK (show SrAt w17 (w8.heap.size) (y8_0_0) (y8_0_1) (.slice A_H8_0_2 y8_0_2.length c_H8_0_2) from (KP.out.2 _ (blk_lt HS5.out) (by have:=OR_H8_0_2.out;have:=OB5.out;omega)).trans HS5.out);replace H8_0_2:=HN;clear HN KP;obtain ⟨A_,c_,e_,l_⟩:=H8_0_2.out.form;injection e_ with e1_ e2_ e3_;replace H8_0_2L:=aK (e3_ ▸ l_);clear l_ e1_ e3_;(first|rw [e2_]|skip);replace H8_0_2:=aK (e2_ ▸ H8_0_2.out);replace HS5:=aK (show SrAt w17 (w8.heap.size) (y8_0_0) (y8_0_1) (.slice A_H8_0_2 z17.length c_H8_0_2) from by rw [← e2_];exact HS5.out);clear e2_;replace LB0:=aK (blk_lt HS0.out);replace LB1:=aK (blk_lt HS1.out);replace LB2:=aK (blk_lt HS2.out);replace LB5:=aK (blk_lt HS5.out);have PS_H5_0_2:=aK (show hi_H5_0_2≤w17.heap.size from And.right H5_0_2.out);clear z16_5_0 z16_5_1 z16_5_2;have z17_5_0:w17.cell? ⟨w8.heap.size,0,none⟩=some (.int .i64 y8_0_0):=SrAt.c0 HS5.out;have z17_5_1:w17.cell? ⟨w8.heap.size,1,none⟩=some (.int .i64 y8_0_1):=SrAt.c1 HS5.out;have z17_5_2:w17.cell? ⟨w8.heap.size,2,none⟩=some (.slice A_H8_0_2 z17.length c_H8_0_2):=SrAt.c2 HS5.out)
    go_wp2_with (go_at_call 39;(with_reducible refine (qh2_.calls k y8_0_0 y8_0_1 _ _ z17 1 y18_0 _ (Kd.qg1_ H8_0_2.out.C (Below.refl _ _)) H8_0_2L.out E18.out).mono ?_);rintro e w18 ⟨rfl,hb⟩;have D_:Below w17.heap.size w17 w18:=qh_ (Below.refl _ _) hb;replace HS0:=aK (ql_ HS0.out D_);replace HS1:=aK (ql_ HS1.out D_);replace HS2:=aK (SrAt.below HS2.out D_);replace HS5:=aK (SrAt.below HS5.out D_);replace H5_0_2:=aK (H5_0_2.out.below D_);replace H8_0_2:=aK (H8_0_2.out.below D_);have B18:=aK (qh_ B17.out D_);replace LB0:=aK (blk_lt HS0.out);replace LB1:=aK (blk_lt HS1.out);replace LB2:=aK (blk_lt HS2.out);replace LB5:=aK (blk_lt HS5.out);clear D_ hb;have PS_H5_0_2:=aK (show hi_H5_0_2≤w18.heap.size from And.right H5_0_2.out);clear z17_5_0 z17_5_1 z17_5_2;have z18_0_0:w18.cell? ⟨w.heap.size,0,none⟩=some (.int .i64 a0_0):=qe_ HS0.out 0;have z18_0_1:w18.cell? ⟨w.heap.size,1,none⟩=some (.int .i64 a0_1):=qe_ HS0.out 1;have z18_0_2:w18.cell? ⟨w.heap.size,2,none⟩=some (.slice A0_2 l0_2.length c0_2):=qe_ HS0.out 2;have z18_1_0:w18.cell? ⟨w.heap.size+1,0,none⟩=some (.int .i64 a1_0):=qe_ HS1.out 0;have z18_1_1:w18.cell? ⟨w.heap.size+1,1,none⟩=some (.int .i64 a1_1):=qe_ HS1.out 1;have z18_1_2:w18.cell? ⟨w.heap.size+1,2,none⟩=some (.slice A1_2 l1_2.length c1_2):=qe_ HS1.out 2)
    go_cut [17,18] (fun v17 v18 wx=>∃ (b_ lo hi:Nat) (A:Option Addr) (c_:Nat),v17=.pointer (some ⟨b_,0,none⟩)∧v18=.int .i64 y21_1∧Aside0 (SrAt wx b_ y21_0_0 y21_0_1 (.slice A y21_0_2.length c_))∧Aside0 (Go.Proofs.YtaiefdhenikiiaaA.AtR k79 79 lo hi wx (.slice A y21_0_2.length c_) y21_0_2)∧Aside0 (y21_0_2.length≤c_)∧Aside0 (w18.heap.size≤lo∧lo≤hi∧w18.heap.size≤b_∧(b_ < lo ∨ hi≤b_))∧Aside0 (Below w18.heap.size w18 wx))
    case first =>
     go_region_held3 (fun w'=>w'.cell? ⟨w.heap.size,0,none⟩=some (.int .i64 a0_0)∧w'.cell? ⟨w.heap.size,1,none⟩=some (.int .i64 a0_1)∧w'.cell? ⟨w.heap.size,2,none⟩=some (.slice A0_2 l0_2.length c0_2)∧w'.cell? ⟨w.heap.size+1,0,none⟩=some (.int .i64 a1_0)∧w'.cell? ⟨w.heap.size+1,1,none⟩=some (.int .i64 a1_1)∧w'.cell? ⟨w.heap.size+1,2,none⟩=some (.slice A1_2 l1_2.length c1_2)) (exact qc1_.keep z18_0_0 z18_0_1 z18_0_2 z18_1_0 z18_1_1 z18_1_2 (by (repeat' (first|(with_reducible exact Below.refl _ _)|(with_reducible exact HK19.out)|(with_reducible exact HK20.out)|(with_reducible exact HK21.out)|(with_reducible refine Below.setCell ?_ ?_ _)|(with_reducible refine qc_ ?_)|(with_reducible refine qa_ ?_ _)|(with_reducible refine qb_ ?_ _)|(simp;done)|(simp;omega)|(have s19:=SZ19.out;(try simp at s19);have s20:=SZ20.out;(try simp at s20);have s21:=SZ21.out;(try simp at s21);have sl:=SL_H21_0_2.out;(try simp at sl);have sh:=SH_H21_0_2.out;have so:=SO_H21_0_2.out;(try simp);omega))))) (first|(go_at_call 30;(with_reducible refine (qt1_.calls k a0_0 a0_1 A0_2 c0_2 l0_2 y19_0_0 y19_0_1 y19_0_2 _ (Kd.qg1_ HR0_2.out (by repeat (first|(with_reducible first|exact B18.out|apply qb_|apply qa_|apply qc_)|exact B18.out))) HC0_2.out E19.out).mono ?_);rintro e w19 ⟨v_H19_0_2,rfl,ho_H19_0_2,hb⟩;have SZ19:=aK hb.size;(first|(refine (fun (Z:w19.heap[w18.heap.size]?=some (.cells #[.int .i64 0,.int .i64 0,.slice none 0 0] 38 (0,0)))=>?_) (ql_ ?_ hb);rotate_left;(first|exact new_at rfl|exact drew_at (new_at rfl)|exact drewN_at (new_at rfl));have HZZ:=aK Z;have cz0:=qe_ Z 0;have cz1:=qe_ Z 1;have cz2:=qe_ Z 2;have fz0:=qd_ Z 0;have fz1:=qd_ Z 1;have fz2:=qd_ Z 2;clear Z)|skip);have D_:Below w18.heap.size w18 w19:=qh_ (by repeat (first|(with_reducible first|exact Below.refl _ _|apply qb_|apply qa_|apply qc_)|exact Below.refl _ _)) hb;replace HS0:=aK (ql_ HS0.out D_);replace HS1:=aK (ql_ HS1.out D_);replace HS2:=aK (SrAt.below HS2.out D_);replace HS5:=aK (SrAt.below HS5.out D_);replace H5_0_2:=aK (H5_0_2.out.below D_);replace H8_0_2:=aK (H8_0_2.out.below D_);have B19:=aK (qh_ B18.out D_);obtain ⟨lo_H19_0_2,hi_H19_0_2,hlo_,hhi_,hsz_,hhe_,hx_⟩:∃ lo hi,w18.heap.size≤lo∧lo≤hi∧szLe hb lo∧hi=w19.heap.size∧Go.Proofs.YtaiefdhenikiiaaA.AtR k79 79 lo hi w19 v_H19_0_2 y19_0_2:=⟨_,_,by simp,by have:=hb.size;simpa using this,rfl,rfl,Go.Proofs.YtaiefdhenikiiaaA.AtR.of ho_H19_0_2⟩;have SL_H19_0_2:=aK hsz_.out;have SH_H19_0_2:=aK hhe_;have SO_H19_0_2:=aK hhi_;clear hsz_ hhe_;clear ho_H19_0_2;obtain ⟨A_H19_0_2,c_H19_0_2,rfl,l_⟩:=hx_.form;have H19_0_2L:=aK l_;have H19_0_2:=aK hx_;clear hx_ l_ hlo_ hhi_;replace LB0:=aK (blk_lt HS0.out);replace LB1:=aK (blk_lt HS1.out);replace LB2:=aK (blk_lt HS2.out);replace LB5:=aK (blk_lt HS5.out);have HK19:=aK (show Below w18.heap.size w18 w19 from D_);clear D_ hb;have PS_H5_0_2:=aK (show hi_H5_0_2≤w19.heap.size from And.right H5_0_2.out))|(go_at_call 30;(with_reducible refine (qt1_.calls k a1_0 a1_1 A1_2 c1_2 l1_2 y20_0_0 y20_0_1 y20_0_2 _ (Kd.qg1_ HR1_2.out (by repeat (first|(with_reducible first|exact B19.out|apply qb_|apply qa_|apply qc_)|exact B19.out))) HC1_2.out E20.out).mono ?_);rintro e w20 ⟨v_H20_0_2,rfl,ho_H20_0_2,hb⟩;have SZ20:=aK hb.size;(first|(refine (fun (Z:w20.heap[w19.heap.size]?=some (.cells #[.int .i64 0,.int .i64 0,.slice none 0 0] 38 (0,0)))=>?_) (ql_ ?_ hb);rotate_left;(first|exact new_at rfl|exact drew_at (new_at rfl)|exact drewN_at (new_at rfl));have HZZ:=aK Z;have cz0:=qe_ Z 0;have cz1:=qe_ Z 1;have cz2:=qe_ Z 2;have fz0:=qd_ Z 0;have fz1:=qd_ Z 1;have fz2:=qd_ Z 2;clear Z)|(refine (fun (Z:w20.heap[w18.heap.size]?=some (.cells #[.int .i64 0,.int .i64 0,.slice none 0 0] 38 (0,0)))=>?_) (ql_ ?_ hb);rotate_left;(first|exact HZZ.out|exact drew_at HZZ.out|exact drewN_at HZZ.out);have HZZ:=aK Z;have cz0:=qe_ Z 0;have cz1:=qe_ Z 1;have cz2:=qe_ Z 2;have fz0:=qd_ Z 0;have fz1:=qd_ Z 1;have fz2:=qd_ Z 2;clear Z)|skip);have D_:Below w19.heap.size w19 w20:=qh_ (by repeat (first|(with_reducible first|exact Below.refl _ _|apply qb_|apply qa_|apply qc_)|exact Below.refl _ _)) hb;replace HS0:=aK (ql_ HS0.out D_);replace HS1:=aK (ql_ HS1.out D_);replace HS2:=aK (SrAt.below HS2.out D_);replace HS5:=aK (SrAt.below HS5.out D_);replace H5_0_2:=aK (H5_0_2.out.below D_);replace H8_0_2:=aK (H8_0_2.out.below D_);replace H19_0_2:=aK (H19_0_2.out.below D_);have B20:=aK (qh_ B19.out D_);obtain ⟨lo_H20_0_2,hi_H20_0_2,hlo_,hhi_,hsz_,hhe_,hx_⟩:∃ lo hi,w19.heap.size≤lo∧lo≤hi∧szLe hb lo∧hi=w20.heap.size∧Go.Proofs.YtaiefdhenikiiaaA.AtR k79 79 lo hi w20 v_H20_0_2 y20_0_2:=⟨_,_,by simp,by have:=hb.size;simpa using this,rfl,rfl,Go.Proofs.YtaiefdhenikiiaaA.AtR.of ho_H20_0_2⟩;have SL_H20_0_2:=aK hsz_.out;have SH_H20_0_2:=aK hhe_;have SO_H20_0_2:=aK hhi_;clear hsz_ hhe_;clear ho_H20_0_2;obtain ⟨A_H20_0_2,c_H20_0_2,rfl,l_⟩:=hx_.form;have H20_0_2L:=aK l_;have H20_0_2:=aK hx_;clear hx_ l_ hlo_ hhi_;replace LB0:=aK (blk_lt HS0.out);replace LB1:=aK (blk_lt HS1.out);replace LB2:=aK (blk_lt HS2.out);replace LB5:=aK (blk_lt HS5.out);have HK20:=aK (show Below w18.heap.size w18 w20 from qh_ HK19.out D_);clear D_ hb;have PS_H5_0_2:=aK (show hi_H5_0_2≤w20.heap.size from And.right H5_0_2.out))|(go_at_call 52;(with_reducible refine (qa2_.calls y19_0_0 y19_0_1 _ _ y19_0_2 y20_0_0 y20_0_1 _ _ y20_0_2 a2 y21_0_0 y21_0_1 y21_0_2 y21_1 _ (Kd.qg1_ H19_0_2.out.C (by repeat (first|(with_reducible first|exact Below.refl _ _|apply qb_|apply qa_|apply qc_)|exact Below.refl _ _))) H19_0_2L.out (Kd.qg1_ H20_0_2.out.C (by repeat (first|(with_reducible first|exact Below.refl _ _|apply qb_|apply qa_|apply qc_)|exact Below.refl _ _))) H20_0_2L.out E21.out).mono ?_);rintro e w21 ⟨v_H21_0_2,rfl,ho_H21_0_2,hb⟩;have SZ21:=aK hb.size;(first|(refine (fun (Z:w21.heap[w20.heap.size]?=some (.cells #[.int .i64 0,.int .i64 0,.slice none 0 0] 38 (0,0)))=>?_) (ql_ ?_ hb);rotate_left;(first|exact new_at rfl|exact drew_at (new_at rfl)|exact drewN_at (new_at rfl));have HZZ:=aK Z;have cz0:=qe_ Z 0;have cz1:=qe_ Z 1;have cz2:=qe_ Z 2;have fz0:=qd_ Z 0;have fz1:=qd_ Z 1;have fz2:=qd_ Z 2;clear Z)|(refine (fun (Z:w21.heap[w18.heap.size]?=some (.cells #[.int .i64 0,.int .i64 0,.slice none 0 0] 38 (0,0)))=>?_) (ql_ ?_ hb);rotate_left;(first|exact HZZ.out|exact drew_at HZZ.out|exact drewN_at HZZ.out);have HZZ:=aK Z;have cz0:=qe_ Z 0;have cz1:=qe_ Z 1;have cz2:=qe_ Z 2;have fz0:=qd_ Z 0;have fz1:=qd_ Z 1;have fz2:=qd_ Z 2;clear Z)|(refine (fun (Z:w21.heap[w19.heap.size]?=some (.cells #[.int .i64 0,.int .i64 0,.slice none 0 0] 38 (0,0)))=>?_) (ql_ ?_ hb);rotate_left;(first|exact HZZ.out|exact drew_at HZZ.out|exact drewN_at HZZ.out);have HZZ:=aK Z;have cz0:=qe_ Z 0;have cz1:=qe_ Z 1;have cz2:=qe_ Z 2;have fz0:=qd_ Z 0;have fz1:=qd_ Z 1;have fz2:=qd_ Z 2;clear Z)|skip);have D_:Below w20.heap.size w20 w21:=qh_ (by repeat (first|(with_reducible first|exact Below.refl _ _|apply qb_|apply qa_|apply qc_)|exact Below.refl _ _)) hb;replace HS0:=aK (ql_ HS0.out D_);replace HS1:=aK (ql_ HS1.out D_);replace HS2:=aK (SrAt.below HS2.out D_);replace HS5:=aK (SrAt.below HS5.out D_);replace H5_0_2:=aK (H5_0_2.out.below D_);replace H8_0_2:=aK (H8_0_2.out.below D_);replace H19_0_2:=aK (H19_0_2.out.below D_);replace H20_0_2:=aK (H20_0_2.out.below D_);have B21:=aK (qh_ B20.out D_);obtain ⟨lo_H21_0_2,hi_H21_0_2,hlo_,hhi_,hsz_,hhe_,hx_⟩:∃ lo hi,w20.heap.size≤lo∧lo≤hi∧szLe hb lo∧hi=w21.heap.size∧Go.Proofs.YtaiefdhenikiiaaA.AtR k79 79 lo hi w21 v_H21_0_2 y21_0_2:=⟨_,_,by simp,by have:=hb.size;simpa using this,rfl,rfl,Go.Proofs.YtaiefdhenikiiaaA.AtR.of ho_H21_0_2⟩;have SL_H21_0_2:=aK hsz_.out;have SH_H21_0_2:=aK hhe_;have SO_H21_0_2:=aK hhi_;clear hsz_ hhe_;clear ho_H21_0_2;obtain ⟨A_H21_0_2,c_H21_0_2,rfl,l_⟩:=hx_.form;have H21_0_2L:=aK l_;have H21_0_2:=aK hx_;clear hx_ l_ hlo_ hhi_;replace LB0:=aK (blk_lt HS0.out);replace LB1:=aK (blk_lt HS1.out);replace LB2:=aK (blk_lt HS2.out);replace LB5:=aK (blk_lt HS5.out);have HK21:=aK (show Below w18.heap.size w18 w21 from qh_ HK20.out D_);clear D_ hb;have PS_H5_0_2:=aK (show hi_H5_0_2≤w21.heap.size from And.right H5_0_2.out)))
     all_goals
      go_wp2_with fail
      go_meet
      case rel =>
       refine ⟨_,lo_H21_0_2,hi_H21_0_2,A_H21_0_2,c_H21_0_2,rfl,rfl,⟨?_⟩,⟨?_⟩,H21_0_2L,⟨?_⟩,⟨?_⟩⟩
       ·(repeat' (first|((with_reducible refine SrAt.new ?_);simp;done)|(with_reducible refine SrAt.put3 ?_ _ _ _)|(with_reducible exact HZZ.out)|(with_reducible refine SrAt.alloc ?_ _)|(with_reducible refine SrAt.drew ?_)|(with_reducible refine drewN_at ?_)|(with_reducible refine drew_at ?_)|((with_reducible refine new_at ?_);simp;done)|(with_reducible refine old_at ?_)))
       ·(repeat' (first|(with_reducible exact H21_0_2.out)|(with_reducible refine atR_set ?_ _ ?_)|(with_reducible refine atR_alloc ?_ _)|(with_reducible refine atR_drew ?_)|(with_reducible refine atR_drewN ?_)|(have s19:=SZ19.out;(try simp at s19);have s20:=SZ20.out;(try simp at s20);have s21:=SZ21.out;(try simp at s21);have sl:=SL_H21_0_2.out;(try simp at sl);have sh:=SH_H21_0_2.out;have so:=SO_H21_0_2.out;(try simp);omega)))
       ·have s19:=SZ19.out;(try simp at s19);have s20:=SZ20.out;(try simp at s20);have s21:=SZ21.out;(try simp at s21);have sl:=SL_H21_0_2.out;(try simp at sl);have sh:=SH_H21_0_2.out;have so:=SO_H21_0_2.out;(try simp);omega
       ·(repeat' (first|(with_reducible exact Below.refl _ _)|(with_reducible exact HK19.out)|(with_reducible exact HK20.out)|(with_reducible exact HK21.out)|(with_reducible refine Below.setCell ?_ ?_ _)|(with_reducible refine qc_ ?_)|(with_reducible refine qa_ ?_ _)|(with_reducible refine qb_ ?_ _)|(simp;done)|(simp;omega)|(have s19:=SZ19.out;(try simp at s19);have s20:=SZ20.out;(try simp at s20);have s21:=SZ21.out;(try simp at s21);have sl:=SL_H21_0_2.out;(try simp at sl);have sh:=SH_H21_0_2.out;have so:=SO_H21_0_2.out;(try simp);omega)))
    case rest =>
     obtain ⟨b_6,lo_H21_0_2,hi_H21_0_2,A_H21_0_2,c_H21_0_2,rfl,rfl,HS6,H21_0_2,H21_0_2L,HQ_,HM_⟩:=hcut
     obtain ⟨w21,hw_⟩:∃ x,x=wc:=⟨_,rfl⟩
     rw [← hw_] at HS6 H21_0_2 HM_ ⊢
     clear hw_
     replace H5_0_2:=aK (H5_0_2.out.below HM_.out)
     replace H8_0_2:=aK (H8_0_2.out.below HM_.out)
     replace HS2:=aK (SrAt.below HS2.out HM_.out)
     replace HS5:=aK (SrAt.below HS5.out HM_.out)
     have B21:=aK (qh_ B18.out HM_.out)
     clear HQ_ HM_
     replace LB2:=aK (blk_lt HS2.out)
     replace LB5:=aK (blk_lt HS5.out)
     have PS_H5_0_2:=aK (show hi_H5_0_2≤w21.heap.size from And.right H5_0_2.out)
     clear z18_0_0 z18_0_1 z18_0_2 z18_1_0 z18_1_1 z18_1_2
     have z21_2_0:w21.cell? ⟨b_2,0,none⟩=some (.int .i64 y5_0_0):=SrAt.c0 HS2.out
     have z21_2_1:w21.cell? ⟨b_2,1,none⟩=some (.int .i64 y5_0_1):=SrAt.c1 HS2.out
     have z21_2_2:w21.cell? ⟨b_2,2,none⟩=some (.slice A_H5_0_2 y5_0_2.length c_H5_0_2):=SrAt.c2 HS2.out
     have z21_6_0:w21.cell? ⟨b_6,0,none⟩=some (.int .i64 y21_0_0):=SrAt.c0 HS6.out
     have z21_6_1:w21.cell? ⟨b_6,1,none⟩=some (.int .i64 y21_0_1):=SrAt.c1 HS6.out
     have z21_6_2:w21.cell? ⟨b_6,2,none⟩=some (.slice A_H21_0_2 y21_0_2.length c_H21_0_2):=SrAt.c2 HS6.out
     go_wp2_with (go_at_call 33;(with_reducible refine (qb2_.calls k y21_0_0 y21_0_1 _ _ y21_0_2 y5_0_0 y5_0_1 _ _ y5_0_2 true _ (Kd.qg1_ H21_0_2.out.C (Below.refl _ _)) H21_0_2L.out (Kd.qg1_ H5_0_2.out.C (Below.refl _ _)) H5_0_2L.out E22.out).mono ?_);rintro e w22 ⟨rfl,hb⟩;have D_:Below w21.heap.size w21 w22:=qh_ (Below.refl _ _) hb;replace HS2:=aK (SrAt.below HS2.out D_);replace HS5:=aK (SrAt.below HS5.out D_);replace HS6:=aK (SrAt.below HS6.out D_);replace H5_0_2:=aK (H5_0_2.out.below D_);replace H8_0_2:=aK (H8_0_2.out.below D_);replace H21_0_2:=aK (H21_0_2.out.below D_);have B22:=aK (qh_ B21.out D_);replace LB2:=aK (blk_lt HS2.out);replace LB5:=aK (blk_lt HS5.out);clear D_ hb;have PS_H5_0_2:=aK (show hi_H5_0_2≤w22.heap.size from And.right H5_0_2.out);clear z21_2_0 z21_2_1 z21_2_2 z21_6_0 z21_6_1 z21_6_2;have z22_5_0:w22.cell? ⟨w8.heap.size,0,none⟩=some (.int .i64 y8_0_0):=SrAt.c0 HS5.out;have z22_5_1:w22.cell? ⟨w8.heap.size,1,none⟩=some (.int .i64 y8_0_1):=SrAt.c1 HS5.out;have z22_5_2:w22.cell? ⟨w8.heap.size,2,none⟩=some (.slice A_H8_0_2 z17.length c_H8_0_2):=SrAt.c2 HS5.out)
     go_wp2_with (go_at_call 39;(with_reducible refine (qh2_.calls k y8_0_0 y8_0_1 _ _ z17 1 y23_0 _ (Kd.qg1_ H8_0_2.out.C (Below.refl _ _)) H8_0_2L.out E23.out).mono ?_);rintro e w23 ⟨rfl,hb⟩;have D_:Below w22.heap.size w22 w23:=qh_ (Below.refl _ _) hb;replace HS5:=aK (SrAt.below HS5.out D_);replace H8_0_2:=aK (H8_0_2.out.below D_);have B23:=aK (qh_ B22.out D_);replace LB5:=aK (blk_lt HS5.out);clear D_ hb;clear z22_5_0 z22_5_1 z22_5_2)
     go_ret
     exact ⟨rfl,B23.out⟩
end Go.Proofs.Ytaiefdhenikiiaa.Base
namespace Go.Proofs.Ytaiefdhenikiiaa.PFnExactRepeatedBracket
open Go.RowKit Go.Proofs.YtaiefdhenikiiaaW.PrintWords Go.Proofs.YtaiefdhenikiiaaO Go.Proofs.Ytaiefdhenikiiaa.Base
set_option linter.unusedVariables false
/-- What is known of such a value that came in. -/
def ok73 (x:S73):Prop:=(Lit.int .i64 x.f0).wf=true∧(Lit.int .i64 x.f1).wf=true
theorem opens73:Opens Try.prog 73 k73 ok73:=opens_iso (fun x:S73=>(x.f0,x.f1)) (fun p=>⟨p.1,p.2⟩) (fun _=>rfl) (opens_two Try.underlying73 rfl rfl (by kernel_rfl) (opens_int Try.underlying2 (by kernel_rfl)) (opens_int Try.underlying2 (by kernel_rfl)))
/-- What is known of such a value that came in. -/
def ok75 (x:S75):Prop:=x.f0.size≤9223372036854775807∧ok73 x.f1
theorem opens75:Opens Try.prog 75 k75 ok75:=opens_iso (fun x:S75=>(x.f0,x.f1)) (fun p=>⟨p.1,p.2⟩) (fun _=>rfl) (opens_two Try.underlying75 rfl rfl (by kernel_rfl) (opens_string Try.underlying9 (by kernel_rfl)) opens73)
structure S32 where
  f0:Int
  f1:Int
  f2:(List S75)
def k32:Kd S32:=Kd.iso (Kd.pair (Kd.int .i64) (Kd.pair (Kd.int .i64) (Kd.slice 75 k75))) (fun x:S32=>(x.f0,x.f1,x.f2))
/-- What is known of such a value that came in. -/
def ok32 (x:S32):Prop:=(Lit.int .i64 x.f0).wf=true∧(Lit.int .i64 x.f1).wf=true∧(x.f2.length≤9223372036854775807∧∀ a_ ∈ x.f2,ok75 a_)
theorem opens32:Opens Try.prog 32 k32 ok32:=opens_iso (fun x:S32=>(x.f0,x.f1,x.f2)) (fun p=>⟨p.1,p.2.1,p.2.2⟩) (fun _=>rfl) (opens_three Try.underlying32 rfl rfl rfl (by kernel_rfl) (opens_int Try.underlying2 (by kernel_rfl)) (opens_int Try.underlying2 (by kernel_rfl)) (opens_slice Try.underlying22 (by kernel_rfl) opens75))
def qc1_.Pure:Prop:=∀ (s0:S32) (s1:S32) (a2:Int),ok32 s0→ok32 s1→(Lit.int .i64 a2).wf=true→∃ k,qc1_.f k s0.f0 s0.f1 s0.f2 s1.f0 s1.f1 s1.f2 a2=some true
end Go.Proofs.Ytaiefdhenikiiaa.PFnExactRepeatedBracket
namespace Go.Proofs.Ytaiefdhenikiiaa.Pure
open Go.RowKit Go.Proofs.Ytaiefdhenikiiaa.Base Go.Proofs.Ytaiefdhenikiiaa.PFnExactRepeatedBracket Go.Proofs.YtaiefdhenikiiaaW.PrintWords Go.Proofs.YtaiefdhenikiiaaW.PrintLast
set_option linter.unusedSimpArgs false
set_option linter.unusedVariables false
theorem markSer_from (d n:Int) (l:List S79) (hl:l.length≤2000000) (k0:Nat) (h:k0+3 * l.length≤100000000):∃ l',Ev (fun q=>qy1_.f q d n l (k0:Int)) (((k0+3 * l.length:Nat):Int),l'):=by
  obtain ⟨l',_,_,h3,_⟩:=marksT_ends l.length l.length 0 k0 l (by omega) rfl hl h
  refine ⟨l',?_⟩
  unfold qy1_.f
  exact Ev.bind (h:=(show Ev (fun q=>qj1_.f q l (k0:Int)) _ from h3)) (Ev.now _)
theorem FnExactRepeatedBracket:qc1_.Pure:=by
  intro s0 s1 a2 hok0 hok1 _
  obtain ⟨D0,N0,l0⟩:=s0
  obtain ⟨_,_,hn0,hw0⟩:=hok0
  obtain ⟨D1,N1,l1⟩:=s1
  obtain ⟨_,_,hn1,hw1⟩:=hok1
  simp only at hn0 hw0 hn1 hw1 ⊢
  unfold qc1_.f
  obtain ⟨v0,hs0,hv0,hz0⟩:=szS_is D0 N0 l0 hn0 (fun x hx=>(hw0 x hx).1) 1048576 (by omega) (by omega)
  refine Ev.rounds (Ev.bind hs0 ?_)
  by_cases c0:v0 < 0
  · simp only [c0,if_true];exact Ev.now _
  · simp only [c0,if_false]
    obtain ⟨v1,hs1,hv1,hz1⟩:=szS_is D1 N1 l1 hn1 (fun x hx=>(hw1 x hx).1) v0 (by omega) (by omega)
    refine Ev.bind hs1 ?_
    by_cases c1:v1 < 0
    · simp only [c1,if_true];exact Ev.now _
    · simp only [c1,if_false]
      have hm0:=hz0 (by omega)
      have hc0:=toSer_is D0 N0 l0 (by omega)
      have hX0:=arg_small l0 hm0
      obtain ⟨X0,hXe0⟩:∃ X,X=l0.map toX:=⟨_,rfl⟩
      rw [← hXe0] at hc0 hX0
      have hXl0:=hX0.1
      have hq0:=eqSer_id D0 N0 X0 (by omega)
      have hm1:=hz1 (by omega)
      have hc1:=toSer_is D1 N1 l1 (by omega)
      have hX1:=arg_small l1 hm1
      obtain ⟨X1,hXe1⟩:∃ X,X=l1.map toX:=⟨_,rfl⟩
      rw [← hXe1] at hc1 hX1
      have hXl1:=hX1.1
      have hq1:=eqSer_id D1 N1 X1 (by omega)
      have hlen:=repR_len D0 N0 X0 D1 N1 X1 a2
      obtain ⟨⟨R1,R2,R,C⟩,hR⟩:∃ q,q=repR D0 N0 X0 D1 N1 X1 a2:=⟨_,rfl⟩
      rw [← hR] at hlen
      have hI:qa2_.f D0 N0 X0 D1 N1 X1 a2=some (R1,R2,R,C):=by unfold qa2_.f;rw [if_pos ⟨hX0,hX1⟩,hR]
      have hS:ql2_.f D0 N0 X0 D1 N1 X1 a2=some (R1,R2,R,C):=by unfold ql2_.f;rw [if_pos ⟨hX0,hX1⟩,hR]
      have eR:=eqSer_id R1 R2 R hlen
      obtain ⟨R',mR,dR⟩:=marksSer_id R1 R2 R hlen
      obtain ⟨Y0,mX0⟩:=markSer_from D0 N0 X0 (by omega) (1) (by omega)
      obtain ⟨Y1,mX1⟩:=markSer_from D1 N1 X1 (by omega) (1+3 * X0.length) (by omega)
      refine Ev.bind hc0 ?_
      refine Ev.bind hc1 ?_
      simp only [hS,Option.bind_some]
      refine Ev.bind hc0 ?_
      refine Ev.bind hc1 ?_
      simp only [hI,Option.bind_some,if_true]
      refine Ev.bind eR ?_
      refine Ev.congr (fun _=>if_pos rfl) ?_
      refine Ev.bind hc0 (Ev.bind hq0 ?_)
      refine Ev.congr (fun _=>if_pos rfl) ?_
      refine Ev.bind hc1 (Ev.bind hq1 ?_)
      refine Ev.congr (fun _=>if_pos rfl) ?_
      refine Ev.bind mX0 ?_
      dsimp only
      refine Ev.congr (fun _=>if_pos (by omega)) ?_
      refine Ev.bind mX1 ?_
      dsimp only
      refine Ev.congr (fun _=>if_pos (by omega)) ?_
      refine Ev.bind eR ?_
      refine Ev.congr (fun _=>if_pos rfl) ?_
      refine Ev.bind mR ?_
      dsimp only
      refine Ev.congr (fun _=>if_pos (by omega)) ?_
      refine Ev.bind dR ?_
      refine Ev.congr (fun _=>if_pos ⟨by omega,rfl⟩) ?_
      refine Ev.bind hc0 ?_
      refine Ev.bind hc1 ?_
      simp only [hI,Option.bind_some,if_true]
      refine Ev.bind eR ?_
      refine Ev.congr (fun _=>if_pos rfl) ?_
      refine Ev.bind dR ?_
      refine Ev.congr (fun _=>if_pos ⟨by omega,rfl⟩) ?_
      exact Ev.now _
end Go.Proofs.Ytaiefdhenikiiaa.Pure
