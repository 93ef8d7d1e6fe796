/- Texts that the proof of FnExactDynkinMap needs, part 5. No condition. -/
import Derived.Test.YtaiefdhenikiiaaMFnExactDynkinMap4
import Derived.Lib.Walk
import Derived.Shelf.Abstract
namespace Go.Proofs.YtaiefdhenikiiaaC
open Go.RowKit Go.Proofs.YtaiefdhenikiiaaW.PrintWords Go.Proofs.YtaiefdhenikiiaaW.PrintLast Go.Proofs.YtaiefdhenikiiaaW.PrintMore
set_option linter.unusedVariables false
set_option linter.unusedSimpArgs false
/-- What a function value answers at element j,in whatever world over w;what lay,lies. -/
def Test (g:Nat) (lb:Array Value) (v:Nat→Value) (p:Nat→Bool) (n:Nat) (w:World):Prop :=
  ∀ j,j < n→∀ W,Below w.heap.size w W→Calls Try.prog g (#[v j] ++ lb) W fun e w'=>e=.returned (.bool (p j))∧Below W.heap.size W w'
/-- Are these numbers of letters? -/
def letters (d:Int):Bool:=decide (1≤d) && decide (d≤3)
end Go.Proofs.YtaiefdhenikiiaaC
namespace Go.Proofs.Ytaiefdhenikiiaa.Base
open Go.RowKit Go.Proofs.YtaiefdhenikiiaaW.PrintWords Go.Proofs.YtaiefdhenikiiaaW.PrintLast Go.Proofs.YtaiefdhenikiiaaW.PrintMore
attribute [local go_sem] max2_int qo1_ max_two min_two max_three min_three max_four min_four Go.Proofs.YtaiefdhenikiiaaZ.qx_   -- for this text's walks alone
set_option linter.unusedVariables false
set_option linter.unusedSimpArgs false
def qb1_.l0:Nat→ByteArray→Int→Option (Bool)
 | 0,_,_=>none
 | k+1,x0,x3=>if x3 < (x0.size:Int) then (if 0≤x3 then (if x3≤(x0.size:Int) then (if ((Op.bytesLess x0.toList ((x0.extract (x3:Int).toNat x0.size).toList))=true) then (qb1_.l0 k x0 (wrap64 (x3+1))) else (some false)) else (none)) else (none)) else (some (x0.toList != ([]:List UInt8)))
def qb1_.f (k:Nat) (a0:ByteArray):Option (Bool):=qb1_.l0 k a0 1
theorem qb1_.mono_l:∀ k,(∀ y0 y1,LeO (qb1_.l0 k y0 y1) (qb1_.l0 (k+1) y0 y1))
 | 0=>fun _ _ r h=>by simp [qb1_.l0] at h
 | k+1=>by
  have ih0:=qb1_.mono_l k
  ·intro y0 y1
   unfold qb1_.l0
   repeat' first
   | (with_reducible exact ih0 _ _)
   | (with_reducible exact LeO.refl _)
   | (with_reducible exact LeO.none _)
   | (with_reducible refine LeO.ite ?_ ?_)
   | (with_reducible refine LeO.bind ?_ (fun _=>?_))
   | exact ih0 _ _
   | exact LeO.none _
   | refine LeO.ite ?_ ?_
   | refine LeO.bind ?_ (fun _=>?_)
theorem qb1_.mono:∀ a0 k,LeO (qb1_.f k a0) (qb1_.f (k+1) a0):=by
 intro a0 k
 have ih0:=qb1_.mono_l k
 unfold qb1_.f
 repeat' first
   | (with_reducible exact ih0 _ _)
   | (with_reducible exact LeO.refl _)
   | (with_reducible exact LeO.none _)
   | (with_reducible refine LeO.ite ?_ ?_)
   | (with_reducible refine LeO.bind ?_ (fun _=>?_))
   | exact ih0 _ _
   | exact LeO.none _
   | refine LeO.ite ?_ ?_
   | refine LeO.bind ?_ (fun _=>?_)
set_option maxHeartbeats 8000000 in
set_option maxRecDepth 100000 in
theorem qb1_.calls (k:Nat) (a0:ByteArray) (r:Bool) (w:World) (h:qb1_.f k a0=some r) :
  Calls Try.prog 99 #[.string a0] w fun e w'=>e=.returned (.bool r)∧Drawn0 w w':=by
 have H:(qb1_.l0 k a0 1)=some r:=h
 clear h
 have H':=aK H
 clear H
 go_enter Try.func99,Try.ntmps99
 go_wp2
 go_loopg [3] k (fun kq v3 w'=>∃ (x3_1:Int),v3=.int .i64 x3_1∧Aside0 (qb1_.l0 kq a0 x3_1=some r)∧Aside0 (kq≤k)∧Drawn0 w w')
 case atStart=>exact ⟨(1),(by first|rfl|(simp;done)|(simp [*];done)),H',⟨Nat.le_refl _⟩,by repeat (first|exact Drawn0.refl _|apply Drawn0.step)⟩
 case round =>
  clear H'
  obtain ⟨x3_1,rfl,HA,HK1,⟨m1,rfl⟩⟩:=hrel
  cases gk with
  | zero=>exact absurd HA.out (by simp [qb1_.l0])
  | succ k1 =>
   have H:=HA.out
   clear HA
   simp only [qb1_.l0] at H
   by_cases c2:x3_1 < (a0.size:Int)
   ·rw [if_pos c2] at H
    have c2b0:decide (x3_1 < (a0.size:Int))=true:=decide_eq_true c2
    clear c2
    by_cases c3:0≤x3_1
    ·rw [if_pos c3] at H
     have c3b0:=eq_true c3
     have c3b1:decide (0≤x3_1)=true:=decide_eq_true c3
     clear c3
     by_cases c4:x3_1≤(a0.size:Int)
     ·rw [if_pos c4] at H
      have c4b0:=eq_true c4
      have c4b1:decide (x3_1≤(a0.size:Int))=true:=decide_eq_true c4
      clear c4
      by_cases c5:((Op.bytesLess a0.toList ((a0.extract (x3_1:Int).toNat a0.size).toList))=true)
      ·rw [if_pos c5] at H
       have c5b0:(Op.bytesLess a0.toList ((a0.extract (x3_1:Int).toNat a0.size).toList))=true:=c5
       have c5b0x:(Op.bytesLess ((a0.extract (x3_1:Int).toNat a0.size).toList) a0.toList || ((a0.extract (x3_1:Int).toNat a0.size).toList) == a0.toList)=false:=Go.Proofs.YtaiefdhenikiiaaZ.less_yes c5b0
       clear c5
       have H':=aK H
       clear H
       go_wp2
       go_roundg k1
       case measure=>have:=HK1.out;omega
       case rel=>exact ⟨(wrap64 (x3_1+1)),(by first|rfl|(simp;done)|(simp [*];done)),H',⟨by have:=HK1.out;omega⟩,by repeat (first|exact Drawn0.refl _|apply Drawn0.step)⟩
      ·rw [if_neg c5] at H
       have c5b0:(Op.bytesLess a0.toList ((a0.extract (x3_1:Int).toNat a0.size).toList))=false:=by simpa using c5
       have c5b0x:(Op.bytesLess ((a0.extract (x3_1:Int).toNat a0.size).toList) a0.toList || ((a0.extract (x3_1:Int).toNat a0.size).toList) == a0.toList)=true:=Go.Proofs.YtaiefdhenikiiaaZ.less_no c5b0
       clear c5
       obtain rfl:=Option.some.inj H
       go_wp2
       go_ret
       exact ⟨by first|rfl|(simp;done)|(simp [*];done)|(simp [Go.Proofs.YtaiefdhenikiiaaZ.bne_nil];done),by repeat (first|exact Drawn0.refl _|apply Drawn0.step)⟩
     ·rw [if_neg c4] at H
      exact absurd H (by simp)
    ·rw [if_neg c3] at H
     exact absurd H (by simp)
   ·rw [if_neg c2] at H
    have c2b0:decide (x3_1 < (a0.size:Int))=false:=decide_eq_false c2
    clear c2
    obtain rfl:=Option.some.inj H
    go_wp2
    go_ret
    exact ⟨by first|rfl|(simp;done)|(simp [*];done)|(simp [Go.Proofs.YtaiefdhenikiiaaZ.bne_nil];done),by repeat (first|exact Drawn0.refl _|apply Drawn0.step)⟩
end Go.Proofs.Ytaiefdhenikiiaa.Base
namespace Go.Proofs.Ytaiefdhenikiiaa.Base
open Go.RowKit Go.Proofs.YtaiefdhenikiiaaW.PrintWords Go.Proofs.YtaiefdhenikiiaaW.PrintLast Go.Proofs.YtaiefdhenikiiaaW.PrintMore
attribute [local go_sem] max2_int qo1_ max_two min_two max_three min_three max_four min_four Go.Proofs.YtaiefdhenikiiaaZ.qx_   -- for this text's walks alone
set_option linter.unusedVariables false
set_option linter.unusedSimpArgs false
def qi3_.f (a0:Int):Option (ByteArray):=some (strOfNums (([(48+((a0) % 256)) % 256]:List Int)))
set_option maxHeartbeats 8000000 in
set_option maxRecDepth 100000 in
theorem qi3_.calls (a0:Int) (r:ByteArray) (w:World) (h:qi3_.f a0=some r) :
  Calls Try.prog 225 #[.int .i64 a0] w fun e w'=>e=.returned (.string r)∧Below w.heap.size w w':=by
 have HB:=aK (Below.refl w.heap.size w)
 have H:(some (strOfNums (([(48+((a0) % 256)) % 256]:List Int))))=some r:=h
 clear h
 obtain ⟨y370,hy370⟩:∃ y_:List Int,y_=(([(48+((a0) % 256)) % 256]:List Int)):=⟨_,rfl⟩
 replace H:(some (strOfNums y370))=some r:=by first|(rw [hy370];with_reducible exact H)|(have H2_:=(Option.bind_some _ _).symm.trans H;rw [hy370];with_reducible exact H2_)|(have H2_:=(Option.bind_some _ _).symm.trans H;with_reducible exact H2_)|with_reducible exact H|(rw [hy370];exact H)|exact H
 have Ny370:=aK hy370
 clear hy370
 obtain rfl:=Option.some.inj H
 go_enter Try.func225,Try.ntmps225
 go_wp2_with (first|((with_reducible refine qu_ (N:=6) rfl ?_);refine Kd.R_lit (Kd.int .u8) _ 5 ?hg (N:=6) ?hd (xs:=([(48+((a0) % 256)) % 256]:List Int)) (inner:=[.int .u8 ((48+((a0) % 256)) % 256)]) (ok:=fun _=>True) (okp:=fun _=>True) ?hr ?hp (fun _ hk=>hk) trivial (Below.refl _ _) (Nat.le_refl _) (by simp) ?_;(case hd=>rfl);(case hg=>rfl);(case hr=>first|(go_simp;done)|(go_simp;rfl));(case hp=>exact (Reps.one (show Kd.M (Kd.int .u8) _ _ _ ((48+((a0) % 256)) % 256) [.int .u8 ((48+((a0) % 256)) % 256)] from rfl) (Reps.none _ _)));intro v371 w2 ho3 hb hg_ hnew_;clear hg_ hnew_;(first|rw [← Ny370.out] at ho3|(simp only [Int.reduceToNat] at ho3;rw [← Ny370.out] at ho3));have n0_:=aK (Kd.qn2_ ho3 (qk_ (by repeat (first|(with_reducible first|exact HB.out|apply qb_|apply qa_|apply qc_)|exact HB.out))));have n1_:=aK (qj_ (by repeat (first|(with_reducible first|exact HB.out|apply qb_|apply qa_|apply qc_)|exact HB.out)) hb);clear HB;have HO372:=n0_;have HB:=n1_;clear n0_ n1_;clear hb ho3;have hcv4:=own_string (P:=Try.prog) Try.underlying140 Try.underlying5 Try.underlying9 (Kd.own_of_R HO372.out)))
 go_ret
 exact ⟨by first|rfl|(simp [qo_,qn_] <;> rfl)|(simp [*,qo_,qn_] <;> rfl),by repeat (first|(with_reducible first|exact HB.out|apply qb_|apply qa_|apply qc_)|exact HB.out)⟩
end Go.Proofs.Ytaiefdhenikiiaa.Base
namespace Go.Proofs.Ytaiefdhenikiiaa.Base
open Go.RowKit Go.Proofs.YtaiefdhenikiiaaW.PrintWords Go.Proofs.YtaiefdhenikiiaaW.PrintLast Go.Proofs.YtaiefdhenikiiaaW.PrintMore
attribute [local go_sem] max2_int qo1_ max_two min_two max_three min_three max_four min_four Go.Proofs.YtaiefdhenikiiaaZ.qx_   -- for this text's walks alone
set_option linter.unusedVariables false
set_option linter.unusedSimpArgs false
mutual
def qy_.l0:Nat→Int→List ByteArray→Int→Int→Option (List ByteArray)
 | 0,_,_,_,_=>none
 | k+1,x0,x5,x11,x12=>if x12 < x11 then (qy_.l1 k x0 ([]:List ByteArray) x11 x12 x5 (x5.length:Int) 0) else (some x5)
def qy_.l1:Nat→Int→List ByteArray→Int→Int→List ByteArray→Int→Int→Option (List ByteArray)
 | 0,_,_,_,_,_,_,_=>none
 | k+1,x0,x6,x11,x12,x14,x15,x16=>if x16 < x15 then (if 0≤x16 then (if x16 < (x14.length:Int) then (qy_.l2 k x0 x6 (rdOf ByteArray.empty x14 x16) x11 x12 x14 x15 x16 x0 0) else (none)) else (none)) else (qy_.l0 k x0 x6 x11 (wrap64 (x12+1)))
def qy_.l2:Nat→Int→List ByteArray→ByteArray→Int→Int→List ByteArray→Int→Int→Int→Int→Option (List ByteArray)
 | 0,_,_,_,_,_,_,_,_,_,_=>none
 | k+1,x0,x6,x8,x11,x12,x14,x15,x16,x20,x21=>if x21 < x20 then ((qi3_.f x21).bind fun t377=>(if x8.size+t377.size≤9223372036854775807 then (if x6.length < 8796093022208 then (qy_.l2 k x0 (x6 ++ [x8 ++ t377]) x8 x11 x12 x14 x15 x16 x20 (wrap64 (x21+1))) else (none)) else (none))) else (qy_.l1 k x0 x6 x11 x12 x14 x15 (wrap64 (x16+1)))
end
def qy_.f (k:Nat) (a0:Int) (a1:Int):Option (List ByteArray):=qy_.l0 k a0 (([(⟨#[]⟩:ByteArray)]:List ByteArray)) a1 0
theorem qy_.mono_l:∀ k,(∀ y0 y1 y2 y3,LeO (qy_.l0 k y0 y1 y2 y3) (qy_.l0 (k+1) y0 y1 y2 y3))∧(∀ y0 y1 y2 y3 y4 y5 y6,LeO (qy_.l1 k y0 y1 y2 y3 y4 y5 y6) (qy_.l1 (k+1) y0 y1 y2 y3 y4 y5 y6))∧(∀ y0 y1 y2 y3 y4 y5 y6 y7 y8 y9,LeO (qy_.l2 k y0 y1 y2 y3 y4 y5 y6 y7 y8 y9) (qy_.l2 (k+1) y0 y1 y2 y3 y4 y5 y6 y7 y8 y9))
 | 0=>⟨fun _ _ _ _ r h=>by simp [qy_.l0] at h,fun _ _ _ _ _ _ _ r h=>by simp [qy_.l1] at h,fun _ _ _ _ _ _ _ _ _ _ r h=>by simp [qy_.l2] at h⟩
 | k+1=>by
  obtain ⟨ih0,ih1,ih2⟩:=qy_.mono_l k
  refine ⟨?_,?_,?_⟩
  ·intro y0 y1 y2 y3
   unfold qy_.l0
   repeat' first
   | (with_reducible exact ih0 _ _ _ _)
   | (with_reducible exact ih1 _ _ _ _ _ _ _)
   | (with_reducible exact ih2 _ _ _ _ _ _ _ _ _ _)
   | (with_reducible exact LeO.refl _)
   | (with_reducible exact LeO.none _)
   | (with_reducible refine LeO.ite ?_ ?_)
   | (with_reducible refine LeO.bind ?_ (fun _=>?_))
   | exact ih0 _ _ _ _
   | exact ih1 _ _ _ _ _ _ _
   | exact ih2 _ _ _ _ _ _ _ _ _ _
   | exact LeO.none _
   | refine LeO.ite ?_ ?_
   | refine LeO.bind ?_ (fun _=>?_)
  ·intro y0 y1 y2 y3 y4 y5 y6
   unfold qy_.l1
   repeat' first
   | (with_reducible exact ih0 _ _ _ _)
   | (with_reducible exact ih1 _ _ _ _ _ _ _)
   | (with_reducible exact ih2 _ _ _ _ _ _ _ _ _ _)
   | (with_reducible exact LeO.refl _)
   | (with_reducible exact LeO.none _)
   | (with_reducible refine LeO.ite ?_ ?_)
   | (with_reducible refine LeO.bind ?_ (fun _=>?_))
   | exact ih0 _ _ _ _
   | exact ih1 _ _ _ _ _ _ _
   | exact ih2 _ _ _ _ _ _ _ _ _ _
   | exact LeO.none _
   | refine LeO.ite ?_ ?_
   | refine LeO.bind ?_ (fun _=>?_)
  ·intro y0 y1 y2 y3 y4 y5 y6 y7 y8 y9
   unfold qy_.l2
   repeat' first
   | (with_reducible exact ih0 _ _ _ _)
   | (with_reducible exact ih1 _ _ _ _ _ _ _)
   | (with_reducible exact ih2 _ _ _ _ _ _ _ _ _ _)
   | (with_reducible exact LeO.refl _)
   | (with_reducible exact LeO.none _)
   | (with_reducible refine LeO.ite ?_ ?_)
   | (with_reducible refine LeO.bind ?_ (fun _=>?_))
   | exact ih0 _ _ _ _
   | exact ih1 _ _ _ _ _ _ _
   | exact ih2 _ _ _ _ _ _ _ _ _ _
   | exact LeO.none _
   | refine LeO.ite ?_ ?_
   | refine LeO.bind ?_ (fun _=>?_)
theorem qy_.mono:∀ a0 a1 k,LeO (qy_.f k a0 a1) (qy_.f (k+1) a0 a1):=by
 intro a0 a1 k
 obtain ⟨ih0,ih1,ih2⟩:=qy_.mono_l k
 unfold qy_.f
 repeat' first
   | (with_reducible exact ih0 _ _ _ _)
   | (with_reducible exact ih1 _ _ _ _ _ _ _)
   | (with_reducible exact ih2 _ _ _ _ _ _ _ _ _ _)
   | (with_reducible exact LeO.refl _)
   | (with_reducible exact LeO.none _)
   | (with_reducible refine LeO.ite ?_ ?_)
   | (with_reducible refine LeO.bind ?_ (fun _=>?_))
   | exact ih0 _ _ _ _
   | exact ih1 _ _ _ _ _ _ _
   | exact ih2 _ _ _ _ _ _ _ _ _ _
   | exact LeO.none _
   | refine LeO.ite ?_ ?_
   | refine LeO.bind ?_ (fun _=>?_)
set_option maxHeartbeats 8000000 in
set_option maxRecDepth 100000 in
theorem qy_.calls (k:Nat) (a0:Int) (a1:Int) (r:List ByteArray) (w:World) (h:qy_.f k a0 a1=some r) :
  Calls Try.prog 215 #[.int .i64 a0,.int .i64 a1] w fun e w'=>∃ v0_:Value,e=.returned (v0_)∧Kd.R Kd.string 9 w' w.heap.size (fun _=>True) v0_ r∧Below w.heap.size w w':=by
 have HB:=aK (Below.refl w.heap.size w)
 have H:(qy_.l0 k a0 (([(⟨#[]⟩:ByteArray)]:List ByteArray)) a1 0)=some r:=h
 clear h
 obtain ⟨y373,hy373⟩:∃ y_:List ByteArray,y_=(([(⟨#[]⟩:ByteArray)]:List ByteArray)):=⟨_,rfl⟩
 replace H:(qy_.l0 k a0 y373 a1 0)=some r:=by first|(rw [hy373];with_reducible exact H)|(have H2_:=(Option.bind_some _ _).symm.trans H;rw [hy373];with_reducible exact H2_)|(have H2_:=(Option.bind_some _ _).symm.trans H;with_reducible exact H2_)|with_reducible exact H|(rw [hy373];exact H)|exact H
 have Ny373:=aK hy373
 clear hy373
 have H':=aK H
 clear H
 go_enter Try.func215,Try.ntmps215
 go_wp2_with (first|((with_reducible refine qu_ (N:=10) rfl ?_);refine Kd.R_lit Kd.string _ 9 ?hg (N:=10) ?hd (xs:=([(⟨#[]⟩:ByteArray)]:List ByteArray)) (inner:=[.string (⟨#[]⟩:ByteArray)]) (ok:=fun _=>True) (okp:=fun _=>True) ?hr ?hp (fun _ hk=>hk) trivial (Below.refl _ _) (Nat.le_refl _) (by simp) ?_;(case hd=>rfl);(case hg=>rfl);(case hr=>first|(go_simp;done)|(go_simp;rfl));(case hp=>exact (Reps.one (show Kd.M Kd.string _ _ _ (⟨#[]⟩:ByteArray) [.string (⟨#[]⟩:ByteArray)] from rfl) (Reps.none _ _)));intro v374 w3 ho4 hb hg_ hnew_;clear hg_ hnew_;(first|rw [← Ny373.out] at ho4|(simp only [Int.reduceToNat] at ho4;rw [← Ny373.out] at ho4));have n0_:=aK (Kd.qn2_ ho4 (qk_ (by repeat (first|(with_reducible first|exact HB.out|apply qb_|apply qa_|apply qc_)|exact HB.out))));have n1_:=aK (qj_ (by repeat (first|(with_reducible first|exact HB.out|apply qb_|apply qa_|apply qc_)|exact HB.out)) hb);clear HB;have HO375:=n0_;have HB:=n1_;clear n0_ n1_;clear hb ho4))
 go_loopg [5,12] k (fun kq v5 v12 w'=>∃ (x5_1:List ByteArray) (x12_1:Int),v12=.int .i64 x12_1∧Aside0 (qy_.l0 kq a0 x5_1 a1 x12_1=some r)∧Aside0 (kq≤k)∧Aside0 (Kd.R Kd.string 9 w' w.heap.size (fun _=>True) v5 x5_1)∧Aside0 (Below w.heap.size w w'))
 case atStart=>exact ⟨(y373),(0),(by first|rfl|(simp;done)|(simp [*];done)),H',⟨Nat.le_refl _⟩,⟨by (with_reducible repeat (first|apply Kd.qp1_|apply Kd.qu1_|apply Kd.R_drew));exact HO375.out⟩,⟨by repeat (first|(with_reducible first|exact HB.out|apply qb_|apply qa_|apply qc_)|exact HB.out)⟩⟩
 case round =>
  clear H'
  try clear c2
  try clear p2
  obtain ⟨x5_1,x12_1,rfl,HA,HK1,HO_5,HB⟩:=hrel
  cases gk with
  | zero=>exact absurd HA.out (by simp [qy_.l0])
  | succ k1 =>
   have H:=HA.out
   clear HA
   simp only [qy_.l0] at H
   by_cases c5:x12_1 < a1
   ·rw [if_pos c5] at H
    have c5b0:decide (x12_1 < a1)=true:=decide_eq_true c5
    clear c5
    have H':=aK H
    clear H
    obtain ⟨Ao6,co6,eo6⟩:=Kd.qf2_ HO_5.out
    subst eo6
    go_wp2
    go_loopg [6,16] k1 (fun kq v6 v16 w'=>∃ (x6_2:List ByteArray) (x16_2:Int),v16=.int .i64 x16_2∧Aside0 (qy_.l1 kq a0 x6_2 a1 x12_1 x5_1 (x5_1.length:Int) x16_2=some r)∧Aside0 (kq≤k1)∧Aside0 (Kd.R Kd.string 9 w' w.heap.size (fun k_=>some k_ ≠ ((.slice Ao6 x5_1.length co6):Value).ownBlock) v6 x6_2)∧Aside0 (Kd.R Kd.string 9 w' w.heap.size (fun k_=>some k_ ≠ (v6:Value).ownBlock) (.slice Ao6 x5_1.length co6) x5_1)∧Aside0 (Below w.heap.size w w'))
    case atStart=>exact ⟨(([]:List ByteArray)),(0),(by first|rfl|(simp;done)|(simp [*];done)),H',⟨Nat.le_refl _⟩,⟨by first|exact Kd.R_nil _ _ _ _ _|exact Kd.N_nil _ _ _ _ _|exact Kd.V_nil _ _ _ _ _|exact Kd.Q_nil _ _ _ _ _|exact Kd.S_nil _ _ _ _ _⟩,⟨by (with_reducible repeat (first|apply Kd.qp1_|apply Kd.qu1_|apply Kd.R_drew));exact Kd.R_mono HO_5.out (fun _ hk=>(by simp [Value.ownBlock]))⟩,⟨by repeat (first|(with_reducible first|exact HB.out|apply qb_|apply qa_|apply qc_)|exact HB.out)⟩⟩
    case round =>
     clear H'
     try clear c2
     try clear p2
     try clear c5
     try clear c5b0
     try clear p2
     obtain ⟨x6_2,x16_2,rfl,HA,HK2,HO_6,HO_14,HB⟩:=hrel
     cases gk with
     | zero=>exact absurd HA.out (by simp [qy_.l1])
     | succ k2 =>
      have H:=HA.out
      clear HA
      simp only [qy_.l1] at H
      by_cases c7:x16_2 < (x5_1.length:Int)
      ·rw [if_pos c7] at H
       have c7b0:decide (x16_2 < (x5_1.length:Int))=true:=decide_eq_true c7
       clear c7
       by_cases c8:0≤x16_2
       ·rw [if_pos c8] at H
        have c8b0:decide (0≤x16_2)=true:=decide_eq_true c8
        clear c8
        by_cases c9:x16_2 < (x5_1.length:Int)
        ·rw [if_pos c9] at H
         have c9b0:decide (x16_2 < (x5_1.length:Int))=true:=decide_eq_true c9
         clear c9
         have H':=aK H
         clear H
         have p376:0≤(x16_2:Int):=of_decide_eq_true (by first|(with_reducible assumption)|assumption)
         have q376:x16_2 < (x5_1.length:Int):=of_decide_eq_true (by first|(with_reducible assumption)|assumption)
         obtain ⟨ad376,e376,hx376_0⟩:=Kd.at_string (Kd.qg3_ HO_14.out).2.2 x16_2 p376 q376
         cases e376
         replace p376:=eq_true p376
         replace q376:=eq_true q376
         go_wp2
         go_loopg [6,21] k2 (fun kq v6 v21 w'=>∃ (x6_3:List ByteArray) (x21_3:Int),v21=.int .i64 x21_3∧Aside0 (qy_.l2 kq a0 x6_3 (rdOf ByteArray.empty x5_1 x16_2) a1 x12_1 x5_1 (x5_1.length:Int) x16_2 a0 x21_3=some r)∧Aside0 (kq≤k2)∧Aside0 (Kd.R Kd.string 9 w' w.heap.size (fun k_=>some k_ ≠ ((.slice (some ad376) x5_1.length co6):Value).ownBlock) v6 x6_3)∧Aside0 (Kd.R Kd.string 9 w' w.heap.size (fun k_=>some k_ ≠ (v6:Value).ownBlock) (.slice (some ad376) x5_1.length co6) x5_1)∧Aside0 (Below w.heap.size w w'))
         case atStart=>exact ⟨(x6_2),(0),(by first|rfl|(simp;done)|(simp [*];done)),H',⟨Nat.le_refl _⟩,⟨by (with_reducible repeat (first|apply Kd.qp1_|apply Kd.qu1_|apply Kd.R_drew));exact HO_6.out⟩,⟨by (with_reducible repeat (first|apply Kd.qp1_|apply Kd.qu1_|apply Kd.R_drew));exact HO_14.out⟩,⟨by repeat (first|(with_reducible first|exact HB.out|apply qb_|apply qa_|apply qc_)|exact HB.out)⟩⟩
         case round =>
          clear H'
          try clear c2
          try clear p2
          try clear p3
          try clear q3
          try clear hx3
          try clear c5
          try clear c5b0
          try clear c7
          try clear c7b0
          try clear c8
          try clear c8b0
          try clear c9
          try clear c9b0
          try clear hx376_0
          try clear p2
          try clear p376
          try clear q376
          obtain ⟨x6_3,x21_3,rfl,HA,HK3,HO_6,HO_14,HB⟩:=hrel
          cases gk with
          | zero=>exact absurd HA.out (by simp [qy_.l2])
          | succ k3 =>
           have H:=HA.out
           clear HA
           simp only [qy_.l2] at H
           by_cases c10:x21_3 < a0
           ·rw [if_pos c10] at H
            have c10b0:decide (x21_3 < a0)=true:=decide_eq_true c10
            clear c10
            replace H:=Option.bind_eq_some_iff.mp H
            obtain ⟨t377,A110,H⟩:=H
            replace H:(if (rdOf ByteArray.empty x5_1 x16_2).size+t377.size≤9223372036854775807 then (if x6_3.length < 8796093022208 then (qy_.l2 k3 a0 (x6_3 ++ [(rdOf ByteArray.empty x5_1 x16_2) ++ t377]) (rdOf ByteArray.empty x5_1 x16_2) a1 x12_1 x5_1 (x5_1.length:Int) x16_2 a0 (wrap64 (x21_3+1))) else (none)) else (none))=some r:=H
            have A11:=aK A110
            clear A110
            by_cases c12:(rdOf ByteArray.empty x5_1 x16_2).size+t377.size≤9223372036854775807
            ·rw [if_pos c12] at H
             have c12b0:=eq_true c12
             have c12b1:decide ((rdOf ByteArray.empty x5_1 x16_2).size+t377.size≤9223372036854775807)=true:=decide_eq_true c12
             try have c12b2:(9223372036854775807 < (rdOf ByteArray.empty x5_1 x16_2).size+t377.size)=False:=eq_false (Nat.not_lt.2 c12)
             by_cases c13:x6_3.length < 8796093022208
             ·rw [if_pos c13] at H
              have LMc13:=aK c13
              clear c13
              obtain ⟨y378,hy378⟩:∃ y_:List ByteArray,y_=(x6_3 ++ [(rdOf ByteArray.empty x5_1 x16_2) ++ t377]):=⟨_,rfl⟩
              replace H:(qy_.l2 k3 a0 y378 (rdOf ByteArray.empty x5_1 x16_2) a1 x12_1 x5_1 (x5_1.length:Int) x16_2 a0 (wrap64 (x21_3+1)))=some r:=by first|(rw [hy378];with_reducible exact H)|(have H2_:=(Option.bind_some _ _).symm.trans H;rw [hy378];with_reducible exact H2_)|(have H2_:=(Option.bind_some _ _).symm.trans H;with_reducible exact H2_)|with_reducible exact H|(rw [hy378];exact H)|exact H
              have Ny378:=aK hy378
              clear hy378
              have H':=aK H
              clear H
              go_wp2_with (first|((with_reducible refine qa1_ (f:=225) rfl ?_);refine goesL_ (some 27) rfl rfl Try.func225 (by kernel_rfl) rfl #[.int .i64 x21_3] rfl (by (try simp only [List.map_toArray,List.map_cons,List.map_nil]);first|done|rfl|(simp only [List.length_drop,List.length_take];rfl)) ?_;(with_reducible refine (qi3_.calls x21_3 t377 _ A11.out).mono ?_);rintro e w14 ⟨rfl,hb⟩;refine ⟨_,rfl,?_⟩;have n0_:=aK (Kd.qm2_ (by (with_reducible repeat (first|apply Kd.qp1_|apply Kd.qu1_|apply Kd.R_drew));exact HO_6.out) hb);have n1_:=aK (Kd.qm2_ (by (with_reducible repeat (first|apply Kd.qp1_|apply Kd.qu1_|apply Kd.R_drew));exact HO_14.out) hb);have n2_:=aK (qj_ (by repeat (first|(with_reducible first|exact HB.out|apply qb_|apply qa_|apply qc_)|exact HB.out)) hb);clear HO_6;clear HO_14;clear HB;have HO_6:=n0_;have HO_14:=n1_;have HB:=n2_;clear n0_ n1_ n2_;(try clear hb);(try clear hb2);(try clear hk);(try clear hi))|((with_reducible refine qi2_ (b:=.append) (xs:=#[.tmp 24,.tmp 29]) rfl ?_);at_builtin;refine Kd.R_append Kd.string (w0:=w) w.heap.size rfl (.tmp 24) (.tmp 29) 156 9 (.string ⟨#[]⟩) 16 rfl Try.underlying156 info9 rfl (by decide) (by omega) u6 x6_3 ((rdOf ByteArray.empty x5_1 x16_2) ++ t377) [.string ((rdOf ByteArray.empty x5_1 x16_2) ++ t377)] (fun k_=>some k_ ≠ (.slice (some ad376) x5_1.length co6:Value).ownBlock) (fun _=>False) rfl rfl ?aP (fun _ hk=>hk.elim) ?aF ?aO ?aB ?aS ?aL ?_;(case aP=>exact rfl);(case aB=>exact (by repeat (first|(with_reducible first|exact HB.out|apply qb_|apply qa_|apply qc_)|exact HB.out)));(case aF=>exact (fun k_ hk=>Kd.fresh' (Kd.R_lt (by (with_reducible repeat (first|apply Kd.qp1_|apply Kd.qu1_|apply Kd.R_drew));exact HO_14.out)) k_ hk));(case aO=>exact (by (with_reducible repeat (first|apply Kd.qp1_|apply Kd.qu1_|apply Kd.R_drew));exact HO_6.out));(case aS=>exact (qk_ (by repeat (first|(with_reducible first|exact HB.out|apply qb_|apply qa_|apply qc_)|exact HB.out))));(case aL=>have:=LMc13.out;omega);intro v379 w15 ho hb hg hat;rw [← Ny378.out] at ho;have n0_:=aK (Kd.R_after (ok:=(fun _=>True)) (by (with_reducible repeat (first|apply Kd.qp1_|apply Kd.qu1_|apply Kd.R_drew));exact Kd.R_mono HO_14.out (fun _ hk=>⟨trivial,hk⟩)) hg hat);have n1_:=aK (hb);have n2_:=aK (ho);clear HO_14;clear HB;clear HO_6;have HO_14:=n0_;have HB:=n1_;have HO380:=n2_;clear n0_ n1_ n2_;clear ho hb hg hat))
              go_roundg k3
              case measure=>have:=HK1.out;have:=HK2.out;have:=HK3.out;omega
              case rel=>exact ⟨(y378),(wrap64 (x21_3+1)),(by first|rfl|(simp;done)|(simp [*];done)),H',⟨by have:=HK1.out;have:=HK2.out;have:=HK3.out;omega⟩,⟨by (with_reducible repeat (first|apply Kd.qp1_|apply Kd.qu1_|apply Kd.R_drew));exact HO380.out⟩,⟨by (with_reducible repeat (first|apply Kd.qp1_|apply Kd.qu1_|apply Kd.R_drew));exact Kd.R_mono HO_14.out (fun _ hk=>hk.2)⟩,⟨by repeat (first|(with_reducible first|exact HB.out|apply qb_|apply qa_|apply qc_)|exact HB.out)⟩⟩
             ·rw [if_neg c13] at H
              exact absurd H (by simp)
            ·rw [if_neg c12] at H
             exact absurd H (by simp)
           ·rw [if_neg c10] at H
            have c10b0:decide (x21_3 < a0)=false:=decide_eq_false c10
            clear c10
            have H':=aK H
            clear H
            go_wp2
            go_roundg k3
            case measure=>have:=HK1.out;have:=HK2.out;have:=HK3.out;omega
            case rel=>exact ⟨(x6_3),(wrap64 (x16_2+1)),(by first|rfl|(simp;done)|(simp [*];done)),H',⟨by have:=HK1.out;have:=HK2.out;have:=HK3.out;omega⟩,⟨by (with_reducible repeat (first|apply Kd.qp1_|apply Kd.qu1_|apply Kd.R_drew));exact HO_6.out⟩,⟨by (with_reducible repeat (first|apply Kd.qp1_|apply Kd.qu1_|apply Kd.R_drew));exact HO_14.out⟩,⟨by repeat (first|(with_reducible first|exact HB.out|apply qb_|apply qa_|apply qc_)|exact HB.out)⟩⟩
        ·rw [if_neg c9] at H
         exact absurd H (by simp)
       ·rw [if_neg c8] at H
        exact absurd H (by simp)
      ·rw [if_neg c7] at H
       have c7b0:decide (x16_2 < (x5_1.length:Int))=false:=decide_eq_false c7
       clear c7
       have H':=aK H
       clear H
       go_wp2
       go_roundg k2
       case measure=>have:=HK1.out;have:=HK2.out;omega
       case rel=>exact ⟨(x6_2),(wrap64 (x12_1+1)),(by first|rfl|(simp;done)|(simp [*];done)),H',⟨by have:=HK1.out;have:=HK2.out;omega⟩,⟨by (with_reducible repeat (first|apply Kd.qp1_|apply Kd.qu1_|apply Kd.R_drew));exact Kd.R_mono HO_6.out (fun _ hk=>trivial)⟩,⟨by repeat (first|(with_reducible first|exact HB.out|apply qb_|apply qa_|apply qc_)|exact HB.out)⟩⟩
   ·rw [if_neg c5] at H
    have c5b0:decide (x12_1 < a1)=false:=decide_eq_false c5
    clear c5
    obtain rfl:=Option.some.inj H
    go_wp2
    go_ret
    exact ⟨_,by first|rfl|(simp [qo_,qn_] <;> rfl)|(simp [*,qo_,qn_] <;> rfl),by (with_reducible repeat (first|apply Kd.qp1_|apply Kd.qu1_|apply Kd.R_drew));exact HO_5.out,by repeat (first|(with_reducible first|exact HB.out|apply qb_|apply qa_|apply qc_)|exact HB.out)⟩
end Go.Proofs.Ytaiefdhenikiiaa.Base
namespace Go.Proofs.Ytaiefdhenikiiaa.Base
open Go.RowKit Go.Proofs.YtaiefdhenikiiaaW.PrintWords Go.Proofs.YtaiefdhenikiiaaW.PrintLast Go.Proofs.YtaiefdhenikiiaaW.PrintMore
attribute [local go_sem] max2_int qo1_ max_two min_two max_three min_three max_four min_four Go.Proofs.YtaiefdhenikiiaaZ.qx_   -- for this text's walks alone
set_option linter.unusedVariables false
set_option linter.unusedSimpArgs false
def qn1_.l0:Nat→Int→List ByteArray→Int→Int→Option (List ByteArray)
 | 0,_,_,_,_=>none
 | k+1,x0,x5,x8,x9=>if x9 < x8 then ((qy_.f k x0 x9).bind fun t381=>(if x5.length+t381.length < 8796093022208 then (qn1_.l0 k x0 (x5 ++ t381) x8 (wrap64 (x9+1))) else (none))) else (some x5)
def qn1_.f (k:Nat) (a0:Int) (a1:Int):Option (List ByteArray):=qn1_.l0 k a0 ([]:List ByteArray) (wrap64 (a1+1)) 0
theorem qn1_.mono_l:∀ k,(∀ y0 y1 y2 y3,LeO (qn1_.l0 k y0 y1 y2 y3) (qn1_.l0 (k+1) y0 y1 y2 y3))
 | 0=>fun _ _ _ _ r h=>by simp [qn1_.l0] at h
 | k+1=>by
  have ih0:=qn1_.mono_l k
  ·intro y0 y1 y2 y3
   unfold qn1_.l0
   repeat' first
   | (with_reducible exact ih0 _ _ _ _)
   | (with_reducible exact qy_.mono _ _ _)
   | (with_reducible exact LeO.refl _)
   | (with_reducible exact LeO.none _)
   | (with_reducible refine LeO.ite ?_ ?_)
   | (with_reducible refine LeO.bind ?_ (fun _=>?_))
   | exact ih0 _ _ _ _
   | exact qy_.mono _ _ _
   | exact LeO.none _
   | refine LeO.ite ?_ ?_
   | refine LeO.bind ?_ (fun _=>?_)
theorem qn1_.mono:∀ a0 a1 k,LeO (qn1_.f k a0 a1) (qn1_.f (k+1) a0 a1):=by
 intro a0 a1 k
 have ih0:=qn1_.mono_l k
 unfold qn1_.f
 repeat' first
   | (with_reducible exact ih0 _ _ _ _)
   | (with_reducible exact qy_.mono _ _ _)
   | (with_reducible exact LeO.refl _)
   | (with_reducible exact LeO.none _)
   | (with_reducible refine LeO.ite ?_ ?_)
   | (with_reducible refine LeO.bind ?_ (fun _=>?_))
   | exact ih0 _ _ _ _
   | exact qy_.mono _ _ _
   | exact LeO.none _
   | refine LeO.ite ?_ ?_
   | refine LeO.bind ?_ (fun _=>?_)
set_option maxHeartbeats 8000000 in
set_option maxRecDepth 100000 in
theorem qn1_.calls (k:Nat) (a0:Int) (a1:Int) (r:List ByteArray) (w:World) (h:qn1_.f k a0 a1=some r) :
  Calls Try.prog 175 #[.int .i64 a0,.int .i64 a1] w fun e w'=>∃ v0_:Value,e=.returned (v0_)∧Kd.R Kd.string 9 w' w.heap.size (fun _=>True) v0_ r∧Below w.heap.size w w':=by
 have HB:=aK (Below.refl w.heap.size w)
 have H:(qn1_.l0 k a0 ([]:List ByteArray) (wrap64 (a1+1)) 0)=some r:=h
 clear h
 have H':=aK H
 clear H
 go_enter Try.func175,Try.ntmps175
 go_wp2
 go_loopg [5,9] k (fun kq v5 v9 w'=>∃ (x5_1:List ByteArray) (x9_1:Int),v9=.int .i64 x9_1∧Aside0 (qn1_.l0 kq a0 x5_1 (wrap64 (a1+1)) x9_1=some r)∧Aside0 (kq≤k)∧Aside0 (Kd.R Kd.string 9 w' w.heap.size (fun _=>True) v5 x5_1)∧Aside0 (Below w.heap.size w w'))
 case atStart=>exact ⟨(([]:List ByteArray)),(0),(by first|rfl|(simp;done)|(simp [*];done)),H',⟨Nat.le_refl _⟩,⟨by first|exact Kd.R_nil _ _ _ _ _|exact Kd.N_nil _ _ _ _ _|exact Kd.V_nil _ _ _ _ _|exact Kd.Q_nil _ _ _ _ _|exact Kd.S_nil _ _ _ _ _⟩,⟨by repeat (first|(with_reducible first|exact HB.out|apply qb_|apply qa_|apply qc_)|exact HB.out)⟩⟩
 case round =>
  clear H'
  try clear c1
  try clear p2
  obtain ⟨x5_1,x9_1,rfl,HA,HK1,HO_5,HB⟩:=hrel
  cases gk with
  | zero=>exact absurd HA.out (by simp [qn1_.l0])
  | succ k1 =>
   have H:=HA.out
   clear HA
   simp only [qn1_.l0] at H
   by_cases c3:x9_1 < (wrap64 (a1+1))
   ·rw [if_pos c3] at H
    have c3b0:decide (x9_1 < (wrap64 (a1+1)))=true:=decide_eq_true c3
    clear c3
    replace H:=Option.bind_eq_some_iff.mp H
    obtain ⟨t381,A40,H⟩:=H
    replace H:(if x5_1.length+t381.length < 8796093022208 then (qn1_.l0 k1 a0 (x5_1 ++ t381) (wrap64 (a1+1)) (wrap64 (x9_1+1))) else (none))=some r:=H
    have A4:=aK A40
    clear A40
    by_cases c5:x5_1.length+t381.length < 8796093022208
    ·rw [if_pos c5] at H
     have LMc5:=aK c5
     clear c5
     obtain ⟨y384,hy384⟩:∃ y_:List ByteArray,y_=(x5_1 ++ t381):=⟨_,rfl⟩
     replace H:(qn1_.l0 k1 a0 y384 (wrap64 (a1+1)) (wrap64 (x9_1+1)))=some r:=by first|(rw [hy384];with_reducible exact H)|(have H2_:=(Option.bind_some _ _).symm.trans H;rw [hy384];with_reducible exact H2_)|(have H2_:=(Option.bind_some _ _).symm.trans H;with_reducible exact H2_)|with_reducible exact H|(rw [hy384];exact H)|exact H
     have Ny384:=aK hy384
     clear hy384
     have H':=aK H
     clear H
     go_wp2_with (first|((with_reducible refine qa1_ (f:=215) rfl ?_);refine goesL_ (some 15) rfl rfl Try.func215 (by kernel_rfl) rfl #[.int .i64 a0,.int .i64 x9_1] rfl (by (try simp only [List.map_toArray,List.map_cons,List.map_nil]);first|done|rfl|(simp only [List.length_drop,List.length_take];rfl)) ?_;(with_reducible refine (qy_.calls k1 a0 x9_1 t381 _ A4.out).mono ?_);rintro e w6 ⟨v382,rfl,ho0,hb⟩;refine ⟨_,rfl,?_⟩;have n0_:=aK (Kd.R_elder' (by (with_reducible repeat (first|apply Kd.qp1_|apply Kd.qu1_|apply Kd.R_drew));exact HO_5.out) (Kd.R_base ho0) hb);have n1_:=aK (Kd.qn2_ (Kd.R_new' ho0 (Kd.R_lt (by (with_reducible repeat (first|apply Kd.qp1_|apply Kd.qu1_|apply Kd.R_drew));exact HO_5.out))) (qk_ (by repeat (first|(with_reducible first|exact HB.out|apply qb_|apply qa_|apply qc_)|exact HB.out))));have n2_:=aK (qj_ (by repeat (first|(with_reducible first|exact HB.out|apply qb_|apply qa_|apply qc_)|exact HB.out)) hb);clear HO_5;clear HB;have HO_5:=n0_;have HO383:=n1_;have HB:=n2_;clear n0_ n1_ n2_;(try clear hb);(try clear hb2);(try clear hk);(try clear hi);(try clear ho0);obtain ⟨Ao8,co8,eo8⟩:=Kd.qf2_ HO383.out;subst eo8)|((with_reducible refine qi2_ (b:=.append) (xs:=#[.tmp 12,.tmp 15]) rfl ?_);at_builtin;refine Kd.qp2_ Kd.string (w0:=w) w.heap.size rfl (.tmp 12) (.tmp 15) 156 9 (.string ⟨#[]⟩) 16 rfl Try.underlying156 info9 rfl (by decide) (by omega) u5 x5_1 t381 _ _ _ (fun k_=>some k_ ≠ (.slice Ao8 t381.length co8:Value).ownBlock) (fun _=>False) rfl rfl ?aO ?aR (fun _ _ h=>h) (fun _ h=>h.elim) ?aF ?aB ?aS ?aL ?_;(case aR=>repeat (first|exact (Kd.qg3_ HO383.out).2.2|(with_reducible refine Kd.C_alloc ?_ _)|(with_reducible refine Kd.C_drewN ?_ _)|(with_reducible refine Kd.C_drew ?_)));(case aB=>exact (by repeat (first|(with_reducible first|exact HB.out|apply qb_|apply qa_|apply qc_)|exact HB.out)));(case aF=>exact (fun k_ hk=>Kd.fresh' (Kd.R_lt (by (with_reducible repeat (first|apply Kd.qp1_|apply Kd.qu1_|apply Kd.R_drew));exact HO383.out)) k_ hk));(case aO=>exact (by (with_reducible repeat (first|apply Kd.qp1_|apply Kd.qu1_|apply Kd.R_drew));exact Kd.R_mono HO_5.out (fun _ hk=>hk.2)));(case aS=>exact (qk_ (by repeat (first|(with_reducible first|exact HB.out|apply qb_|apply qa_|apply qc_)|exact HB.out))));(case aL=>have:=LMc5.out;omega);intro v385 w7 ho hb hg hat;rw [← Ny384.out] at ho;have n0_:=aK (Kd.R_after (ok:=(fun _=>True)) (by (with_reducible repeat (first|apply Kd.qp1_|apply Kd.qu1_|apply Kd.R_drew));exact HO383.out) hg hat);have n1_:=aK (hb);have n2_:=aK (ho);clear HO383;clear HB;clear HO_5;have HO383:=n0_;have HB:=n1_;have HO386:=n2_;clear n0_ n1_ n2_;clear ho hb hg hat))
     go_roundg k1
     case measure=>have:=HK1.out;omega
     case rel=>exact ⟨(y384),(wrap64 (x9_1+1)),(by first|rfl|(simp;done)|(simp [*];done)),H',⟨by have:=HK1.out;omega⟩,⟨by (with_reducible repeat (first|apply Kd.qp1_|apply Kd.qu1_|apply Kd.R_drew));exact Kd.R_mono HO386.out (fun _ hk=>trivial)⟩,⟨by repeat (first|(with_reducible first|exact HB.out|apply qb_|apply qa_|apply qc_)|exact HB.out)⟩⟩
    ·rw [if_neg c5] at H
     exact absurd H (by simp)
   ·rw [if_neg c3] at H
    have c3b0:decide (x9_1 < (wrap64 (a1+1)))=false:=decide_eq_false c3
    clear c3
    obtain rfl:=Option.some.inj H
    go_wp2
    go_ret
    exact ⟨_,by first|rfl|(simp [qo_,qn_] <;> rfl)|(simp [*,qo_,qn_] <;> rfl),by (with_reducible repeat (first|apply Kd.qp1_|apply Kd.qu1_|apply Kd.R_drew));exact HO_5.out,by repeat (first|(with_reducible first|exact HB.out|apply qb_|apply qa_|apply qc_)|exact HB.out)⟩
end Go.Proofs.Ytaiefdhenikiiaa.Base
namespace Go.Proofs.Ytaiefdhenikiiaa.Base
open Go.RowKit Go.Proofs.YtaiefdhenikiiaaW.PrintWords Go.Proofs.YtaiefdhenikiiaaW.PrintLast Go.Proofs.YtaiefdhenikiiaaW.PrintMore
attribute [local go_sem] max2_int qo1_ max_two min_two max_three min_three max_four min_four Go.Proofs.YtaiefdhenikiiaaZ.qx_   -- for this text's walks alone
set_option linter.unusedVariables false
set_option linter.unusedSimpArgs false
def bits_Mul64.f (a0:Int) (a1:Int):Option (Int × Int):=some (IntKind.u64.wrap ((IntKind.u64.wrap ((IntKind.u64.wrap ((a0 / 4294967296) * (a1 / 4294967296)))+((IntKind.u64.wrap ((IntKind.u64.wrap ((a0 / 4294967296) * (Go.bits .and .u64 a1 4294967295)))+((IntKind.u64.wrap ((Go.bits .and .u64 a0 4294967295) * (Go.bits .and .u64 a1 4294967295))) / 4294967296))) / 4294967296)))+((IntKind.u64.wrap ((Go.bits .and .u64 (IntKind.u64.wrap ((IntKind.u64.wrap ((a0 / 4294967296) * (Go.bits .and .u64 a1 4294967295)))+((IntKind.u64.wrap ((Go.bits .and .u64 a0 4294967295) * (Go.bits .and .u64 a1 4294967295))) / 4294967296))) 4294967295)+(IntKind.u64.wrap ((Go.bits .and .u64 a0 4294967295) * (a1 / 4294967296))))) / 4294967296)),IntKind.u64.wrap (a0 * a1))
set_option maxHeartbeats 8000000 in
set_option maxRecDepth 100000 in
theorem bits_Mul64.calls (a0:Int) (a1:Int) (r1:Int) (r2:Int) (w:World) (h:bits_Mul64.f a0 a1=some (r1,r2)) :
  Calls Try.prog 227 #[.int .u64 a0,.int .u64 a1] w fun e w'=>e=.returned (.tuple #[.int .u64 r1,.int .u64 r2])∧Drawn0 w w':=by
 have H:(some (IntKind.u64.wrap ((IntKind.u64.wrap ((IntKind.u64.wrap ((a0 / 4294967296) * (a1 / 4294967296)))+((IntKind.u64.wrap ((IntKind.u64.wrap ((a0 / 4294967296) * (Go.bits .and .u64 a1 4294967295)))+((IntKind.u64.wrap ((Go.bits .and .u64 a0 4294967295) * (Go.bits .and .u64 a1 4294967295))) / 4294967296))) / 4294967296)))+((IntKind.u64.wrap ((Go.bits .and .u64 (IntKind.u64.wrap ((IntKind.u64.wrap ((a0 / 4294967296) * (Go.bits .and .u64 a1 4294967295)))+((IntKind.u64.wrap ((Go.bits .and .u64 a0 4294967295) * (Go.bits .and .u64 a1 4294967295))) / 4294967296))) 4294967295)+(IntKind.u64.wrap ((Go.bits .and .u64 a0 4294967295) * (a1 / 4294967296))))) / 4294967296)),IntKind.u64.wrap (a0 * a1)))=some (r1,r2):=h
 clear h
 simp only [Option.some.injEq,Prod.mk.injEq] at H
 obtain ⟨rfl,rfl⟩:=H
 go_enter Try.func227,Try.ntmps227
 go_wp2
 go_ret2
 exact ⟨by first|rfl|(simp;done)|(simp [*];done)|(simp [Go.Proofs.YtaiefdhenikiiaaZ.bne_nil];done),by repeat (first|exact Drawn0.refl _|apply Drawn0.step)⟩
end Go.Proofs.Ytaiefdhenikiiaa.Base
namespace Go.Proofs.Ytaiefdhenikiiaa.Base
open Go.RowKit Go.Proofs.YtaiefdhenikiiaaW.PrintWords Go.Proofs.YtaiefdhenikiiaaW.PrintLast Go.Proofs.YtaiefdhenikiiaaW.PrintMore
attribute [local go_sem] max2_int qo1_ max_two min_two max_three min_three max_four min_four Go.Proofs.YtaiefdhenikiiaaZ.qx_   -- for this text's walks alone
set_option linter.unusedVariables false
set_option linter.unusedSimpArgs false
def bits_Mul.f (a0:Int) (a1:Int):Option (Int × Int):=(bits_Mul64.f a0 a1).bind fun bt399=>(some (bt399.1,bt399.2))
set_option maxHeartbeats 8000000 in
set_option maxRecDepth 100000 in
theorem bits_Mul.calls (a0:Int) (a1:Int) (r1:Int) (r2:Int) (w:World) (h:bits_Mul.f a0 a1=some (r1,r2)) :
  Calls Try.prog 216 #[.int .u64 a0,.int .u64 a1] w fun e w'=>e=.returned (.tuple #[.int .u64 r1,.int .u64 r2])∧Drawn0 w w':=by
 have H:((bits_Mul64.f a0 a1).bind fun bt399=>(some (bt399.1,bt399.2)))=some (r1,r2):=h
 clear h
 replace H:=Option.bind_eq_some_iff.mp H
 obtain ⟨⟨t399,t400⟩,A30,H⟩:=H
 replace H:(some (t399,t400))=some (r1,r2):=H
 have A3:=aK A30
 clear A30
 simp only [Option.some.injEq,Prod.mk.injEq] at H
 obtain ⟨rfl,rfl⟩:=H
 go_enter Try.func216,Try.ntmps216
 go_wp2_with (first|((with_reducible refine qa1_ (f:=227) rfl ?_);refine goesL_ (some 25) rfl rfl Try.func227 (by kernel_rfl) rfl #[.int .u64 a0,.int .u64 a1] rfl (by (try simp only [List.map_toArray,List.map_cons,List.map_nil]);first|done|rfl|(simp only [List.length_drop,List.length_take];rfl)) ?_;(with_reducible refine (bits_Mul64.calls a0 a1 t399 t400 _ A3.out).mono ?_);rintro e w' ⟨rfl,⟨nd,rfl⟩⟩;refine ⟨_,rfl,?_⟩))
 go_ret2
 exact ⟨by first|rfl|(simp;done)|(simp [*];done)|(simp [Go.Proofs.YtaiefdhenikiiaaZ.bne_nil];done),by repeat (first|exact Drawn0.refl _|apply Drawn0.step)⟩
end Go.Proofs.Ytaiefdhenikiiaa.Base
namespace Go.Proofs.Ytaiefdhenikiiaa.Base
open Go.RowKit Go.Proofs.YtaiefdhenikiiaaW.PrintWords Go.Proofs.YtaiefdhenikiiaaW.PrintLast Go.Proofs.YtaiefdhenikiiaaW.PrintMore
attribute [local go_sem] max2_int qo1_ max_two min_two max_three min_three max_four min_four Go.Proofs.YtaiefdhenikiiaaZ.qx_   -- for this text's walks alone
set_option linter.unusedVariables false
set_option linter.unusedSimpArgs false
def impl_whole.f (a0:Int):Option (Int × Int):=some (a0,1)
set_option maxHeartbeats 8000000 in
set_option maxRecDepth 100000 in
theorem impl_whole.calls (a0:Int) (r1:Int) (r2:Int) (w:World) (h:impl_whole.f a0=some (r1,r2)) :
  Calls Try.prog 165 #[.int .i64 a0] w fun e w'=>e=.returned (.agg #[.int .i64 r1,.int .i64 r2])∧Below w.heap.size w w':=by
 have hu77:=Try.underlying77
 have HB:=aK (Below.refl w.heap.size w)
 have H:(some (a0,1))=some (r1,r2):=h
 clear h
 simp only [Option.some.injEq,Prod.mk.injEq] at H
 obtain ⟨rfl,rfl⟩:=H
 go_enter Try.func165,Try.ntmps165
 go_wp2_with (first|((with_reducible refine qu_ (N:=2) rfl ?_);refine qr_ ?hg (N:=2) ?hd (cs:=#[.int .i64 0,.int .i64 0]) (t:=77) ?hr ?_;(case hd=>rfl);(case hg=>rfl);(case hr=>first|(go_simp;done)|(go_simp;rfl));intro gb745 hg w2 hbox hb;have n0_:=aK (qj_ (by repeat (first|(with_reducible first|exact HB.out|apply qb_|apply qa_|apply qc_)|exact HB.out)) hb);have n1_:=aK (hbox);have n2_:=aK ((by rw [hg];exact (qk_ (by repeat (first|(with_reducible first|exact HB.out|apply qb_|apply qa_|apply qc_)|exact HB.out))):w.heap.size≤gb745));have n3_:=aK ((by rw [hg];exact (qk_ (by repeat (first|(with_reducible first|exact HB.out|apply qb_|apply qa_|apply qc_)|exact HB.out))):w.heap.size≤gb745));clear HB;have HB:=n0_;have BK745:=n1_;have GW745:=n2_;have GE745:=n3_;clear n0_ n1_ n2_ n3_;clear hb hbox hg;have hcz3_0:w2.cell? ⟨gb745,0,none⟩=some (.int .i64 0):=(qg_ BK745.out 0).trans rfl;have hcz3_1:w2.cell? ⟨gb745,1,none⟩=some (.int .i64 0):=(qg_ BK745.out 1).trans rfl;have hfz3_0:=qd_ BK745.out 0;have hfz3_1:=qd_ BK745.out 1))
 refine bodyPost_ret (results_cell_row rfl _ _ gb745 77 #[.int .i64 a0,.int .i64 1] (0,0) _ rfl (by (with_reducible repeat (first|refine qf_ ?_ _|refine qi_ ?_|refine qe_ ?_ _));refine qi1_ (cs:=#[.int .i64 a0,.int .i64 0]) ?_ 1 _ rfl;(with_reducible repeat (first|refine qf_ ?_ _|refine qi_ ?_|refine qe_ ?_ _));refine qi1_ (cs:=#[.int .i64 0,.int .i64 0]) ?_ 0 _ rfl;(with_reducible repeat (first|refine qf_ ?_ _|refine qi_ ?_|refine qe_ ?_ _));exact BK745.out) Try.underlying77 rfl (by kernel_rfl)) rfl ?_
 exact ⟨by first|rfl|(simp [qo_,qn_] <;> rfl)|(simp [*,qo_,qn_] <;> rfl),by repeat (first|(with_reducible first|exact HB.out|apply qb_|apply qa_|apply qc_|refine qh_ ?_ GE745.out)|exact HB.out)⟩
end Go.Proofs.Ytaiefdhenikiiaa.Base
namespace Go.Proofs.Ytaiefdhenikiiaa.Base
open Go.RowKit Go.Proofs.YtaiefdhenikiiaaW.PrintWords Go.Proofs.YtaiefdhenikiiaaW.PrintLast Go.Proofs.YtaiefdhenikiiaaW.PrintMore
attribute [local go_sem] max2_int qo1_ max_two min_two max_three min_three max_four min_four Go.Proofs.YtaiefdhenikiiaaZ.qx_   -- for this text's walks alone
set_option linter.unusedVariables false
set_option linter.unusedSimpArgs false
def qg2_.l0:Nat→ByteArray→Int→Option (ByteArray × ByteArray)
 | 0,_,_=>none
 | k+1,x0,x4=>if 0≤x4 then (if x4≤(x0.size:Int) then ((qb1_.f k (x0.extract (x4:Int).toNat x0.size)).bind fun t746=>(if t746=true then (some (x0.extract 0 (x4:Int).toNat,x0.extract (x4:Int).toNat x0.size)) else (qg2_.l0 k x0 (wrap64 (x4+1))))) else (none)) else (none)
def qg2_.f (k:Nat) (a0:ByteArray):Option (ByteArray × ByteArray):=qg2_.l0 k a0 1
theorem qg2_.mono_l:∀ k,(∀ y0 y1,LeO (qg2_.l0 k y0 y1) (qg2_.l0 (k+1) y0 y1))
 | 0=>fun _ _ r h=>by simp [qg2_.l0] at h
 | k+1=>by
  have ih0:=qg2_.mono_l k
  ·intro y0 y1
   unfold qg2_.l0
   repeat' first
   | (with_reducible exact ih0 _ _)
   | (with_reducible exact qb1_.mono _ _)
   | (with_reducible exact LeO.refl _)
   | (with_reducible exact LeO.none _)
   | (with_reducible refine LeO.ite ?_ ?_)
   | (with_reducible refine LeO.bind ?_ (fun _=>?_))
   | exact ih0 _ _
   | exact qb1_.mono _ _
   | exact LeO.none _
   | refine LeO.ite ?_ ?_
   | refine LeO.bind ?_ (fun _=>?_)
theorem qg2_.mono:∀ a0 k,LeO (qg2_.f k a0) (qg2_.f (k+1) a0):=by
 intro a0 k
 have ih0:=qg2_.mono_l k
 unfold qg2_.f
 repeat' first
   | (with_reducible exact ih0 _ _)
   | (with_reducible exact qb1_.mono _ _)
   | (with_reducible exact LeO.refl _)
   | (with_reducible exact LeO.none _)
   | (with_reducible refine LeO.ite ?_ ?_)
   | (with_reducible refine LeO.bind ?_ (fun _=>?_))
   | exact ih0 _ _
   | exact qb1_.mono _ _
   | exact LeO.none _
   | refine LeO.ite ?_ ?_
   | refine LeO.bind ?_ (fun _=>?_)
set_option maxHeartbeats 8000000 in
set_option maxRecDepth 100000 in
theorem qg2_.calls (k:Nat) (a0:ByteArray) (r1:ByteArray) (r2:ByteArray) (w:World) (h:qg2_.f k a0=some (r1,r2)) :
  Calls Try.prog 167 #[.string a0] w fun e w'=>e=.returned (.tuple #[.string r1,.string r2])∧Drawn0 w w':=by
 have H:(qg2_.l0 k a0 1)=some (r1,r2):=h
 clear h
 have H':=aK H
 clear H
 go_enter Try.func167,Try.ntmps167
 go_wp2
 repeat (go_quiet (fail);try go_wp2)
 go_loopg [4] k (fun kq v4 w'=>∃ (x4_1:Int),v4=.int .i64 x4_1∧Aside0 (qg2_.l0 kq a0 x4_1=some (r1,r2))∧Aside0 (kq≤k)∧Drawn0 w w')
 case atStart=>exact ⟨(1),(by first|rfl|(simp;done)|(simp [*];done)),H',⟨Nat.le_refl _⟩,by repeat (first|exact Drawn0.refl _|apply Drawn0.step)⟩
 case round =>
  clear H'
  try clear c1
  obtain ⟨x4_1,rfl,HA,HK1,⟨m1,rfl⟩⟩:=hrel
  cases gk with
  | zero=>exact absurd HA.out (by simp [qg2_.l0])
  | succ k1 =>
   have H:=HA.out
   clear HA
   simp only [qg2_.l0] at H
   by_cases c2:0≤x4_1
   ·rw [if_pos c2] at H
    have c2b0:=eq_true c2
    have c2b1:decide (0≤x4_1)=true:=decide_eq_true c2
    clear c2
    by_cases c3:x4_1≤(a0.size:Int)
    ·rw [if_pos c3] at H
     have c3b0:=eq_true c3
     have c3b1:decide (x4_1≤(a0.size:Int))=true:=decide_eq_true c3
     clear c3
     replace H:=Option.bind_eq_some_iff.mp H
     obtain ⟨t746,A40,H⟩:=H
     replace H:(if t746=true then (some (a0.extract 0 (x4_1:Int).toNat,a0.extract (x4_1:Int).toNat a0.size)) else (qg2_.l0 k1 a0 (wrap64 (x4_1+1))))=some (r1,r2):=H
     have A4:=aK A40
     clear A40
     by_cases c5:t746=true
     ·subst c5
      have H1:(some (a0.extract 0 (x4_1:Int).toNat,a0.extract (x4_1:Int).toNat a0.size))=some (r1,r2):=by rw [if_pos rfl] at H;exact H
      clear H
      have H:=H1
      clear H1
      have c6b0:=eq_true (of_decide_eq_true (by first|(with_reducible assumption)|assumption):0≤x4_1)
      have c7b0:=eq_true (of_decide_eq_true (by first|(with_reducible assumption)|assumption):x4_1≤(a0.size:Int))
      have c8b0:=eq_true (of_decide_eq_true (by first|(with_reducible assumption)|assumption):0≤x4_1)
      have c9b0:=eq_true (of_decide_eq_true (by first|(with_reducible assumption)|assumption):x4_1≤(a0.size:Int))
      simp only [Option.some.injEq,Prod.mk.injEq] at H
      obtain ⟨rfl,rfl⟩:=H
      go_wp2_with (first|(go_at_call 99;(with_reducible refine (qb1_.calls k1 (a0.extract (x4_1:Int).toNat a0.size) true _ A4.out).mono ?_);rintro e w' ⟨rfl,⟨nd,rfl⟩⟩;(try first|exact ⟨rfl,_,World.drewN_drewN _ _ _⟩|exact ⟨rfl,_,Eq.trans (World.drewN_drewN _ _ _) (congrArg (World.drewN _) (Nat.add_assoc _ _ _))⟩)))
      repeat (go_quiet (first|(go_at_call 99;(with_reducible refine (qb1_.calls k1 (a0.extract (x4_1:Int).toNat a0.size) true _ A4.out).mono ?_);rintro e w' ⟨rfl,⟨nd,rfl⟩⟩;(try first|exact ⟨rfl,_,World.drewN_drewN _ _ _⟩|exact ⟨rfl,_,Eq.trans (World.drewN_drewN _ _ _) (congrArg (World.drewN _) (Nat.add_assoc _ _ _))⟩)));try go_wp2_with (first|(go_at_call 99;(with_reducible refine (qb1_.calls k1 (a0.extract (x4_1:Int).toNat a0.size) true _ A4.out).mono ?_);rintro e w' ⟨rfl,⟨nd,rfl⟩⟩;(try first|exact ⟨rfl,_,World.drewN_drewN _ _ _⟩|exact ⟨rfl,_,Eq.trans (World.drewN_drewN _ _ _) (congrArg (World.drewN _) (Nat.add_assoc _ _ _))⟩))))
      go_ret2
      exact ⟨by first|rfl|(simp;done)|(simp [*];done)|(simp [Go.Proofs.YtaiefdhenikiiaaZ.bne_nil];done),by repeat (first|exact Drawn0.refl _|apply Drawn0.step)⟩
     ·replace c5:=Bool.eq_false_iff.mpr c5
      subst c5
      have H1:(qg2_.l0 k1 a0 (wrap64 (x4_1+1)))=some (r1,r2):=by rw [if_neg (show ¬ (false=true) by decide)] at H;exact H
      clear H
      have H:=H1
      clear H1
      have H':=aK H
      clear H
      go_wp2_with (first|(go_at_call 99;(with_reducible refine (qb1_.calls k1 (a0.extract (x4_1:Int).toNat a0.size) false _ A4.out).mono ?_);rintro e w' ⟨rfl,⟨nd,rfl⟩⟩;(try first|exact ⟨rfl,_,World.drewN_drewN _ _ _⟩|exact ⟨rfl,_,Eq.trans (World.drewN_drewN _ _ _) (congrArg (World.drewN _) (Nat.add_assoc _ _ _))⟩)))
      repeat (go_quiet (first|(go_at_call 99;(with_reducible refine (qb1_.calls k1 (a0.extract (x4_1:Int).toNat a0.size) false _ A4.out).mono ?_);rintro e w' ⟨rfl,⟨nd,rfl⟩⟩;(try first|exact ⟨rfl,_,World.drewN_drewN _ _ _⟩|exact ⟨rfl,_,Eq.trans (World.drewN_drewN _ _ _) (congrArg (World.drewN _) (Nat.add_assoc _ _ _))⟩)));try go_wp2_with (first|(go_at_call 99;(with_reducible refine (qb1_.calls k1 (a0.extract (x4_1:Int).toNat a0.size) false _ A4.out).mono ?_);rintro e w' ⟨rfl,⟨nd,rfl⟩⟩;(try first|exact ⟨rfl,_,World.drewN_drewN _ _ _⟩|exact ⟨rfl,_,Eq.trans (World.drewN_drewN _ _ _) (congrArg (World.drewN _) (Nat.add_assoc _ _ _))⟩))))
      go_roundg k1
      case measure=>have:=HK1.out;omega
      case rel=>exact ⟨(wrap64 (x4_1+1)),(by first|rfl|(simp;done)|(simp [*];done)),H',⟨by have:=HK1.out;omega⟩,by repeat (first|exact Drawn0.refl _|apply Drawn0.step)⟩
    ·rw [if_neg c3] at H
     exact absurd H (by simp)
   ·rw [if_neg c2] at H
    exact absurd H (by simp)
end Go.Proofs.Ytaiefdhenikiiaa.Base
namespace Go.Proofs.Ytaiefdhenikiiaa.Base
open Go.RowKit Go.Proofs.YtaiefdhenikiiaaW.PrintWords Go.Proofs.YtaiefdhenikiiaaW.PrintLast Go.Proofs.YtaiefdhenikiiaaW.PrintMore
attribute [local go_sem] max2_int qo1_ max_two min_two max_three min_three max_four min_four Go.Proofs.YtaiefdhenikiiaaZ.qx_   -- for this text's walks alone
set_option linter.unusedVariables false
set_option linter.unusedSimpArgs false
def qb2_.f (k:Nat) (a0_0:Int) (a0_1:Int) (l0_2:List (S79)) (a1_0:Int) (a1_1:Int) (l1_2:List (S79)):Option (Bool):=if a0_0=a1_0 then (if a0_1=a1_1 then ((qc1_.f k l0_2 l1_2).bind fun t259=>(if t259=true then (some true) else (some false))) else (some false)) else (some false)
theorem qb2_.mono:∀ a0 a1 a2 a3 a4 a5 k,LeO (qb2_.f k a0 a1 a2 a3 a4 a5) (qb2_.f (k+1) a0 a1 a2 a3 a4 a5):=by
 intro a0 a1 a2 a3 a4 a5 k
 unfold qb2_.f
 repeat' first
   | (with_reducible exact qc1_.mono _ _ _)
   | (with_reducible exact LeO.refl _)
   | (with_reducible exact LeO.none _)
   | (with_reducible refine LeO.ite ?_ ?_)
   | (with_reducible refine LeO.bind ?_ (fun _=>?_))
   | exact qc1_.mono _ _ _
   | exact LeO.none _
   | refine LeO.ite ?_ ?_
   | refine LeO.bind ?_ (fun _=>?_)
set_option maxHeartbeats 8000000 in
set_option maxRecDepth 100000 in
theorem qb2_.calls (k:Nat) (a0_0:Int) (a0_1:Int) (A0_2:Option Addr) (c0_2:Nat) (l0_2:List (S79)) (a1_0:Int) (a1_1:Int) (A1_2:Option Addr) (c1_2:Nat) (l1_2:List (S79)) (r:Bool) (w:World) (hr0_2:Kd.C k79 w A0_2 l0_2.length l0_2) (hc0_2:l0_2.length≤c0_2) (hr1_2:Kd.C k79 w A1_2 l1_2.length l1_2) (hc1_2:l1_2.length≤c1_2) (h:qb2_.f k a0_0 a0_1 l0_2 a1_0 a1_1 l1_2=some r) :
  Calls Try.prog 33 #[.agg #[.int .i64 a0_0,.int .i64 a0_1,.slice A0_2 l0_2.length c0_2],.agg #[.int .i64 a1_0,.int .i64 a1_1,.slice A1_2 l1_2.length c1_2]] w fun e w'=>e=.returned (.bool r)∧Below w.heap.size w w':=by
 have hu38:=Try.underlying38
 have HR0_2:=aK hr0_2
 have HC0_2:=aK hc0_2
 clear hr0_2 hc0_2
 have HR1_2:=aK hr1_2
 have HC1_2:=aK hc1_2
 clear hr1_2 hc1_2
 have HB:=aK (Below.refl w.heap.size w)
 have H:(if a0_0=a1_0 then (if a0_1=a1_1 then ((qc1_.f k l0_2 l1_2).bind fun t259=>(if t259=true then (some true) else (some false))) else (some false)) else (some false))=some r:=h
 clear h
 by_cases c3:a0_0=a1_0
 ·rw [if_pos c3] at H
  have c3b0:(a0_0 == a1_0)=true:=beq_iff_eq.mpr c3
  have c3b1:(a0_0 != a1_0)=false:=bne_eq_false_iff_eq.mpr c3
  clear c3
  by_cases c4:a0_1=a1_1
  ·rw [if_pos c4] at H
   have c4b0:(a0_1 == a1_1)=true:=beq_iff_eq.mpr c4
   have c4b1:(a0_1 != a1_1)=false:=bne_eq_false_iff_eq.mpr c4
   clear c4
   replace H:=Option.bind_eq_some_iff.mp H
   obtain ⟨t259,A50,H⟩:=H
   replace H:(if t259=true then (some true) else (some false))=some r:=H
   have A5:=aK A50
   clear A50
   by_cases c6:t259=true
   ·subst c6
    have H1:(some true)=some r:=by rw [if_pos rfl] at H;exact H
    clear H
    have H:=H1
    clear H1
    obtain rfl:=Option.some.inj H
    go_enter Try.func33,Try.ntmps33
    go_wp2_with (first|((with_reducible refine qu_ (N:=2) rfl ?_);refine qr_ ?hg (N:=2) ?hd (cs:=#[.int .i64 a0_0,.int .i64 a0_1,.slice A0_2 l0_2.length c0_2]) (t:=38) ?hr ?_;(case hd=>rfl);(case hg=>rfl);(case hr=>first|(go_simp;done)|(go_simp;rfl));intro gb257 hg w7 hbox hb;have n0_:=aK (qj_ (by repeat (first|(with_reducible first|exact HB.out|apply qb_|apply qa_|apply qc_)|exact HB.out)) hb);have n1_:=aK (hbox);have n2_:=aK ((by rw [hg];exact (qk_ (by repeat (first|(with_reducible first|exact HB.out|apply qb_|apply qa_|apply qc_)|exact HB.out))):w.heap.size≤gb257));have n3_:=aK ((by rw [hg];exact (qk_ (by repeat (first|(with_reducible first|exact HB.out|apply qb_|apply qa_|apply qc_)|exact HB.out))):w.heap.size≤gb257));clear HB;have HB:=n0_;have BK257:=n1_;have GW257:=n2_;have GE257:=n3_;clear n0_ n1_ n2_ n3_;clear hb hbox hg)|((with_reducible refine qu_ (N:=3) rfl ?_);refine qr_ ?hg (N:=3) ?hd (cs:=#[.int .i64 a1_0,.int .i64 a1_1,.slice A1_2 l1_2.length c1_2]) (t:=38) ?hr ?_;(case hd=>rfl);(case hg=>rfl);(case hr=>first|(go_simp;done)|(go_simp;rfl));intro gb258 hg w8 hbox hb;have n0_:=aK (qm_ (g:=gb257) (o:=.cells #[.int .i64 a0_0,.int .i64 a0_1,.slice A0_2 l0_2.length c0_2] 38 (0,0)) (by (with_reducible repeat (first|refine qf_ ?_ _|refine qi_ ?_|refine qe_ ?_ _));exact BK257.out) hb);have n1_:=aK (qj_ (by repeat (first|(with_reducible first|exact HB.out|apply qb_|apply qa_|apply qc_|refine qh_ ?_ GE257.out)|exact HB.out)) hb);have n2_:=aK (hbox);have n3_:=aK ((by rw [hg];exact (qk_ (by repeat (first|(with_reducible first|exact HB.out|apply qb_|apply qa_|apply qc_|refine qh_ ?_ GE257.out)|exact HB.out))):w.heap.size≤gb258));have n4_:=aK ((by rw [hg];exact (qk_ (by repeat (first|(with_reducible first|exact HB.out|apply qb_|apply qa_|apply qc_|refine qh_ ?_ GE257.out)|exact HB.out))):w.heap.size≤gb258));have n5_:=aK ((by rw [hg];exact Nat.ne_of_lt (blk_lt (g:=gb257) (o:=.cells #[.int .i64 a0_0,.int .i64 a0_1,.slice A0_2 l0_2.length c0_2] 38 (0,0)) (by (with_reducible repeat (first|refine qf_ ?_ _|refine qi_ ?_|refine qe_ ?_ _));exact BK257.out)):gb257 ≠ gb258));have n6_:=aK ((by rw [hg];exact Nat.ne_of_gt (blk_lt (g:=gb257) (o:=.cells #[.int .i64 a0_0,.int .i64 a0_1,.slice A0_2 l0_2.length c0_2] 38 (0,0)) (by (with_reducible repeat (first|refine qf_ ?_ _|refine qi_ ?_|refine qe_ ?_ _));exact BK257.out)):gb258 ≠ gb257));clear BK257;clear HB;have BK257:=n0_;have HB:=n1_;have BK258:=n2_;have GW258:=n3_;have GE258:=n4_;have NB257_258:=n5_;have NB258_257:=n6_;clear n0_ n1_ n2_ n3_ n4_ n5_ n6_;clear hb hbox hg;have hnb9:=NB257_258.out;have hnc9:=NB258_257.out;have hcz10_0:w8.cell? ⟨gb257,0,none⟩=some (.int .i64 a0_0):=(qg_ BK257.out 0).trans rfl;have hcz10_1:w8.cell? ⟨gb257,1,none⟩=some (.int .i64 a0_1):=(qg_ BK257.out 1).trans rfl;have hcz10_2:w8.cell? ⟨gb257,2,none⟩=some (.slice A0_2 l0_2.length c0_2):=(qg_ BK257.out 2).trans rfl;have hfz10_0:=qd_ BK257.out 0;have hfz10_1:=qd_ BK257.out 1;have hfz10_2:=qd_ BK257.out 2;have hcz11_0:w8.cell? ⟨gb258,0,none⟩=some (.int .i64 a1_0):=(qg_ BK258.out 0).trans rfl;have hcz11_1:w8.cell? ⟨gb258,1,none⟩=some (.int .i64 a1_1):=(qg_ BK258.out 1).trans rfl;have hcz11_2:w8.cell? ⟨gb258,2,none⟩=some (.slice A1_2 l1_2.length c1_2):=(qg_ BK258.out 2).trans rfl;have hfz11_0:=qd_ BK258.out 0;have hfz11_1:=qd_ BK258.out 1;have hfz11_2:=qd_ BK258.out 2)|((with_reducible refine qa1_ (f:=25) rfl ?_);refine goesL_ (some 19) rfl rfl Try.func25 (by kernel_rfl) rfl #[.slice A0_2 l0_2.length c0_2,.slice A1_2 l1_2.length c1_2] rfl (by (try simp only [List.map_toArray,List.map_cons,List.map_nil]);first|done|rfl|(simp only [List.length_drop,List.length_take];rfl)) ?_;(with_reducible refine (qc1_.calls k _ _ l0_2 _ _ l1_2 true _ ?side1 ?side2 ?side3 ?side4 A5.out).mono ?_);(case side1=>repeat (first|exact (Kd.qv1_ HR0_2.out HB.out)|(with_reducible refine Kd.C_alloc ?_ _)|(with_reducible refine Kd.C_drewN ?_ _)|(with_reducible refine Kd.C_drew ?_)));(case side2=>exact HC0_2.out);(case side3=>repeat (first|exact (Kd.qv1_ HR1_2.out HB.out)|(with_reducible refine Kd.C_alloc ?_ _)|(with_reducible refine Kd.C_drewN ?_ _)|(with_reducible refine Kd.C_drew ?_)));(case side4=>exact HC1_2.out);rintro e w12 ⟨rfl,hb⟩;refine ⟨_,rfl,?_⟩;have n0_:=aK (qm_ (g:=gb257) (o:=.cells #[.int .i64 a0_0,.int .i64 a0_1,.slice A0_2 l0_2.length c0_2] 38 (0,0)) (by (with_reducible repeat (first|refine qf_ ?_ _|refine qi_ ?_|refine qe_ ?_ _));exact BK257.out) hb);have n1_:=aK (qm_ (g:=gb258) (o:=.cells #[.int .i64 a1_0,.int .i64 a1_1,.slice A1_2 l1_2.length c1_2] 38 (0,0)) (by (with_reducible repeat (first|refine qf_ ?_ _|refine qi_ ?_|refine qe_ ?_ _));exact BK258.out) hb);have n2_:=aK (qj_ (by repeat (first|(with_reducible first|exact HB.out|apply qb_|apply qa_|apply qc_|refine qh_ ?_ GE257.out|refine qh_ ?_ GE258.out)|exact HB.out)) hb);clear BK257;clear BK258;clear HB;have BK257:=n0_;have BK258:=n1_;have HB:=n2_;clear n0_ n1_ n2_;(try clear hb);(try clear hb2);(try clear hk);(try clear hi)))
    go_ret
    exact ⟨by first|rfl|(simp [qo_,qn_] <;> rfl)|(simp [*,qo_,qn_] <;> rfl),by repeat (first|(with_reducible first|exact HB.out|apply qb_|apply qa_|apply qc_|refine qh_ ?_ GE257.out|refine qh_ ?_ GE258.out)|exact HB.out)⟩
   ·replace c6:=Bool.eq_false_iff.mpr c6
    subst c6
    have H1:(some false)=some r:=by rw [if_neg (show ¬ (false=true) by decide)] at H;exact H
    clear H
    have H:=H1
    clear H1
    obtain rfl:=Option.some.inj H
    go_enter Try.func33,Try.ntmps33
    go_wp2_with (first|((with_reducible refine qu_ (N:=2) rfl ?_);refine qr_ ?hg (N:=2) ?hd (cs:=#[.int .i64 a0_0,.int .i64 a0_1,.slice A0_2 l0_2.length c0_2]) (t:=38) ?hr ?_;(case hd=>rfl);(case hg=>rfl);(case hr=>first|(go_simp;done)|(go_simp;rfl));intro gb257 hg w13 hbox hb;have n0_:=aK (qj_ (by repeat (first|(with_reducible first|exact HB.out|apply qb_|apply qa_|apply qc_)|exact HB.out)) hb);have n1_:=aK (hbox);have n2_:=aK ((by rw [hg];exact (qk_ (by repeat (first|(with_reducible first|exact HB.out|apply qb_|apply qa_|apply qc_)|exact HB.out))):w.heap.size≤gb257));have n3_:=aK ((by rw [hg];exact (qk_ (by repeat (first|(with_reducible first|exact HB.out|apply qb_|apply qa_|apply qc_)|exact HB.out))):w.heap.size≤gb257));clear HB;have HB:=n0_;have BK257:=n1_;have GW257:=n2_;have GE257:=n3_;clear n0_ n1_ n2_ n3_;clear hb hbox hg)|((with_reducible refine qu_ (N:=3) rfl ?_);refine qr_ ?hg (N:=3) ?hd (cs:=#[.int .i64 a1_0,.int .i64 a1_1,.slice A1_2 l1_2.length c1_2]) (t:=38) ?hr ?_;(case hd=>rfl);(case hg=>rfl);(case hr=>first|(go_simp;done)|(go_simp;rfl));intro gb258 hg w14 hbox hb;have n0_:=aK (qm_ (g:=gb257) (o:=.cells #[.int .i64 a0_0,.int .i64 a0_1,.slice A0_2 l0_2.length c0_2] 38 (0,0)) (by (with_reducible repeat (first|refine qf_ ?_ _|refine qi_ ?_|refine qe_ ?_ _));exact BK257.out) hb);have n1_:=aK (qj_ (by repeat (first|(with_reducible first|exact HB.out|apply qb_|apply qa_|apply qc_|refine qh_ ?_ GE257.out)|exact HB.out)) hb);have n2_:=aK (hbox);have n3_:=aK ((by rw [hg];exact (qk_ (by repeat (first|(with_reducible first|exact HB.out|apply qb_|apply qa_|apply qc_|refine qh_ ?_ GE257.out)|exact HB.out))):w.heap.size≤gb258));have n4_:=aK ((by rw [hg];exact (qk_ (by repeat (first|(with_reducible first|exact HB.out|apply qb_|apply qa_|apply qc_|refine qh_ ?_ GE257.out)|exact HB.out))):w.heap.size≤gb258));have n5_:=aK ((by rw [hg];exact Nat.ne_of_lt (blk_lt (g:=gb257) (o:=.cells #[.int .i64 a0_0,.int .i64 a0_1,.slice A0_2 l0_2.length c0_2] 38 (0,0)) (by (with_reducible repeat (first|refine qf_ ?_ _|refine qi_ ?_|refine qe_ ?_ _));exact BK257.out)):gb257 ≠ gb258));have n6_:=aK ((by rw [hg];exact Nat.ne_of_gt (blk_lt (g:=gb257) (o:=.cells #[.int .i64 a0_0,.int .i64 a0_1,.slice A0_2 l0_2.length c0_2] 38 (0,0)) (by (with_reducible repeat (first|refine qf_ ?_ _|refine qi_ ?_|refine qe_ ?_ _));exact BK257.out)):gb258 ≠ gb257));clear BK257;clear HB;have BK257:=n0_;have HB:=n1_;have BK258:=n2_;have GW258:=n3_;have GE258:=n4_;have NB257_258:=n5_;have NB258_257:=n6_;clear n0_ n1_ n2_ n3_ n4_ n5_ n6_;clear hb hbox hg;have hnb15:=NB257_258.out;have hnc15:=NB258_257.out;have hcz16_0:w14.cell? ⟨gb257,0,none⟩=some (.int .i64 a0_0):=(qg_ BK257.out 0).trans rfl;have hcz16_1:w14.cell? ⟨gb257,1,none⟩=some (.int .i64 a0_1):=(qg_ BK257.out 1).trans rfl;have hcz16_2:w14.cell? ⟨gb257,2,none⟩=some (.slice A0_2 l0_2.length c0_2):=(qg_ BK257.out 2).trans rfl;have hfz16_0:=qd_ BK257.out 0;have hfz16_1:=qd_ BK257.out 1;have hfz16_2:=qd_ BK257.out 2;have hcz17_0:w14.cell? ⟨gb258,0,none⟩=some (.int .i64 a1_0):=(qg_ BK258.out 0).trans rfl;have hcz17_1:w14.cell? ⟨gb258,1,none⟩=some (.int .i64 a1_1):=(qg_ BK258.out 1).trans rfl;have hcz17_2:w14.cell? ⟨gb258,2,none⟩=some (.slice A1_2 l1_2.length c1_2):=(qg_ BK258.out 2).trans rfl;have hfz17_0:=qd_ BK258.out 0;have hfz17_1:=qd_ BK258.out 1;have hfz17_2:=qd_ BK258.out 2)|((with_reducible refine qa1_ (f:=25) rfl ?_);refine goesL_ (some 19) rfl rfl Try.func25 (by kernel_rfl) rfl #[.slice A0_2 l0_2.length c0_2,.slice A1_2 l1_2.length c1_2] rfl (by (try simp only [List.map_toArray,List.map_cons,List.map_nil]);first|done|rfl|(simp only [List.length_drop,List.length_take];rfl)) ?_;(with_reducible refine (qc1_.calls k _ _ l0_2 _ _ l1_2 false _ ?side1 ?side2 ?side3 ?side4 A5.out).mono ?_);(case side1=>repeat (first|exact (Kd.qv1_ HR0_2.out HB.out)|(with_reducible refine Kd.C_alloc ?_ _)|(with_reducible refine Kd.C_drewN ?_ _)|(with_reducible refine Kd.C_drew ?_)));(case side2=>exact HC0_2.out);(case side3=>repeat (first|exact (Kd.qv1_ HR1_2.out HB.out)|(with_reducible refine Kd.C_alloc ?_ _)|(with_reducible refine Kd.C_drewN ?_ _)|(with_reducible refine Kd.C_drew ?_)));(case side4=>exact HC1_2.out);rintro e w18 ⟨rfl,hb⟩;refine ⟨_,rfl,?_⟩;have n0_:=aK (qm_ (g:=gb257) (o:=.cells #[.int .i64 a0_0,.int .i64 a0_1,.slice A0_2 l0_2.length c0_2] 38 (0,0)) (by (with_reducible repeat (first|refine qf_ ?_ _|refine qi_ ?_|refine qe_ ?_ _));exact BK257.out) hb);have n1_:=aK (qm_ (g:=gb258) (o:=.cells #[.int .i64 a1_0,.int .i64 a1_1,.slice A1_2 l1_2.length c1_2] 38 (0,0)) (by (with_reducible repeat (first|refine qf_ ?_ _|refine qi_ ?_|refine qe_ ?_ _));exact BK258.out) hb);have n2_:=aK (qj_ (by repeat (first|(with_reducible first|exact HB.out|apply qb_|apply qa_|apply qc_|refine qh_ ?_ GE257.out|refine qh_ ?_ GE258.out)|exact HB.out)) hb);clear BK257;clear BK258;clear HB;have BK257:=n0_;have BK258:=n1_;have HB:=n2_;clear n0_ n1_ n2_;(try clear hb);(try clear hb2);(try clear hk);(try clear hi)))
    go_ret
    exact ⟨by first|rfl|(simp [qo_,qn_] <;> rfl)|(simp [*,qo_,qn_] <;> rfl),by repeat (first|(with_reducible first|exact HB.out|apply qb_|apply qa_|apply qc_|refine qh_ ?_ GE257.out|refine qh_ ?_ GE258.out)|exact HB.out)⟩
  ·rw [if_neg c4] at H
   have c4b0:(a0_1 == a1_1)=false:=beq_eq_false_iff_ne.mpr c4
   have c4b1:(a0_1 != a1_1)=true:=bne_iff_ne.mpr c4
   obtain rfl:=Option.some.inj H
   go_enter Try.func33,Try.ntmps33
   go_wp2_with (first|((with_reducible refine qu_ (N:=2) rfl ?_);refine qr_ ?hg (N:=2) ?hd (cs:=#[.int .i64 a0_0,.int .i64 a0_1,.slice A0_2 l0_2.length c0_2]) (t:=38) ?hr ?_;(case hd=>rfl);(case hg=>rfl);(case hr=>first|(go_simp;done)|(go_simp;rfl));intro gb257 hg w19 hbox hb;have n0_:=aK (qj_ (by repeat (first|(with_reducible first|exact HB.out|apply qb_|apply qa_|apply qc_)|exact HB.out)) hb);have n1_:=aK (hbox);have n2_:=aK ((by rw [hg];exact (qk_ (by repeat (first|(with_reducible first|exact HB.out|apply qb_|apply qa_|apply qc_)|exact HB.out))):w.heap.size≤gb257));have n3_:=aK ((by rw [hg];exact (qk_ (by repeat (first|(with_reducible first|exact HB.out|apply qb_|apply qa_|apply qc_)|exact HB.out))):w.heap.size≤gb257));clear HB;have HB:=n0_;have BK257:=n1_;have GW257:=n2_;have GE257:=n3_;clear n0_ n1_ n2_ n3_;clear hb hbox hg)|((with_reducible refine qu_ (N:=3) rfl ?_);refine qr_ ?hg (N:=3) ?hd (cs:=#[.int .i64 a1_0,.int .i64 a1_1,.slice A1_2 l1_2.length c1_2]) (t:=38) ?hr ?_;(case hd=>rfl);(case hg=>rfl);(case hr=>first|(go_simp;done)|(go_simp;rfl));intro gb258 hg w20 hbox hb;have n0_:=aK (qm_ (g:=gb257) (o:=.cells #[.int .i64 a0_0,.int .i64 a0_1,.slice A0_2 l0_2.length c0_2] 38 (0,0)) (by (with_reducible repeat (first|refine qf_ ?_ _|refine qi_ ?_|refine qe_ ?_ _));exact BK257.out) hb);have n1_:=aK (qj_ (by repeat (first|(with_reducible first|exact HB.out|apply qb_|apply qa_|apply qc_|refine qh_ ?_ GE257.out)|exact HB.out)) hb);have n2_:=aK (hbox);have n3_:=aK ((by rw [hg];exact (qk_ (by repeat (first|(with_reducible first|exact HB.out|apply qb_|apply qa_|apply qc_|refine qh_ ?_ GE257.out)|exact HB.out))):w.heap.size≤gb258));have n4_:=aK ((by rw [hg];exact (qk_ (by repeat (first|(with_reducible first|exact HB.out|apply qb_|apply qa_|apply qc_|refine qh_ ?_ GE257.out)|exact HB.out))):w.heap.size≤gb258));have n5_:=aK ((by rw [hg];exact Nat.ne_of_lt (blk_lt (g:=gb257) (o:=.cells #[.int .i64 a0_0,.int .i64 a0_1,.slice A0_2 l0_2.length c0_2] 38 (0,0)) (by (with_reducible repeat (first|refine qf_ ?_ _|refine qi_ ?_|refine qe_ ?_ _));exact BK257.out)):gb257 ≠ gb258));have n6_:=aK ((by rw [hg];exact Nat.ne_of_gt (blk_lt (g:=gb257) (o:=.cells #[.int .i64 a0_0,.int .i64 a0_1,.slice A0_2 l0_2.length c0_2] 38 (0,0)) (by (with_reducible repeat (first|refine qf_ ?_ _|refine qi_ ?_|refine qe_ ?_ _));exact BK257.out)):gb258 ≠ gb257));clear BK257;clear HB;have BK257:=n0_;have HB:=n1_;have BK258:=n2_;have GW258:=n3_;have GE258:=n4_;have NB257_258:=n5_;have NB258_257:=n6_;clear n0_ n1_ n2_ n3_ n4_ n5_ n6_;clear hb hbox hg;have hnb21:=NB257_258.out;have hnc21:=NB258_257.out;have hcz22_0:w20.cell? ⟨gb257,0,none⟩=some (.int .i64 a0_0):=(qg_ BK257.out 0).trans rfl;have hcz22_1:w20.cell? ⟨gb257,1,none⟩=some (.int .i64 a0_1):=(qg_ BK257.out 1).trans rfl;have hcz22_2:w20.cell? ⟨gb257,2,none⟩=some (.slice A0_2 l0_2.length c0_2):=(qg_ BK257.out 2).trans rfl;have hfz22_0:=qd_ BK257.out 0;have hfz22_1:=qd_ BK257.out 1;have hfz22_2:=qd_ BK257.out 2;have hcz23_0:w20.cell? ⟨gb258,0,none⟩=some (.int .i64 a1_0):=(qg_ BK258.out 0).trans rfl;have hcz23_1:w20.cell? ⟨gb258,1,none⟩=some (.int .i64 a1_1):=(qg_ BK258.out 1).trans rfl;have hcz23_2:w20.cell? ⟨gb258,2,none⟩=some (.slice A1_2 l1_2.length c1_2):=(qg_ BK258.out 2).trans rfl;have hfz23_0:=qd_ BK258.out 0;have hfz23_1:=qd_ BK258.out 1;have hfz23_2:=qd_ BK258.out 2))
   go_ret
   exact ⟨by first|rfl|(simp [qo_,qn_] <;> rfl)|(simp [*,qo_,qn_] <;> rfl),by repeat (first|(with_reducible first|exact HB.out|apply qb_|apply qa_|apply qc_|refine qh_ ?_ GE257.out|refine qh_ ?_ GE258.out)|exact HB.out)⟩
 ·rw [if_neg c3] at H
  have c3b0:(a0_0 == a1_0)=false:=beq_eq_false_iff_ne.mpr c3
  have c3b1:(a0_0 != a1_0)=true:=bne_iff_ne.mpr c3
  obtain rfl:=Option.some.inj H
  go_enter Try.func33,Try.ntmps33
  go_wp2_with (first|((with_reducible refine qu_ (N:=2) rfl ?_);refine qr_ ?hg (N:=2) ?hd (cs:=#[.int .i64 a0_0,.int .i64 a0_1,.slice A0_2 l0_2.length c0_2]) (t:=38) ?hr ?_;(case hd=>rfl);(case hg=>rfl);(case hr=>first|(go_simp;done)|(go_simp;rfl));intro gb257 hg w24 hbox hb;have n0_:=aK (qj_ (by repeat (first|(with_reducible first|exact HB.out|apply qb_|apply qa_|apply qc_)|exact HB.out)) hb);have n1_:=aK (hbox);have n2_:=aK ((by rw [hg];exact (qk_ (by repeat (first|(with_reducible first|exact HB.out|apply qb_|apply qa_|apply qc_)|exact HB.out))):w.heap.size≤gb257));have n3_:=aK ((by rw [hg];exact (qk_ (by repeat (first|(with_reducible first|exact HB.out|apply qb_|apply qa_|apply qc_)|exact HB.out))):w.heap.size≤gb257));clear HB;have HB:=n0_;have BK257:=n1_;have GW257:=n2_;have GE257:=n3_;clear n0_ n1_ n2_ n3_;clear hb hbox hg)|((with_reducible refine qu_ (N:=3) rfl ?_);refine qr_ ?hg (N:=3) ?hd (cs:=#[.int .i64 a1_0,.int .i64 a1_1,.slice A1_2 l1_2.length c1_2]) (t:=38) ?hr ?_;(case hd=>rfl);(case hg=>rfl);(case hr=>first|(go_simp;done)|(go_simp;rfl));intro gb258 hg w25 hbox hb;have n0_:=aK (qm_ (g:=gb257) (o:=.cells #[.int .i64 a0_0,.int .i64 a0_1,.slice A0_2 l0_2.length c0_2] 38 (0,0)) (by (with_reducible repeat (first|refine qf_ ?_ _|refine qi_ ?_|refine qe_ ?_ _));exact BK257.out) hb);have n1_:=aK (qj_ (by repeat (first|(with_reducible first|exact HB.out|apply qb_|apply qa_|apply qc_|refine qh_ ?_ GE257.out)|exact HB.out)) hb);have n2_:=aK (hbox);have n3_:=aK ((by rw [hg];exact (qk_ (by repeat (first|(with_reducible first|exact HB.out|apply qb_|apply qa_|apply qc_|refine qh_ ?_ GE257.out)|exact HB.out))):w.heap.size≤gb258));have n4_:=aK ((by rw [hg];exact (qk_ (by repeat (first|(with_reducible first|exact HB.out|apply qb_|apply qa_|apply qc_|refine qh_ ?_ GE257.out)|exact HB.out))):w.heap.size≤gb258));have n5_:=aK ((by rw [hg];exact Nat.ne_of_lt (blk_lt (g:=gb257) (o:=.cells #[.int .i64 a0_0,.int .i64 a0_1,.slice A0_2 l0_2.length c0_2] 38 (0,0)) (by (with_reducible repeat (first|refine qf_ ?_ _|refine qi_ ?_|refine qe_ ?_ _));exact BK257.out)):gb257 ≠ gb258));have n6_:=aK ((by rw [hg];exact Nat.ne_of_gt (blk_lt (g:=gb257) (o:=.cells #[.int .i64 a0_0,.int .i64 a0_1,.slice A0_2 l0_2.length c0_2] 38 (0,0)) (by (with_reducible repeat (first|refine qf_ ?_ _|refine qi_ ?_|refine qe_ ?_ _));exact BK257.out)):gb258 ≠ gb257));clear BK257;clear HB;have BK257:=n0_;have HB:=n1_;have BK258:=n2_;have GW258:=n3_;have GE258:=n4_;have NB257_258:=n5_;have NB258_257:=n6_;clear n0_ n1_ n2_ n3_ n4_ n5_ n6_;clear hb hbox hg;have hnb26:=NB257_258.out;have hnc26:=NB258_257.out;have hcz27_0:w25.cell? ⟨gb257,0,none⟩=some (.int .i64 a0_0):=(qg_ BK257.out 0).trans rfl;have hcz27_1:w25.cell? ⟨gb257,1,none⟩=some (.int .i64 a0_1):=(qg_ BK257.out 1).trans rfl;have hcz27_2:w25.cell? ⟨gb257,2,none⟩=some (.slice A0_2 l0_2.length c0_2):=(qg_ BK257.out 2).trans rfl;have hfz27_0:=qd_ BK257.out 0;have hfz27_1:=qd_ BK257.out 1;have hfz27_2:=qd_ BK257.out 2;have hcz28_0:w25.cell? ⟨gb258,0,none⟩=some (.int .i64 a1_0):=(qg_ BK258.out 0).trans rfl;have hcz28_1:w25.cell? ⟨gb258,1,none⟩=some (.int .i64 a1_1):=(qg_ BK258.out 1).trans rfl;have hcz28_2:w25.cell? ⟨gb258,2,none⟩=some (.slice A1_2 l1_2.length c1_2):=(qg_ BK258.out 2).trans rfl;have hfz28_0:=qd_ BK258.out 0;have hfz28_1:=qd_ BK258.out 1;have hfz28_2:=qd_ BK258.out 2))
  go_ret
  exact ⟨by first|rfl|(simp [qo_,qn_] <;> rfl)|(simp [*,qo_,qn_] <;> rfl),by repeat (first|(with_reducible first|exact HB.out|apply qb_|apply qa_|apply qc_|refine qh_ ?_ GE257.out|refine qh_ ?_ GE258.out)|exact HB.out)⟩
end Go.Proofs.Ytaiefdhenikiiaa.Base
namespace Go.Proofs.Ytaiefdhenikiiaa.Base
open Go.RowKit Go.Proofs.YtaiefdhenikiiaaW.PrintWords Go.Proofs.YtaiefdhenikiiaaW.PrintLast Go.Proofs.YtaiefdhenikiiaaW.PrintMore
attribute [local go_sem] max2_int qo1_ max_two min_two max_three min_three max_four min_four Go.Proofs.YtaiefdhenikiiaaZ.qx_   -- for this text's walks alone
set_option linter.unusedVariables false
set_option linter.unusedSimpArgs false
def qe2_.f (k:Nat) (a0_0:Int) (a0_1:Int) (l0_2:List (S79)) (a1:Int):Option (Int):=(qs_.f k l0_2 a1).bind fun t441=>(if t441 < 0 then (some (-1)) else (some t441))
theorem qe2_.mono:∀ a0 a1 a2 a3 k,LeO (qe2_.f k a0 a1 a2 a3) (qe2_.f (k+1) a0 a1 a2 a3):=by
 intro a0 a1 a2 a3 k
 unfold qe2_.f
 repeat' first
   | (with_reducible exact qs_.mono _ _ _)
   | (with_reducible exact LeO.refl _)
   | (with_reducible exact LeO.none _)
   | (with_reducible refine LeO.ite ?_ ?_)
   | (with_reducible refine LeO.bind ?_ (fun _=>?_))
   | exact qs_.mono _ _ _
   | exact LeO.none _
   | refine LeO.ite ?_ ?_
   | refine LeO.bind ?_ (fun _=>?_)
set_option maxHeartbeats 8000000 in
set_option maxRecDepth 100000 in
theorem qe2_.calls (k:Nat) (a0_0:Int) (a0_1:Int) (A0_2:Option Addr) (c0_2:Nat) (l0_2:List (S79)) (a1:Int) (r:Int) (w:World) (hr0_2:Kd.C k79 w A0_2 l0_2.length l0_2) (hc0_2:l0_2.length≤c0_2) (h:qe2_.f k a0_0 a0_1 l0_2 a1=some r) :
  Calls Try.prog 39 #[.agg #[.int .i64 a0_0,.int .i64 a0_1,.slice A0_2 l0_2.length c0_2],.int .i64 a1] w fun e w'=>e=.returned (.int .i64 r)∧Below w.heap.size w w':=by
 have hu38:=Try.underlying38
 have HR0_2:=aK hr0_2
 have HC0_2:=aK hc0_2
 clear hr0_2 hc0_2
 have HB:=aK (Below.refl w.heap.size w)
 have H:((qs_.f k l0_2 a1).bind fun t441=>(if t441 < 0 then (some (-1)) else (some t441)))=some r:=h
 clear h
 replace H:=Option.bind_eq_some_iff.mp H
 obtain ⟨t441,A30,H⟩:=H
 replace H:(if t441 < 0 then (some (-1)) else (some t441))=some r:=H
 have A3:=aK A30
 clear A30
 by_cases c4:t441 < 0
 ·rw [if_pos c4] at H
  have c4b0:decide (t441 < 0)=true:=decide_eq_true c4
  clear c4
  obtain rfl:=Option.some.inj H
  go_enter Try.func39,Try.ntmps39
  go_wp2_with (first|((with_reducible refine qu_ (N:=2) rfl ?_);refine qr_ ?hg (N:=2) ?hd (cs:=#[.int .i64 a0_0,.int .i64 a0_1,.slice A0_2 l0_2.length c0_2]) (t:=38) ?hr ?_;(case hd=>rfl);(case hg=>rfl);(case hr=>first|(go_simp;done)|(go_simp;rfl));intro gb440 hg w5 hbox hb;have n0_:=aK (qj_ (by repeat (first|(with_reducible first|exact HB.out|apply qb_|apply qa_|apply qc_)|exact HB.out)) hb);have n1_:=aK (hbox);have n2_:=aK ((by rw [hg];exact (qk_ (by repeat (first|(with_reducible first|exact HB.out|apply qb_|apply qa_|apply qc_)|exact HB.out))):w.heap.size≤gb440));have n3_:=aK ((by rw [hg];exact (qk_ (by repeat (first|(with_reducible first|exact HB.out|apply qb_|apply qa_|apply qc_)|exact HB.out))):w.heap.size≤gb440));clear HB;have HB:=n0_;have BK440:=n1_;have GW440:=n2_;have GE440:=n3_;clear n0_ n1_ n2_ n3_;clear hb hbox hg;have hcz6_0:w5.cell? ⟨gb440,0,none⟩=some (.int .i64 a0_0):=(qg_ BK440.out 0).trans rfl;have hcz6_1:w5.cell? ⟨gb440,1,none⟩=some (.int .i64 a0_1):=(qg_ BK440.out 1).trans rfl;have hcz6_2:w5.cell? ⟨gb440,2,none⟩=some (.slice A0_2 l0_2.length c0_2):=(qg_ BK440.out 2).trans rfl;have hfz6_0:=qd_ BK440.out 0;have hfz6_1:=qd_ BK440.out 1;have hfz6_2:=qd_ BK440.out 2)|((with_reducible refine qa1_ (f:=27) rfl ?_);refine goesL_ (some 8) rfl rfl Try.func27 (by kernel_rfl) rfl #[.slice A0_2 l0_2.length c0_2,.int .i64 a1] rfl (by (try simp only [List.map_toArray,List.map_cons,List.map_nil]);first|done|rfl|(simp only [List.length_drop,List.length_take];rfl)) ?_;(with_reducible refine (qs_.calls k _ _ l0_2 a1 t441 _ ?side1 ?side2 A3.out).mono ?_);(case side1=>repeat (first|exact (Kd.qv1_ HR0_2.out HB.out)|(with_reducible refine Kd.C_alloc ?_ _)|(with_reducible refine Kd.C_drewN ?_ _)|(with_reducible refine Kd.C_drew ?_)));(case side2=>exact HC0_2.out);rintro e w7 ⟨rfl,hb⟩;refine ⟨_,rfl,?_⟩;have n0_:=aK (qm_ (g:=gb440) (o:=.cells #[.int .i64 a0_0,.int .i64 a0_1,.slice A0_2 l0_2.length c0_2] 38 (0,0)) (by (with_reducible repeat (first|refine qf_ ?_ _|refine qi_ ?_|refine qe_ ?_ _));exact BK440.out) hb);have n1_:=aK (qj_ (by repeat (first|(with_reducible first|exact HB.out|apply qb_|apply qa_|apply qc_|refine qh_ ?_ GE440.out)|exact HB.out)) hb);clear BK440;clear HB;have BK440:=n0_;have HB:=n1_;clear n0_ n1_;(try clear hb);(try clear hb2);(try clear hk);(try clear hi)))
  go_ret
  exact ⟨by first|rfl|(simp [qo_,qn_] <;> rfl)|(simp [*,qo_,qn_] <;> rfl),by repeat (first|(with_reducible first|exact HB.out|apply qb_|apply qa_|apply qc_|refine qh_ ?_ GE440.out)|exact HB.out)⟩
 ·rw [if_neg c4] at H
  have c4b0:decide (t441 < 0)=false:=decide_eq_false c4
  clear c4
  obtain rfl:=Option.some.inj H
  go_enter Try.func39,Try.ntmps39
  go_wp2_with (first|((with_reducible refine qu_ (N:=2) rfl ?_);refine qr_ ?hg (N:=2) ?hd (cs:=#[.int .i64 a0_0,.int .i64 a0_1,.slice A0_2 l0_2.length c0_2]) (t:=38) ?hr ?_;(case hd=>rfl);(case hg=>rfl);(case hr=>first|(go_simp;done)|(go_simp;rfl));intro gb440 hg w8 hbox hb;have n0_:=aK (qj_ (by repeat (first|(with_reducible first|exact HB.out|apply qb_|apply qa_|apply qc_)|exact HB.out)) hb);have n1_:=aK (hbox);have n2_:=aK ((by rw [hg];exact (qk_ (by repeat (first|(with_reducible first|exact HB.out|apply qb_|apply qa_|apply qc_)|exact HB.out))):w.heap.size≤gb440));have n3_:=aK ((by rw [hg];exact (qk_ (by repeat (first|(with_reducible first|exact HB.out|apply qb_|apply qa_|apply qc_)|exact HB.out))):w.heap.size≤gb440));clear HB;have HB:=n0_;have BK440:=n1_;have GW440:=n2_;have GE440:=n3_;clear n0_ n1_ n2_ n3_;clear hb hbox hg;have hcz9_0:w8.cell? ⟨gb440,0,none⟩=some (.int .i64 a0_0):=(qg_ BK440.out 0).trans rfl;have hcz9_1:w8.cell? ⟨gb440,1,none⟩=some (.int .i64 a0_1):=(qg_ BK440.out 1).trans rfl;have hcz9_2:w8.cell? ⟨gb440,2,none⟩=some (.slice A0_2 l0_2.length c0_2):=(qg_ BK440.out 2).trans rfl;have hfz9_0:=qd_ BK440.out 0;have hfz9_1:=qd_ BK440.out 1;have hfz9_2:=qd_ BK440.out 2)|((with_reducible refine qa1_ (f:=27) rfl ?_);refine goesL_ (some 8) rfl rfl Try.func27 (by kernel_rfl) rfl #[.slice A0_2 l0_2.length c0_2,.int .i64 a1] rfl (by (try simp only [List.map_toArray,List.map_cons,List.map_nil]);first|done|rfl|(simp only [List.length_drop,List.length_take];rfl)) ?_;(with_reducible refine (qs_.calls k _ _ l0_2 a1 t441 _ ?side1 ?side2 A3.out).mono ?_);(case side1=>repeat (first|exact (Kd.qv1_ HR0_2.out HB.out)|(with_reducible refine Kd.C_alloc ?_ _)|(with_reducible refine Kd.C_drewN ?_ _)|(with_reducible refine Kd.C_drew ?_)));(case side2=>exact HC0_2.out);rintro e w10 ⟨rfl,hb⟩;refine ⟨_,rfl,?_⟩;have n0_:=aK (qm_ (g:=gb440) (o:=.cells #[.int .i64 a0_0,.int .i64 a0_1,.slice A0_2 l0_2.length c0_2] 38 (0,0)) (by (with_reducible repeat (first|refine qf_ ?_ _|refine qi_ ?_|refine qe_ ?_ _));exact BK440.out) hb);have n1_:=aK (qj_ (by repeat (first|(with_reducible first|exact HB.out|apply qb_|apply qa_|apply qc_|refine qh_ ?_ GE440.out)|exact HB.out)) hb);clear BK440;clear HB;have BK440:=n0_;have HB:=n1_;clear n0_ n1_;(try clear hb);(try clear hb2);(try clear hk);(try clear hi)))
  go_ret
  exact ⟨by first|rfl|(simp [qo_,qn_] <;> rfl)|(simp [*,qo_,qn_] <;> rfl),by repeat (first|(with_reducible first|exact HB.out|apply qb_|apply qa_|apply qc_|refine qh_ ?_ GE440.out)|exact HB.out)⟩
end Go.Proofs.Ytaiefdhenikiiaa.Base
namespace Go.Proofs.Ytaiefdhenikiiaa.Base
open Go.RowKit Go.Proofs.YtaiefdhenikiiaaW.PrintWords Go.Proofs.YtaiefdhenikiiaaW.PrintLast Go.Proofs.YtaiefdhenikiiaaW.PrintMore
attribute [local go_sem] max2_int qo1_ max_two min_two max_three min_three max_four min_four Go.Proofs.YtaiefdhenikiiaaZ.qx_   -- for this text's walks alone
set_option linter.unusedVariables false
set_option linter.unusedSimpArgs false
def qk2_.f (k:Nat) (a0_0:Int) (a0_1:Int) (l0_2:List (S75)) (a1:Int):Option (Int):=(qm1_.f k l0_2 a1).bind fun t204=>(if t204 < 0 then (some (-1)) else (some t204))
theorem qk2_.mono:∀ a0 a1 a2 a3 k,LeO (qk2_.f k a0 a1 a2 a3) (qk2_.f (k+1) a0 a1 a2 a3):=by
 intro a0 a1 a2 a3 k
 unfold qk2_.f
 repeat' first
   | (with_reducible exact qm1_.mono _ _ _)
   | (with_reducible exact LeO.refl _)
   | (with_reducible exact LeO.none _)
   | (with_reducible refine LeO.ite ?_ ?_)
   | (with_reducible refine LeO.bind ?_ (fun _=>?_))
   | exact qm1_.mono _ _ _
   | exact LeO.none _
   | refine LeO.ite ?_ ?_
   | refine LeO.bind ?_ (fun _=>?_)
set_option maxHeartbeats 8000000 in
set_option maxRecDepth 100000 in
theorem qk2_.calls (k:Nat) (a0_0:Int) (a0_1:Int) (A0_2:Option Addr) (c0_2:Nat) (l0_2:List (S75)) (a1:Int) (r:Int) (w:World) (hr0_2:Kd.C k75 w A0_2 l0_2.length l0_2) (hc0_2:l0_2.length≤c0_2) (h:qk2_.f k a0_0 a0_1 l0_2 a1=some r) :
  Calls Try.prog 28 #[.agg #[.int .i64 a0_0,.int .i64 a0_1,.slice A0_2 l0_2.length c0_2],.int .i64 a1] w fun e w'=>e=.returned (.int .i64 r)∧Below w.heap.size w w':=by
 have hu32:=Try.underlying32
 have HR0_2:=aK hr0_2
 have HC0_2:=aK hc0_2
 clear hr0_2 hc0_2
 have HB:=aK (Below.refl w.heap.size w)
 have H:((qm1_.f k l0_2 a1).bind fun t204=>(if t204 < 0 then (some (-1)) else (some t204)))=some r:=h
 clear h
 replace H:=Option.bind_eq_some_iff.mp H
 obtain ⟨t204,A30,H⟩:=H
 replace H:(if t204 < 0 then (some (-1)) else (some t204))=some r:=H
 have A3:=aK A30
 clear A30
 by_cases c4:t204 < 0
 ·rw [if_pos c4] at H
  have c4b0:decide (t204 < 0)=true:=decide_eq_true c4
  clear c4
  obtain rfl:=Option.some.inj H
  go_enter Try.func28,Try.ntmps28
  go_wp2_with (first|((with_reducible refine qu_ (N:=2) rfl ?_);refine qr_ ?hg (N:=2) ?hd (cs:=#[.int .i64 a0_0,.int .i64 a0_1,.slice A0_2 l0_2.length c0_2]) (t:=32) ?hr ?_;(case hd=>rfl);(case hg=>rfl);(case hr=>first|(go_simp;done)|(go_simp;rfl));intro gb203 hg w5 hbox hb;have n0_:=aK (qj_ (by repeat (first|(with_reducible first|exact HB.out|apply qb_|apply qa_|apply qc_)|exact HB.out)) hb);have n1_:=aK (hbox);have n2_:=aK ((by rw [hg];exact (qk_ (by repeat (first|(with_reducible first|exact HB.out|apply qb_|apply qa_|apply qc_)|exact HB.out))):w.heap.size≤gb203));have n3_:=aK ((by rw [hg];exact (qk_ (by repeat (first|(with_reducible first|exact HB.out|apply qb_|apply qa_|apply qc_)|exact HB.out))):w.heap.size≤gb203));clear HB;have HB:=n0_;have BK203:=n1_;have GW203:=n2_;have GE203:=n3_;clear n0_ n1_ n2_ n3_;clear hb hbox hg;have hcz6_0:w5.cell? ⟨gb203,0,none⟩=some (.int .i64 a0_0):=(qg_ BK203.out 0).trans rfl;have hcz6_1:w5.cell? ⟨gb203,1,none⟩=some (.int .i64 a0_1):=(qg_ BK203.out 1).trans rfl;have hcz6_2:w5.cell? ⟨gb203,2,none⟩=some (.slice A0_2 l0_2.length c0_2):=(qg_ BK203.out 2).trans rfl;have hfz6_0:=qd_ BK203.out 0;have hfz6_1:=qd_ BK203.out 1;have hfz6_2:=qd_ BK203.out 2)|((with_reducible refine qa1_ (f:=21) rfl ?_);refine goesL_ (some 8) rfl rfl Try.func21 (by kernel_rfl) rfl #[.slice A0_2 l0_2.length c0_2,.int .i64 a1] rfl (by (try simp only [List.map_toArray,List.map_cons,List.map_nil]);first|done|rfl|(simp only [List.length_drop,List.length_take];rfl)) ?_;(with_reducible refine (qm1_.calls k _ _ l0_2 a1 t204 _ ?side1 ?side2 A3.out).mono ?_);(case side1=>repeat (first|exact (Kd.qv1_ HR0_2.out HB.out)|(with_reducible refine Kd.C_alloc ?_ _)|(with_reducible refine Kd.C_drewN ?_ _)|(with_reducible refine Kd.C_drew ?_)));(case side2=>exact HC0_2.out);rintro e w7 ⟨rfl,hb⟩;refine ⟨_,rfl,?_⟩;have n0_:=aK (qm_ (g:=gb203) (o:=.cells #[.int .i64 a0_0,.int .i64 a0_1,.slice A0_2 l0_2.length c0_2] 32 (0,0)) (by (with_reducible repeat (first|refine qf_ ?_ _|refine qi_ ?_|refine qe_ ?_ _));exact BK203.out) hb);have n1_:=aK (qj_ (by repeat (first|(with_reducible first|exact HB.out|apply qb_|apply qa_|apply qc_|refine qh_ ?_ GE203.out)|exact HB.out)) hb);clear BK203;clear HB;have BK203:=n0_;have HB:=n1_;clear n0_ n1_;(try clear hb);(try clear hb2);(try clear hk);(try clear hi)))
  go_ret
  exact ⟨by first|rfl|(simp [qo_,qn_] <;> rfl)|(simp [*,qo_,qn_] <;> rfl),by repeat (first|(with_reducible first|exact HB.out|apply qb_|apply qa_|apply qc_|refine qh_ ?_ GE203.out)|exact HB.out)⟩
 ·rw [if_neg c4] at H
  have c4b0:decide (t204 < 0)=false:=decide_eq_false c4
  clear c4
  obtain rfl:=Option.some.inj H
  go_enter Try.func28,Try.ntmps28
  go_wp2_with (first|((with_reducible refine qu_ (N:=2) rfl ?_);refine qr_ ?hg (N:=2) ?hd (cs:=#[.int .i64 a0_0,.int .i64 a0_1,.slice A0_2 l0_2.length c0_2]) (t:=32) ?hr ?_;(case hd=>rfl);(case hg=>rfl);(case hr=>first|(go_simp;done)|(go_simp;rfl));intro gb203 hg w8 hbox hb;have n0_:=aK (qj_ (by repeat (first|(with_reducible first|exact HB.out|apply qb_|apply qa_|apply qc_)|exact HB.out)) hb);have n1_:=aK (hbox);have n2_:=aK ((by rw [hg];exact (qk_ (by repeat (first|(with_reducible first|exact HB.out|apply qb_|apply qa_|apply qc_)|exact HB.out))):w.heap.size≤gb203));have n3_:=aK ((by rw [hg];exact (qk_ (by repeat (first|(with_reducible first|exact HB.out|apply qb_|apply qa_|apply qc_)|exact HB.out))):w.heap.size≤gb203));clear HB;have HB:=n0_;have BK203:=n1_;have GW203:=n2_;have GE203:=n3_;clear n0_ n1_ n2_ n3_;clear hb hbox hg;have hcz9_0:w8.cell? ⟨gb203,0,none⟩=some (.int .i64 a0_0):=(qg_ BK203.out 0).trans rfl;have hcz9_1:w8.cell? ⟨gb203,1,none⟩=some (.int .i64 a0_1):=(qg_ BK203.out 1).trans rfl;have hcz9_2:w8.cell? ⟨gb203,2,none⟩=some (.slice A0_2 l0_2.length c0_2):=(qg_ BK203.out 2).trans rfl;have hfz9_0:=qd_ BK203.out 0;have hfz9_1:=qd_ BK203.out 1;have hfz9_2:=qd_ BK203.out 2)|((with_reducible refine qa1_ (f:=21) rfl ?_);refine goesL_ (some 8) rfl rfl Try.func21 (by kernel_rfl) rfl #[.slice A0_2 l0_2.length c0_2,.int .i64 a1] rfl (by (try simp only [List.map_toArray,List.map_cons,List.map_nil]);first|done|rfl|(simp only [List.length_drop,List.length_take];rfl)) ?_;(with_reducible refine (qm1_.calls k _ _ l0_2 a1 t204 _ ?side1 ?side2 A3.out).mono ?_);(case side1=>repeat (first|exact (Kd.qv1_ HR0_2.out HB.out)|(with_reducible refine Kd.C_alloc ?_ _)|(with_reducible refine Kd.C_drewN ?_ _)|(with_reducible refine Kd.C_drew ?_)));(case side2=>exact HC0_2.out);rintro e w10 ⟨rfl,hb⟩;refine ⟨_,rfl,?_⟩;have n0_:=aK (qm_ (g:=gb203) (o:=.cells #[.int .i64 a0_0,.int .i64 a0_1,.slice A0_2 l0_2.length c0_2] 32 (0,0)) (by (with_reducible repeat (first|refine qf_ ?_ _|refine qi_ ?_|refine qe_ ?_ _));exact BK203.out) hb);have n1_:=aK (qj_ (by repeat (first|(with_reducible first|exact HB.out|apply qb_|apply qa_|apply qc_|refine qh_ ?_ GE203.out)|exact HB.out)) hb);clear BK203;clear HB;have BK203:=n0_;have HB:=n1_;clear n0_ n1_;(try clear hb);(try clear hb2);(try clear hk);(try clear hi)))
  go_ret
  exact ⟨by first|rfl|(simp [qo_,qn_] <;> rfl)|(simp [*,qo_,qn_] <;> rfl),by repeat (first|(with_reducible first|exact HB.out|apply qb_|apply qa_|apply qc_|refine qh_ ?_ GE203.out)|exact HB.out)⟩
end Go.Proofs.Ytaiefdhenikiiaa.Base
namespace Go.Proofs.Ytaiefdhenikiiaa.Base
open Go.RowKit Go.Proofs.YtaiefdhenikiiaaW.PrintWords Go.Proofs.YtaiefdhenikiiaaW.PrintLast Go.Proofs.YtaiefdhenikiiaaW.PrintMore
attribute [local go_sem] max2_int qo1_ max_two min_two max_three min_three max_four min_four Go.Proofs.YtaiefdhenikiiaaZ.qx_   -- for this text's walks alone
set_option linter.unusedVariables false
set_option linter.unusedSimpArgs false
def qd2_.f (k:Nat) (a0_0:Int) (a0_1:Int) (l0_2:List (S75)):Option (Int × Int × (List (S79))):=(ql1_.f k l0_2).bind fun t234=>(some (a0_0,a0_1,t234))
theorem qd2_.mono:∀ a0 a1 a2 k,LeO (qd2_.f k a0 a1 a2) (qd2_.f (k+1) a0 a1 a2):=by
 intro a0 a1 a2 k
 unfold qd2_.f
 repeat' first
   | (with_reducible exact ql1_.mono _ _)
   | (with_reducible exact LeO.refl _)
   | (with_reducible exact LeO.none _)
   | (with_reducible refine LeO.ite ?_ ?_)
   | (with_reducible refine LeO.bind ?_ (fun _=>?_))
   | exact ql1_.mono _ _
   | exact LeO.none _
   | refine LeO.ite ?_ ?_
   | refine LeO.bind ?_ (fun _=>?_)
set_option maxHeartbeats 8000000 in
set_option maxRecDepth 100000 in
theorem qd2_.calls (k:Nat) (a0_0:Int) (a0_1:Int) (A0_2:Option Addr) (c0_2:Nat) (l0_2:List (S75)) (r1:Int) (r2:Int) (r3:List (S79)) (w:World) (hr0_2:Kd.C k75 w A0_2 l0_2.length l0_2) (hc0_2:l0_2.length≤c0_2) (h:qd2_.f k a0_0 a0_1 l0_2=some (r1,r2,r3)) :
  Calls Try.prog 30 #[.agg #[.int .i64 a0_0,.int .i64 a0_1,.slice A0_2 l0_2.length c0_2]] w fun e w'=>∃ v2_:Value,e=.returned (.agg #[.int .i64 r1,.int .i64 r2,v2_])∧Kd.R k79 79 w' w.heap.size (fun _=>True) v2_ r3∧Below w.heap.size w w':=by
 have hu32:=Try.underlying32
 have hu38:=Try.underlying38
 have HR0_2:=aK hr0_2
 have HC0_2:=aK hc0_2
 clear hr0_2 hc0_2
 have HB:=aK (Below.refl w.heap.size w)
 have H:((ql1_.f k l0_2).bind fun t234=>(some (a0_0,a0_1,t234)))=some (r1,r2,r3):=h
 clear h
 replace H:=Option.bind_eq_some_iff.mp H
 obtain ⟨t234,A20,H⟩:=H
 replace H:(some (a0_0,a0_1,t234))=some (r1,r2,r3):=H
 have A2:=aK A20
 clear A20
 simp only [Option.some.injEq,Prod.mk.injEq] at H
 obtain ⟨rfl,rfl,rfl⟩:=H
 go_enter Try.func30,Try.ntmps30
 go_wp2_with (first|((with_reducible refine qu_ (N:=1) rfl ?_);refine qr_ ?hg (N:=1) ?hd (cs:=#[.int .i64 a0_0,.int .i64 a0_1,.slice A0_2 l0_2.length c0_2]) (t:=32) ?hr ?_;(case hd=>rfl);(case hg=>rfl);(case hr=>first|(go_simp;done)|(go_simp;rfl));intro gb231 hg w3 hbox hb;have n0_:=aK (qj_ (by repeat (first|(with_reducible first|exact HB.out|apply qb_|apply qa_|apply qc_)|exact HB.out)) hb);have n1_:=aK (hbox);have n2_:=aK ((by rw [hg];exact (qk_ (by repeat (first|(with_reducible first|exact HB.out|apply qb_|apply qa_|apply qc_)|exact HB.out))):w.heap.size≤gb231));have n3_:=aK ((by rw [hg];exact (qk_ (by repeat (first|(with_reducible first|exact HB.out|apply qb_|apply qa_|apply qc_)|exact HB.out))):w.heap.size≤gb231));clear HB;have HB:=n0_;have BK231:=n1_;have GW231:=n2_;have GE231:=n3_;clear n0_ n1_ n2_ n3_;clear hb hbox hg)|((with_reducible refine qu_ (N:=2) rfl ?_);refine qr_ ?hg (N:=2) ?hd (cs:=#[.int .i64 0,.int .i64 0,.slice none 0 0]) (t:=38) ?hr ?_;(case hd=>rfl);(case hg=>rfl);(case hr=>first|(go_simp;done)|(go_simp;rfl));intro gb232 hg w4 hbox hb;have n0_:=aK (qm_ (g:=gb231) (o:=.cells #[.int .i64 a0_0,.int .i64 a0_1,.slice A0_2 l0_2.length c0_2] 32 (0,0)) (by (with_reducible repeat (first|refine qf_ ?_ _|refine qi_ ?_|refine qe_ ?_ _));exact BK231.out) hb);have n1_:=aK (qj_ (by repeat (first|(with_reducible first|exact HB.out|apply qb_|apply qa_|apply qc_|refine qh_ ?_ GE231.out)|exact HB.out)) hb);have n2_:=aK (hbox);have n3_:=aK ((by rw [hg];exact (qk_ (by repeat (first|(with_reducible first|exact HB.out|apply qb_|apply qa_|apply qc_|refine qh_ ?_ GE231.out)|exact HB.out))):w.heap.size≤gb232));have n4_:=aK ((by rw [hg];exact (qk_ (by repeat (first|(with_reducible first|exact HB.out|apply qb_|apply qa_|apply qc_|refine qh_ ?_ GE231.out)|exact HB.out))):w.heap.size≤gb232));have n5_:=aK ((by rw [hg];exact Nat.ne_of_lt (blk_lt (g:=gb231) (o:=.cells #[.int .i64 a0_0,.int .i64 a0_1,.slice A0_2 l0_2.length c0_2] 32 (0,0)) (by (with_reducible repeat (first|refine qf_ ?_ _|refine qi_ ?_|refine qe_ ?_ _));exact BK231.out)):gb231 ≠ gb232));have n6_:=aK ((by rw [hg];exact Nat.ne_of_gt (blk_lt (g:=gb231) (o:=.cells #[.int .i64 a0_0,.int .i64 a0_1,.slice A0_2 l0_2.length c0_2] 32 (0,0)) (by (with_reducible repeat (first|refine qf_ ?_ _|refine qi_ ?_|refine qe_ ?_ _));exact BK231.out)):gb232 ≠ gb231));clear BK231;clear HB;have BK231:=n0_;have HB:=n1_;have BK232:=n2_;have GW232:=n3_;have GE232:=n4_;have NB231_232:=n5_;have NB232_231:=n6_;clear n0_ n1_ n2_ n3_ n4_ n5_ n6_;clear hb hbox hg)|((with_reducible refine qu_ (N:=3) rfl ?_);refine qr_ ?hg (N:=3) ?hd (cs:=#[.int .i64 0,.int .i64 0,.slice none 0 0]) (t:=38) ?hr ?_;(case hd=>rfl);(case hg=>rfl);(case hr=>first|(go_simp;done)|(go_simp;rfl));intro gb233 hg w5 hbox hb;have n0_:=aK (qm_ (g:=gb231) (o:=.cells #[.int .i64 a0_0,.int .i64 a0_1,.slice A0_2 l0_2.length c0_2] 32 (0,0)) (by (with_reducible repeat (first|refine qf_ ?_ _|refine qi_ ?_|refine qe_ ?_ _));exact BK231.out) hb);have n1_:=aK (qm_ (g:=gb232) (o:=.cells #[.int .i64 0,.int .i64 0,.slice none 0 0] 38 (0,0)) (by (with_reducible repeat (first|refine qf_ ?_ _|refine qi_ ?_|refine qe_ ?_ _));exact BK232.out) hb);have n2_:=aK (qj_ (by repeat (first|(with_reducible first|exact HB.out|apply qb_|apply qa_|apply qc_|refine qh_ ?_ GE231.out|refine qh_ ?_ GE232.out)|exact HB.out)) hb);have n3_:=aK (hbox);have n4_:=aK ((by rw [hg];exact (qk_ (by repeat (first|(with_reducible first|exact HB.out|apply qb_|apply qa_|apply qc_|refine qh_ ?_ GE231.out|refine qh_ ?_ GE232.out)|exact HB.out))):w.heap.size≤gb233));have n5_:=aK ((by rw [hg];exact (qk_ (by repeat (first|(with_reducible first|exact HB.out|apply qb_|apply qa_|apply qc_|refine qh_ ?_ GE231.out|refine qh_ ?_ GE232.out)|exact HB.out))):w.heap.size≤gb233));have n6_:=aK ((by rw [hg];exact Nat.ne_of_lt (blk_lt (g:=gb231) (o:=.cells #[.int .i64 a0_0,.int .i64 a0_1,.slice A0_2 l0_2.length c0_2] 32 (0,0)) (by (with_reducible repeat (first|refine qf_ ?_ _|refine qi_ ?_|refine qe_ ?_ _));exact BK231.out)):gb231 ≠ gb233));have n7_:=aK ((by rw [hg];exact Nat.ne_of_gt (blk_lt (g:=gb231) (o:=.cells #[.int .i64 a0_0,.int .i64 a0_1,.slice A0_2 l0_2.length c0_2] 32 (0,0)) (by (with_reducible repeat (first|refine qf_ ?_ _|refine qi_ ?_|refine qe_ ?_ _));exact BK231.out)):gb233 ≠ gb231));have n8_:=aK ((by rw [hg];exact Nat.ne_of_lt (blk_lt (g:=gb232) (o:=.cells #[.int .i64 0,.int .i64 0,.slice none 0 0] 38 (0,0)) (by (with_reducible repeat (first|refine qf_ ?_ _|refine qi_ ?_|refine qe_ ?_ _));exact BK232.out)):gb232 ≠ gb233));have n9_:=aK ((by rw [hg];exact Nat.ne_of_gt (blk_lt (g:=gb232) (o:=.cells #[.int .i64 0,.int .i64 0,.slice none 0 0] 38 (0,0)) (by (with_reducible repeat (first|refine qf_ ?_ _|refine qi_ ?_|refine qe_ ?_ _));exact BK232.out)):gb233 ≠ gb232));clear BK231;clear BK232;clear HB;have BK231:=n0_;have BK232:=n1_;have HB:=n2_;have BK233:=n3_;have GW233:=n4_;have GE233:=n5_;have NB231_233:=n6_;have NB233_231:=n7_;have NB232_233:=n8_;have NB233_232:=n9_;clear n0_ n1_ n2_ n3_ n4_ n5_ n6_ n7_ n8_ n9_;clear hb hbox hg;have hnb6:=NB231_232.out;have hnc6:=NB232_231.out;have hnb7:=NB231_233.out;have hnc7:=NB233_231.out;have hcz8_0:w5.cell? ⟨gb231,0,none⟩=some (.int .i64 a0_0):=(qg_ BK231.out 0).trans rfl;have hcz8_1:w5.cell? ⟨gb231,1,none⟩=some (.int .i64 a0_1):=(qg_ BK231.out 1).trans rfl;have hcz8_2:w5.cell? ⟨gb231,2,none⟩=some (.slice A0_2 l0_2.length c0_2):=(qg_ BK231.out 2).trans rfl;have hfz8_0:=qd_ BK231.out 0;have hfz8_1:=qd_ BK231.out 1;have hfz8_2:=qd_ BK231.out 2;have hnb9:=NB233_232.out;have hnc9:=NB232_233.out;have hcz10_0:w5.cell? ⟨gb233,0,none⟩=some (.int .i64 0):=(qg_ BK233.out 0).trans rfl;have hcz10_1:w5.cell? ⟨gb233,1,none⟩=some (.int .i64 0):=(qg_ BK233.out 1).trans rfl;have hcz10_2:w5.cell? ⟨gb233,2,none⟩=some (.slice none 0 0):=(qg_ BK233.out 2).trans rfl;have hfz10_0:=qd_ BK233.out 0;have hfz10_1:=qd_ BK233.out 1;have hfz10_2:=qd_ BK233.out 2)|((with_reducible refine qa1_ (f:=23) rfl ?_);refine goesL_ (some 12) rfl rfl Try.func23 (by kernel_rfl) rfl #[.slice A0_2 l0_2.length c0_2] rfl (by (try simp only [List.map_toArray,List.map_cons,List.map_nil]);first|done|rfl|(simp only [List.length_drop,List.length_take];rfl)) ?_;(with_reducible refine (ql1_.calls k _ _ l0_2 t234 _ ?side1 ?side2 A2.out).mono ?_);(case side1=>exact Kd.qv1_ HR0_2.out (by repeat (first|(with_reducible first|exact HB.out|apply qb_|apply qa_|apply qc_|refine qh_ ?_ GE231.out|refine qh_ ?_ GE232.out|refine qh_ ?_ GE233.out)|exact HB.out)));(case side2=>exact HC0_2.out);rintro e w11 ⟨v235,rfl,ho0,hb⟩;refine ⟨_,rfl,?_⟩;have n0_:=aK (Kd.qn2_ ho0 (qk_ (by repeat (first|(with_reducible first|exact HB.out|apply qb_|apply qa_|apply qc_|refine qh_ ?_ GE231.out|refine qh_ ?_ GE232.out|refine qh_ ?_ GE233.out)|exact HB.out))));have n1_:=aK (qm_ (g:=gb231) (o:=.cells #[.int .i64 a0_0,.int .i64 a0_1,.slice A0_2 l0_2.length c0_2] 32 (0,0)) (by (with_reducible repeat (first|refine qf_ ?_ _|refine qi_ ?_|refine qe_ ?_ _));refine qk1_ ?_ NB231_233.out _;(with_reducible repeat (first|refine qf_ ?_ _|refine qi_ ?_|refine qe_ ?_ _));refine qk1_ ?_ NB231_233.out _;(with_reducible repeat (first|refine qf_ ?_ _|refine qi_ ?_|refine qe_ ?_ _));exact BK231.out) hb);have n2_:=aK (qm_ (g:=gb232) (o:=.cells #[.int .i64 0,.int .i64 0,.slice none 0 0] 38 (0,0)) (by (with_reducible repeat (first|refine qf_ ?_ _|refine qi_ ?_|refine qe_ ?_ _));refine qk1_ ?_ NB232_233.out _;(with_reducible repeat (first|refine qf_ ?_ _|refine qi_ ?_|refine qe_ ?_ _));refine qk1_ ?_ NB232_233.out _;(with_reducible repeat (first|refine qf_ ?_ _|refine qi_ ?_|refine qe_ ?_ _));exact BK232.out) hb);have n3_:=aK (qm_ (g:=gb233) (o:=.cells #[.int .i64 a0_0,.int .i64 a0_1,.slice none 0 0] 38 (0,0)) (by (with_reducible repeat (first|refine qf_ ?_ _|refine qi_ ?_|refine qe_ ?_ _));refine qi1_ (cs:=#[.int .i64 a0_0,.int .i64 0,.slice none 0 0]) ?_ 1 _ rfl;(with_reducible repeat (first|refine qf_ ?_ _|refine qi_ ?_|refine qe_ ?_ _));refine qi1_ (cs:=#[.int .i64 0,.int .i64 0,.slice none 0 0]) ?_ 0 _ rfl;(with_reducible repeat (first|refine qf_ ?_ _|refine qi_ ?_|refine qe_ ?_ _));exact BK233.out) hb);have n4_:=aK (qj_ (by repeat (first|(with_reducible first|exact HB.out|apply qb_|apply qa_|apply qc_|refine qh_ ?_ GE231.out|refine qh_ ?_ GE232.out|refine qh_ ?_ GE233.out)|exact HB.out)) hb);clear BK231;clear BK232;clear BK233;clear HB;have HO236:=n0_;have BK231:=n1_;have BK232:=n2_;have BK233:=n3_;have HB:=n4_;clear n0_ n1_ n2_ n3_ n4_;(try clear hb);(try clear hb2);(try clear hk);(try clear hi);(try clear ho0);obtain ⟨Ao12,co12,eo12⟩:=Kd.qf2_ HO236.out;subst eo12;have hcz13_0:w11.cell? ⟨gb233,0,none⟩=some (.int .i64 a0_0):=(qg_ BK233.out 0).trans rfl;have hcz13_1:w11.cell? ⟨gb233,1,none⟩=some (.int .i64 a0_1):=(qg_ BK233.out 1).trans rfl;have hcz13_2:w11.cell? ⟨gb233,2,none⟩=some (.slice none 0 0):=(qg_ BK233.out 2).trans rfl;have hfz13_0:=qd_ BK233.out 0;have hfz13_1:=qd_ BK233.out 1;have hfz13_2:=qd_ BK233.out 2;have hcz14_0:w11.cell? ⟨gb232,0,none⟩=some (.int .i64 0):=(qg_ BK232.out 0).trans rfl;have hcz14_1:w11.cell? ⟨gb232,1,none⟩=some (.int .i64 0):=(qg_ BK232.out 1).trans rfl;have hcz14_2:w11.cell? ⟨gb232,2,none⟩=some (.slice none 0 0):=(qg_ BK232.out 2).trans rfl;have hfz14_0:=qd_ BK232.out 0;have hfz14_1:=qd_ BK232.out 1;have hfz14_2:=qd_ BK232.out 2))
 refine bodyPost_ret (results_cell_row rfl _ _ gb232 38 #[.int .i64 a0_0,.int .i64 a0_1,.slice Ao12 t234.length co12] (0,0) _ rfl (by (with_reducible repeat (first|refine qf_ ?_ _|refine qi_ ?_|refine qe_ ?_ _));refine qi1_ (cs:=#[.int .i64 a0_0,.int .i64 a0_1,.slice none 0 0]) ?_ 2 _ rfl;(with_reducible repeat (first|refine qf_ ?_ _|refine qi_ ?_|refine qe_ ?_ _));refine qi1_ (cs:=#[.int .i64 a0_0,.int .i64 0,.slice none 0 0]) ?_ 1 _ rfl;(with_reducible repeat (first|refine qf_ ?_ _|refine qi_ ?_|refine qe_ ?_ _));refine qi1_ (cs:=#[.int .i64 0,.int .i64 0,.slice none 0 0]) ?_ 0 _ rfl;(with_reducible repeat (first|refine qf_ ?_ _|refine qi_ ?_|refine qe_ ?_ _));refine qk1_ ?_ NB232_233.out _;(with_reducible repeat (first|refine qf_ ?_ _|refine qi_ ?_|refine qe_ ?_ _));exact BK232.out) Try.underlying38 rfl (by kernel_rfl)) rfl ?_
 exact ⟨_,by first|rfl|(simp [qo_,qn_] <;> rfl)|(simp [*,qo_,qn_] <;> rfl),by (with_reducible repeat (first|apply Kd.qp1_|apply Kd.qu1_|apply Kd.R_drew));exact Kd.R_mono (Kd.R_far (p:=⟨gb232,2,none⟩) (Kd.R_far (p:=⟨gb232,1,none⟩) (Kd.R_far (p:=⟨gb232,0,none⟩) (Kd.R_far (p:=⟨gb233,2,none⟩) (Kd.R_types (Kd.R_types HO236.out BK233.out (by decide)) BK232.out (by decide)) (fun _ hk=>hk.1.2) (.slice Ao12 t234.length co12)) (fun _ hk=>hk.2) (.int .i64 a0_0)) (fun _ hk=>hk.2) (.int .i64 a0_1)) (fun _ hk=>hk.2) (.slice Ao12 t234.length co12)) (fun _ hk=>trivial),by repeat (first|(with_reducible first|exact HB.out|apply qb_|apply qa_|apply qc_|refine qh_ ?_ GE231.out|refine qh_ ?_ GE232.out|refine qh_ ?_ GE233.out)|exact HB.out)⟩
end Go.Proofs.Ytaiefdhenikiiaa.Base
namespace Go.Proofs.Ytaiefdhenikiiaa.Base
open Go.RowKit Go.Proofs.YtaiefdhenikiiaaW.PrintWords Go.Proofs.YtaiefdhenikiiaaW.PrintLast Go.Proofs.YtaiefdhenikiiaaW.PrintMore
attribute [local go_sem] max2_int qo1_ max_two min_two max_three min_three max_four min_four Go.Proofs.YtaiefdhenikiiaaZ.qx_   -- for this text's walks alone
set_option linter.unusedVariables false
set_option linter.unusedSimpArgs false
mutual
def qp_.l0:Nat→Int→Int→List ByteArray→Option (List ByteArray)
 | 0,_,_,_=>none
 | k+1,x0,x1,x5=>if x1 > 0 then (qp_.l1 k x0 x1 x5 (([]:List ByteArray)) 0) else (some x5)
def qp_.l1:Nat→Int→Int→List ByteArray→List ByteArray→Int→Option (List ByteArray)
 | 0,_,_,_,_,_=>none
 | k+1,x0,x1,x5,x6,x7=>if x7 < (x5.length:Int) then (qp_.l2 k x0 x1 x5 x6 x7 0) else (qp_.l0 k x0 (wrap64 (x1 - 1)) x6)
def qp_.l2:Nat→Int→Int→List ByteArray→List ByteArray→Int→Int→Option (List ByteArray)
 | 0,_,_,_,_,_,_=>none
 | k+1,x0,x1,x5,x6,x7,x8=>if x8 < x0 then (if 0≤x7 then (if x7 < (x5.length:Int) then ((some (([(wrap64 (48+x8)) % 256]:List Int):List Int)).bind fun y610=>(if (rdOf ByteArray.empty x5 x7).size+(strOfNums y610).size≤9223372036854775807 then (if x6.length < 8796093022208 then (qp_.l2 k x0 x1 x5 (x6 ++ [(rdOf ByteArray.empty x5 x7) ++ (strOfNums y610)]) x7 (wrap64 (x8+1))) else (none)) else (none))) else (none)) else (none)) else (qp_.l1 k x0 x1 x5 x6 (wrap64 (x7+1)))
end
def qp_.f (k:Nat) (a0:Int) (a1:Int):Option (List ByteArray):=qp_.l0 k a0 a1 (([(⟨#[]⟩:ByteArray)]:List ByteArray))
theorem qp_.mono_l:∀ k,(∀ y0 y1 y2,LeO (qp_.l0 k y0 y1 y2) (qp_.l0 (k+1) y0 y1 y2))∧(∀ y0 y1 y2 y3 y4,LeO (qp_.l1 k y0 y1 y2 y3 y4) (qp_.l1 (k+1) y0 y1 y2 y3 y4))∧(∀ y0 y1 y2 y3 y4 y5,LeO (qp_.l2 k y0 y1 y2 y3 y4 y5) (qp_.l2 (k+1) y0 y1 y2 y3 y4 y5))
 | 0=>⟨fun _ _ _ r h=>by simp [qp_.l0] at h,fun _ _ _ _ _ r h=>by simp [qp_.l1] at h,fun _ _ _ _ _ _ r h=>by simp [qp_.l2] at h⟩
 | k+1=>by
  obtain ⟨ih0,ih1,ih2⟩:=qp_.mono_l k
  refine ⟨?_,?_,?_⟩
  ·intro y0 y1 y2
   unfold qp_.l0
   repeat' first
   | (with_reducible exact ih0 _ _ _)
   | (with_reducible exact ih1 _ _ _ _ _)
   | (with_reducible exact ih2 _ _ _ _ _ _)
   | (with_reducible exact LeO.refl _)
   | (with_reducible exact LeO.none _)
   | (with_reducible refine LeO.ite ?_ ?_)
   | (with_reducible refine LeO.bind ?_ (fun _=>?_))
   | exact ih0 _ _ _
   | exact ih1 _ _ _ _ _
   | exact ih2 _ _ _ _ _ _
   | exact LeO.none _
   | refine LeO.ite ?_ ?_
   | refine LeO.bind ?_ (fun _=>?_)
  ·intro y0 y1 y2 y3 y4
   unfold qp_.l1
   repeat' first
   | (with_reducible exact ih0 _ _ _)
   | (with_reducible exact ih1 _ _ _ _ _)
   | (with_reducible exact ih2 _ _ _ _ _ _)
   | (with_reducible exact LeO.refl _)
   | (with_reducible exact LeO.none _)
   | (with_reducible refine LeO.ite ?_ ?_)
   | (with_reducible refine LeO.bind ?_ (fun _=>?_))
   | exact ih0 _ _ _
   | exact ih1 _ _ _ _ _
   | exact ih2 _ _ _ _ _ _
   | exact LeO.none _
   | refine LeO.ite ?_ ?_
   | refine LeO.bind ?_ (fun _=>?_)
  ·intro y0 y1 y2 y3 y4 y5
   unfold qp_.l2
   repeat' first
   | (with_reducible exact ih0 _ _ _)
   | (with_reducible exact ih1 _ _ _ _ _)
   | (with_reducible exact ih2 _ _ _ _ _ _)
   | (with_reducible exact LeO.refl _)
   | (with_reducible exact LeO.none _)
   | (with_reducible refine LeO.ite ?_ ?_)
   | (with_reducible refine LeO.bind ?_ (fun _=>?_))
   | exact ih0 _ _ _
   | exact ih1 _ _ _ _ _
   | exact ih2 _ _ _ _ _ _
   | exact LeO.none _
   | refine LeO.ite ?_ ?_
   | refine LeO.bind ?_ (fun _=>?_)
theorem qp_.mono:∀ a0 a1 k,LeO (qp_.f k a0 a1) (qp_.f (k+1) a0 a1):=by
 intro a0 a1 k
 obtain ⟨ih0,ih1,ih2⟩:=qp_.mono_l k
 unfold qp_.f
 repeat' first
   | (with_reducible exact ih0 _ _ _)
   | (with_reducible exact ih1 _ _ _ _ _)
   | (with_reducible exact ih2 _ _ _ _ _ _)
   | (with_reducible exact LeO.refl _)
   | (with_reducible exact LeO.none _)
   | (with_reducible refine LeO.ite ?_ ?_)
   | (with_reducible refine LeO.bind ?_ (fun _=>?_))
   | exact ih0 _ _ _
   | exact ih1 _ _ _ _ _
   | exact ih2 _ _ _ _ _ _
   | exact LeO.none _
   | refine LeO.ite ?_ ?_
   | refine LeO.bind ?_ (fun _=>?_)
def qp_.T11:Bool × List (List Nat × List Nat):=(true,[([],[]),([],[]),([],[]),([1,2],[1,2]),([3],[3]),([],[]),([5],[5]),([6],[6]),([7],[7]),([8],[8]),([4,9],[4,9]),([10],[10]),([0,11],[0,11]),([12,12,0,1,2,3,4,5,6,7,8,9,10,11,12],[0,12])])
def qp_.B11:List Nat:=[0,0,0,6,14,0,32,96,224,480,1022,2046,4095,8191]
theorem qp_.tab11:rtab .any (opsOf Try.f185 11)=qp_.T11:=by kernel_rfl
theorem qp_.bits11:waitsOk qp_.T11.2 qp_.B11=true:=by kernel_rfl
set_option maxHeartbeats 8000000 in
set_option maxRecDepth 100000 in
theorem qp_.calls (k:Nat) (a0:Int) (a1:Int) (r:List ByteArray) (w:World) (h:qp_.f k a0 a1=some r) :
  Calls Try.prog 185 #[.int .i64 a0,.int .i64 a1] w fun e w'=>∃ v0_:Value,e=.returned (v0_)∧Kd.R Kd.string 9 w' w.heap.size (fun _=>True) v0_ r∧Below w.heap.size w w':=by
 have HB:=aK (Below.refl w.heap.size w)
 have H:(qp_.l0 k a0 a1 (([(⟨#[]⟩:ByteArray)]:List ByteArray)))=some r:=h
 clear h
 obtain ⟨y603,hy603⟩:∃ y_:List ByteArray,y_=(([(⟨#[]⟩:ByteArray)]:List ByteArray)):=⟨_,rfl⟩
 replace H:(qp_.l0 k a0 a1 y603)=some r:=by first|(rw [hy603];with_reducible exact H)|(have H2_:=(Option.bind_some _ _).symm.trans H;rw [hy603];with_reducible exact H2_)|(have H2_:=(Option.bind_some _ _).symm.trans H;with_reducible exact H2_)|with_reducible exact H|(rw [hy603];exact H)|exact H
 have Ny603:=aK hy603
 clear hy603
 have H':=aK H
 clear H
 go_enter Try.func185,Try.ntmps185
 go_wp2_with (first|((with_reducible refine qu_ (N:=9) rfl ?_);refine Kd.R_lit Kd.string _ 9 ?hg (N:=9) ?hd (xs:=([(⟨#[]⟩:ByteArray)]:List ByteArray)) (inner:=[.string (⟨#[]⟩:ByteArray)]) (ok:=fun _=>True) (okp:=fun _=>True) ?hr ?hp (fun _ hk=>hk) trivial (Below.refl _ _) (Nat.le_refl _) (by simp) ?_;(case hd=>rfl);(case hg=>rfl);(case hr=>first|(go_simp;done)|(go_simp;rfl));(case hp=>exact (Reps.one (show Kd.M Kd.string _ _ _ (⟨#[]⟩:ByteArray) [.string (⟨#[]⟩:ByteArray)] from rfl) (Reps.none _ _)));intro v604 w3 ho4 hb hg_ hnew_;clear hg_ hnew_;(first|rw [← Ny603.out] at ho4|(simp only [Int.reduceToNat] at ho4;rw [← Ny603.out] at ho4));have n0_:=aK (Kd.qn2_ ho4 (qk_ (by repeat (first|(with_reducible first|exact HB.out|apply qb_|apply qa_|apply qc_)|exact HB.out))));have n1_:=aK (qj_ (by repeat (first|(with_reducible first|exact HB.out|apply qb_|apply qa_|apply qc_)|exact HB.out)) hb);clear HB;have HO605:=n0_;have HB:=n1_;clear n0_ n1_;clear hb ho4))
 go_loopg [1,5] k (fun kq v1 v5 w'=>∃ (x1_1:Int) (x5_1:List ByteArray),v1=.int .i64 x1_1∧Aside0 (qp_.l0 kq a0 x1_1 x5_1=some r)∧Aside0 (kq≤k)∧Aside0 (Kd.R Kd.string 9 w' w.heap.size (fun _=>True) v5 x5_1)∧Aside0 (Below w.heap.size w w'))
 case atStart=>exact ⟨(a1),(y603),(by first|rfl|(simp;done)|(simp [*];done)),H',⟨Nat.le_refl _⟩,⟨by (with_reducible repeat (first|apply Kd.qp1_|apply Kd.qu1_|apply Kd.R_drew));exact HO605.out⟩,⟨by repeat (first|(with_reducible first|exact HB.out|apply qb_|apply qa_|apply qc_)|exact HB.out)⟩⟩
 case round =>
  clear H'
  try clear c1
  try clear p2
  obtain ⟨x1_1,x5_1,rfl,HA,HK1,HO_5,HB⟩:=hrel
  cases gk with
  | zero=>exact absurd HA.out (by simp [qp_.l0])
  | succ k1 =>
   have H:=HA.out
   clear HA
   simp only [qp_.l0] at H
   by_cases c5:x1_1 > 0
   ·rw [if_pos c5] at H
    have c5b0:decide (0 < x1_1)=true:=decide_eq_true c5
    clear c5
    obtain ⟨y606,hy606⟩:∃ y_:List ByteArray,y_=(([]:List ByteArray)):=⟨_,rfl⟩
    replace H:(qp_.l1 k1 a0 x1_1 x5_1 y606 0)=some r:=by first|(rw [hy606];with_reducible exact H)|(have H2_:=(Option.bind_some _ _).symm.trans H;rw [hy606];with_reducible exact H2_)|(have H2_:=(Option.bind_some _ _).symm.trans H;with_reducible exact H2_)|with_reducible exact H|(rw [hy606];exact H)|exact H
    have Ny606:=aK hy606
    clear hy606
    have H':=aK H
    clear H
    go_wp2_with (first|((with_reducible refine qu_ (N:=14) rfl ?_);refine Kd.R_lit Kd.string _ 9 ?hg (N:=14) ?hd (xs:=([]:List ByteArray)) (inner:=[]) (ok:=fun _=>True) (okp:=fun _=>True) ?hr ?hp (fun _ hk=>hk) trivial (Below.refl _ _) (Nat.le_refl _) (by simp) ?_;(case hd=>rfl);(case hg=>rfl);(case hr=>first|(go_simp;done)|(go_simp;rfl));(case hp=>exact (Reps.none _ _));intro v607 w6 ho7 hb hg_ hnew_;clear hg_ hnew_;(first|rw [← Ny606.out] at ho7|(simp only [Int.reduceToNat] at ho7;rw [← Ny606.out] at ho7));have n0_:=aK (Kd.R_elder' (by (with_reducible repeat (first|apply Kd.qp1_|apply Kd.qu1_|apply Kd.R_drew));exact HO_5.out) (Kd.R_base ho7) hb);have n1_:=aK (Kd.qn2_ (Kd.R_new' ho7 (Kd.R_lt (by (with_reducible repeat (first|apply Kd.qp1_|apply Kd.qu1_|apply Kd.R_drew));exact HO_5.out))) (qk_ (by repeat (first|(with_reducible first|exact HB.out|apply qb_|apply qa_|apply qc_)|exact HB.out))));have n2_:=aK (qj_ (by repeat (first|(with_reducible first|exact HB.out|apply qb_|apply qa_|apply qc_)|exact HB.out)) hb);clear HO_5;clear HB;have HO_5:=n0_;have HO608:=n1_;have HB:=n2_;clear n0_ n1_ n2_;clear hb ho7))
    go_loopg [6,7] k1 (fun kq v6 v7 w'=>∃ (x6_2:List ByteArray) (x7_2:Int),v7=.int .i64 x7_2∧Aside0 (qp_.l1 kq a0 x1_1 x5_1 x6_2 x7_2=some r)∧Aside0 (kq≤k1)∧Aside0 (Kd.R Kd.string 9 w' w.heap.size (fun k_=>some k_ ≠ (v6:Value).ownBlock) u5 x5_1)∧Aside0 (Kd.R Kd.string 9 w' w.heap.size (fun k_=>some k_ ≠ (u5:Value).ownBlock) v6 x6_2)∧Aside0 (Below w.heap.size w w'))
    case atStart=>exact ⟨(y606),(0),(by first|rfl|(simp;done)|(simp [*];done)),H',⟨Nat.le_refl _⟩,⟨by (with_reducible repeat (first|apply Kd.qp1_|apply Kd.qu1_|apply Kd.R_drew));exact Kd.R_mono HO_5.out (fun _ hk=>hk.2)⟩,⟨by (with_reducible repeat (first|apply Kd.qp1_|apply Kd.qu1_|apply Kd.R_drew));exact Kd.R_mono HO608.out (fun _ hk=>hk.2)⟩,⟨by repeat (first|(with_reducible first|exact HB.out|apply qb_|apply qa_|apply qc_)|exact HB.out)⟩⟩
    case round =>
     clear H'
     try clear c1
     try clear p2
     try clear c5
     try clear c5b0
     try clear p2
     obtain ⟨x6_2,x7_2,rfl,HA,HK2,HO_5,HO_6,HB⟩:=hrel
     cases gk with
     | zero=>exact absurd HA.out (by simp [qp_.l1])
     | succ k2 =>
      have H:=HA.out
      clear HA
      simp only [qp_.l1] at H
      by_cases c8:x7_2 < (x5_1.length:Int)
      ·rw [if_pos c8] at H
       have c8b0:decide (x7_2 < (x5_1.length:Int))=true:=decide_eq_true c8
       clear c8
       have H':=aK H
       clear H
       obtain ⟨Ao9,co9,eo9⟩:=Kd.qf2_ HO_5.out
       subst eo9
       go_wp2
       go_loopg [6,8] k2 (fun kq v6 v8 w'=>∃ (x6_3:List ByteArray) (x8_3:Int),v8=.int .i64 x8_3∧Aside0 (qp_.l2 kq a0 x1_1 x5_1 x6_3 x7_2 x8_3=some r)∧Aside0 (kq≤k2)∧Aside0 (Kd.R Kd.string 9 w' w.heap.size (fun k_=>some k_ ≠ (v6:Value).ownBlock) (.slice Ao9 x5_1.length co9) x5_1)∧Aside0 (Kd.R Kd.string 9 w' w.heap.size (fun k_=>some k_ ≠ ((.slice Ao9 x5_1.length co9):Value).ownBlock) v6 x6_3)∧Aside0 (Below w.heap.size w w'))
       case atStart=>exact ⟨(x6_2),(0),(by first|rfl|(simp;done)|(simp [*];done)),H',⟨Nat.le_refl _⟩,⟨by (with_reducible repeat (first|apply Kd.qp1_|apply Kd.qu1_|apply Kd.R_drew));exact HO_5.out⟩,⟨by (with_reducible repeat (first|apply Kd.qp1_|apply Kd.qu1_|apply Kd.R_drew));exact HO_6.out⟩,⟨by repeat (first|(with_reducible first|exact HB.out|apply qb_|apply qa_|apply qc_)|exact HB.out)⟩⟩
       case round =>
        clear H'
        try clear c1
        try clear p2
        try clear c5
        try clear c5b0
        try clear c8
        try clear c8b0
        try clear p2
        obtain ⟨x6_3,x8_3,rfl,HA,HK3,HO_5,HO_6,HB⟩:=hrel
        cases gk with
        | zero=>exact absurd HA.out (by simp [qp_.l2])
        | succ k3 =>
         have H:=HA.out
         clear HA
         simp only [qp_.l2] at H
         by_cases c10:x8_3 < a0
         ·rw [if_pos c10] at H
          have c10b0:decide (x8_3 < a0)=true:=decide_eq_true c10
          clear c10
          by_cases c11:0≤x7_2
          ·rw [if_pos c11] at H
           have c11b0:decide (0≤x7_2)=true:=decide_eq_true c11
           clear c11
           by_cases c12:x7_2 < (x5_1.length:Int)
           ·rw [if_pos c12] at H
            have c12b0:decide (x7_2 < (x5_1.length:Int))=true:=decide_eq_true c12
            clear c12
            obtain ⟨y610,hy610⟩:∃ y_:List Int,y_=(([(wrap64 (48+x8_3)) % 256]:List Int)):=⟨_,rfl⟩
            replace H:(if (rdOf ByteArray.empty x5_1 x7_2).size+(strOfNums y610).size≤9223372036854775807 then (if x6_3.length < 8796093022208 then (qp_.l2 k3 a0 x1_1 x5_1 (x6_3 ++ [(rdOf ByteArray.empty x5_1 x7_2) ++ (strOfNums y610)]) x7_2 (wrap64 (x8_3+1))) else (none)) else (none))=some r:=by first|(rw [hy610];with_reducible exact H)|(have H2_:=(Option.bind_some _ _).symm.trans H;rw [hy610];with_reducible exact H2_)|(have H2_:=(Option.bind_some _ _).symm.trans H;with_reducible exact H2_)|with_reducible exact H|(rw [hy610];exact H)|exact H
            have Ny610:=aK hy610
            clear hy610
            by_cases c13:(rdOf ByteArray.empty x5_1 x7_2).size+(strOfNums y610).size≤9223372036854775807
            ·rw [if_pos c13] at H
             have c13b0:=eq_true c13
             have c13b1:decide ((rdOf ByteArray.empty x5_1 x7_2).size+(strOfNums y610).size≤9223372036854775807)=true:=decide_eq_true c13
             try have c13b2:(9223372036854775807 < (rdOf ByteArray.empty x5_1 x7_2).size+(strOfNums y610).size)=False:=eq_false (Nat.not_lt.2 c13)
             by_cases c14:x6_3.length < 8796093022208
             ·rw [if_pos c14] at H
              have LMc14:=aK c14
              clear c14
              obtain ⟨y613,hy613⟩:∃ y_:List ByteArray,y_=(x6_3 ++ [(rdOf ByteArray.empty x5_1 x7_2) ++ (strOfNums y610)]):=⟨_,rfl⟩
              replace H:(qp_.l2 k3 a0 x1_1 x5_1 y613 x7_2 (wrap64 (x8_3+1)))=some r:=by first|(rw [hy613];with_reducible exact H)|(have H2_:=(Option.bind_some _ _).symm.trans H;rw [hy613];with_reducible exact H2_)|(have H2_:=(Option.bind_some _ _).symm.trans H;with_reducible exact H2_)|with_reducible exact H|(rw [hy613];exact H)|exact H
              have Ny613:=aK hy613
              clear hy613
              have H':=aK H
              clear H
              try go_wp2
              have n0_:=aK (Kd.R_drew HO_5.out)
              have n1_:=aK (Kd.R_drew HO_6.out)
              have n2_:=aK (qc_ HB.out)
              clear HO_5
              clear HO_6
              clear HB
              have HO_5:=n0_
              have HO_6:=n1_
              have HB:=n2_
              clear n0_ n1_ n2_
              have p609:0≤(x7_2:Int):=of_decide_eq_true (by first|(with_reducible assumption)|assumption)
              have q609:x7_2 < (x5_1.length:Int):=of_decide_eq_true (by first|(with_reducible assumption)|assumption)
              obtain ⟨ad609,e609,hx609_0⟩:=Kd.at_string (Kd.qg3_ HO_5.out).2.2 x7_2 p609 q609
              cases e609
              replace p609:=eq_true p609
              replace q609:=eq_true q609
              refine start_ (n:=14) (S:=fun w'=>w'.cell? (ad609.add (x7_2).toNat)=some (.string (rdOf ByteArray.empty x5_1 x7_2))) (ds:=[11,12]) #[fF,fF,fF,fF,fF,fF,fF,fF,fF,fF,fF,fF,fF,fF] (by kernel_rfl) rfl rfl (hx609_0) (fun hHeld=>?_);refine with_tabW qp_.tab11 qp_.bits11 (fun HT_ HW_=>?_)
              generalize wr.drew=w15 at HO_5 HO_6 HB hx609_0 hHeld ⊢
              refine pure_ (i:=0) (N:=some 26) (v:=?_) (a':=?_) #[tT,fF,fF,fF,fF,fF,fF,fF,fF,fF,fF,fF,fF,fF] rfl rfl (any_of HT_.out (by kernel_rfl)) (fun _ _ _ h=>h) (Or.inl ⟨by rfl,?_⟩) ?_ ?_
              rotate_left
              ·intro w'
               go_simp
               with_reducible rfl
              rotate_left
              ·simp only [Act.put,List.setIfInBounds_toArray,List.set_cons_zero,List.set_cons_succ,i64_w,i32_w]
               rfl
              refine pure_ (i:=1) (N:=some 27) (v:=?_) (a':=?_) #[tT,tT,fF,fF,fF,fF,fF,fF,fF,fF,fF,fF,fF,fF] rfl rfl (any_of HT_.out (by kernel_rfl)) (fun _ _ _ h=>h) (Or.inl ⟨by rfl,?_⟩) ?_ ?_
              rotate_left
              ·intro w'
               go_simp
               with_reducible rfl
              rotate_left
              ·simp only [Act.put,List.setIfInBounds_toArray,List.set_cons_zero,List.set_cons_succ,i64_w,i32_w]
               rfl
              refine pure_ (i:=2) (N:=some 28) (v:=?_) (a':=?_) #[tT,tT,tT,fF,fF,fF,fF,fF,fF,fF,fF,fF,fF,fF] rfl rfl (any_of HT_.out (by kernel_rfl)) (fun _ _ _ h=>h) (Or.inl ⟨by rfl,?_⟩) ?_ ?_
              rotate_left
              ·intro w'
               go_simp
               with_reducible rfl
              rotate_left
              ·simp only [Act.put,List.setIfInBounds_toArray,List.set_cons_zero,List.set_cons_succ,i64_w,i32_w]
               rfl
              refine pure_ (i:=3) (N:=some 29) (v:=?_) (a':=?_) #[tT,tT,tT,tT,fF,fF,fF,fF,fF,fF,fF,fF,fF,fF] rfl rfl (any_of HT_.out (by kernel_rfl)) (fun _ _ _ h=>h) (Or.inl ⟨by rfl,?_⟩) ?_ ?_
              rotate_left
              ·intro w'
               go_simp
               with_reducible rfl
              rotate_left
              ·simp only [Act.put,List.setIfInBounds_toArray,List.set_cons_zero,List.set_cons_succ,i64_w,i32_w]
               rfl
              refine pure_ (i:=5) (N:=some 31) (v:=?_) (a':=?_) #[tT,tT,tT,tT,fF,tT,fF,fF,fF,fF,fF,fF,fF,fF] rfl rfl (any_of HT_.out (by kernel_rfl)) (fun _ _ _ h=>h) (Or.inl ⟨by rfl,?_⟩) ?_ ?_
              rotate_left
              ·intro w'
               go_simp
               with_reducible rfl
              rotate_left
              ·simp only [Act.put,List.setIfInBounds_toArray,List.set_cons_zero,List.set_cons_succ,i64_w,i32_w]
               rfl
              refine pure_ (i:=6) (N:=some 32) (v:=?_) (a':=?_) #[tT,tT,tT,tT,fF,tT,tT,fF,fF,fF,fF,fF,fF,fF] rfl rfl (any_of HT_.out (by kernel_rfl)) (fun _ _ _ h=>h) (Or.inl ⟨by rfl,?_⟩) ?_ ?_
              rotate_left
              ·intro w'
               go_simp
               with_reducible rfl
              rotate_left
              ·simp only [Act.put,List.setIfInBounds_toArray,List.set_cons_zero,List.set_cons_succ,i64_w,i32_w]
               rfl
              refine pure_ (i:=7) (N:=some 33) (v:=?_) (a':=?_) #[tT,tT,tT,tT,fF,tT,tT,tT,fF,fF,fF,fF,fF,fF] rfl rfl (any_of HT_.out (by kernel_rfl)) (fun _ _ _ h=>h) (Or.inl ⟨by rfl,?_⟩) ?_ ?_
              rotate_left
              ·intro w'
               go_simp
               with_reducible rfl
              rotate_left
              ·simp only [Act.put,List.setIfInBounds_toArray,List.set_cons_zero,List.set_cons_succ,i64_w,i32_w]
               rfl
              refine take_ (i:=4) (N:=some 30) (v:=?_) (a':=?_) #[tT,tT,tT,tT,tT,tT,tT,tT,fF,fF,fF,fF,fF,fF] rfl rfl (take_ofW HT_.out HW_.out (by kernel_rfl)) (fun _ _ _ h=>h) (Or.inl ⟨by rfl,?_⟩) hHeld ?_ ?_
              rotate_left
              ·intro w' s0
               go_simp
               with_reducible rfl
              rotate_left
              ·simp only [Act.put,List.setIfInBounds_toArray,List.set_cons_zero,List.set_cons_succ,i64_w,i32_w]
               rfl
              refine one_ (i:=8) (N:=some 34) #[tT,tT,tT,tT,tT,tT,tT,tT,tT,fF,fF,fF,fF,fF] rfl rfl (one_of HT_.out (by kernel_rfl)) (by decide) (fun K hK=>?_)
              refine Kd.R_lit_step (Kd.int .u8) _ 5 ?hg (N:=34) ?hd (xs:=([(wrap64 (48+x8_3)) % 256]:List Int)) (inner:=[.int .u8 ((wrap64 (48+x8_3)) % 256)]) (ok:=fun _=>True) (okp:=fun _=>True) ?hr ?hp (fun _ hk=>hk) trivial (Below.refl _ _) (Nat.le_refl _) (by simp) ?_;(case hd=>rfl);(case hg=>rfl);(case hr=>first|(go_simp;done)|(go_simp;rfl));(case hp=>exact (Reps.one (show Kd.M (Kd.int .u8) _ _ _ ((wrap64 (48+x8_3)) % 256) [.int .u8 ((wrap64 (48+x8_3)) % 256)] from rfl) (Reps.none _ _)))
              intro v611 w16 ho17 hb hg_ hnew_
              have HS0_:=(hb.cell (World.block_lt_of_cell? _ _ (hHeld))).trans (hHeld)
              clear hg_ hnew_
              (first|rw [← Ny610.out] at ho17|(simp only [Int.reduceToNat] at ho17;rw [← Ny610.out] at ho17))
              have n0_:=aK (Kd.qm2_ (by (with_reducible repeat (first|apply Kd.qp1_|apply Kd.qu1_|apply Kd.R_drew));exact HO_5.out) hb)
              have n1_:=aK (Kd.qm2_ (by (with_reducible repeat (first|apply Kd.qp1_|apply Kd.qu1_|apply Kd.R_drew));exact HO_6.out) hb)
              have n2_:=aK (Kd.qn2_ ho17 (qk_ (by repeat (first|(with_reducible first|exact HB.out|apply qb_|apply qa_|apply qc_)|exact HB.out))))
              have n3_:=aK (qj_ (by repeat (first|(with_reducible first|exact HB.out|apply qb_|apply qa_|apply qc_)|exact HB.out)) hb)
              clear HO_5
              clear HO_6
              clear HB
              have HO_5:=n0_
              have HO_6:=n1_
              have HO612:=n2_
              have HB:=n3_
              clear n0_ n1_ n2_ n3_
              clear hb ho17
              refine hK.out _ _ (HS0_) (fun hHeld=>?_)
              clear hK K
              refine norm_ (a':=?_) ?_ ?_
              rotate_left
              ·show Act.put _ (some 34) _=_
               simp only [Act.put,List.setIfInBounds_toArray,List.set_cons_zero,List.set_cons_succ,i64_w,i32_w]
               rfl
              refine one_ (i:=9) (N:=some 35) #[tT,tT,tT,tT,tT,tT,tT,tT,tT,tT,fF,fF,fF,fF] rfl rfl (one_of HT_.out (by kernel_rfl)) (by decide) (fun K hK=>?_)
              have hcv18:=own_string (P:=Try.prog) Try.underlying140 Try.underlying5 Try.underlying9 (Kd.own_of_R HO612.out)
              refine value_ (w1:=?_) (v:=?_) (by rfl) rfl ?_ ?_
              rotate_left 2
              ·go_simp
               constructor
               ·rfl
               ·rfl
              clear hcv18
              refine hK.out _ _ (hHeld) (fun hHeld=>?_)
              clear hK K
              refine norm_ (a':=?_) ?_ ?_
              rotate_left
              ·show Act.put _ (some 35) _=_
               simp only [Act.put,List.setIfInBounds_toArray,List.set_cons_zero,List.set_cons_succ,i64_w,i32_w]
               rfl
              refine pure_ (i:=10) (N:=some 36) (v:=?_) (a':=?_) #[tT,tT,tT,tT,tT,tT,tT,tT,tT,tT,tT,fF,fF,fF] rfl rfl (any_of HT_.out (by kernel_rfl)) (fun _ _ _ h=>h) (Or.inl ⟨by rfl,?_⟩) ?_ ?_
              rotate_left
              ·intro w'
               go_simp
               with_reducible rfl
              rotate_left
              ·simp only [Act.put,List.setIfInBounds_toArray,List.set_cons_zero,List.set_cons_succ,i64_w,i32_w]
               rfl
              refine last_ (i:=11) (N:=some 37) #[tT,tT,tT,tT,tT,tT,tT,tT,tT,tT,tT,tT,fF,fF] rfl rfl (one_of HT_.out (by kernel_rfl)) (by decide) (fun K hK=>?_)
              refine value_ (w1:=?_) (v:=?_) (by rfl) rfl ?_ ?_
              rotate_left 2
              ·go_simp
               constructor
               ·rfl
               ·rfl
              refine hK.out _ _ ?_
              clear hK K
              refine norm_ (a':=?_) ?_ ?_
              rotate_left
              ·show Act.put _ (some 37) _=_
               simp only [Act.put,List.setIfInBounds_toArray,List.set_cons_zero,List.set_cons_succ,i64_w,i32_w]
               rfl
              refine last_ (i:=12) (N:=some 38) #[tT,tT,tT,tT,tT,tT,tT,tT,tT,tT,tT,tT,tT,fF] rfl rfl (one_of HT_.out (by kernel_rfl)) (by decide) (fun K hK=>?_)
              refine Kd.qh3_ Kd.string (w0:=w) w.heap.size (by rfl) (.tmp 26) (.tmp 37) 156 9 (.string ⟨#[]⟩) 16 rfl Try.underlying156 info9 rfl (by decide) (by omega) u6 x6_3 ((rdOf ByteArray.empty x5_1 x7_2) ++ (strOfNums y610)) [.string ((rdOf ByteArray.empty x5_1 x7_2) ++ (strOfNums y610))] (fun k_=>some k_ ≠ (.slice (some ad609) x5_1.length co9:Value).ownBlock) (fun _=>False) rfl rfl ?aP (fun _ hk=>hk.elim) ?aF ?aO ?aB ?aS ?aL ?_
              (case aP=>exact rfl)
              (case aB=>exact (by repeat (first|(with_reducible first|exact HB.out|apply qb_|apply qa_|apply qc_)|exact HB.out)))
              (case aF=>exact (fun k_ hk=>Kd.fresh' (Kd.R_lt (by (with_reducible repeat (first|apply Kd.qp1_|apply Kd.qu1_|apply Kd.R_drew));exact HO_5.out)) k_ hk))
              (case aO=>exact (by (with_reducible repeat (first|apply Kd.qp1_|apply Kd.qu1_|apply Kd.R_drew));exact HO_6.out))
              (case aS=>exact (qk_ (by repeat (first|(with_reducible first|exact HB.out|apply qb_|apply qa_|apply qc_)|exact HB.out))))
              (case aL=>have:=LMc14.out;omega)
              intro v614 w19 ho hb hg hat
              rw [← Ny613.out] at ho
              have n0_:=aK (Kd.R_after (ok:=(fun _=>True)) (by (with_reducible repeat (first|apply Kd.qp1_|apply Kd.qu1_|apply Kd.R_drew));exact Kd.R_mono HO_5.out (fun _ hk=>⟨trivial,hk⟩)) hg hat)
              have n1_:=aK (Kd.R_over' (by (with_reducible repeat (first|apply Kd.qp1_|apply Kd.qu1_|apply Kd.R_drew));exact HO612.out) (Kd.R_typed (by (with_reducible repeat (first|apply Kd.qp1_|apply Kd.qu1_|apply Kd.R_drew));exact HO_6.out)) (by decide) hg)
              have n2_:=aK (hb)
              have n3_:=aK (ho)
              clear HO_5
              clear HO612
              clear HB
              clear HO_6
              have HO_5:=n0_
              have HO612:=n1_
              have HB:=n2_
              have HO615:=n3_
              clear n0_ n1_ n2_ n3_
              clear ho hb hg hat
              refine hK.out _ _ ?_
              clear hK K
              refine norm_ (a':=?_) ?_ ?_
              rotate_left
              ·show Act.put _ (some 38) _=_
               simp only [Act.put,List.setIfInBounds_toArray,List.set_cons_zero,List.set_cons_succ,i64_w,i32_w]
               rfl
              refine pure_ (i:=13) (N:=some 6) (v:=?_) (a':=?_) #[tT,tT,tT,tT,tT,tT,tT,tT,tT,tT,tT,tT,tT,tT] rfl rfl (any_of HT_.out (by kernel_rfl)) (fun _ _ _ h=>h) (Or.inl ⟨by rfl,?_⟩) ?_ ?_
              rotate_left
              ·intro w'
               go_simp
               with_reducible rfl
              rotate_left
              ·simp only [Act.put,List.setIfInBounds_toArray,List.set_cons_zero,List.set_cons_succ,i64_w,i32_w]
               rfl
              refine done_ (done_of HT_.out (by kernel_rfl)) ?_
              try go_wp2
              go_roundg k3
              case measure=>have:=HK1.out;have:=HK2.out;have:=HK3.out;omega
              case rel=>exact ⟨(y613),(wrap64 (x8_3+1)),(by first|rfl|(simp;done)|(simp [*];done)),H',⟨by have:=HK1.out;have:=HK2.out;have:=HK3.out;omega⟩,⟨by (with_reducible repeat (first|apply Kd.qp1_|apply Kd.qu1_|apply Kd.R_drew));exact Kd.R_mono HO_5.out (fun _ hk=>hk.2)⟩,⟨by (with_reducible repeat (first|apply Kd.qp1_|apply Kd.qu1_|apply Kd.R_drew));exact HO615.out⟩,⟨by repeat (first|(with_reducible first|exact HB.out|apply qb_|apply qa_|apply qc_)|exact HB.out)⟩⟩
             ·rw [if_neg c14] at H
              exact absurd H (by simp)
            ·rw [if_neg c13] at H
             exact absurd H (by simp)
           ·rw [if_neg c12] at H
            exact absurd H (by simp)
          ·rw [if_neg c11] at H
           exact absurd H (by simp)
         ·rw [if_neg c10] at H
          have c10b0:decide (x8_3 < a0)=false:=decide_eq_false c10
          clear c10
          have H':=aK H
          clear H
          go_wp2
          go_roundg k3
          case measure=>have:=HK1.out;have:=HK2.out;have:=HK3.out;omega
          case rel=>exact ⟨(x6_3),(wrap64 (x7_2+1)),(by first|rfl|(simp;done)|(simp [*];done)),H',⟨by have:=HK1.out;have:=HK2.out;have:=HK3.out;omega⟩,⟨by (with_reducible repeat (first|apply Kd.qp1_|apply Kd.qu1_|apply Kd.R_drew));exact HO_5.out⟩,⟨by (with_reducible repeat (first|apply Kd.qp1_|apply Kd.qu1_|apply Kd.R_drew));exact HO_6.out⟩,⟨by repeat (first|(with_reducible first|exact HB.out|apply qb_|apply qa_|apply qc_)|exact HB.out)⟩⟩
      ·rw [if_neg c8] at H
       have c8b0:decide (x7_2 < (x5_1.length:Int))=false:=decide_eq_false c8
       clear c8
       have H':=aK H
       clear H
       obtain ⟨Ao20,co20,eo20⟩:=Kd.qf2_ HO_5.out
       subst eo20
       go_wp2
       go_roundg k2
       case measure=>have:=HK1.out;have:=HK2.out;omega
       case rel=>exact ⟨(wrap64 (x1_1 - 1)),(x6_2),(by first|rfl|(simp;done)|(simp [*];done)),H',⟨by have:=HK1.out;have:=HK2.out;omega⟩,⟨by (with_reducible repeat (first|apply Kd.qp1_|apply Kd.qu1_|apply Kd.R_drew));exact Kd.R_mono HO_6.out (fun _ hk=>trivial)⟩,⟨by repeat (first|(with_reducible first|exact HB.out|apply qb_|apply qa_|apply qc_)|exact HB.out)⟩⟩
   ·rw [if_neg c5] at H
    have c5b0:decide (0 < x1_1)=false:=decide_eq_false c5
    clear c5
    obtain rfl:=Option.some.inj H
    go_wp2
    go_ret
    exact ⟨_,by first|rfl|(simp [qo_,qn_] <;> rfl)|(simp [*,qo_,qn_] <;> rfl),by (with_reducible repeat (first|apply Kd.qp1_|apply Kd.qu1_|apply Kd.R_drew));exact HO_5.out,by repeat (first|(with_reducible first|exact HB.out|apply qb_|apply qa_|apply qc_)|exact HB.out)⟩
end Go.Proofs.Ytaiefdhenikiiaa.Base
namespace Go.Proofs.Ytaiefdhenikiiaa.Base
open Go.RowKit Go.Proofs.YtaiefdhenikiiaaW.PrintWords Go.Proofs.YtaiefdhenikiiaaW.PrintLast Go.Proofs.YtaiefdhenikiiaaW.PrintMore
attribute [local go_sem] max2_int qo1_ max_two min_two max_three min_three max_four min_four Go.Proofs.YtaiefdhenikiiaaZ.qx_   -- for this text's walks alone
set_option linter.unusedVariables false
set_option linter.unusedSimpArgs false
def qc3_.f (a0_0:Int) (a0_1:Int) (l0_2:List (S79)):Option (Int × Int × (List (S79))):=some (a0_0,a0_1,(([]:List (S79))))
set_option maxHeartbeats 8000000 in
set_option maxRecDepth 100000 in
theorem qc3_.calls (a0_0:Int) (a0_1:Int) (A0_2:Option Addr) (c0_2:Nat) (l0_2:List (S79)) (r1:Int) (r2:Int) (r3:List (S79)) (w:World) (hr0_2:Kd.C k79 w A0_2 l0_2.length l0_2) (hc0_2:l0_2.length≤c0_2) (h:qc3_.f a0_0 a0_1 l0_2=some (r1,r2,r3)) :
  Calls Try.prog 108 #[.agg #[.int .i64 a0_0,.int .i64 a0_1,.slice A0_2 l0_2.length c0_2]] w fun e w'=>∃ v2_:Value,e=.returned (.agg #[.int .i64 r1,.int .i64 r2,v2_])∧Kd.R k79 79 w' w.heap.size (fun _=>True) v2_ r3∧Below w.heap.size w w':=by
 have hu38:=Try.underlying38
 have HR0_2:=aK hr0_2
 have HC0_2:=aK hc0_2
 clear hr0_2 hc0_2
 have HB:=aK (Below.refl w.heap.size w)
 have H:(some (a0_0,a0_1,(([]:List (S79)))))=some (r1,r2,r3):=h
 clear h
 obtain ⟨y272,hy272⟩:∃ y_:List (S79),y_=(([]:List (S79))):=⟨_,rfl⟩
 replace H:(some (a0_0,a0_1,y272))=some (r1,r2,r3):=by first|(rw [hy272];with_reducible exact H)|(have H2_:=(Option.bind_some _ _).symm.trans H;rw [hy272];with_reducible exact H2_)|(have H2_:=(Option.bind_some _ _).symm.trans H;with_reducible exact H2_)|with_reducible exact H|(rw [hy272];exact H)|exact H
 have Ny272:=aK hy272
 clear hy272
 simp only [Option.some.injEq,Prod.mk.injEq] at H
 obtain ⟨rfl,rfl,rfl⟩:=H
 go_enter Try.func108,Try.ntmps108
 go_wp2_with (first|((with_reducible refine qu_ (N:=1) rfl ?_);refine qr_ ?hg (N:=1) ?hd (cs:=#[.int .i64 a0_0,.int .i64 a0_1,.slice A0_2 l0_2.length c0_2]) (t:=38) ?hr ?_;(case hd=>rfl);(case hg=>rfl);(case hr=>first|(go_simp;done)|(go_simp;rfl));intro gb270 hg w2 hbox hb;have n0_:=aK (qj_ (by repeat (first|(with_reducible first|exact HB.out|apply qb_|apply qa_|apply qc_)|exact HB.out)) hb);have n1_:=aK (hbox);have n2_:=aK ((by rw [hg];exact (qk_ (by repeat (first|(with_reducible first|exact HB.out|apply qb_|apply qa_|apply qc_)|exact HB.out))):w.heap.size≤gb270));have n3_:=aK ((by rw [hg];exact (qk_ (by repeat (first|(with_reducible first|exact HB.out|apply qb_|apply qa_|apply qc_)|exact HB.out))):w.heap.size≤gb270));clear HB;have HB:=n0_;have BK270:=n1_;have GW270:=n2_;have GE270:=n3_;clear n0_ n1_ n2_ n3_;clear hb hbox hg)|((with_reducible refine qu_ (N:=2) rfl ?_);refine qr_ ?hg (N:=2) ?hd (cs:=#[.int .i64 0,.int .i64 0,.slice none 0 0]) (t:=38) ?hr ?_;(case hd=>rfl);(case hg=>rfl);(case hr=>first|(go_simp;done)|(go_simp;rfl));intro gb271 hg w3 hbox hb;have n0_:=aK (qm_ (g:=gb270) (o:=.cells #[.int .i64 a0_0,.int .i64 a0_1,.slice A0_2 l0_2.length c0_2] 38 (0,0)) (by (with_reducible repeat (first|refine qf_ ?_ _|refine qi_ ?_|refine qe_ ?_ _));exact BK270.out) hb);have n1_:=aK (qj_ (by repeat (first|(with_reducible first|exact HB.out|apply qb_|apply qa_|apply qc_|refine qh_ ?_ GE270.out)|exact HB.out)) hb);have n2_:=aK (hbox);have n3_:=aK ((by rw [hg];exact (qk_ (by repeat (first|(with_reducible first|exact HB.out|apply qb_|apply qa_|apply qc_|refine qh_ ?_ GE270.out)|exact HB.out))):w.heap.size≤gb271));have n4_:=aK ((by rw [hg];exact (qk_ (by repeat (first|(with_reducible first|exact HB.out|apply qb_|apply qa_|apply qc_|refine qh_ ?_ GE270.out)|exact HB.out))):w.heap.size≤gb271));have n5_:=aK ((by rw [hg];exact Nat.ne_of_lt (blk_lt (g:=gb270) (o:=.cells #[.int .i64 a0_0,.int .i64 a0_1,.slice A0_2 l0_2.length c0_2] 38 (0,0)) (by (with_reducible repeat (first|refine qf_ ?_ _|refine qi_ ?_|refine qe_ ?_ _));exact BK270.out)):gb270 ≠ gb271));have n6_:=aK ((by rw [hg];exact Nat.ne_of_gt (blk_lt (g:=gb270) (o:=.cells #[.int .i64 a0_0,.int .i64 a0_1,.slice A0_2 l0_2.length c0_2] 38 (0,0)) (by (with_reducible repeat (first|refine qf_ ?_ _|refine qi_ ?_|refine qe_ ?_ _));exact BK270.out)):gb271 ≠ gb270));clear BK270;clear HB;have BK270:=n0_;have HB:=n1_;have BK271:=n2_;have GW271:=n3_;have GE271:=n4_;have NB270_271:=n5_;have NB271_270:=n6_;clear n0_ n1_ n2_ n3_ n4_ n5_ n6_;clear hb hbox hg;have hnb4:=NB270_271.out;have hnc4:=NB271_270.out;have hcz5_0:w3.cell? ⟨gb270,0,none⟩=some (.int .i64 a0_0):=(qg_ BK270.out 0).trans rfl;have hcz5_1:w3.cell? ⟨gb270,1,none⟩=some (.int .i64 a0_1):=(qg_ BK270.out 1).trans rfl;have hcz5_2:w3.cell? ⟨gb270,2,none⟩=some (.slice A0_2 l0_2.length c0_2):=(qg_ BK270.out 2).trans rfl;have hfz5_0:=qd_ BK270.out 0;have hfz5_1:=qd_ BK270.out 1;have hfz5_2:=qd_ BK270.out 2)|((with_reducible refine qu_ (N:=7) rfl ?_);refine Kd.R_lit k79 _ 79 ?hg (N:=7) ?hd (xs:=([]:List (S79))) (inner:=[]) (ok:=fun _=>True) (okp:=fun _=>True) ?hr ?hp (fun _ hk=>hk) trivial (Below.refl _ _) (Nat.le_refl _) (by simp) ?_;(case hd=>rfl);(case hg=>rfl);(case hr=>first|(go_simp;done)|(go_simp;rfl));(case hp=>exact (Reps.none _ _));intro v273 w6 ho7 hb hg_ hnew_;clear hg_ hnew_;(first|rw [← Ny272.out] at ho7|(simp only [Int.reduceToNat] at ho7;rw [← Ny272.out] at ho7));have n0_:=aK (Kd.qn2_ ho7 (qk_ (by repeat (first|(with_reducible first|exact HB.out|apply qb_|apply qa_|apply qc_|refine qh_ ?_ GE270.out|refine qh_ ?_ GE271.out)|exact HB.out))));have n1_:=aK (qm_ (g:=gb270) (o:=.cells #[.int .i64 a0_0,.int .i64 a0_1,.slice A0_2 l0_2.length c0_2] 38 (0,0)) (by (with_reducible repeat (first|refine qf_ ?_ _|refine qi_ ?_|refine qe_ ?_ _));exact BK270.out) hb);have n2_:=aK (qm_ (g:=gb271) (o:=.cells #[.int .i64 0,.int .i64 0,.slice none 0 0] 38 (0,0)) (by (with_reducible repeat (first|refine qf_ ?_ _|refine qi_ ?_|refine qe_ ?_ _));exact BK271.out) hb);have n3_:=aK (qj_ (by repeat (first|(with_reducible first|exact HB.out|apply qb_|apply qa_|apply qc_|refine qh_ ?_ GE270.out|refine qh_ ?_ GE271.out)|exact HB.out)) hb);clear BK270;clear BK271;clear HB;have HO274:=n0_;have BK270:=n1_;have BK271:=n2_;have HB:=n3_;clear n0_ n1_ n2_ n3_;clear hb ho7;obtain ⟨Ao8,co8,eo8⟩:=Kd.qf2_ HO274.out;subst eo8;have hcz9_0:w6.cell? ⟨gb271,0,none⟩=some (.int .i64 0):=(qg_ BK271.out 0).trans rfl;have hcz9_1:w6.cell? ⟨gb271,1,none⟩=some (.int .i64 0):=(qg_ BK271.out 1).trans rfl;have hcz9_2:w6.cell? ⟨gb271,2,none⟩=some (.slice none 0 0):=(qg_ BK271.out 2).trans rfl;have hfz9_0:=qd_ BK271.out 0;have hfz9_1:=qd_ BK271.out 1;have hfz9_2:=qd_ BK271.out 2))
 refine bodyPost_ret (results_cell_row rfl _ _ gb271 38 #[.int .i64 a0_0,.int .i64 a0_1,.slice Ao8 y272.length co8] (0,0) _ rfl (by (with_reducible repeat (first|refine qf_ ?_ _|refine qi_ ?_|refine qe_ ?_ _));refine qi1_ (cs:=#[.int .i64 a0_0,.int .i64 a0_1,.slice none 0 0]) ?_ 2 _ rfl;(with_reducible repeat (first|refine qf_ ?_ _|refine qi_ ?_|refine qe_ ?_ _));refine qi1_ (cs:=#[.int .i64 a0_0,.int .i64 0,.slice none 0 0]) ?_ 1 _ rfl;(with_reducible repeat (first|refine qf_ ?_ _|refine qi_ ?_|refine qe_ ?_ _));refine qi1_ (cs:=#[.int .i64 0,.int .i64 0,.slice none 0 0]) ?_ 0 _ rfl;(with_reducible repeat (first|refine qf_ ?_ _|refine qi_ ?_|refine qe_ ?_ _));exact BK271.out) Try.underlying38 rfl (by kernel_rfl)) rfl ?_
 exact ⟨_,by first|rfl|(simp [qo_,qn_] <;> rfl)|(simp [*,qo_,qn_] <;> rfl),by (with_reducible repeat (first|apply Kd.qp1_|apply Kd.qu1_|apply Kd.R_drew));exact Kd.R_mono (Kd.R_far (p:=⟨gb271,2,none⟩) (Kd.R_far (p:=⟨gb271,1,none⟩) (Kd.R_far (p:=⟨gb271,0,none⟩) (Kd.R_types HO274.out BK271.out (by decide)) (fun _ hk=>hk.2) (.int .i64 a0_0)) (fun _ hk=>hk.2) (.int .i64 a0_1)) (fun _ hk=>hk.2) (.slice Ao8 y272.length co8)) (fun _ hk=>trivial),by repeat (first|(with_reducible first|exact HB.out|apply qb_|apply qa_|apply qc_|refine qh_ ?_ GE270.out|refine qh_ ?_ GE271.out)|exact HB.out)⟩
end Go.Proofs.Ytaiefdhenikiiaa.Base
namespace Go.Proofs.Ytaiefdhenikiiaa.Base
open Go.RowKit Go.Proofs.YtaiefdhenikiiaaW.PrintWords Go.Proofs.YtaiefdhenikiiaaW.PrintLast Go.Proofs.YtaiefdhenikiiaaW.PrintMore
attribute [local go_sem] max2_int qo1_ max_two min_two max_three min_three max_four min_four Go.Proofs.YtaiefdhenikiiaaZ.qx_   -- for this text's walks alone
set_option linter.unusedVariables false
set_option linter.unusedSimpArgs false
def qf3_.f (a0:Int):Option (Int × Int):=some (a0,1)
set_option maxHeartbeats 8000000 in
set_option maxRecDepth 100000 in
theorem qf3_.calls (a0:Int) (r1:Int) (r2:Int) (w:World) (h:qf3_.f a0=some (r1,r2)) :
  Calls Try.prog 124 #[.int .i64 a0] w fun e w'=>e=.returned (.agg #[.int .i64 r1,.int .i64 r2])∧Below w.heap.size w w':=by
 have hu77:=Try.underlying77
 have HB:=aK (Below.refl w.heap.size w)
 have H:(some (a0,1))=some (r1,r2):=h
 clear h
 simp only [Option.some.injEq,Prod.mk.injEq] at H
 obtain ⟨rfl,rfl⟩:=H
 go_enter Try.func124,Try.ntmps124
 go_wp2_with (first|((with_reducible refine qu_ (N:=2) rfl ?_);refine qr_ ?hg (N:=2) ?hd (cs:=#[.int .i64 0,.int .i64 0]) (t:=77) ?hr ?_;(case hd=>rfl);(case hg=>rfl);(case hr=>first|(go_simp;done)|(go_simp;rfl));intro gb564 hg w2 hbox hb;have n0_:=aK (qj_ (by repeat (first|(with_reducible first|exact HB.out|apply qb_|apply qa_|apply qc_)|exact HB.out)) hb);have n1_:=aK (hbox);have n2_:=aK ((by rw [hg];exact (qk_ (by repeat (first|(with_reducible first|exact HB.out|apply qb_|apply qa_|apply qc_)|exact HB.out))):w.heap.size≤gb564));have n3_:=aK ((by rw [hg];exact (qk_ (by repeat (first|(with_reducible first|exact HB.out|apply qb_|apply qa_|apply qc_)|exact HB.out))):w.heap.size≤gb564));clear HB;have HB:=n0_;have BK564:=n1_;have GW564:=n2_;have GE564:=n3_;clear n0_ n1_ n2_ n3_;clear hb hbox hg;have hcz3_0:w2.cell? ⟨gb564,0,none⟩=some (.int .i64 0):=(qg_ BK564.out 0).trans rfl;have hcz3_1:w2.cell? ⟨gb564,1,none⟩=some (.int .i64 0):=(qg_ BK564.out 1).trans rfl;have hfz3_0:=qd_ BK564.out 0;have hfz3_1:=qd_ BK564.out 1))
 refine bodyPost_ret (results_cell_row rfl _ _ gb564 77 #[.int .i64 a0,.int .i64 1] (0,0) _ rfl (by (with_reducible repeat (first|refine qf_ ?_ _|refine qi_ ?_|refine qe_ ?_ _));refine qi1_ (cs:=#[.int .i64 a0,.int .i64 0]) ?_ 1 _ rfl;(with_reducible repeat (first|refine qf_ ?_ _|refine qi_ ?_|refine qe_ ?_ _));refine qi1_ (cs:=#[.int .i64 0,.int .i64 0]) ?_ 0 _ rfl;(with_reducible repeat (first|refine qf_ ?_ _|refine qi_ ?_|refine qe_ ?_ _));exact BK564.out) Try.underlying77 rfl (by kernel_rfl)) rfl ?_
 exact ⟨by first|rfl|(simp [qo_,qn_] <;> rfl)|(simp [*,qo_,qn_] <;> rfl),by repeat (first|(with_reducible first|exact HB.out|apply qb_|apply qa_|apply qc_|refine qh_ ?_ GE564.out)|exact HB.out)⟩
end Go.Proofs.Ytaiefdhenikiiaa.Base
namespace Go.Proofs.Ytaiefdhenikiiaa.Base
open Go.RowKit Go.Proofs.YtaiefdhenikiiaaW.PrintWords Go.Proofs.YtaiefdhenikiiaaW.PrintLast Go.Proofs.YtaiefdhenikiiaaW.PrintMore
attribute [local go_sem] max2_int qo1_ max_two min_two max_three min_three max_four min_four Go.Proofs.YtaiefdhenikiiaaZ.qx_   -- for this text's walks alone
set_option linter.unusedVariables false
set_option linter.unusedSimpArgs false
def qv2_.f (k:Nat) (a0_0:Int) (a0_1:Int) (a1_0:Int) (a1_1:Int):Option (Int × Int × Bool):=(qh1_.f k (wrap64 (a0_0 * a1_1)) (wrap64 (a0_1 * a1_0))).bind fun bt1147=>(some (bt1147.1,bt1147.2.1,bt1147.2.2))
theorem qv2_.mono:∀ a0 a1 a2 a3 k,LeO (qv2_.f k a0 a1 a2 a3) (qv2_.f (k+1) a0 a1 a2 a3):=by
 intro a0 a1 a2 a3 k
 unfold qv2_.f
 repeat' first
   | (with_reducible exact qh1_.mono _ _ _)
   | (with_reducible exact LeO.refl _)
   | (with_reducible exact LeO.none _)
   | (with_reducible refine LeO.ite ?_ ?_)
   | (with_reducible refine LeO.bind ?_ (fun _=>?_))
   | exact qh1_.mono _ _ _
   | exact LeO.none _
   | refine LeO.ite ?_ ?_
   | refine LeO.bind ?_ (fun _=>?_)
set_option maxHeartbeats 8000000 in
set_option maxRecDepth 100000 in
theorem qv2_.calls (k:Nat) (a0_0:Int) (a0_1:Int) (a1_0:Int) (a1_1:Int) (r1:Int) (r2:Int) (r3:Bool) (w:World) (h:qv2_.f k a0_0 a0_1 a1_0 a1_1=some (r1,r2,r3)) :
  Calls Try.prog 123 #[.agg #[.int .i64 a0_0,.int .i64 a0_1],.agg #[.int .i64 a1_0,.int .i64 a1_1]] w fun e w'=>e=.returned (.tuple #[.agg #[.int .i64 r1,.int .i64 r2],.bool r3])∧Below w.heap.size w w':=by
 have hu77:=Try.underlying77
 have HB:=aK (Below.refl w.heap.size w)
 have H:((qh1_.f k (wrap64 (a0_0 * a1_1)) (wrap64 (a0_1 * a1_0))).bind fun bt1147=>(some (bt1147.1,bt1147.2.1,bt1147.2.2)))=some (r1,r2,r3):=h
 clear h
 replace H:=Option.bind_eq_some_iff.mp H
 obtain ⟨⟨t1147,t1148,t1149⟩,A30,H⟩:=H
 replace H:(some (t1147,t1148,t1149))=some (r1,r2,r3):=H
 have A3:=aK A30
 clear A30
 simp only [Option.some.injEq,Prod.mk.injEq] at H
 obtain ⟨rfl,rfl,rfl⟩:=H
 go_enter Try.func123,Try.ntmps123
 go_wp2_with (first|((with_reducible refine qu_ (N:=2) rfl ?_);refine qr_ ?hg (N:=2) ?hd (cs:=#[.int .i64 a0_0,.int .i64 a0_1]) (t:=77) ?hr ?_;(case hd=>rfl);(case hg=>rfl);(case hr=>first|(go_simp;done)|(go_simp;rfl));intro gb1144 hg w4 hbox hb;have n0_:=aK (qj_ (by repeat (first|(with_reducible first|exact HB.out|apply qb_|apply qa_|apply qc_)|exact HB.out)) hb);have n1_:=aK (hbox);have n2_:=aK ((by rw [hg];exact (qk_ (by repeat (first|(with_reducible first|exact HB.out|apply qb_|apply qa_|apply qc_)|exact HB.out))):w.heap.size≤gb1144));have n3_:=aK ((by rw [hg];exact (qk_ (by repeat (first|(with_reducible first|exact HB.out|apply qb_|apply qa_|apply qc_)|exact HB.out))):w.heap.size≤gb1144));clear HB;have HB:=n0_;have BK1144:=n1_;have GW1144:=n2_;have GE1144:=n3_;clear n0_ n1_ n2_ n3_;clear hb hbox hg)|((with_reducible refine qu_ (N:=3) rfl ?_);refine qr_ ?hg (N:=3) ?hd (cs:=#[.int .i64 a1_0,.int .i64 a1_1]) (t:=77) ?hr ?_;(case hd=>rfl);(case hg=>rfl);(case hr=>first|(go_simp;done)|(go_simp;rfl));intro gb1145 hg w5 hbox hb;have n0_:=aK (qm_ (g:=gb1144) (o:=.cells #[.int .i64 a0_0,.int .i64 a0_1] 77 (0,0)) (by (with_reducible repeat (first|refine qf_ ?_ _|refine qi_ ?_|refine qe_ ?_ _));exact BK1144.out) hb);have n1_:=aK (qj_ (by repeat (first|(with_reducible first|exact HB.out|apply qb_|apply qa_|apply qc_|refine qh_ ?_ GE1144.out)|exact HB.out)) hb);have n2_:=aK (hbox);have n3_:=aK ((by rw [hg];exact (qk_ (by repeat (first|(with_reducible first|exact HB.out|apply qb_|apply qa_|apply qc_|refine qh_ ?_ GE1144.out)|exact HB.out))):w.heap.size≤gb1145));have n4_:=aK ((by rw [hg];exact (qk_ (by repeat (first|(with_reducible first|exact HB.out|apply qb_|apply qa_|apply qc_|refine qh_ ?_ GE1144.out)|exact HB.out))):w.heap.size≤gb1145));have n5_:=aK ((by rw [hg];exact Nat.ne_of_lt (blk_lt (g:=gb1144) (o:=.cells #[.int .i64 a0_0,.int .i64 a0_1] 77 (0,0)) (by (with_reducible repeat (first|refine qf_ ?_ _|refine qi_ ?_|refine qe_ ?_ _));exact BK1144.out)):gb1144 ≠ gb1145));have n6_:=aK ((by rw [hg];exact Nat.ne_of_gt (blk_lt (g:=gb1144) (o:=.cells #[.int .i64 a0_0,.int .i64 a0_1] 77 (0,0)) (by (with_reducible repeat (first|refine qf_ ?_ _|refine qi_ ?_|refine qe_ ?_ _));exact BK1144.out)):gb1145 ≠ gb1144));clear BK1144;clear HB;have BK1144:=n0_;have HB:=n1_;have BK1145:=n2_;have GW1145:=n3_;have GE1145:=n4_;have NB1144_1145:=n5_;have NB1145_1144:=n6_;clear n0_ n1_ n2_ n3_ n4_ n5_ n6_;clear hb hbox hg)|((with_reducible refine qu_ (N:=4) rfl ?_);refine qr_ ?hg (N:=4) ?hd (cs:=#[.int .i64 0,.int .i64 0]) (t:=77) ?hr ?_;(case hd=>rfl);(case hg=>rfl);(case hr=>first|(go_simp;done)|(go_simp;rfl));intro gb1146 hg w6 hbox hb;have n0_:=aK (qm_ (g:=gb1144) (o:=.cells #[.int .i64 a0_0,.int .i64 a0_1] 77 (0,0)) (by (with_reducible repeat (first|refine qf_ ?_ _|refine qi_ ?_|refine qe_ ?_ _));exact BK1144.out) hb);have n1_:=aK (qm_ (g:=gb1145) (o:=.cells #[.int .i64 a1_0,.int .i64 a1_1] 77 (0,0)) (by (with_reducible repeat (first|refine qf_ ?_ _|refine qi_ ?_|refine qe_ ?_ _));exact BK1145.out) hb);have n2_:=aK (qj_ (by repeat (first|(with_reducible first|exact HB.out|apply qb_|apply qa_|apply qc_|refine qh_ ?_ GE1144.out|refine qh_ ?_ GE1145.out)|exact HB.out)) hb);have n3_:=aK (hbox);have n4_:=aK ((by rw [hg];exact (qk_ (by repeat (first|(with_reducible first|exact HB.out|apply qb_|apply qa_|apply qc_|refine qh_ ?_ GE1144.out|refine qh_ ?_ GE1145.out)|exact HB.out))):w.heap.size≤gb1146));have n5_:=aK ((by rw [hg];exact (qk_ (by repeat (first|(with_reducible first|exact HB.out|apply qb_|apply qa_|apply qc_|refine qh_ ?_ GE1144.out|refine qh_ ?_ GE1145.out)|exact HB.out))):w.heap.size≤gb1146));have n6_:=aK ((by rw [hg];exact Nat.ne_of_lt (blk_lt (g:=gb1144) (o:=.cells #[.int .i64 a0_0,.int .i64 a0_1] 77 (0,0)) (by (with_reducible repeat (first|refine qf_ ?_ _|refine qi_ ?_|refine qe_ ?_ _));exact BK1144.out)):gb1144 ≠ gb1146));have n7_:=aK ((by rw [hg];exact Nat.ne_of_gt (blk_lt (g:=gb1144) (o:=.cells #[.int .i64 a0_0,.int .i64 a0_1] 77 (0,0)) (by (with_reducible repeat (first|refine qf_ ?_ _|refine qi_ ?_|refine qe_ ?_ _));exact BK1144.out)):gb1146 ≠ gb1144));have n8_:=aK ((by rw [hg];exact Nat.ne_of_lt (blk_lt (g:=gb1145) (o:=.cells #[.int .i64 a1_0,.int .i64 a1_1] 77 (0,0)) (by (with_reducible repeat (first|refine qf_ ?_ _|refine qi_ ?_|refine qe_ ?_ _));exact BK1145.out)):gb1145 ≠ gb1146));have n9_:=aK ((by rw [hg];exact Nat.ne_of_gt (blk_lt (g:=gb1145) (o:=.cells #[.int .i64 a1_0,.int .i64 a1_1] 77 (0,0)) (by (with_reducible repeat (first|refine qf_ ?_ _|refine qi_ ?_|refine qe_ ?_ _));exact BK1145.out)):gb1146 ≠ gb1145));clear BK1144;clear BK1145;clear HB;have BK1144:=n0_;have BK1145:=n1_;have HB:=n2_;have BK1146:=n3_;have GW1146:=n4_;have GE1146:=n5_;have NB1144_1146:=n6_;have NB1146_1144:=n7_;have NB1145_1146:=n8_;have NB1146_1145:=n9_;clear n0_ n1_ n2_ n3_ n4_ n5_ n6_ n7_ n8_ n9_;clear hb hbox hg;have hnb7:=NB1144_1145.out;have hnc7:=NB1145_1144.out;have hnb8:=NB1144_1146.out;have hnc8:=NB1146_1144.out;have hcz9_0:w6.cell? ⟨gb1144,0,none⟩=some (.int .i64 a0_0):=(qg_ BK1144.out 0).trans rfl;have hcz9_1:w6.cell? ⟨gb1144,1,none⟩=some (.int .i64 a0_1):=(qg_ BK1144.out 1).trans rfl;have hfz9_0:=qd_ BK1144.out 0;have hfz9_1:=qd_ BK1144.out 1;have hnb10:=NB1145_1146.out;have hnc10:=NB1146_1145.out;have hcz11_0:w6.cell? ⟨gb1145,0,none⟩=some (.int .i64 a1_0):=(qg_ BK1145.out 0).trans rfl;have hcz11_1:w6.cell? ⟨gb1145,1,none⟩=some (.int .i64 a1_1):=(qg_ BK1145.out 1).trans rfl;have hfz11_0:=qd_ BK1145.out 0;have hfz11_1:=qd_ BK1145.out 1)|((with_reducible refine qa1_ (f:=177) rfl ?_);refine goesL_ (some 19) rfl rfl Try.func177 (by kernel_rfl) rfl #[.int .i64 (wrap64 (a0_0 * a1_1)),.int .i64 (wrap64 (a0_1 * a1_0))] rfl (by (try simp only [List.map_toArray,List.map_cons,List.map_nil]);first|done|rfl|(simp only [List.length_drop,List.length_take];rfl)) ?_;(with_reducible refine (qh1_.calls k (wrap64 (a0_0 * a1_1)) (wrap64 (a0_1 * a1_0)) t1147 t1148 t1149 _ A3.out).mono ?_);rintro e w12 ⟨rfl,hb⟩;refine ⟨_,rfl,?_⟩;have n0_:=aK (qm_ (g:=gb1144) (o:=.cells #[.int .i64 a0_0,.int .i64 a0_1] 77 (0,0)) (by (with_reducible repeat (first|refine qf_ ?_ _|refine qi_ ?_|refine qe_ ?_ _));exact BK1144.out) hb);have n1_:=aK (qm_ (g:=gb1145) (o:=.cells #[.int .i64 a1_0,.int .i64 a1_1] 77 (0,0)) (by (with_reducible repeat (first|refine qf_ ?_ _|refine qi_ ?_|refine qe_ ?_ _));exact BK1145.out) hb);have n2_:=aK (qm_ (g:=gb1146) (o:=.cells #[.int .i64 0,.int .i64 0] 77 (0,0)) (by (with_reducible repeat (first|refine qf_ ?_ _|refine qi_ ?_|refine qe_ ?_ _));exact BK1146.out) hb);have n3_:=aK (qj_ (by repeat (first|(with_reducible first|exact HB.out|apply qb_|apply qa_|apply qc_|refine qh_ ?_ GE1144.out|refine qh_ ?_ GE1145.out|refine qh_ ?_ GE1146.out)|exact HB.out)) hb);clear BK1144;clear BK1145;clear BK1146;clear HB;have BK1144:=n0_;have BK1145:=n1_;have BK1146:=n2_;have HB:=n3_;clear n0_ n1_ n2_ n3_;(try clear hb);(try clear hb2);(try clear hk);(try clear hi))|((with_reducible refine qu_ (N:=6) rfl ?_);refine qr_ ?hg (N:=6) ?hd (cs:=#[.int .i64 0,.int .i64 0]) (t:=77) ?hr ?_;(case hd=>rfl);(case hg=>rfl);(case hr=>first|(go_simp;done)|(go_simp;rfl));intro gb1150 hg w13 hbox hb;have n0_:=aK (qm_ (g:=gb1144) (o:=.cells #[.int .i64 a0_0,.int .i64 a0_1] 77 (0,0)) (by (with_reducible repeat (first|refine qf_ ?_ _|refine qi_ ?_|refine qe_ ?_ _));exact BK1144.out) hb);have n1_:=aK (qm_ (g:=gb1145) (o:=.cells #[.int .i64 a1_0,.int .i64 a1_1] 77 (0,0)) (by (with_reducible repeat (first|refine qf_ ?_ _|refine qi_ ?_|refine qe_ ?_ _));exact BK1145.out) hb);have n2_:=aK (qm_ (g:=gb1146) (o:=.cells #[.int .i64 0,.int .i64 0] 77 (0,0)) (by (with_reducible repeat (first|refine qf_ ?_ _|refine qi_ ?_|refine qe_ ?_ _));exact BK1146.out) hb);have n3_:=aK (qj_ (by repeat (first|(with_reducible first|exact HB.out|apply qb_|apply qa_|apply qc_|refine qh_ ?_ GE1144.out|refine qh_ ?_ GE1145.out|refine qh_ ?_ GE1146.out)|exact HB.out)) hb);have n4_:=aK (hbox);have n5_:=aK ((by rw [hg];exact (qk_ (by repeat (first|(with_reducible first|exact HB.out|apply qb_|apply qa_|apply qc_|refine qh_ ?_ GE1144.out|refine qh_ ?_ GE1145.out|refine qh_ ?_ GE1146.out)|exact HB.out))):w.heap.size≤gb1150));have n6_:=aK ((by rw [hg];exact (qk_ (by repeat (first|(with_reducible first|exact HB.out|apply qb_|apply qa_|apply qc_|refine qh_ ?_ GE1144.out|refine qh_ ?_ GE1145.out|refine qh_ ?_ GE1146.out)|exact HB.out))):w.heap.size≤gb1150));have n7_:=aK ((by rw [hg];exact Nat.ne_of_lt (blk_lt (g:=gb1144) (o:=.cells #[.int .i64 a0_0,.int .i64 a0_1] 77 (0,0)) (by (with_reducible repeat (first|refine qf_ ?_ _|refine qi_ ?_|refine qe_ ?_ _));exact BK1144.out)):gb1144 ≠ gb1150));have n8_:=aK ((by rw [hg];exact Nat.ne_of_gt (blk_lt (g:=gb1144) (o:=.cells #[.int .i64 a0_0,.int .i64 a0_1] 77 (0,0)) (by (with_reducible repeat (first|refine qf_ ?_ _|refine qi_ ?_|refine qe_ ?_ _));exact BK1144.out)):gb1150 ≠ gb1144));have n9_:=aK ((by rw [hg];exact Nat.ne_of_lt (blk_lt (g:=gb1145) (o:=.cells #[.int .i64 a1_0,.int .i64 a1_1] 77 (0,0)) (by (with_reducible repeat (first|refine qf_ ?_ _|refine qi_ ?_|refine qe_ ?_ _));exact BK1145.out)):gb1145 ≠ gb1150));have n10_:=aK ((by rw [hg];exact Nat.ne_of_gt (blk_lt (g:=gb1145) (o:=.cells #[.int .i64 a1_0,.int .i64 a1_1] 77 (0,0)) (by (with_reducible repeat (first|refine qf_ ?_ _|refine qi_ ?_|refine qe_ ?_ _));exact BK1145.out)):gb1150 ≠ gb1145));have n11_:=aK ((by rw [hg];exact Nat.ne_of_lt (blk_lt (g:=gb1146) (o:=.cells #[.int .i64 0,.int .i64 0] 77 (0,0)) (by (with_reducible repeat (first|refine qf_ ?_ _|refine qi_ ?_|refine qe_ ?_ _));exact BK1146.out)):gb1146 ≠ gb1150));have n12_:=aK ((by rw [hg];exact Nat.ne_of_gt (blk_lt (g:=gb1146) (o:=.cells #[.int .i64 0,.int .i64 0] 77 (0,0)) (by (with_reducible repeat (first|refine qf_ ?_ _|refine qi_ ?_|refine qe_ ?_ _));exact BK1146.out)):gb1150 ≠ gb1146));clear BK1144;clear BK1145;clear BK1146;clear HB;have BK1144:=n0_;have BK1145:=n1_;have BK1146:=n2_;have HB:=n3_;have BK1150:=n4_;have GW1150:=n5_;have GE1150:=n6_;have NB1144_1150:=n7_;have NB1150_1144:=n8_;have NB1145_1150:=n9_;have NB1150_1145:=n10_;have NB1146_1150:=n11_;have NB1150_1146:=n12_;clear n0_ n1_ n2_ n3_ n4_ n5_ n6_ n7_ n8_ n9_ n10_ n11_ n12_;clear hb hbox hg;have hnb14:=NB1150_1144.out;have hnc14:=NB1144_1150.out;have hnb15:=NB1150_1145.out;have hnc15:=NB1145_1150.out;have hnb16:=NB1150_1146.out;have hnc16:=NB1146_1150.out;have hcz17_0:w13.cell? ⟨gb1150,0,none⟩=some (.int .i64 0):=(qg_ BK1150.out 0).trans rfl;have hcz17_1:w13.cell? ⟨gb1150,1,none⟩=some (.int .i64 0):=(qg_ BK1150.out 1).trans rfl;have hfz17_0:=qd_ BK1150.out 0;have hfz17_1:=qd_ BK1150.out 1;have hcz18_0:w13.cell? ⟨gb1146,0,none⟩=some (.int .i64 0):=(qg_ BK1146.out 0).trans rfl;have hcz18_1:w13.cell? ⟨gb1146,1,none⟩=some (.int .i64 0):=(qg_ BK1146.out 1).trans rfl;have hfz18_0:=qd_ BK1146.out 0;have hfz18_1:=qd_ BK1146.out 1))
 refine bodyPost_ret (results_ct rfl _ _ gb1146 77 #[.int .i64 t1147,.int .i64 t1148] (0,0) _ rfl (by (with_reducible repeat (first|refine qf_ ?_ _|refine qi_ ?_|refine qe_ ?_ _));refine qi1_ (cs:=#[.int .i64 t1147,.int .i64 0]) ?_ 1 _ rfl;(with_reducible repeat (first|refine qf_ ?_ _|refine qi_ ?_|refine qe_ ?_ _));refine qi1_ (cs:=#[.int .i64 0,.int .i64 0]) ?_ 0 _ rfl;(with_reducible repeat (first|refine qf_ ?_ _|refine qi_ ?_|refine qe_ ?_ _));refine qk1_ ?_ NB1146_1150.out _;(with_reducible repeat (first|refine qf_ ?_ _|refine qi_ ?_|refine qe_ ?_ _));refine qk1_ ?_ NB1146_1150.out _;(with_reducible repeat (first|refine qf_ ?_ _|refine qi_ ?_|refine qe_ ?_ _));exact BK1146.out) Try.underlying77 rfl (by kernel_rfl)) rfl ?_
 exact ⟨by first|rfl|(simp [qo_,qn_] <;> rfl)|(simp [*,qo_,qn_] <;> rfl),by repeat (first|(with_reducible first|exact HB.out|apply qb_|apply qa_|apply qc_|refine qh_ ?_ GE1144.out|refine qh_ ?_ GE1145.out|refine qh_ ?_ GE1146.out|refine qh_ ?_ GE1150.out)|exact HB.out)⟩
end Go.Proofs.Ytaiefdhenikiiaa.Base
namespace Go.Proofs.Ytaiefdhenikiiaa.Base
open Go.RowKit Go.Proofs.YtaiefdhenikiiaaW.PrintWords Go.Proofs.YtaiefdhenikiiaaW.PrintLast Go.Proofs.YtaiefdhenikiiaaW.PrintMore
attribute [local go_sem] max2_int qo1_ max_two min_two max_three min_three max_four min_four Go.Proofs.YtaiefdhenikiiaaZ.qx_   -- for this text's walks alone
set_option linter.unusedVariables false
set_option linter.unusedSimpArgs false
def qj2_.f (a0_0:Int) (a0_1:Int) (l0_2:List (S79)) (a1:ByteArray):Option (Int × Int × (List (S79))):=(qc3_.f a0_0 a0_1 l0_2).bind fun bt687=>((qf3_.f 1).bind fun bt693=>(if bt687.2.2.length < 4398046511104 then (some (bt687.1,bt687.2.1,(bt687.2.2 ++ [(⟨a1,(⟨bt693.1,bt693.2⟩:S77)⟩:S79)]))) else (none)))
def qj2_.T2:Bool × List (List Nat × List Nat):=(true,[([],[]),([0],[0]),([],[]),([],[]),([2,3],[2,3]),([4],[4]),([1,5,3],[1,5]),([0,1,2,3,4,5,6],[]),([7,6,6,0,1,2,3,4,5,6],[6,7])])
def qj2_.B2:List Nat:=[0,1,0,0,12,28,63,127,255]
theorem qj2_.tab2:rtab .any (opsOf Try.f162 2)=qj2_.T2:=by kernel_rfl
theorem qj2_.bits2:waitsOk qj2_.T2.2 qj2_.B2=true:=by kernel_rfl
set_option maxHeartbeats 8000000 in
set_option maxRecDepth 100000 in
theorem qj2_.calls (a0_0:Int) (a0_1:Int) (A0_2:Option Addr) (c0_2:Nat) (l0_2:List (S79)) (a1:ByteArray) (r1:Int) (r2:Int) (r3:List (S79)) (w:World) (hr0_2:Kd.C k79 w A0_2 l0_2.length l0_2) (hc0_2:l0_2.length≤c0_2) (h:qj2_.f a0_0 a0_1 l0_2 a1=some (r1,r2,r3)) :
  Calls Try.prog 162 #[.agg #[.int .i64 a0_0,.int .i64 a0_1,.slice A0_2 l0_2.length c0_2],.string a1] w fun e w'=>∃ v2_:Value,e=.returned (.agg #[.int .i64 r1,.int .i64 r2,v2_])∧Kd.R k79 79 w' w.heap.size (fun _=>True) v2_ r3∧Below w.heap.size w w':=by
 have hu38:=Try.underlying38
 have hu79:=Try.underlying79
 have HR0_2:=aK hr0_2
 have HC0_2:=aK hc0_2
 clear hr0_2 hc0_2
 have HB:=aK (Below.refl w.heap.size w)
 have H:((qc3_.f a0_0 a0_1 l0_2).bind fun bt687=>((qf3_.f 1).bind fun bt693=>(if bt687.2.2.length < 4398046511104 then (some (bt687.1,bt687.2.1,(bt687.2.2 ++ [(⟨a1,(⟨bt693.1,bt693.2⟩:S77)⟩:S79)]))) else (none))))=some (r1,r2,r3):=h
 clear h
 replace H:=Option.bind_eq_some_iff.mp H
 obtain ⟨⟨t687,t688,t689⟩,A30,H⟩:=H
 replace H:((qf3_.f 1).bind fun bt693=>(if t689.length < 4398046511104 then (some (t687,t688,(t689 ++ [(⟨a1,(⟨bt693.1,bt693.2⟩:S77)⟩:S79)]))) else (none)))=some (r1,r2,r3):=H
 have A3:=aK A30
 clear A30
 replace H:=Option.bind_eq_some_iff.mp H
 obtain ⟨⟨t693,t694⟩,A40,H⟩:=H
 replace H:(if t689.length < 4398046511104 then (some (t687,t688,(t689 ++ [(⟨a1,(⟨t693,t694⟩:S77)⟩:S79)]))) else (none))=some (r1,r2,r3):=H
 have A4:=aK A40
 clear A40
 by_cases c5:t689.length < 4398046511104
 ·rw [if_pos c5] at H
  have LMc5:=aK c5
  clear c5
  obtain ⟨y695,hy695⟩:∃ y_:List (S79),y_=(t689 ++ [(⟨a1,(⟨t693,t694⟩:S77)⟩:S79)]):=⟨_,rfl⟩
  replace H:(some (t687,t688,y695))=some (r1,r2,r3):=by first|(rw [hy695];with_reducible exact H)|(have H2_:=(Option.bind_some _ _).symm.trans H;rw [hy695];with_reducible exact H2_)|(have H2_:=(Option.bind_some _ _).symm.trans H;with_reducible exact H2_)|with_reducible exact H|(rw [hy695];exact H)|exact H
  have Ny695:=aK hy695
  clear hy695
  simp only [Option.some.injEq,Prod.mk.injEq] at H
  obtain ⟨rfl,rfl,rfl⟩:=H
  go_enter Try.func162,Try.ntmps162
  try go_wp2_with (first|((with_reducible refine qu_ (N:=2) rfl ?_);refine qr_ ?hg (N:=2) ?hd (cs:=#[.int .i64 a0_0,.int .i64 a0_1,.slice A0_2 l0_2.length c0_2]) (t:=38) ?hr ?_;(case hd=>rfl);(case hg=>rfl);(case hr=>first|(go_simp;done)|(go_simp;rfl));intro gb685 hg w6 hbox hb;have n0_:=aK (qj_ (by repeat (first|(with_reducible first|exact HB.out|apply qb_|apply qa_|apply qc_)|exact HB.out)) hb);have n1_:=aK (hbox);have n2_:=aK ((by rw [hg];exact (qk_ (by repeat (first|(with_reducible first|exact HB.out|apply qb_|apply qa_|apply qc_)|exact HB.out))):w.heap.size≤gb685));have n3_:=aK ((by rw [hg];exact (qk_ (by repeat (first|(with_reducible first|exact HB.out|apply qb_|apply qa_|apply qc_)|exact HB.out))):w.heap.size≤gb685));clear HB;have HB:=n0_;have BK685:=n1_;have GW685:=n2_;have GE685:=n3_;clear n0_ n1_ n2_ n3_;clear hb hbox hg)|((with_reducible refine qu_ (N:=4) rfl ?_);refine qr_ ?hg (N:=4) ?hd (cs:=#[.int .i64 0,.int .i64 0,.slice none 0 0]) (t:=38) ?hr ?_;(case hd=>rfl);(case hg=>rfl);(case hr=>first|(go_simp;done)|(go_simp;rfl));intro gb686 hg w7 hbox hb;have n0_:=aK (qm_ (g:=gb685) (o:=.cells #[.int .i64 a0_0,.int .i64 a0_1,.slice A0_2 l0_2.length c0_2] 38 (0,0)) (by (with_reducible repeat (first|refine qf_ ?_ _|refine qi_ ?_|refine qe_ ?_ _));exact BK685.out) hb);have n1_:=aK (qj_ (by repeat (first|(with_reducible first|exact HB.out|apply qb_|apply qa_|apply qc_|refine qh_ ?_ GE685.out)|exact HB.out)) hb);have n2_:=aK (hbox);have n3_:=aK ((by rw [hg];exact (qk_ (by repeat (first|(with_reducible first|exact HB.out|apply qb_|apply qa_|apply qc_|refine qh_ ?_ GE685.out)|exact HB.out))):w.heap.size≤gb686));have n4_:=aK ((by rw [hg];exact (qk_ (by repeat (first|(with_reducible first|exact HB.out|apply qb_|apply qa_|apply qc_|refine qh_ ?_ GE685.out)|exact HB.out))):w.heap.size≤gb686));have n5_:=aK ((by rw [hg];exact Nat.ne_of_lt (blk_lt (g:=gb685) (o:=.cells #[.int .i64 a0_0,.int .i64 a0_1,.slice A0_2 l0_2.length c0_2] 38 (0,0)) (by (with_reducible repeat (first|refine qf_ ?_ _|refine qi_ ?_|refine qe_ ?_ _));exact BK685.out)):gb685 ≠ gb686));have n6_:=aK ((by rw [hg];exact Nat.ne_of_gt (blk_lt (g:=gb685) (o:=.cells #[.int .i64 a0_0,.int .i64 a0_1,.slice A0_2 l0_2.length c0_2] 38 (0,0)) (by (with_reducible repeat (first|refine qf_ ?_ _|refine qi_ ?_|refine qe_ ?_ _));exact BK685.out)):gb686 ≠ gb685));clear BK685;clear HB;have BK685:=n0_;have HB:=n1_;have BK686:=n2_;have GW686:=n3_;have GE686:=n4_;have NB685_686:=n5_;have NB686_685:=n6_;clear n0_ n1_ n2_ n3_ n4_ n5_ n6_;clear hb hbox hg;have hnb8:=NB685_686.out;have hnc8:=NB686_685.out;have hcz9_0:w7.cell? ⟨gb685,0,none⟩=some (.int .i64 a0_0):=(qg_ BK685.out 0).trans rfl;have hcz9_1:w7.cell? ⟨gb685,1,none⟩=some (.int .i64 a0_1):=(qg_ BK685.out 1).trans rfl;have hcz9_2:w7.cell? ⟨gb685,2,none⟩=some (.slice A0_2 l0_2.length c0_2):=(qg_ BK685.out 2).trans rfl;have hfz9_0:=qd_ BK685.out 0;have hfz9_1:=qd_ BK685.out 1;have hfz9_2:=qd_ BK685.out 2)|((with_reducible refine qa1_ (f:=108) rfl ?_);refine goesL_ (some 7) rfl rfl Try.func108 (by kernel_rfl) rfl #[.agg #[.int .i64 a0_0,.int .i64 a0_1,.slice A0_2 l0_2.length c0_2]] rfl (by (try simp only [List.map_toArray,List.map_cons,List.map_nil]);first|done|rfl|(simp only [List.length_drop,List.length_take];rfl)) ?_;(with_reducible refine (qc3_.calls a0_0 a0_1 _ _ l0_2 t687 t688 t689 _ ?side1 ?side2 A3.out).mono ?_);(case side1=>repeat (first|exact (Kd.qv1_ HR0_2.out HB.out)|(with_reducible refine Kd.C_alloc ?_ _)|(with_reducible refine Kd.C_drewN ?_ _)|(with_reducible refine Kd.C_drew ?_)));(case side2=>exact HC0_2.out);rintro e w10 ⟨v690,rfl,ho0,hb⟩;refine ⟨_,rfl,?_⟩;have n0_:=aK (Kd.qn2_ ho0 (qk_ (by repeat (first|(with_reducible first|exact HB.out|apply qb_|apply qa_|apply qc_|refine qh_ ?_ GE685.out|refine qh_ ?_ GE686.out)|exact HB.out))));have n1_:=aK (qm_ (g:=gb685) (o:=.cells #[.int .i64 a0_0,.int .i64 a0_1,.slice A0_2 l0_2.length c0_2] 38 (0,0)) (by (with_reducible repeat (first|refine qf_ ?_ _|refine qi_ ?_|refine qe_ ?_ _));exact BK685.out) hb);have n2_:=aK (qm_ (g:=gb686) (o:=.cells #[.int .i64 0,.int .i64 0,.slice none 0 0] 38 (0,0)) (by (with_reducible repeat (first|refine qf_ ?_ _|refine qi_ ?_|refine qe_ ?_ _));exact BK686.out) hb);have n3_:=aK (qj_ (by repeat (first|(with_reducible first|exact HB.out|apply qb_|apply qa_|apply qc_|refine qh_ ?_ GE685.out|refine qh_ ?_ GE686.out)|exact HB.out)) hb);clear BK685;clear BK686;clear HB;have HO691:=n0_;have BK685:=n1_;have BK686:=n2_;have HB:=n3_;clear n0_ n1_ n2_ n3_;(try clear hb);(try clear hb2);(try clear hk);(try clear hi);(try clear ho0))|((with_reducible refine qu_ (N:=5) rfl ?_);refine qr_ ?hg (N:=5) ?hd (cs:=#[.int .i64 0,.int .i64 0,.slice none 0 0]) (t:=38) ?hr ?_;(case hd=>rfl);(case hg=>rfl);(case hr=>first|(go_simp;done)|(go_simp;rfl));intro gb692 hg w11 hbox hb;have n0_:=aK (Kd.qm2_ (by (with_reducible repeat (first|apply Kd.qp1_|apply Kd.qu1_|apply Kd.R_drew));exact HO691.out) hb);have n1_:=aK (qm_ (g:=gb685) (o:=.cells #[.int .i64 a0_0,.int .i64 a0_1,.slice A0_2 l0_2.length c0_2] 38 (0,0)) (by (with_reducible repeat (first|refine qf_ ?_ _|refine qi_ ?_|refine qe_ ?_ _));exact BK685.out) hb);have n2_:=aK (qm_ (g:=gb686) (o:=.cells #[.int .i64 0,.int .i64 0,.slice none 0 0] 38 (0,0)) (by (with_reducible repeat (first|refine qf_ ?_ _|refine qi_ ?_|refine qe_ ?_ _));exact BK686.out) hb);have n3_:=aK (qj_ (by repeat (first|(with_reducible first|exact HB.out|apply qb_|apply qa_|apply qc_|refine qh_ ?_ GE685.out|refine qh_ ?_ GE686.out)|exact HB.out)) hb);have n4_:=aK (hbox);have n5_:=aK ((by rw [hg];exact (qk_ (by repeat (first|(with_reducible first|exact HB.out|apply qb_|apply qa_|apply qc_|refine qh_ ?_ GE685.out|refine qh_ ?_ GE686.out)|exact HB.out))):w.heap.size≤gb692));have n6_:=aK ((by rw [hg];exact (qk_ (by repeat (first|(with_reducible first|exact HB.out|apply qb_|apply qa_|apply qc_|refine qh_ ?_ GE685.out|refine qh_ ?_ GE686.out)|exact HB.out))):w.heap.size≤gb692));have n7_:=aK ((by rw [hg];exact Nat.ne_of_lt (blk_lt (g:=gb685) (o:=.cells #[.int .i64 a0_0,.int .i64 a0_1,.slice A0_2 l0_2.length c0_2] 38 (0,0)) (by (with_reducible repeat (first|refine qf_ ?_ _|refine qi_ ?_|refine qe_ ?_ _));exact BK685.out)):gb685 ≠ gb692));have n8_:=aK ((by rw [hg];exact Nat.ne_of_gt (blk_lt (g:=gb685) (o:=.cells #[.int .i64 a0_0,.int .i64 a0_1,.slice A0_2 l0_2.length c0_2] 38 (0,0)) (by (with_reducible repeat (first|refine qf_ ?_ _|refine qi_ ?_|refine qe_ ?_ _));exact BK685.out)):gb692 ≠ gb685));have n9_:=aK ((by rw [hg];exact Nat.ne_of_lt (blk_lt (g:=gb686) (o:=.cells #[.int .i64 0,.int .i64 0,.slice none 0 0] 38 (0,0)) (by (with_reducible repeat (first|refine qf_ ?_ _|refine qi_ ?_|refine qe_ ?_ _));exact BK686.out)):gb686 ≠ gb692));have n10_:=aK ((by rw [hg];exact Nat.ne_of_gt (blk_lt (g:=gb686) (o:=.cells #[.int .i64 0,.int .i64 0,.slice none 0 0] 38 (0,0)) (by (with_reducible repeat (first|refine qf_ ?_ _|refine qi_ ?_|refine qe_ ?_ _));exact BK686.out)):gb692 ≠ gb686));clear HO691;clear BK685;clear BK686;clear HB;have HO691:=n0_;have BK685:=n1_;have BK686:=n2_;have HB:=n3_;have BK692:=n4_;have GW692:=n5_;have GE692:=n6_;have NB685_692:=n7_;have NB692_685:=n8_;have NB686_692:=n9_;have NB692_686:=n10_;clear n0_ n1_ n2_ n3_ n4_ n5_ n6_ n7_ n8_ n9_ n10_;clear hb hbox hg;have hnb12:=NB692_685.out;have hnc12:=NB685_692.out;have hnb13:=NB692_686.out;have hnc13:=NB686_692.out;have hcz14_0:w11.cell? ⟨gb692,0,none⟩=some (.int .i64 0):=(qg_ BK692.out 0).trans rfl;have hcz14_1:w11.cell? ⟨gb692,1,none⟩=some (.int .i64 0):=(qg_ BK692.out 1).trans rfl;have hcz14_2:w11.cell? ⟨gb692,2,none⟩=some (.slice none 0 0):=(qg_ BK692.out 2).trans rfl;have hfz14_0:=qd_ BK692.out 0;have hfz14_1:=qd_ BK692.out 1;have hfz14_2:=qd_ BK692.out 2;obtain ⟨Ao15,co15,eo15⟩:=Kd.qf2_ HO691.out;subst eo15))
  have n0_:Aside0 (Kd.R k79 79 (((w11.setCell ⟨gb692,0,none⟩ (.int .i64 t687)).setCell ⟨gb692,1,none⟩ (.int .i64 t688)).setCell ⟨gb692,2,none⟩ (.slice Ao15 t689.length co15)) w.heap.size (fun _=>True) (.slice Ao15 t689.length co15) t689):=⟨by (with_reducible repeat (first|apply Kd.qp1_|apply Kd.qu1_|apply Kd.R_drew));exact Kd.R_mono (Kd.R_far (p:=⟨gb692,2,none⟩) (Kd.R_far (p:=⟨gb692,1,none⟩) (Kd.R_far (p:=⟨gb692,0,none⟩) (Kd.R_types HO691.out BK692.out (by decide)) (fun _ hk=>hk.2) (.int .i64 t687)) (fun _ hk=>hk.2) (.int .i64 t688)) (fun _ hk=>hk.2) (.slice Ao15 t689.length co15)) (fun _ hk=>trivial)⟩
  have n1_:Aside0 ((((w11.setCell ⟨gb692,0,none⟩ (.int .i64 t687)).setCell ⟨gb692,1,none⟩ (.int .i64 t688)).setCell ⟨gb692,2,none⟩ (.slice Ao15 t689.length co15)).heap[gb685]?=some (.cells #[.int .i64 a0_0,.int .i64 a0_1,.slice A0_2 l0_2.length c0_2] 38 (0,0))):=⟨by (with_reducible repeat (first|refine qf_ ?_ _|refine qi_ ?_|refine qe_ ?_ _));refine qk1_ ?_ NB685_692.out _;(with_reducible repeat (first|refine qf_ ?_ _|refine qi_ ?_|refine qe_ ?_ _));refine qk1_ ?_ NB685_692.out _;(with_reducible repeat (first|refine qf_ ?_ _|refine qi_ ?_|refine qe_ ?_ _));refine qk1_ ?_ NB685_692.out _;(with_reducible repeat (first|refine qf_ ?_ _|refine qi_ ?_|refine qe_ ?_ _));exact BK685.out⟩
  have n2_:Aside0 ((((w11.setCell ⟨gb692,0,none⟩ (.int .i64 t687)).setCell ⟨gb692,1,none⟩ (.int .i64 t688)).setCell ⟨gb692,2,none⟩ (.slice Ao15 t689.length co15)).heap[gb686]?=some (.cells #[.int .i64 0,.int .i64 0,.slice none 0 0] 38 (0,0))):=⟨by (with_reducible repeat (first|refine qf_ ?_ _|refine qi_ ?_|refine qe_ ?_ _));refine qk1_ ?_ NB686_692.out _;(with_reducible repeat (first|refine qf_ ?_ _|refine qi_ ?_|refine qe_ ?_ _));refine qk1_ ?_ NB686_692.out _;(with_reducible repeat (first|refine qf_ ?_ _|refine qi_ ?_|refine qe_ ?_ _));refine qk1_ ?_ NB686_692.out _;(with_reducible repeat (first|refine qf_ ?_ _|refine qi_ ?_|refine qe_ ?_ _));exact BK686.out⟩
  have n3_:Aside0 ((((w11.setCell ⟨gb692,0,none⟩ (.int .i64 t687)).setCell ⟨gb692,1,none⟩ (.int .i64 t688)).setCell ⟨gb692,2,none⟩ (.slice Ao15 t689.length co15)).heap[gb692]?=some (.cells #[.int .i64 t687,.int .i64 t688,.slice Ao15 t689.length co15] 38 (0,0))):=⟨by (with_reducible repeat (first|refine qf_ ?_ _|refine qi_ ?_|refine qe_ ?_ _));refine qi1_ (cs:=#[.int .i64 t687,.int .i64 t688,.slice none 0 0]) ?_ 2 _ rfl;(with_reducible repeat (first|refine qf_ ?_ _|refine qi_ ?_|refine qe_ ?_ _));refine qi1_ (cs:=#[.int .i64 t687,.int .i64 0,.slice none 0 0]) ?_ 1 _ rfl;(with_reducible repeat (first|refine qf_ ?_ _|refine qi_ ?_|refine qe_ ?_ _));refine qi1_ (cs:=#[.int .i64 0,.int .i64 0,.slice none 0 0]) ?_ 0 _ rfl;(with_reducible repeat (first|refine qf_ ?_ _|refine qi_ ?_|refine qe_ ?_ _));exact BK692.out⟩
  have n4_:Aside0 (Below w.heap.size w (((w11.setCell ⟨gb692,0,none⟩ (.int .i64 t687)).setCell ⟨gb692,1,none⟩ (.int .i64 t688)).setCell ⟨gb692,2,none⟩ (.slice Ao15 t689.length co15))):=⟨by repeat (first|(with_reducible first|exact HB.out|apply qb_|apply qa_|apply qc_|refine qh_ ?_ GE685.out|refine qh_ ?_ GE686.out|refine qh_ ?_ GE692.out)|exact HB.out)⟩
  (try clear HO691)
  (try clear BK685)
  (try clear BK686)
  (try clear BK692)
  (try clear HB)
  generalize (((w11.setCell ⟨gb692,0,none⟩ (.int .i64 t687)).setCell ⟨gb692,1,none⟩ (.int .i64 t688)).setCell ⟨gb692,2,none⟩ (.slice Ao15 t689.length co15))=w16 at n0_ n1_ n2_ n3_ n4_ ⊢
  have HO691:=n0_
  have BK685:=n1_
  have BK686:=n2_
  have BK692:=n3_
  have HB:=n4_
  clear n0_ n1_ n2_ n3_ n4_
  have n0_:=aK (Kd.R_drew HO691.out)
  have n1_:=aK (qi_ BK685.out)
  have n2_:=aK (qi_ BK686.out)
  have n3_:=aK (qi_ BK692.out)
  have n4_:=aK (qc_ HB.out)
  clear HO691
  clear BK685
  clear BK686
  clear BK692
  clear HB
  have HO691:=n0_
  have BK685:=n1_
  have BK686:=n2_
  have BK692:=n3_
  have HB:=n4_
  clear n0_ n1_ n2_ n3_ n4_
  refine start_ (n:=9) (S:=fun w'=>w'.cell? ⟨gb692,0,none⟩=some (.int .i64 t687)∧w'.cell? ⟨gb692,1,none⟩=some (.int .i64 t688)∧w'.cell? ⟨gb692,2,none⟩=some (.slice Ao15 t689.length co15)) (ds:=[8]) #[fF,fF,fF,fF,fF,fF,fF,fF,fF] (by kernel_rfl) rfl rfl ⟨(qg_ BK692.out 0).trans rfl,(qg_ BK692.out 1).trans rfl,(qg_ BK692.out 2).trans rfl⟩ (fun hHeld=>?_);refine with_tabW qj2_.tab2 qj2_.bits2 (fun HT_ HW_=>?_)
  generalize w16.drew=w17 at HO691 BK685 BK686 BK692 HB hHeld ⊢
  refine pure_ (i:=0) (N:=some 8) (v:=?_) (a':=?_) #[tT,fF,fF,fF,fF,fF,fF,fF,fF] rfl rfl (any_of HT_.out (by kernel_rfl)) (fun _ _ _ h=>h) (Or.inl ⟨by rfl,?_⟩) ?_ ?_
  rotate_left
  ·intro w'
   go_simp
   with_reducible rfl
  rotate_left
  ·simp only [Act.put,List.setIfInBounds_toArray,List.set_cons_zero,List.set_cons_succ,i64_w,i32_w]
   rfl
  refine pure_ (i:=2) (N:=some 10) (v:=?_) (a':=?_) #[tT,fF,tT,fF,fF,fF,fF,fF,fF] rfl rfl (any_of HT_.out (by kernel_rfl)) (fun _ _ _ h=>h) (Or.inl ⟨by rfl,?_⟩) ?_ ?_
  rotate_left
  ·intro w'
   go_simp
   with_reducible rfl
  rotate_left
  ·simp only [Act.put,List.setIfInBounds_toArray,List.set_cons_zero,List.set_cons_succ,i64_w,i32_w]
   rfl
  refine take_ (i:=1) (N:=some 9) (v:=?_) (a':=?_) #[tT,tT,tT,fF,fF,fF,fF,fF,fF] rfl rfl (take_ofW HT_.out HW_.out (by kernel_rfl)) (fun _ _ _ h=>h) (Or.inl ⟨by rfl,?_⟩) hHeld ?_ ?_
  rotate_left
  ·rintro w' ⟨s0,s1,s2⟩
   go_simp
   with_reducible rfl
  rotate_left
  ·simp only [Act.put,List.setIfInBounds_toArray,List.set_cons_zero,List.set_cons_succ,i64_w,i32_w]
   rfl
  refine one_ (i:=3) (N:=some 11) #[tT,tT,tT,tT,fF,fF,fF,fF,fF] rfl rfl (one_of HT_.out (by kernel_rfl)) (by decide) (fun K hK=>?_)
  refine goes_ Try.func124 (by kernel_rfl) rfl #[.int .i64 1] (by rfl) rfl rfl (by (try simp only [List.map_toArray,List.map_cons,List.map_nil]);first|done|rfl|(simp only [List.length_drop,List.length_take];rfl)) ?_
  with_reducible refine (qf3_.calls 1 t693 t694 _ A4.out).mono ?_
  rintro e w18 ⟨rfl,hb⟩
  refine ⟨_,rfl,?_⟩
  have n0_:=aK (Kd.qm2_ (by (with_reducible repeat (first|apply Kd.qp1_|apply Kd.qu1_|apply Kd.R_drew));exact HO691.out) hb)
  have n1_:=aK (qm_ (g:=gb685) (o:=.cells #[.int .i64 a0_0,.int .i64 a0_1,.slice A0_2 l0_2.length c0_2] 38 (0,0)) (by (with_reducible repeat (first|refine qf_ ?_ _|refine qi_ ?_|refine qe_ ?_ _));exact BK685.out) hb)
  have n2_:=aK (qm_ (g:=gb686) (o:=.cells #[.int .i64 0,.int .i64 0,.slice none 0 0] 38 (0,0)) (by (with_reducible repeat (first|refine qf_ ?_ _|refine qi_ ?_|refine qe_ ?_ _));exact BK686.out) hb)
  have n3_:=aK (qm_ (g:=gb692) (o:=.cells #[.int .i64 t687,.int .i64 t688,.slice Ao15 t689.length co15] 38 (0,0)) (by (with_reducible repeat (first|refine qf_ ?_ _|refine qi_ ?_|refine qe_ ?_ _));exact BK692.out) hb)
  have n4_:=aK (qj_ (by repeat (first|(with_reducible first|exact HB.out|apply qb_|apply qa_|apply qc_|refine qh_ ?_ GE685.out|refine qh_ ?_ GE686.out|refine qh_ ?_ GE692.out)|exact HB.out)) hb)
  clear HO691
  clear BK685
  clear BK686
  clear BK692
  clear HB
  have HO691:=n0_
  have BK685:=n1_
  have BK686:=n2_
  have BK692:=n3_
  have HB:=n4_
  clear n0_ n1_ n2_ n3_ n4_
  (try clear hb)
  (try clear hb2)
  (try clear hk)
  (try clear hi)
  refine hK.out _ _ ⟨(qg_ BK692.out 0).trans rfl,(qg_ BK692.out 1).trans rfl,(qg_ BK692.out 2).trans rfl⟩ (fun hHeld=>?_)
  clear hK K
  refine norm_ (a':=?_) ?_ ?_
  rotate_left
  ·show Act.put _ (some 11) _=_
   simp only [Act.put,List.setIfInBounds_toArray,List.set_cons_zero,List.set_cons_succ,i64_w,i32_w]
   rfl
  refine pure_ (i:=4) (N:=some 12) (v:=?_) (a':=?_) #[tT,tT,tT,tT,tT,fF,fF,fF,fF] rfl rfl (any_of HT_.out (by kernel_rfl)) (fun _ _ _ h=>h) (Or.inl ⟨by rfl,?_⟩) ?_ ?_
  rotate_left
  ·intro w'
   go_simp
   with_reducible rfl
  rotate_left
  ·simp only [Act.put,List.setIfInBounds_toArray,List.set_cons_zero,List.set_cons_succ,i64_w,i32_w]
   rfl
  refine one_ (i:=5) (N:=some 13) #[tT,tT,tT,tT,tT,tT,fF,fF,fF] rfl rfl (one_of HT_.out (by kernel_rfl)) (by decide) (fun K hK=>?_)
  refine value_ (w1:=?_) (v:=?_) (by rfl) rfl ?_ ?_
  rotate_left 2
  ·go_simp
   constructor
   ·rfl
   ·rfl
  refine hK.out _ _ ⟨(qg_ (qe_ BK692.out _) 0).trans rfl,(qg_ (qe_ BK692.out _) 1).trans rfl,(qg_ (qe_ BK692.out _) 2).trans rfl⟩ (fun hHeld=>?_)
  clear hK K
  refine norm_ (a':=?_) ?_ ?_
  rotate_left
  ·show Act.put _ (some 13) _=_
   simp only [Act.put,List.setIfInBounds_toArray,List.set_cons_zero,List.set_cons_succ,i64_w,i32_w]
   rfl
  refine one_ (i:=6) (N:=some 14) #[tT,tT,tT,tT,tT,tT,tT,fF,fF] rfl rfl (one_of HT_.out (by kernel_rfl)) (by decide) (fun K hK=>?_)
  refine Kd.qh3_ k79 (w0:=w) w.heap.size (by rfl) (.tmp 9) (.tmp 13) 24 79 (.agg #[(.string ⟨#[]⟩),(.int .i64 0),(.int .i64 0)]) 32 rfl Try.underlying24 info79 rfl (by decide) (by omega) (.slice Ao15 t689.length co15) t689 (⟨a1,(⟨t693,t694⟩:S77)⟩:S79) [.string a1,.int .i64 t693,.int .i64 t694] (fun _=>True) (fun _=>False) rfl rfl ?aP (fun _ hk=>hk.elim) ?aF ?aO ?aB ?aS ?aL ?_
  (case aP=>exact k79_mkM _ _ _ (⟨a1,(⟨t693,t694⟩:S77)⟩:S79))
  (case aB=>exact (by repeat (first|(with_reducible first|exact HB.out|apply qb_|apply qa_|apply qc_|refine qh_ ?_ GE685.out|refine qh_ ?_ GE686.out|refine qh_ ?_ GE692.out)|exact HB.out)))
  (case aF=>exact (fun _ _=>trivial))
  (case aO=>exact (by (with_reducible repeat (first|apply Kd.qp1_|apply Kd.qu1_|apply Kd.R_drew));exact HO691.out))
  (case aS=>exact (qk_ (by repeat (first|(with_reducible first|exact HB.out|apply qb_|apply qa_|apply qc_|refine qh_ ?_ GE685.out|refine qh_ ?_ GE686.out|refine qh_ ?_ GE692.out)|exact HB.out))))
  (case aL=>have:=LMc5.out;omega)
  intro v696 w19 ho hb hg hat
  rw [← Ny695.out] at ho
  have n0_:=aK (qj3_ (g:=gb685) (o:=.cells #[.int .i64 a0_0,.int .i64 a0_1,.slice A0_2 l0_2.length c0_2] 38 (0,0)) (by (with_reducible repeat (first|refine qf_ ?_ _|refine qi_ ?_|refine qe_ ?_ _));exact BK685.out) hg (Kd.R_ne HO691.out BK685.out (by decide)))
  have n1_:=aK (qj3_ (g:=gb686) (o:=.cells #[.int .i64 0,.int .i64 0,.slice none 0 0] 38 (0,0)) (by (with_reducible repeat (first|refine qf_ ?_ _|refine qi_ ?_|refine qe_ ?_ _));exact BK686.out) hg (Kd.R_ne HO691.out BK686.out (by decide)))
  have n2_:=aK (qj3_ (g:=gb692) (o:=.cells #[.int .i64 t687,.int .i64 t688,.slice Ao15 t689.length co15] 38 (0,0)) (by (with_reducible repeat (first|refine qf_ ?_ _|refine qi_ ?_|refine qe_ ?_ _));exact BK692.out) hg (Kd.R_ne HO691.out BK692.out (by decide)))
  have n3_:=aK (hb)
  have n4_:=aK (ho)
  clear BK685
  clear BK686
  clear BK692
  clear HB
  clear HO691
  have BK685:=n0_
  have BK686:=n1_
  have BK692:=n2_
  have HB:=n3_
  have HO697:=n4_
  clear n0_ n1_ n2_ n3_ n4_
  clear ho hb hg hat
  obtain ⟨Ao20,co20,eo20⟩:=Kd.qf2_ HO697.out
  (first|subst eo20|(injection eo20 with f1_ f2_ f3_;have f4_:=f1_.symm;have f5_:=f3_.symm;clear f1_ f2_ f3_;subst f4_;subst f5_))
  refine hK.out _ _ ⟨(qg_ BK692.out 0).trans rfl,(qg_ BK692.out 1).trans rfl,(qg_ BK692.out 2).trans rfl⟩ (fun hHeld=>?_)
  clear hK K
  refine norm_ (a':=?_) ?_ ?_
  rotate_left
  ·show Act.put _ (some 14) _=_
   simp only [Act.put,List.setIfInBounds_toArray,List.set_cons_zero,List.set_cons_succ,i64_w,i32_w]
   rfl
  refine pure_ (i:=7) (N:=some 15) (v:=?_) (a':=?_) #[tT,tT,tT,tT,tT,tT,tT,tT,fF] rfl rfl (any_of HT_.out (by kernel_rfl)) (fun _ _ _ h=>h) (Or.inl ⟨by rfl,?_⟩) ?_ ?_
  rotate_left
  ·intro w'
   go_simp
   with_reducible rfl
  rotate_left
  ·simp only [Act.put,List.setIfInBounds_toArray,List.set_cons_zero,List.set_cons_succ,i64_w,i32_w]
   rfl
  refine last_ (i:=8) (N:=none) #[tT,tT,tT,tT,tT,tT,tT,tT,tT] rfl rfl (one_of HT_.out (by kernel_rfl)) (by decide) (fun K hK=>?_)
  have hs21:w19.cell? ⟨gb692,2,none⟩=some (.slice Ao15 t689.length co15):=(qg_ BK692.out 2).trans rfl
  have hfs21:=qd_ BK692.out 2
  have hns21_0:=NB685_692.out
  have hns21_1:=NB686_692.out
  have hms21_0:=NB692_685.out
  have hms21_1:=NB692_686.out
  refine skip_ (w1:=?_) (by rfl) rfl ?_ ?_
  rotate_left
  ·go_simp
   rfl
  refine hK.out _ _ ?_
  clear hK K
  refine done_ (done_of HT_.out (by kernel_rfl)) ?_
  have hcz22_0:w19.cell? ⟨gb692,0,none⟩=some (.int .i64 t687):=(qg_ BK692.out 0).trans rfl
  have hcz22_1:w19.cell? ⟨gb692,1,none⟩=some (.int .i64 t688):=(qg_ BK692.out 1).trans rfl
  have hcz22_2:w19.cell? ⟨gb692,2,none⟩=some (.slice Ao15 t689.length co15):=(qg_ BK692.out 2).trans rfl
  have hfz22_0:=qd_ BK692.out 0
  have hfz22_1:=qd_ BK692.out 1
  have hfz22_2:=qd_ BK692.out 2
  have hcz23_0:w19.cell? ⟨gb686,0,none⟩=some (.int .i64 0):=(qg_ BK686.out 0).trans rfl
  have hcz23_1:w19.cell? ⟨gb686,1,none⟩=some (.int .i64 0):=(qg_ BK686.out 1).trans rfl
  have hcz23_2:w19.cell? ⟨gb686,2,none⟩=some (.slice none 0 0):=(qg_ BK686.out 2).trans rfl
  have hfz23_0:=qd_ BK686.out 0
  have hfz23_1:=qd_ BK686.out 1
  have hfz23_2:=qd_ BK686.out 2
  try go_wp2
  refine bodyPost_ret (results_cell_row rfl _ _ gb686 38 #[.int .i64 t687,.int .i64 t688,.slice Ao20 y695.length co20] (0,0) _ rfl (by (with_reducible repeat (first|refine qf_ ?_ _|refine qi_ ?_|refine qe_ ?_ _));refine qi1_ (cs:=#[.int .i64 t687,.int .i64 t688,.slice none 0 0]) ?_ 2 _ rfl;(with_reducible repeat (first|refine qf_ ?_ _|refine qi_ ?_|refine qe_ ?_ _));refine qi1_ (cs:=#[.int .i64 t687,.int .i64 0,.slice none 0 0]) ?_ 1 _ rfl;(with_reducible repeat (first|refine qf_ ?_ _|refine qi_ ?_|refine qe_ ?_ _));refine qi1_ (cs:=#[.int .i64 0,.int .i64 0,.slice none 0 0]) ?_ 0 _ rfl;(with_reducible repeat (first|refine qf_ ?_ _|refine qi_ ?_|refine qe_ ?_ _));refine qk1_ ?_ NB686_692.out _;(with_reducible repeat (first|refine qf_ ?_ _|refine qi_ ?_|refine qe_ ?_ _));exact BK686.out) Try.underlying38 rfl (by kernel_rfl)) rfl ?_
  exact ⟨_,by first|rfl|(simp [qo_,qn_] <;> rfl)|(simp [*,qo_,qn_] <;> rfl),by (with_reducible repeat (first|apply Kd.qp1_|apply Kd.qu1_|apply Kd.R_drew));exact Kd.R_mono (Kd.R_far (p:=⟨gb686,2,none⟩) (Kd.R_far (p:=⟨gb686,1,none⟩) (Kd.R_far (p:=⟨gb686,0,none⟩) (Kd.R_far (p:=⟨gb692,2,none⟩) (Kd.R_types (Kd.R_types HO697.out BK692.out (by decide)) BK686.out (by decide)) (fun _ hk=>hk.1.2) (.slice Ao20 y695.length co20)) (fun _ hk=>hk.2) (.int .i64 t687)) (fun _ hk=>hk.2) (.int .i64 t688)) (fun _ hk=>hk.2) (.slice Ao20 y695.length co20)) (fun _ hk=>trivial),by repeat (first|(with_reducible first|exact HB.out|apply qb_|apply qa_|apply qc_|refine qh_ ?_ GE685.out|refine qh_ ?_ GE686.out|refine qh_ ?_ GE692.out)|exact HB.out)⟩
 ·rw [if_neg c5] at H
  exact absurd H (by simp)
end Go.Proofs.Ytaiefdhenikiiaa.Base
