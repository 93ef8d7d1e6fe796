/- Texts that the proof of FnExactJoinedSeries needs, part 3. No condition. -/
import Derived.Test.YtaiefdhenikiiaaMFnExactJoinedSeries2
import Derived.Laws.StructEq
namespace Go.Proofs.Ytaiefdhenikiiaa
abbrev tT:Bool:=true
abbrev fF:Bool:=false
end Go.Proofs.Ytaiefdhenikiiaa
namespace Go.Proofs.Ytaiefdhenikiiaa
theorem aK {p:Prop} (h:p):Go.Proofs.YtaiefdhenikiiaaW.PrintWords.Aside0 p:=Go.Proofs.YtaiefdhenikiiaaW.PrintWords.Aside0.mk h
end Go.Proofs.Ytaiefdhenikiiaa
namespace Go.Proofs.Ytaiefdhenikiiaa.Base
open Go.RowKit Go.Proofs.YtaiefdhenikiiaaW.PrintWords Go.Proofs.YtaiefdhenikiiaaW.PrintLast Go.Proofs.YtaiefdhenikiiaaW.PrintMore
attribute [local go_sem] max2_int qp1_ max_two min_two max_three min_three max_four min_four Go.Proofs.YtaiefdhenikiiaaZ.qw_   -- for this text's walks alone
set_option linter.unusedVariables false
set_option linter.unusedSimpArgs false
def errW:Option Int→Value
 | none=>.nilIface
 | some c=>.iface 0 (.int .i64 c)
theorem qn_:errW none=.nilIface:=rfl
theorem qo_ (c:Int):errW (some c)=.iface 0 (.int .i64 c):=rfl
theorem info9:(Try.prog.info? 9).map (fun i=>(i.zero,i.size,i.bytes))=some (some (.string ⟨#[]⟩),1,16):=by kernel_rfl
theorem info77:(Try.prog.info? 77).map (fun i=>(i.zero,i.size,i.bytes))=some (some (.agg #[(.int .i64 0),(.int .i64 0)]),2,16):=by kernel_rfl
theorem info79:(Try.prog.info? 79).map (fun i=>(i.zero,i.size,i.bytes))=some (some (.agg #[(.string ⟨#[]⟩),(.int .i64 0),(.int .i64 0)]),3,32):=by kernel_rfl
structure S73 where
 f0:Int
 f1:Int
def z73:S73:=⟨(0:Int),(0:Int)⟩
def k73:Kd S73:=Kd.iso (Kd.pair (Kd.int .i64) (Kd.int .i64)) (fun x:S73=>(x.f0,x.f1))
theorem k73_open {w:World} {x:S73} {cs:List Value} (h:k73.K w x cs):cs=[.int .i64 x.f0,.int .i64 x.f1]:=by
 obtain ⟨_,_,rfl,rfl,rfl⟩:=h
 exact rfl
structure S75 where
 f0:ByteArray
 f1:S73
def z75:S75:=⟨(⟨#[]⟩:ByteArray),z73⟩
def k75:Kd S75:=Kd.iso (Kd.pair Kd.string k73) (fun x:S75=>(x.f0,x.f1))
theorem k75_open {w:World} {x:S75} {cs:List Value} (h:k75.K w x cs):cs=[.string x.f0,.int .i64 x.f1.f0,.int .i64 x.f1.f1]:=by
 obtain ⟨_,_,rfl,rfl,s1⟩:=h
 obtain rfl:=k73_open s1
 exact rfl
def rd_T75 (xs:List S75) (i:Int):S75:=xs.getD i.toNat z75
theorem at_T75 {w:World} {A:Option Addr} {n:Nat} {xs:List S75} (h:Kd.C k75 w A n xs) (i:Int) (h0:0≤i) (h1:i<n):∃ ad ,A=some ad∧w.cell? (ad.add (i.toNat*3))=some (.string (rd_T75 xs i).f0)∧w.cell? ⟨(ad.add (i.toNat*3)).block,(ad.add (i.toNat*3)).off+1,none⟩=some (.int .i64 (rd_T75 xs i).f1.f0)∧w.cell? ⟨(ad.add (i.toNat*3)).block,(ad.add (i.toNat*3)).off+2,none⟩=some (.int .i64 (rd_T75 xs i).f1.f1):=by
 obtain ⟨ad,c,e,_,hK,hc0⟩:=Kd.C_get h z75 i h0 h1
 have hc:∀ j u,c[j]?=some u→w.cell? (ad.add (i.toNat*3+j))=some u:=hc0
 obtain rfl:=k75_open hK
 exact ⟨ad,e,hc 0 _ rfl,by rw [← add_field _ _ 1 (by omega)];exact hc 1 _ rfl,by rw [← add_field _ _ 2 (by omega)];exact hc 2 _ rfl⟩
structure S77 where
 f0:Int
 f1:Int
def z77:S77:=⟨(0:Int),(0:Int)⟩
def k77:Kd S77:=Kd.iso (Kd.pair (Kd.int .i64) (Kd.int .i64)) (fun x:S77=>(x.f0,x.f1))
theorem k77_open {w:World} {x:S77} {cs:List Value} (h:k77.K w x cs):cs=[.int .i64 x.f0,.int .i64 x.f1]:=by
 obtain ⟨_,_,rfl,rfl,rfl⟩:=h
 exact rfl
theorem k77_openM {w:World} {base:Nat} {ok:Nat→Prop} {x:S77} {cs:List Value} (h:k77.M w base ok x cs):cs=[.int .i64 x.f0,.int .i64 x.f1]:=by
 obtain ⟨_,_,rfl,rfl,rfl⟩:=h
 exact rfl
theorem k77_mkM (w:World) (base:Nat) (ok:Nat→Prop) (x:S77) :k77.M w base ok x [.int .i64 x.f0,.int .i64 x.f1]:=⟨[.int .i64 x.f0],[.int .i64 x.f1],rfl,rfl,rfl⟩
def rd_T77 (xs:List S77) (i:Int):S77:=xs.getD i.toNat z77
theorem at_T77 {w:World} {A:Option Addr} {n:Nat} {xs:List S77} (h:Kd.C k77 w A n xs) (i:Int) (h0:0≤i) (h1:i<n):∃ ad ,A=some ad∧w.cell? (ad.add (i.toNat*2))=some (.int .i64 (rd_T77 xs i).f0)∧w.cell? ⟨(ad.add (i.toNat*2)).block,(ad.add (i.toNat*2)).off+1,none⟩=some (.int .i64 (rd_T77 xs i).f1):=by
 obtain ⟨ad,c,e,_,hK,hc0⟩:=Kd.C_get h z77 i h0 h1
 have hc:∀ j u,c[j]?=some u→w.cell? (ad.add (i.toNat*2+j))=some u:=hc0
 obtain rfl:=k77_open hK
 exact ⟨ad,e,hc 0 _ rfl,by rw [← add_field _ _ 1 (by omega)];exact hc 1 _ rfl⟩
structure S79 where
 f0:ByteArray
 f1:S77
def z79:S79:=⟨(⟨#[]⟩:ByteArray),z77⟩
def k79:Kd S79:=Kd.iso (Kd.pair Kd.string k77) (fun x:S79=>(x.f0,x.f1))
theorem k79_open {w:World} {x:S79} {cs:List Value} (h:k79.K w x cs):cs=[.string x.f0,.int .i64 x.f1.f0,.int .i64 x.f1.f1]:=by
 obtain ⟨_,_,rfl,rfl,s1⟩:=h
 obtain rfl:=k77_open s1
 exact rfl
theorem k79_openM {w:World} {base:Nat} {ok:Nat→Prop} {x:S79} {cs:List Value} (h:k79.M w base ok x cs):cs=[.string x.f0,.int .i64 x.f1.f0,.int .i64 x.f1.f1]:=by
 obtain ⟨_,_,rfl,rfl,s1⟩:=h
 obtain rfl:=k77_openM s1
 exact rfl
theorem k79_mkM (w:World) (base:Nat) (ok:Nat→Prop) (x:S79) :k79.M w base ok x [.string x.f0,.int .i64 x.f1.f0,.int .i64 x.f1.f1]:=⟨[.string x.f0],[.int .i64 x.f1.f0,.int .i64 x.f1.f1],rfl,rfl,(k77_mkM w base ok x.f1 )⟩
def rd_T79 (xs:List S79) (i:Int):S79:=xs.getD i.toNat z79
theorem at_T79 {w:World} {A:Option Addr} {n:Nat} {xs:List S79} (h:Kd.C k79 w A n xs) (i:Int) (h0:0≤i) (h1:i<n):∃ ad ,A=some ad∧w.cell? (ad.add (i.toNat*3))=some (.string (rd_T79 xs i).f0)∧w.cell? ⟨(ad.add (i.toNat*3)).block,(ad.add (i.toNat*3)).off+1,none⟩=some (.int .i64 (rd_T79 xs i).f1.f0)∧w.cell? ⟨(ad.add (i.toNat*3)).block,(ad.add (i.toNat*3)).off+2,none⟩=some (.int .i64 (rd_T79 xs i).f1.f1):=by
 obtain ⟨ad,c,e,_,hK,hc0⟩:=Kd.C_get h z79 i h0 h1
 have hc:∀ j u,c[j]?=some u→w.cell? (ad.add (i.toNat*3+j))=some u:=hc0
 obtain rfl:=k79_open hK
 exact ⟨ad,e,hc 0 _ rfl,by rw [← add_field _ _ 1 (by omega)];exact hc 1 _ rfl,by rw [← add_field _ _ 2 (by omega)];exact hc 2 _ rfl⟩
structure S38 where
 f0:Int
 f1:Int
 f2:(List S79)
def z38:S38:=⟨(0:Int),(0:Int),([]:List S79)⟩
def k38:Kd S38:=Kd.iso (Kd.pair (Kd.int .i64) (Kd.pair (Kd.int .i64) (Kd.slice 79 k79))) (fun x:S38=>(x.f0,x.f1,x.f2))
theorem k38_open {w:World} {x:S38} {cs:List Value} (h:k38.K w x cs):∃ A2 c2,cs=[.int .i64 x.f0,.int .i64 x.f1,.slice A2 x.f2.length c2]∧x.f2.length≤c2∧k79.C w A2 x.f2.length x.f2:=by
 obtain ⟨_,_,rfl,rfl,⟨_,_,rfl,rfl,⟨A2,c2,rfl,l2,g2⟩⟩⟩:=h
 exact ⟨A2,c2,rfl,l2,g2⟩
def rd_T38 (xs:List S38) (i:Int):S38:=xs.getD i.toNat z38
theorem at_T38 {w:World} {A:Option Addr} {n:Nat} {xs:List S38} (h:Kd.C k38 w A n xs) (i:Int) (h0:0≤i) (h1:i<n):∃ ad A2 c2,A=some ad∧w.cell? (ad.add (i.toNat*3))=some (.int .i64 (rd_T38 xs i).f0)∧w.cell? ⟨(ad.add (i.toNat*3)).block,(ad.add (i.toNat*3)).off+1,none⟩=some (.int .i64 (rd_T38 xs i).f1)∧w.cell? ⟨(ad.add (i.toNat*3)).block,(ad.add (i.toNat*3)).off+2,none⟩=some (.slice A2 (rd_T38 xs i).f2.length c2)∧(rd_T38 xs i).f2.length≤c2∧k79.C w A2 (rd_T38 xs i).f2.length (rd_T38 xs i).f2:=by
 obtain ⟨ad,c,e,_,hK,hc0⟩:=Kd.C_get h z38 i h0 h1
 have hc:∀ j u,c[j]?=some u→w.cell? (ad.add (i.toNat*3+j))=some u:=hc0
 obtain ⟨A2,c2,rfl,l2,g2⟩:=k38_open hK
 exact ⟨ad,A2,c2,e,hc 0 _ rfl,by rw [← add_field _ _ 1 (by omega)];exact hc 1 _ rfl,by rw [← add_field _ _ 2 (by omega)];exact hc 2 _ rfl,l2,g2⟩
end Go.Proofs.Ytaiefdhenikiiaa.Base
namespace Go.Proofs.Ytaiefdhenikiiaa.Base
open Go.RowKit Go.Proofs.YtaiefdhenikiiaaW.PrintWords Go.Proofs.YtaiefdhenikiiaaW.PrintLast Go.Proofs.YtaiefdhenikiiaaW.PrintMore
attribute [local go_sem] max2_int qp1_ max_two min_two max_three min_three max_four min_four Go.Proofs.YtaiefdhenikiiaaZ.qw_   -- for this text's walks alone
set_option linter.unusedVariables false
set_option linter.unusedSimpArgs false
def qb2_.f (a0:Int) (a1:Int) (a2:Int):Option (Bool):=if a0≥a1 then (some (decide (a0≤a2))) else (some false)
set_option maxHeartbeats 8000000 in
set_option maxRecDepth 100000 in
theorem qb2_.calls (a0:Int) (a1:Int) (a2:Int) (r:Bool) (w:World) (h:qb2_.f a0 a1 a2=some r) :
  Calls Try.prog 111 #[.int .i64 a0,.int .i64 a1,.int .i64 a2] w fun e w'=>e=.returned (.bool r)∧Drawn0 w w':=by
 have H:(if a0≥a1 then (some (decide (a0≤a2))) else (some false))=some r:=h
 clear h
 by_cases c4:a0≥a1
 ·rw [if_pos c4] at H
  have c4b0:decide (a1≤a0)=true:=decide_eq_true c4
  clear c4
  obtain rfl:=Option.some.inj H
  go_enter Try.func111,Try.ntmps111
  go_wp2
  go_ret
  exact ⟨by first|rfl|(simp;done)|(simp [*];done)|(simp [Go.Proofs.YtaiefdhenikiiaaZ.bne_nil];done),by repeat (first|exact Drawn0.refl _|apply Drawn0.step)⟩
 ·rw [if_neg c4] at H
  have c4b0:decide (a1≤a0)=false:=decide_eq_false c4
  clear c4
  obtain rfl:=Option.some.inj H
  go_enter Try.func111,Try.ntmps111
  go_wp2
  go_ret
  exact ⟨by first|rfl|(simp;done)|(simp [*];done)|(simp [Go.Proofs.YtaiefdhenikiiaaZ.bne_nil];done),by repeat (first|exact Drawn0.refl _|apply Drawn0.step)⟩
end Go.Proofs.Ytaiefdhenikiiaa.Base
namespace Go.Proofs.Ytaiefdhenikiiaa.Base
open Go.RowKit Go.Proofs.YtaiefdhenikiiaaW.PrintWords Go.Proofs.YtaiefdhenikiiaaW.PrintLast Go.Proofs.YtaiefdhenikiiaaW.PrintMore
attribute [local go_sem] max2_int qp1_ max_two min_two max_three min_three max_four min_four Go.Proofs.YtaiefdhenikiiaaZ.qw_   -- for this text's walks alone
set_option linter.unusedVariables false
set_option linter.unusedSimpArgs false
def qe3_.f (a0:Int) (a1:Int):Option (Bool):=(qb2_.f a0 (wrap64 (-a1)) a1).bind fun aX5=>(some aX5)
set_option maxHeartbeats 8000000 in
set_option maxRecDepth 100000 in
theorem qe3_.calls (a0:Int) (a1:Int) (r:Bool) (w:World) (h:qe3_.f a0 a1=some r) :
  Calls Try.prog 214 #[.int .i64 a0,.int .i64 a1] w fun e w'=>e=.returned (.bool r)∧Drawn0 w w':=by
 have H:((qb2_.f a0 (wrap64 (-a1)) a1).bind fun aX5=>(some aX5))=some r:=h
 clear h
 replace H:=Option.bind_eq_some_iff.mp H
 obtain ⟨aX5,A30,H⟩:=H
 replace H:(some aX5)=some r:=H
 have A3:=aK A30
 clear A30
 obtain rfl:=Option.some.inj H
 go_enter Try.func214,Try.ntmps214
 go_wp2_with (first|((with_reducible refine qy_ (f:=111) rfl ?_);refine goesL_ (some 9) rfl rfl Try.func111 (by kernel_rfl) rfl #[.int .i64 a0,.int .i64 (wrap64 (-a1)),.int .i64 a1] rfl (by (try simp only [List.map_toArray,List.map_cons,List.map_nil]);first|done|rfl|(simp only [List.length_drop,List.length_take];rfl)) ?_;(with_reducible refine (qb2_.calls a0 (wrap64 (-a1)) a1 aX5 _ A3.out).mono ?_);rintro e w' ⟨rfl,⟨nd,rfl⟩⟩;refine ⟨_,rfl,?_⟩))
 go_ret
 exact ⟨by first|rfl|(simp;done)|(simp [*];done)|(simp [Go.Proofs.YtaiefdhenikiiaaZ.bne_nil];done),by repeat (first|exact Drawn0.refl _|apply Drawn0.step)⟩
end Go.Proofs.Ytaiefdhenikiiaa.Base
namespace Go.Proofs.Ytaiefdhenikiiaa.Base
open Go.RowKit Go.Proofs.YtaiefdhenikiiaaW.PrintWords Go.Proofs.YtaiefdhenikiiaaW.PrintLast Go.Proofs.YtaiefdhenikiiaaW.PrintMore
attribute [local go_sem] max2_int qp1_ max_two min_two max_three min_three max_four min_four Go.Proofs.YtaiefdhenikiiaaZ.qw_   -- for this text's walks alone
set_option linter.unusedVariables false
set_option linter.unusedSimpArgs false
def qy2_.f (a0:Int):Option (Int):=some (mx a0 (wrap64 (-a0)))
set_option maxHeartbeats 8000000 in
set_option maxRecDepth 100000 in
theorem qy2_.calls (a0:Int) (r:Int) (w:World) (h:qy2_.f a0=some r) :
  Calls Try.prog 228 #[.int .i64 a0] w fun e w'=>e=.returned (.int .i64 r)∧Below w.heap.size w w':=by
 have HB:=aK (Below.refl w.heap.size w)
 have H:(some (mx a0 (wrap64 (-a0))))=some r:=h
 clear h
 obtain ⟨ji2,aV2⟩:∃ j_:Int,(mx a0 (wrap64 (-a0)))=j_:=⟨_,rfl⟩
 replace H:(some ji2)=some r:=by first|(rw [aV2] at H;exact H)|(simp only [aV2] at H ⊢;exact H)
 have hji2_:(if a0<(wrap64 (-a0)) then (wrap64 (-a0)) else a0)=ji2:=aV2
 obtain rfl:=Option.some.inj H
 go_enter Try.func228,Try.ntmps228
 go_wp2
 go_ret
 exact ⟨by first|rfl|(simp [qn_,qo_] <;> rfl)|(simp only [← aV2];first|rfl|(simp [qn_,qo_] <;> rfl))|(simp [*,qn_,qo_] <;> rfl),by repeat (first|(with_reducible first|exact HB.out|apply qb_|apply qa_|apply qc_)|exact HB.out)⟩
end Go.Proofs.Ytaiefdhenikiiaa.Base
namespace Go.Proofs.Ytaiefdhenikiiaa.Base
open Go.RowKit Go.Proofs.YtaiefdhenikiiaaW.PrintWords Go.Proofs.YtaiefdhenikiiaaW.PrintLast Go.Proofs.YtaiefdhenikiiaaW.PrintMore
attribute [local go_sem] max2_int qp1_ max_two min_two max_three min_three max_four min_four Go.Proofs.YtaiefdhenikiiaaZ.qw_   -- for this text's walks alone
set_option linter.unusedVariables false
set_option linter.unusedSimpArgs false
def qg1_.l0:Nat→Int→Int→Option (Int)
 | 0,_,_=>none
 | k+1,x0,x1=>if x1=0 then (some x0) else (qg1_.l0 k x1 (Int.tmod x0 x1))
def qg1_.f (k:Nat) (a0:Int) (a1:Int):Option (Int):=(qy2_.f a0).bind fun t141=>((qy2_.f a1).bind fun X8=>(qg1_.l0 k t141 X8))
theorem qg1_.mono_l:∀ k,(∀ y0 y1,LeO (qg1_.l0 k y0 y1) (qg1_.l0 (k+1) y0 y1))
 | 0=>fun _ _ r h=>by simp [qg1_.l0] at h
 | k+1=>by
  have ih0:=qg1_.mono_l k
  ·intro y0 y1
   unfold qg1_.l0
   repeat' first
   | (with_reducible exact ih0 _ _)
   | (with_reducible exact LeO.refl _)
   | (with_reducible exact LeO.none _)
   | (with_reducible refine LeO.ite ?_ ?_)
   | (with_reducible refine LeO.bind ?_ (fun _=>?_))
   | exact ih0 _ _
   | exact LeO.none _
   | refine LeO.ite ?_ ?_
   | refine LeO.bind ?_ (fun _=>?_)
theorem qg1_.mono:∀ a0 a1 k,LeO (qg1_.f k a0 a1) (qg1_.f (k+1) a0 a1):=by
 intro a0 a1 k
 have ih0:=qg1_.mono_l k
 unfold qg1_.f
 repeat' first
   | (with_reducible exact ih0 _ _)
   | (with_reducible exact LeO.refl _)
   | (with_reducible exact LeO.none _)
   | (with_reducible refine LeO.ite ?_ ?_)
   | (with_reducible refine LeO.bind ?_ (fun _=>?_))
   | exact ih0 _ _
   | exact LeO.none _
   | refine LeO.ite ?_ ?_
   | refine LeO.bind ?_ (fun _=>?_)
set_option maxHeartbeats 8000000 in
set_option maxRecDepth 100000 in
theorem qg1_.calls (k:Nat) (a0:Int) (a1:Int) (r:Int) (w:World) (h:qg1_.f k a0 a1=some r) :
  Calls Try.prog 217 #[.int .i64 a0,.int .i64 a1] w fun e w'=>e=.returned (.int .i64 r)∧Below w.heap.size w w':=by
 have HB:=aK (Below.refl w.heap.size w)
 have H:((qy2_.f a0).bind fun t141=>((qy2_.f a1).bind fun X8=>(qg1_.l0 k t141 X8)))=some r:=h
 clear h
 replace H:=Option.bind_eq_some_iff.mp H
 obtain ⟨t141,A30,H⟩:=H
 replace H:((qy2_.f a1).bind fun X8=>(qg1_.l0 k t141 X8))=some r:=H
 have A3:=aK A30
 clear A30
 replace H:=Option.bind_eq_some_iff.mp H
 obtain ⟨X8,A40,H⟩:=H
 replace H:(qg1_.l0 k t141 X8)=some r:=H
 have A4:=aK A40
 clear A40
 have H':=aK H
 clear H
 go_enter Try.func217,Try.ntmps217
 go_wp2_with (first|(go_at_call 228;(with_reducible refine (qy2_.calls a0 t141 _ A3.out).mono ?_);rintro e w5 ⟨rfl,hb⟩;have n0_:=aK (qh_ (by repeat (first|(with_reducible first|exact HB.out|apply qb_|apply qa_|apply qc_)|exact HB.out)) hb);clear HB;have HB:=n0_;clear n0_;(try clear hb);(try clear hb2);(try clear hk);(try clear hi))|(go_at_call 228;(with_reducible refine (qy2_.calls a1 X8 _ A4.out).mono ?_);rintro e w6 ⟨rfl,hb⟩;have n0_:=aK (qh_ (by repeat (first|(with_reducible first|exact HB.out|apply qb_|apply qa_|apply qc_)|exact HB.out)) hb);clear HB;have HB:=n0_;clear n0_;(try clear hb);(try clear hb2);(try clear hk);(try clear hi)))
 repeat (go_quiet (first|(go_at_call 228;(with_reducible refine (qy2_.calls a0 t141 _ A3.out).mono ?_);rintro e w5 ⟨rfl,hb⟩;have n0_:=aK (qh_ (by repeat (first|(with_reducible first|exact HB.out|apply qb_|apply qa_|apply qc_)|exact HB.out)) hb);clear HB;have HB:=n0_;clear n0_;(try clear hb);(try clear hb2);(try clear hk);(try clear hi))|(go_at_call 228;(with_reducible refine (qy2_.calls a1 X8 _ A4.out).mono ?_);rintro e w6 ⟨rfl,hb⟩;have n0_:=aK (qh_ (by repeat (first|(with_reducible first|exact HB.out|apply qb_|apply qa_|apply qc_)|exact HB.out)) hb);clear HB;have HB:=n0_;clear n0_;(try clear hb);(try clear hb2);(try clear hk);(try clear hi)));try go_wp2_with (first|(go_at_call 228;(with_reducible refine (qy2_.calls a0 t141 _ A3.out).mono ?_);rintro e w5 ⟨rfl,hb⟩;have n0_:=aK (qh_ (by repeat (first|(with_reducible first|exact HB.out|apply qb_|apply qa_|apply qc_)|exact HB.out)) hb);clear HB;have HB:=n0_;clear n0_;(try clear hb);(try clear hb2);(try clear hk);(try clear hi))|(go_at_call 228;(with_reducible refine (qy2_.calls a1 X8 _ A4.out).mono ?_);rintro e w6 ⟨rfl,hb⟩;have n0_:=aK (qh_ (by repeat (first|(with_reducible first|exact HB.out|apply qb_|apply qa_|apply qc_)|exact HB.out)) hb);clear HB;have HB:=n0_;clear n0_;(try clear hb);(try clear hb2);(try clear hk);(try clear hi))))
 go_loopg [0,1] k (fun kq v0 v1 w'=>∃ (x0_1:Int) (x1_1:Int),v0=.int .i64 x0_1∧v1=.int .i64 x1_1∧Aside0 (qg1_.l0 kq x0_1 x1_1=some r)∧Aside0 (kq≤k)∧Aside0 (Below w.heap.size w w'))
 case atStart=>exact ⟨(t141),(X8),(by first|rfl|(simp;done)|(simp [*];done)),(by first|rfl|(simp;done)|(simp [*];done)),H',⟨Nat.le_refl _⟩,⟨by repeat (first|(with_reducible first|exact HB.out|apply qb_|apply qa_|apply qc_)|exact HB.out)⟩⟩
 case round =>
  clear H'
  try clear c2
  try clear p2
  obtain ⟨x0_1,x1_1,rfl,rfl,HA,HK1,HB⟩:=hrel
  cases gk with
  | zero=>exact absurd HA.out (by simp [qg1_.l0])
  | succ k1 =>
   have H:=HA.out
   clear HA
   simp only [qg1_.l0] at H
   by_cases c7:x1_1=0
   ·rw [if_pos c7] at H
    have c7b0:(x1_1==0)=true:=beq_iff_eq.mpr c7
    have c7b1:(x1_1 != 0)=false:=bne_eq_false_iff_eq.mpr c7
    clear c7
    obtain rfl:=Option.some.inj H
    go_wp2
    repeat (go_quiet (fail);try go_wp2)
    go_ret
    exact ⟨by first|rfl|(simp [qn_,qo_] <;> rfl)|(simp [*,qn_,qo_] <;> rfl),by repeat (first|(with_reducible first|exact HB.out|apply qb_|apply qa_|apply qc_)|exact HB.out)⟩
   ·rw [if_neg c7] at H
    have c7b0:(x1_1==0)=false:=beq_eq_false_iff_ne.mpr c7
    have c7b1:(x1_1 != 0)=true:=bne_iff_ne.mpr c7
    have H':=aK H
    clear H
    go_wp2
    repeat (go_quiet (fail);try go_wp2)
    go_roundg k1
    case measure=>have:=HK1.out;omega
    case rel=>exact ⟨(x1_1),(Int.tmod x0_1 x1_1),(by first|rfl|(simp;done)|(simp [*];done)),(by first|rfl|(simp;done)|(simp [*];done)),H',⟨by have:=HK1.out;omega⟩,⟨by repeat (first|(with_reducible first|exact HB.out|apply qb_|apply qa_|apply qc_)|exact HB.out)⟩⟩
end Go.Proofs.Ytaiefdhenikiiaa.Base
namespace Go.Proofs.Ytaiefdhenikiiaa.Base
open Go.RowKit Go.Proofs.YtaiefdhenikiiaaW.PrintWords Go.Proofs.YtaiefdhenikiiaaW.PrintLast Go.Proofs.YtaiefdhenikiiaaW.PrintMore
attribute [local go_sem] max2_int qp1_ max_two min_two max_three min_three max_four min_four Go.Proofs.YtaiefdhenikiiaaZ.qw_   -- for this text's walks alone
set_option linter.unusedVariables false
set_option linter.unusedSimpArgs false
def qf1_.f (k:Nat) (a0_0:Int) (a0_1:Int):Option (Bool):=(qb2_.f a0_1 1 1000000000).bind fun aX4=>(if aX4=true then ((qe3_.f a0_0 1000000000).bind fun t145=>(if t145=true then ((qg1_.f k a0_0 a0_1).bind fun t146=>(some (t146==1))) else (some false))) else (some false))
theorem qf1_.mono:∀ a0 a1 k,LeO (qf1_.f k a0 a1) (qf1_.f (k+1) a0 a1):=by
 intro a0 a1 k
 unfold qf1_.f
 repeat' first
   | (with_reducible exact qg1_.mono _ _ _)
   | (with_reducible exact LeO.refl _)
   | (with_reducible exact LeO.none _)
   | (with_reducible refine LeO.ite ?_ ?_)
   | (with_reducible refine LeO.bind ?_ (fun _=>?_))
   | exact qg1_.mono _ _ _
   | exact LeO.none _
   | refine LeO.ite ?_ ?_
   | refine LeO.bind ?_ (fun _=>?_)
set_option maxHeartbeats 8000000 in
set_option maxRecDepth 100000 in
theorem qf1_.calls (k:Nat) (a0_0:Int) (a0_1:Int) (r:Bool) (w:World) (h:qf1_.f k a0_0 a0_1=some r) :
  Calls Try.prog 206 #[.agg #[.int .i64 a0_0,.int .i64 a0_1]] w fun e w'=>e=.returned (.bool r)∧Below w.heap.size w w':=by
 have hu77:=Try.underlying77
 have HB:=aK (Below.refl w.heap.size w)
 have H:((qb2_.f a0_1 1 1000000000).bind fun aX4=>(if aX4=true then ((qe3_.f a0_0 1000000000).bind fun t145=>(if t145=true then ((qg1_.f k a0_0 a0_1).bind fun t146=>(some (t146==1))) else (some false))) else (some false)))=some r:=h
 clear h
 replace H:=Option.bind_eq_some_iff.mp H
 obtain ⟨aX4,A20,H⟩:=H
 replace H:(if aX4=true then ((qe3_.f a0_0 1000000000).bind fun t145=>(if t145=true then ((qg1_.f k a0_0 a0_1).bind fun t146=>(some (t146==1))) else (some false))) else (some false))=some r:=H
 have A2:=aK A20
 clear A20
 by_cases c3:aX4=true
 ·subst c3
  have H1:((qe3_.f a0_0 1000000000).bind fun t145=>(if t145=true then ((qg1_.f k a0_0 a0_1).bind fun t146=>(some (t146==1))) else (some false)))=some r:=by rw [if_pos rfl] at H;exact H
  clear H
  have H:=H1
  clear H1
  replace H:=Option.bind_eq_some_iff.mp H
  obtain ⟨t145,A40,H⟩:=H
  replace H:(if t145=true then ((qg1_.f k a0_0 a0_1).bind fun t146=>(some (t146==1))) else (some false))=some r:=H
  have A4:=aK A40
  clear A40
  by_cases c5:t145=true
  ·subst c5
   have H1:((qg1_.f k a0_0 a0_1).bind fun t146=>(some (t146==1)))=some r:=by rw [if_pos rfl] at H;exact H
   clear H
   have H:=H1
   clear H1
   replace H:=Option.bind_eq_some_iff.mp H
   obtain ⟨t146,A60,H⟩:=H
   replace H:(some (t146==1))=some r:=H
   have A6:=aK A60
   clear A60
   obtain rfl:=Option.some.inj H
   go_enter Try.func206,Try.ntmps206
   go_wp2_with (first|((with_reducible refine qt_ (N:=1) rfl ?_);refine qr_ ?hg (N:=1) ?hd (cs:=#[.int .i64 a0_0,.int .i64 a0_1]) (t:=77) ?hr ?_;(case hd=>rfl);(case hg=>rfl);(case hr=>first|(go_simp;done)|(go_simp;rfl));intro M8 hg w7 hbox hb;have n0_:=aK (qh_ (by repeat (first|(with_reducible first|exact HB.out|apply qb_|apply qa_|apply qc_)|exact HB.out)) hb);have n1_:=aK (hbox);have n2_:=aK ((by rw [hg];exact (ql_ (by repeat (first|(with_reducible first|exact HB.out|apply qb_|apply qa_|apply qc_)|exact HB.out))):w.heap.size≤M8));have n3_:=aK ((by rw [hg];exact (ql_ (by repeat (first|(with_reducible first|exact HB.out|apply qb_|apply qa_|apply qc_)|exact HB.out))):w.heap.size≤M8));clear HB;have HB:=n0_;have J7:=n1_;have aV9:=n2_;have Y9:=n3_;clear n0_ n1_ n2_ n3_;clear hb hbox hg;have hcz8_0:w7.cell? ⟨M8,0,none⟩=some (.int .i64 a0_0):=(qe_ J7.out 0).trans rfl;have hcz8_1:w7.cell? ⟨M8,1,none⟩=some (.int .i64 a0_1):=(qe_ J7.out 1).trans rfl;have hfz8_0:=qd_ J7.out 0;have hfz8_1:=qd_ J7.out 1)|((with_reducible refine qy_ (f:=111) rfl ?_);refine goesL_ (some 5) rfl rfl Try.func111 (by kernel_rfl) rfl #[.int .i64 a0_1,.int .i64 1,.int .i64 1000000000] rfl (by (try simp only [List.map_toArray,List.map_cons,List.map_nil]);first|done|rfl|(simp only [List.length_drop,List.length_take];rfl)) ?_;(with_reducible refine (qb2_.calls a0_1 1 1000000000 true _ A2.out).mono ?_);rintro e w' ⟨rfl,⟨nd,rfl⟩⟩;refine ⟨_,rfl,?_⟩)|(go_at_call 214;(with_reducible refine (qe3_.calls a0_0 1000000000 true _ A4.out).mono ?_);rintro e w' ⟨rfl,⟨nd,rfl⟩⟩)|(go_at_call 217;(with_reducible refine (qg1_.calls k a0_0 a0_1 t146 _ A6.out).mono ?_);rintro e w9 ⟨rfl,hb⟩;have n0_:=aK (qk_ (g:=M8) (o:=.cells #[.int .i64 a0_0,.int .i64 a0_1] 77 (0,0)) (by (with_reducible repeat (first|refine qg_ ?_ _|refine qj_ ?_|refine qf_ ?_ _));exact J7.out) hb);have n1_:=aK (qh_ (by repeat (first|(with_reducible first|exact HB.out|apply qb_|apply qa_|apply qc_|refine qi_ ?_ Y9.out)|exact HB.out)) hb);clear J7;clear HB;have J7:=n0_;have HB:=n1_;clear n0_ n1_;(try clear hb);(try clear hb2);(try clear hk);(try clear hi)))
   go_ret
   exact ⟨by first|rfl|(simp [qn_,qo_] <;> rfl)|(simp [*,qn_,qo_] <;> rfl),by repeat (first|(with_reducible first|exact HB.out|apply qb_|apply qa_|apply qc_|refine qi_ ?_ Y9.out)|exact HB.out)⟩
  ·replace c5:=Bool.eq_false_iff.mpr c5
   subst c5
   have H1:(some false)=some r:=by rw [if_neg (show ¬ (false=true) by decide)] at H;exact H
   clear H
   have H:=H1
   clear H1
   obtain rfl:=Option.some.inj H
   go_enter Try.func206,Try.ntmps206
   go_wp2_with (first|((with_reducible refine qt_ (N:=1) rfl ?_);refine qr_ ?hg (N:=1) ?hd (cs:=#[.int .i64 a0_0,.int .i64 a0_1]) (t:=77) ?hr ?_;(case hd=>rfl);(case hg=>rfl);(case hr=>first|(go_simp;done)|(go_simp;rfl));intro M8 hg w10 hbox hb;have n0_:=aK (qh_ (by repeat (first|(with_reducible first|exact HB.out|apply qb_|apply qa_|apply qc_)|exact HB.out)) hb);have n1_:=aK (hbox);have n2_:=aK ((by rw [hg];exact (ql_ (by repeat (first|(with_reducible first|exact HB.out|apply qb_|apply qa_|apply qc_)|exact HB.out))):w.heap.size≤M8));have n3_:=aK ((by rw [hg];exact (ql_ (by repeat (first|(with_reducible first|exact HB.out|apply qb_|apply qa_|apply qc_)|exact HB.out))):w.heap.size≤M8));clear HB;have HB:=n0_;have J7:=n1_;have aV9:=n2_;have Y9:=n3_;clear n0_ n1_ n2_ n3_;clear hb hbox hg;have hcz11_0:w10.cell? ⟨M8,0,none⟩=some (.int .i64 a0_0):=(qe_ J7.out 0).trans rfl;have hcz11_1:w10.cell? ⟨M8,1,none⟩=some (.int .i64 a0_1):=(qe_ J7.out 1).trans rfl;have hfz11_0:=qd_ J7.out 0;have hfz11_1:=qd_ J7.out 1)|((with_reducible refine qy_ (f:=111) rfl ?_);refine goesL_ (some 5) rfl rfl Try.func111 (by kernel_rfl) rfl #[.int .i64 a0_1,.int .i64 1,.int .i64 1000000000] rfl (by (try simp only [List.map_toArray,List.map_cons,List.map_nil]);first|done|rfl|(simp only [List.length_drop,List.length_take];rfl)) ?_;(with_reducible refine (qb2_.calls a0_1 1 1000000000 true _ A2.out).mono ?_);rintro e w' ⟨rfl,⟨nd,rfl⟩⟩;refine ⟨_,rfl,?_⟩)|(go_at_call 214;(with_reducible refine (qe3_.calls a0_0 1000000000 false _ A4.out).mono ?_);rintro e w' ⟨rfl,⟨nd,rfl⟩⟩))
   go_ret
   exact ⟨by first|rfl|(simp [qn_,qo_] <;> rfl)|(simp [*,qn_,qo_] <;> rfl),by repeat (first|(with_reducible first|exact HB.out|apply qb_|apply qa_|apply qc_|refine qi_ ?_ Y9.out)|exact HB.out)⟩
 ·replace c3:=Bool.eq_false_iff.mpr c3
  subst c3
  have H1:(some false)=some r:=by rw [if_neg (show ¬ (false=true) by decide)] at H;exact H
  clear H
  have H:=H1
  clear H1
  obtain rfl:=Option.some.inj H
  go_enter Try.func206,Try.ntmps206
  go_wp2_with (first|((with_reducible refine qt_ (N:=1) rfl ?_);refine qr_ ?hg (N:=1) ?hd (cs:=#[.int .i64 a0_0,.int .i64 a0_1]) (t:=77) ?hr ?_;(case hd=>rfl);(case hg=>rfl);(case hr=>first|(go_simp;done)|(go_simp;rfl));intro M8 hg w12 hbox hb;have n0_:=aK (qh_ (by repeat (first|(with_reducible first|exact HB.out|apply qb_|apply qa_|apply qc_)|exact HB.out)) hb);have n1_:=aK (hbox);have n2_:=aK ((by rw [hg];exact (ql_ (by repeat (first|(with_reducible first|exact HB.out|apply qb_|apply qa_|apply qc_)|exact HB.out))):w.heap.size≤M8));have n3_:=aK ((by rw [hg];exact (ql_ (by repeat (first|(with_reducible first|exact HB.out|apply qb_|apply qa_|apply qc_)|exact HB.out))):w.heap.size≤M8));clear HB;have HB:=n0_;have J7:=n1_;have aV9:=n2_;have Y9:=n3_;clear n0_ n1_ n2_ n3_;clear hb hbox hg;have hcz13_0:w12.cell? ⟨M8,0,none⟩=some (.int .i64 a0_0):=(qe_ J7.out 0).trans rfl;have hcz13_1:w12.cell? ⟨M8,1,none⟩=some (.int .i64 a0_1):=(qe_ J7.out 1).trans rfl;have hfz13_0:=qd_ J7.out 0;have hfz13_1:=qd_ J7.out 1)|((with_reducible refine qy_ (f:=111) rfl ?_);refine goesL_ (some 5) rfl rfl Try.func111 (by kernel_rfl) rfl #[.int .i64 a0_1,.int .i64 1,.int .i64 1000000000] rfl (by (try simp only [List.map_toArray,List.map_cons,List.map_nil]);first|done|rfl|(simp only [List.length_drop,List.length_take];rfl)) ?_;(with_reducible refine (qb2_.calls a0_1 1 1000000000 false _ A2.out).mono ?_);rintro e w' ⟨rfl,⟨nd,rfl⟩⟩;refine ⟨_,rfl,?_⟩))
  go_ret
  exact ⟨by first|rfl|(simp [qn_,qo_] <;> rfl)|(simp [*,qn_,qo_] <;> rfl),by repeat (first|(with_reducible first|exact HB.out|apply qb_|apply qa_|apply qc_|refine qi_ ?_ Y9.out)|exact HB.out)⟩
end Go.Proofs.Ytaiefdhenikiiaa.Base
namespace Go.Proofs.Ytaiefdhenikiiaa.Base
open Go.RowKit Go.Proofs.YtaiefdhenikiiaaW.PrintWords Go.Proofs.YtaiefdhenikiiaaW.PrintLast Go.Proofs.YtaiefdhenikiiaaW.PrintMore
attribute [local go_sem] max2_int qp1_ max_two min_two max_three min_three max_four min_four Go.Proofs.YtaiefdhenikiiaaZ.qw_   -- for this text's walks alone
set_option linter.unusedVariables false
set_option linter.unusedSimpArgs false
def qt1_.f (k:Nat) (a0:Int) (a1:Int):Option (Int × Int × Bool):=(qg1_.f k a0 a1).bind fun j4=>(if a1<0 then (if (wrap64 (-j4))=0 then (none) else ((qf1_.f k (wrap64 (Int.tdiv a0 (wrap64 (-j4)))) (wrap64 (Int.tdiv a1 (wrap64 (-j4))))).bind fun aJ2=>(some (wrap64 (Int.tdiv a0 (wrap64 (-j4))),wrap64 (Int.tdiv a1 (wrap64 (-j4))),aJ2)))) else (if j4=0 then (none) else ((qf1_.f k (wrap64 (Int.tdiv a0 j4)) (wrap64 (Int.tdiv a1 j4))).bind fun aJ1=>(some (wrap64 (Int.tdiv a0 j4),wrap64 (Int.tdiv a1 j4),aJ1)))))
theorem qt1_.mono:∀ a0 a1 k,LeO (qt1_.f k a0 a1) (qt1_.f (k+1) a0 a1):=by
 intro a0 a1 k
 unfold qt1_.f
 repeat' first
   | (with_reducible exact qf1_.mono _ _ _)
   | (with_reducible exact qg1_.mono _ _ _)
   | (with_reducible exact LeO.refl _)
   | (with_reducible exact LeO.none _)
   | (with_reducible refine LeO.ite ?_ ?_)
   | (with_reducible refine LeO.bind ?_ (fun _=>?_))
   | exact qf1_.mono _ _ _
   | exact qg1_.mono _ _ _
   | exact LeO.none _
   | refine LeO.ite ?_ ?_
   | refine LeO.bind ?_ (fun _=>?_)
def qt1_.T4:Bool × List (List Nat × List Nat):=(true,[([],[]),([],[]),([0,1],[0,1]),([],[]),([],[]),([3,4],[3,4]),([2,5],[2,5]),([],[]),([7,6,0,1,2,3,4,5,6,7],[6,7])])
def qt1_.B4:List Nat:=[0,0,3,0,0,24,63,0,255]
theorem qt1_.tab4:rtab .any (opsOf Try.f181 4)=qt1_.T4:=by kernel_rfl
theorem qt1_.bits4:waitsOk qt1_.T4.2 qt1_.B4=true:=by kernel_rfl
set_option maxHeartbeats 8000000 in
set_option maxRecDepth 100000 in
theorem qt1_.calls (k:Nat) (a0:Int) (a1:Int) (r1:Int) (r2:Int) (r3:Bool) (w:World) (h:qt1_.f k a0 a1=some (r1,r2,r3)) :
  Calls Try.prog 181 #[.int .i64 a0,.int .i64 a1] w fun e w'=>e=.returned (.tuple #[.agg #[.int .i64 r1,.int .i64 r2],.bool r3])∧Below w.heap.size w w':=by
 have hu77:=Try.underlying77
 have HB:=aK (Below.refl w.heap.size w)
 have H:((qg1_.f k a0 a1).bind fun j4=>(if a1<0 then (if (wrap64 (-j4))=0 then (none) else ((qf1_.f k (wrap64 (Int.tdiv a0 (wrap64 (-j4)))) (wrap64 (Int.tdiv a1 (wrap64 (-j4))))).bind fun aJ2=>(some (wrap64 (Int.tdiv a0 (wrap64 (-j4))),wrap64 (Int.tdiv a1 (wrap64 (-j4))),aJ2)))) else (if j4=0 then (none) else ((qf1_.f k (wrap64 (Int.tdiv a0 j4)) (wrap64 (Int.tdiv a1 j4))).bind fun aJ1=>(some (wrap64 (Int.tdiv a0 j4),wrap64 (Int.tdiv a1 j4),aJ1))))))=some (r1,r2,r3):=h
 clear h
 replace H:=Option.bind_eq_some_iff.mp H
 obtain ⟨j4,A30,H⟩:=H
 replace H:(if a1<0 then (if (wrap64 (-j4))=0 then (none) else ((qf1_.f k (wrap64 (Int.tdiv a0 (wrap64 (-j4)))) (wrap64 (Int.tdiv a1 (wrap64 (-j4))))).bind fun aJ2=>(some (wrap64 (Int.tdiv a0 (wrap64 (-j4))),wrap64 (Int.tdiv a1 (wrap64 (-j4))),aJ2)))) else (if j4=0 then (none) else ((qf1_.f k (wrap64 (Int.tdiv a0 j4)) (wrap64 (Int.tdiv a1 j4))).bind fun aJ1=>(some (wrap64 (Int.tdiv a0 j4),wrap64 (Int.tdiv a1 j4),aJ1)))))=some (r1,r2,r3):=H
 have A3:=aK A30
 clear A30
 by_cases c4:a1<0
 ·rw [if_pos c4] at H
  have c4b0:decide (a1<0)=true:=decide_eq_true c4
  clear c4
  by_cases c5:(wrap64 (-j4))=0
  ·rw [if_pos c5] at H
   exact absurd H (by simp)
  ·rw [if_neg c5] at H
   have c5b0:((wrap64 (-j4))==0)=false:=beq_eq_false_iff_ne.mpr c5
   have c5b1:((wrap64 (-j4)) != 0)=true:=bne_iff_ne.mpr c5
   replace H:=Option.bind_eq_some_iff.mp H
   obtain ⟨aJ2,A60,H⟩:=H
   replace H:(some (wrap64 (Int.tdiv a0 (wrap64 (-j4))),wrap64 (Int.tdiv a1 (wrap64 (-j4))),aJ2))=some (r1,r2,r3):=H
   have A6:=aK A60
   clear A60
   simp only [Option.some.injEq,Prod.mk.injEq] at H
   obtain ⟨rfl,rfl,rfl⟩:=H
   go_enter Try.func181,Try.ntmps181
   try go_wp2_with (first|((with_reducible refine qt_ (N:=4) rfl ?_);refine qr_ ?hg (N:=4) ?hd (cs:=#[.int .i64 0,.int .i64 0]) (t:=77) ?hr ?_;(case hd=>rfl);(case hg=>rfl);(case hr=>first|(go_simp;done)|(go_simp;rfl));intro l7 hg w7 hbox hb;have n0_:=aK (qh_ (by repeat (first|(with_reducible first|exact HB.out|apply qb_|apply qa_|apply qc_)|exact HB.out)) hb);have n1_:=aK (hbox);have n2_:=aK ((by rw [hg];exact (ql_ (by repeat (first|(with_reducible first|exact HB.out|apply qb_|apply qa_|apply qc_)|exact HB.out))):w.heap.size≤l7));have n3_:=aK ((by rw [hg];exact (ql_ (by repeat (first|(with_reducible first|exact HB.out|apply qb_|apply qa_|apply qc_)|exact HB.out))):w.heap.size≤l7));clear HB;have HB:=n0_;have l5:=n1_;have GW459:=n2_;have N7:=n3_;clear n0_ n1_ n2_ n3_;clear hb hbox hg)|((with_reducible refine qy_ (f:=217) rfl ?_);refine goesL_ (some 10) rfl rfl Try.func217 (by kernel_rfl) rfl #[.int .i64 a0,.int .i64 a1] rfl (by (try simp only [List.map_toArray,List.map_cons,List.map_nil]);first|done|rfl|(simp only [List.length_drop,List.length_take];rfl)) ?_;(with_reducible refine (qg1_.calls k a0 a1 j4 _ A3.out).mono ?_);rintro e w8 ⟨rfl,hb⟩;refine ⟨_,rfl,?_⟩;have n0_:=aK (qk_ (g:=l7) (o:=.cells #[.int .i64 0,.int .i64 0] 77 (0,0)) (by (with_reducible repeat (first|refine qg_ ?_ _|refine qj_ ?_|refine qf_ ?_ _));exact l5.out) hb);have n1_:=aK (qh_ (by repeat (first|(with_reducible first|exact HB.out|apply qb_|apply qa_|apply qc_|refine qi_ ?_ N7.out)|exact HB.out)) hb);clear l5;clear HB;have l5:=n0_;have HB:=n1_;clear n0_ n1_;(try clear hb);(try clear hb2);(try clear hk);(try clear hi)))
   have n0_:=aK (qj_ l5.out)
   have n1_:=aK (qc_ HB.out)
   clear l5
   clear HB
   have l5:=n0_
   have HB:=n1_
   clear n0_ n1_
   refine start_ (n:=9) (S:=fun w'=>True) (ds:=[]) #[fF,fF,fF,fF,fF,fF,fF,fF,fF] (by kernel_rfl) rfl rfl trivial (fun hHeld=>?_);refine with_tabW qt1_.tab4 qt1_.bits4 (fun HT_ HW_=>?_)
   generalize w8.drew=w9 at l5 HB hHeld ⊢
   refine pure_ (i:=0) (N:=some 15) (v:=?_) (a':=?_) #[tT,fF,fF,fF,fF,fF,fF,fF,fF] rfl rfl (any_of HT_.out (by kernel_rfl)) (fun _ _ _ h=>h) (Or.inl ⟨by rfl,?_⟩) ?_ ?_
   rotate_left
   ·intro w'
    go_simp
    with_reducible rfl
   rotate_left
   ·simp only [Act.put,List.setIfInBounds_toArray,List.set_cons_zero,List.set_cons_succ,i64_w,i32_w]
    rfl
   refine pure_ (i:=1) (N:=some 16) (v:=?_) (a':=?_) #[tT,tT,fF,fF,fF,fF,fF,fF,fF] rfl rfl (any_of HT_.out (by kernel_rfl)) (fun _ _ _ h=>h) (Or.inl ⟨by rfl,?_⟩) ?_ ?_
   rotate_left
   ·intro w'
    go_simp
    with_reducible rfl
   rotate_left
   ·simp only [Act.put,List.setIfInBounds_toArray,List.set_cons_zero,List.set_cons_succ,i64_w,i32_w]
    rfl
   refine pure_ (i:=2) (N:=some 17) (v:=?_) (a':=?_) #[tT,tT,tT,fF,fF,fF,fF,fF,fF] rfl rfl (any_of HT_.out (by kernel_rfl)) (fun _ _ _ h=>h) (Or.inl ⟨by rfl,?_⟩) ?_ ?_
   rotate_left
   ·intro w'
    go_simp
    with_reducible rfl
   rotate_left
   ·simp only [Act.put,List.setIfInBounds_toArray,List.set_cons_zero,List.set_cons_succ,i64_w,i32_w]
    rfl
   refine pure_ (i:=3) (N:=some 18) (v:=?_) (a':=?_) #[tT,tT,tT,tT,fF,fF,fF,fF,fF] rfl rfl (any_of HT_.out (by kernel_rfl)) (fun _ _ _ h=>h) (Or.inl ⟨by rfl,?_⟩) ?_ ?_
   rotate_left
   ·intro w'
    go_simp
    with_reducible rfl
   rotate_left
   ·simp only [Act.put,List.setIfInBounds_toArray,List.set_cons_zero,List.set_cons_succ,i64_w,i32_w]
    rfl
   refine pure_ (i:=4) (N:=some 19) (v:=?_) (a':=?_) #[tT,tT,tT,tT,tT,fF,fF,fF,fF] rfl rfl (any_of HT_.out (by kernel_rfl)) (fun _ _ _ h=>h) (Or.inl ⟨by rfl,?_⟩) ?_ ?_
   rotate_left
   ·intro w'
    go_simp
    with_reducible rfl
   rotate_left
   ·simp only [Act.put,List.setIfInBounds_toArray,List.set_cons_zero,List.set_cons_succ,i64_w,i32_w]
    rfl
   refine pure_ (i:=5) (N:=some 20) (v:=?_) (a':=?_) #[tT,tT,tT,tT,tT,tT,fF,fF,fF] rfl rfl (any_of HT_.out (by kernel_rfl)) (fun _ _ _ h=>h) (Or.inl ⟨by rfl,?_⟩) ?_ ?_
   rotate_left
   ·intro w'
    go_simp
    with_reducible rfl
   rotate_left
   ·simp only [Act.put,List.setIfInBounds_toArray,List.set_cons_zero,List.set_cons_succ,i64_w,i32_w]
    rfl
   refine pure_ (i:=6) (N:=some 21) (v:=?_) (a':=?_) #[tT,tT,tT,tT,tT,tT,tT,fF,fF] rfl rfl (any_of HT_.out (by kernel_rfl)) (fun _ _ _ h=>h) (Or.inl ⟨by rfl,?_⟩) ?_ ?_
   rotate_left
   ·intro w'
    go_simp
    with_reducible rfl
   rotate_left
   ·simp only [Act.put,List.setIfInBounds_toArray,List.set_cons_zero,List.set_cons_succ,i64_w,i32_w]
    rfl
   refine one_ (i:=7) (N:=some 7) #[tT,tT,tT,tT,tT,tT,tT,tT,fF] rfl rfl (one_of HT_.out (by kernel_rfl)) (by decide) (fun K hK=>?_)
   refine box_step ?hg (N:=7) ?hd (cs:=#[.int .i64 0,.int .i64 0]) (t:=77) ?hr ?_;(case hd=>rfl);(case hg=>rfl);(case hr=>first|(go_simp;done)|(go_simp;rfl))
   intro I4 hg w10 hbox hb
   have n0_:=aK (qk_ (g:=l7) (o:=.cells #[.int .i64 0,.int .i64 0] 77 (0,0)) (by (with_reducible repeat (first|refine qg_ ?_ _|refine qj_ ?_|refine qf_ ?_ _));exact l5.out) hb)
   have n1_:=aK (qh_ (by repeat (first|(with_reducible first|exact HB.out|apply qb_|apply qa_|apply qc_|refine qi_ ?_ N7.out)|exact HB.out)) hb)
   have n2_:=aK (hbox)
   have n3_:=aK ((by rw [hg];exact (ql_ (by repeat (first|(with_reducible first|exact HB.out|apply qb_|apply qa_|apply qc_|refine qi_ ?_ N7.out)|exact HB.out))):w.heap.size≤I4))
   have n4_:=aK ((by rw [hg];exact (ql_ (by repeat (first|(with_reducible first|exact HB.out|apply qb_|apply qa_|apply qc_|refine qi_ ?_ N7.out)|exact HB.out))):w.heap.size≤I4))
   have n5_:=aK ((by rw [hg];exact Nat.ne_of_lt (blk_lt (g:=l7) (o:=.cells #[.int .i64 0,.int .i64 0] 77 (0,0)) (by (with_reducible repeat (first|refine qg_ ?_ _|refine qj_ ?_|refine qf_ ?_ _));exact l5.out)):l7≠I4))
   have n6_:=aK ((by rw [hg];exact Nat.ne_of_gt (blk_lt (g:=l7) (o:=.cells #[.int .i64 0,.int .i64 0] 77 (0,0)) (by (with_reducible repeat (first|refine qg_ ?_ _|refine qj_ ?_|refine qf_ ?_ _));exact l5.out)):I4≠l7))
   clear l5
   clear HB
   have l5:=n0_
   have HB:=n1_
   have I6:=n2_
   have GW461:=n3_
   have aY5:=n4_
   have L8:=n5_
   have G6:=n6_
   clear n0_ n1_ n2_ n3_ n4_ n5_ n6_
   clear hb hbox hg
   refine hK.out _ _ trivial (fun hHeld=>?_)
   clear hK K
   refine norm_ (a':=?_) ?_ ?_
   rotate_left
   ·show Act.put _ (some 7) _=_
    simp only [Act.put,List.setIfInBounds_toArray,List.set_cons_zero,List.set_cons_succ,i64_w,i32_w]
    rfl
   refine one_ (i:=8) (N:=none) #[tT,tT,tT,tT,tT,tT,tT,tT,tT] rfl rfl (one_of HT_.out (by kernel_rfl)) (by decide) (fun K hK=>?_)
   have hs11:w10.cell? ⟨I4,0,none⟩=some (.int .i64 0):=(qe_ I6.out 0).trans rfl
   have hfs11:=qd_ I6.out 0
   have hns11_0:=L8.out
   have hms11_0:=G6.out
   have hs12:w10.cell? ⟨I4,1,none⟩=some (.int .i64 0):=(qe_ I6.out 1).trans rfl
   have hfs12:=qd_ I6.out 1
   have hns12_0:=L8.out
   have hms12_0:=G6.out
   refine skip_ (w1:=?_) (by rfl) rfl ?_ ?_
   rotate_left
   ·go_simp
    rfl
   refine hK.out _ _ trivial (fun hHeld=>?_)
   clear hK K
   refine done_ (done_of HT_.out (by kernel_rfl)) ?_
   try go_wp2
   have n0_:Aside0 (((w10.setCell ⟨I4,0,none⟩ (.int .i64 (wrap64 (Int.tdiv a0 (wrap64 (-j4)))))).setCell ⟨I4,1,none⟩ (.int .i64 (wrap64 (Int.tdiv a1 (wrap64 (-j4)))))).heap[l7]?=some (.cells #[.int .i64 0,.int .i64 0] 77 (0,0))):=⟨by (with_reducible repeat (first|refine qg_ ?_ _|refine qj_ ?_|refine qf_ ?_ _));refine qr1_ ?_ L8.out _;(with_reducible repeat (first|refine qg_ ?_ _|refine qj_ ?_|refine qf_ ?_ _));refine qr1_ ?_ L8.out _;(with_reducible repeat (first|refine qg_ ?_ _|refine qj_ ?_|refine qf_ ?_ _));exact l5.out⟩
   have n1_:Aside0 (((w10.setCell ⟨I4,0,none⟩ (.int .i64 (wrap64 (Int.tdiv a0 (wrap64 (-j4)))))).setCell ⟨I4,1,none⟩ (.int .i64 (wrap64 (Int.tdiv a1 (wrap64 (-j4)))))).heap[I4]?=some (.cells #[.int .i64 (wrap64 (Int.tdiv a0 (wrap64 (-j4)))),.int .i64 (wrap64 (Int.tdiv a1 (wrap64 (-j4))))] 77 (0,0))):=⟨by (with_reducible repeat (first|refine qg_ ?_ _|refine qj_ ?_|refine qf_ ?_ _));refine ql1_ (cs:=#[.int .i64 (wrap64 (Int.tdiv a0 (wrap64 (-j4)))),.int .i64 0]) ?_ 1 _ rfl;(with_reducible repeat (first|refine qg_ ?_ _|refine qj_ ?_|refine qf_ ?_ _));refine ql1_ (cs:=#[.int .i64 0,.int .i64 0]) ?_ 0 _ rfl;(with_reducible repeat (first|refine qg_ ?_ _|refine qj_ ?_|refine qf_ ?_ _));exact I6.out⟩
   have n2_:Aside0 (Below w.heap.size w ((w10.setCell ⟨I4,0,none⟩ (.int .i64 (wrap64 (Int.tdiv a0 (wrap64 (-j4)))))).setCell ⟨I4,1,none⟩ (.int .i64 (wrap64 (Int.tdiv a1 (wrap64 (-j4))))))):=⟨by repeat (first|(with_reducible first|exact HB.out|apply qb_|apply qa_|apply qc_|refine qi_ ?_ N7.out|refine qi_ ?_ aY5.out)|exact HB.out)⟩
   (try clear l5)
   (try clear I6)
   (try clear HB)
   generalize ((w10.setCell ⟨I4,0,none⟩ (.int .i64 (wrap64 (Int.tdiv a0 (wrap64 (-j4)))))).setCell ⟨I4,1,none⟩ (.int .i64 (wrap64 (Int.tdiv a1 (wrap64 (-j4))))))=w13 at n0_ n1_ n2_ ⊢
   have l5:=n0_
   have I6:=n1_
   have HB:=n2_
   clear n0_ n1_ n2_
   have n0_:=aK (qj_ l5.out)
   have n1_:=aK (qj_ I6.out)
   have n2_:=aK (qc_ HB.out)
   clear l5
   clear I6
   clear HB
   have l5:=n0_
   have I6:=n1_
   have HB:=n2_
   clear n0_ n1_ n2_
   refine start_ (n:=5) (S:=fun w'=>w'.cell? ⟨I4,0,none⟩=some (.int .i64 (wrap64 (Int.tdiv a0 (wrap64 (-j4)))))∧w'.cell? ⟨I4,1,none⟩=some (.int .i64 (wrap64 (Int.tdiv a1 (wrap64 (-j4)))))) (ds:=[]) #[fF,fF,fF,fF,fF] (by kernel_rfl) rfl rfl ⟨(qe_ I6.out 0).trans rfl,(qe_ I6.out 1).trans rfl⟩ (fun hHeld=>?_)
   generalize w13.drew=w14 at l5 I6 HB hHeld ⊢
   refine take_ (i:=0) (N:=some 22) (v:=?_) (a':=?_) #[tT,fF,fF,fF,fF] rfl rfl (by kernel_rfl) (fun _ _ _ h=>h) (Or.inl ⟨by rfl,?_⟩) hHeld ?_ ?_
   rotate_left
   ·rintro w' ⟨s0,s1⟩
    go_simp
    with_reducible rfl
   rotate_left
   ·simp only [Act.put,List.setIfInBounds_toArray,List.set_cons_zero,List.set_cons_succ,i64_w,i32_w]
    rfl
   refine take_ (i:=1) (N:=some 23) (v:=?_) (a':=?_) #[tT,tT,fF,fF,fF] rfl rfl (by kernel_rfl) (fun _ _ _ h=>h) (Or.inl ⟨by rfl,?_⟩) hHeld ?_ ?_
   rotate_left
   ·rintro w' ⟨s0,s1⟩
    go_simp
    with_reducible rfl
   rotate_left
   ·simp only [Act.put,List.setIfInBounds_toArray,List.set_cons_zero,List.set_cons_succ,i64_w,i32_w]
    rfl
   refine one_ (i:=2) (N:=some 24) #[tT,tT,tT,fF,fF] rfl rfl (by kernel_rfl) (by decide) (fun K hK=>?_)
   refine goes_ Try.func206 (by kernel_rfl) rfl #[.agg #[.int .i64 (wrap64 (Int.tdiv a0 (wrap64 (-j4)))),.int .i64 (wrap64 (Int.tdiv a1 (wrap64 (-j4))))]] (by rfl) rfl rfl (by (try simp only [List.map_toArray,List.map_cons,List.map_nil]);first|done|rfl|(simp only [List.length_drop,List.length_take];rfl)) ?_
   with_reducible refine (qf1_.calls k (wrap64 (Int.tdiv a0 (wrap64 (-j4)))) (wrap64 (Int.tdiv a1 (wrap64 (-j4)))) aJ2 _ A6.out).mono ?_
   rintro e w15 ⟨rfl,hb⟩
   refine ⟨_,rfl,?_⟩
   have n0_:=aK (qk_ (g:=l7) (o:=.cells #[.int .i64 0,.int .i64 0] 77 (0,0)) (by (with_reducible repeat (first|refine qg_ ?_ _|refine qj_ ?_|refine qf_ ?_ _));exact l5.out) hb)
   have n1_:=aK (qk_ (g:=I4) (o:=.cells #[.int .i64 (wrap64 (Int.tdiv a0 (wrap64 (-j4)))),.int .i64 (wrap64 (Int.tdiv a1 (wrap64 (-j4))))] 77 (0,0)) (by (with_reducible repeat (first|refine qg_ ?_ _|refine qj_ ?_|refine qf_ ?_ _));exact I6.out) hb)
   have n2_:=aK (qh_ (by repeat (first|(with_reducible first|exact HB.out|apply qb_|apply qa_|apply qc_|refine qi_ ?_ N7.out|refine qi_ ?_ aY5.out)|exact HB.out)) hb)
   clear l5
   clear I6
   clear HB
   have l5:=n0_
   have I6:=n1_
   have HB:=n2_
   clear n0_ n1_ n2_
   (try clear hb)
   (try clear hb2)
   (try clear hk)
   (try clear hi)
   refine hK.out _ _ ⟨(qe_ I6.out 0).trans rfl,(qe_ I6.out 1).trans rfl⟩ (fun hHeld=>?_)
   clear hK K
   refine norm_ (a':=?_) ?_ ?_
   rotate_left
   ·show Act.put _ (some 24) _=_
    simp only [Act.put,List.setIfInBounds_toArray,List.set_cons_zero,List.set_cons_succ,i64_w,i32_w]
    rfl
   refine one_ (i:=3) (N:=none) #[tT,tT,tT,tT,fF] rfl rfl (by kernel_rfl) (by decide) (fun K hK=>?_)
   have hs16:w15.cell? ⟨l7,0,none⟩=some (.int .i64 0):=(qe_ l5.out 0).trans rfl
   have hfs16:=qd_ l5.out 0
   have hns16_1:=G6.out
   have hms16_1:=L8.out
   have hs17:w15.cell? ⟨l7,1,none⟩=some (.int .i64 0):=(qe_ l5.out 1).trans rfl
   have hfs17:=qd_ l5.out 1
   have hns17_1:=G6.out
   have hms17_1:=L8.out
   refine skip_ (w1:=?_) (by rfl) rfl ?_ ?_
   rotate_left
   ·go_simp
    rfl
   refine hK.out _ _ ⟨((cell_far (p:=⟨l7,_,none⟩) G6.out _).trans (((cell_far (p:=⟨l7,_,none⟩) G6.out _).trans (hHeld.1)))),((cell_far (p:=⟨l7,_,none⟩) G6.out _).trans (((cell_far (p:=⟨l7,_,none⟩) G6.out _).trans (hHeld.2))))⟩ (fun hHeld=>?_)
   clear hK K
   refine pure_ (i:=4) (N:=some 5) (v:=?_) (a':=?_) #[tT,tT,tT,tT,tT] rfl rfl (by kernel_rfl) (fun _ _ _ h=>h) (Or.inl ⟨by rfl,?_⟩) ?_ ?_
   rotate_left
   ·intro w'
    go_simp
    with_reducible rfl
   rotate_left
   ·simp only [Act.put,List.setIfInBounds_toArray,List.set_cons_zero,List.set_cons_succ,i64_w,i32_w]
    rfl
   refine done_ (by kernel_rfl) ?_
   try go_wp2
   refine bodyPost_ret (results_ct rfl _ _ l7 77 #[.int .i64 (wrap64 (Int.tdiv a0 (wrap64 (-j4)))),.int .i64 (wrap64 (Int.tdiv a1 (wrap64 (-j4))))] (0,0) _ rfl (by (with_reducible repeat (first|refine qg_ ?_ _|refine qj_ ?_|refine qf_ ?_ _));refine ql1_ (cs:=#[.int .i64 (wrap64 (Int.tdiv a0 (wrap64 (-j4)))),.int .i64 0]) ?_ 1 _ rfl;(with_reducible repeat (first|refine qg_ ?_ _|refine qj_ ?_|refine qf_ ?_ _));refine ql1_ (cs:=#[.int .i64 0,.int .i64 0]) ?_ 0 _ rfl;(with_reducible repeat (first|refine qg_ ?_ _|refine qj_ ?_|refine qf_ ?_ _));exact l5.out) Try.underlying77 rfl (by kernel_rfl)) rfl ?_
   exact ⟨by first|rfl|(simp [qn_,qo_] <;> rfl)|(simp [*,qn_,qo_] <;> rfl),by repeat (first|(with_reducible first|exact HB.out|apply qb_|apply qa_|apply qc_|refine qi_ ?_ N7.out|refine qi_ ?_ aY5.out)|exact HB.out)⟩
 ·rw [if_neg c4] at H
  have c4b0:decide (a1<0)=false:=decide_eq_false c4
  clear c4
  by_cases c18:j4=0
  ·rw [if_pos c18] at H
   exact absurd H (by simp)
  ·rw [if_neg c18] at H
   have c18b0:(j4==0)=false:=beq_eq_false_iff_ne.mpr c18
   have c18b1:(j4 != 0)=true:=bne_iff_ne.mpr c18
   replace H:=Option.bind_eq_some_iff.mp H
   obtain ⟨aJ1,A190,H⟩:=H
   replace H:(some (wrap64 (Int.tdiv a0 j4),wrap64 (Int.tdiv a1 j4),aJ1))=some (r1,r2,r3):=H
   have A19:=aK A190
   clear A190
   simp only [Option.some.injEq,Prod.mk.injEq] at H
   obtain ⟨rfl,rfl,rfl⟩:=H
   go_enter Try.func181,Try.ntmps181
   try go_wp2_with (first|((with_reducible refine qt_ (N:=4) rfl ?_);refine qr_ ?hg (N:=4) ?hd (cs:=#[.int .i64 0,.int .i64 0]) (t:=77) ?hr ?_;(case hd=>rfl);(case hg=>rfl);(case hr=>first|(go_simp;done)|(go_simp;rfl));intro l7 hg w20 hbox hb;have n0_:=aK (qh_ (by repeat (first|(with_reducible first|exact HB.out|apply qb_|apply qa_|apply qc_)|exact HB.out)) hb);have n1_:=aK (hbox);have n2_:=aK ((by rw [hg];exact (ql_ (by repeat (first|(with_reducible first|exact HB.out|apply qb_|apply qa_|apply qc_)|exact HB.out))):w.heap.size≤l7));have n3_:=aK ((by rw [hg];exact (ql_ (by repeat (first|(with_reducible first|exact HB.out|apply qb_|apply qa_|apply qc_)|exact HB.out))):w.heap.size≤l7));clear HB;have HB:=n0_;have l5:=n1_;have GW459:=n2_;have N7:=n3_;clear n0_ n1_ n2_ n3_;clear hb hbox hg)|((with_reducible refine qy_ (f:=217) rfl ?_);refine goesL_ (some 10) rfl rfl Try.func217 (by kernel_rfl) rfl #[.int .i64 a0,.int .i64 a1] rfl (by (try simp only [List.map_toArray,List.map_cons,List.map_nil]);first|done|rfl|(simp only [List.length_drop,List.length_take];rfl)) ?_;(with_reducible refine (qg1_.calls k a0 a1 j4 _ A3.out).mono ?_);rintro e w21 ⟨rfl,hb⟩;refine ⟨_,rfl,?_⟩;have n0_:=aK (qk_ (g:=l7) (o:=.cells #[.int .i64 0,.int .i64 0] 77 (0,0)) (by (with_reducible repeat (first|refine qg_ ?_ _|refine qj_ ?_|refine qf_ ?_ _));exact l5.out) hb);have n1_:=aK (qh_ (by repeat (first|(with_reducible first|exact HB.out|apply qb_|apply qa_|apply qc_|refine qi_ ?_ N7.out)|exact HB.out)) hb);clear l5;clear HB;have l5:=n0_;have HB:=n1_;clear n0_ n1_;(try clear hb);(try clear hb2);(try clear hk);(try clear hi)))
   have n0_:=aK (qj_ l5.out)
   have n1_:=aK (qc_ HB.out)
   clear l5
   clear HB
   have l5:=n0_
   have HB:=n1_
   clear n0_ n1_
   refine start_ (n:=9) (S:=fun w'=>True) (ds:=[]) #[fF,fF,fF,fF,fF,fF,fF,fF,fF] (by kernel_rfl) rfl rfl trivial (fun hHeld=>?_);refine with_tabW qt1_.tab4 qt1_.bits4 (fun HT_ HW_=>?_)
   generalize w21.drew=w22 at l5 HB hHeld ⊢
   refine pure_ (i:=0) (N:=some 15) (v:=?_) (a':=?_) #[tT,fF,fF,fF,fF,fF,fF,fF,fF] rfl rfl (any_of HT_.out (by kernel_rfl)) (fun _ _ _ h=>h) (Or.inl ⟨by rfl,?_⟩) ?_ ?_
   rotate_left
   ·intro w'
    go_simp
    with_reducible rfl
   rotate_left
   ·simp only [Act.put,List.setIfInBounds_toArray,List.set_cons_zero,List.set_cons_succ,i64_w,i32_w]
    rfl
   refine pure_ (i:=1) (N:=some 16) (v:=?_) (a':=?_) #[tT,tT,fF,fF,fF,fF,fF,fF,fF] rfl rfl (any_of HT_.out (by kernel_rfl)) (fun _ _ _ h=>h) (Or.inl ⟨by rfl,?_⟩) ?_ ?_
   rotate_left
   ·intro w'
    go_simp
    with_reducible rfl
   rotate_left
   ·simp only [Act.put,List.setIfInBounds_toArray,List.set_cons_zero,List.set_cons_succ,i64_w,i32_w]
    rfl
   refine pure_ (i:=2) (N:=some 17) (v:=?_) (a':=?_) #[tT,tT,tT,fF,fF,fF,fF,fF,fF] rfl rfl (any_of HT_.out (by kernel_rfl)) (fun _ _ _ h=>h) (Or.inl ⟨by rfl,?_⟩) ?_ ?_
   rotate_left
   ·intro w'
    go_simp
    with_reducible rfl
   rotate_left
   ·simp only [Act.put,List.setIfInBounds_toArray,List.set_cons_zero,List.set_cons_succ,i64_w,i32_w]
    rfl
   refine pure_ (i:=3) (N:=some 18) (v:=?_) (a':=?_) #[tT,tT,tT,tT,fF,fF,fF,fF,fF] rfl rfl (any_of HT_.out (by kernel_rfl)) (fun _ _ _ h=>h) (Or.inl ⟨by rfl,?_⟩) ?_ ?_
   rotate_left
   ·intro w'
    go_simp
    with_reducible rfl
   rotate_left
   ·simp only [Act.put,List.setIfInBounds_toArray,List.set_cons_zero,List.set_cons_succ,i64_w,i32_w]
    rfl
   refine pure_ (i:=4) (N:=some 19) (v:=?_) (a':=?_) #[tT,tT,tT,tT,tT,fF,fF,fF,fF] rfl rfl (any_of HT_.out (by kernel_rfl)) (fun _ _ _ h=>h) (Or.inl ⟨by rfl,?_⟩) ?_ ?_
   rotate_left
   ·intro w'
    go_simp
    with_reducible rfl
   rotate_left
   ·simp only [Act.put,List.setIfInBounds_toArray,List.set_cons_zero,List.set_cons_succ,i64_w,i32_w]
    rfl
   refine pure_ (i:=5) (N:=some 20) (v:=?_) (a':=?_) #[tT,tT,tT,tT,tT,tT,fF,fF,fF] rfl rfl (any_of HT_.out (by kernel_rfl)) (fun _ _ _ h=>h) (Or.inl ⟨by rfl,?_⟩) ?_ ?_
   rotate_left
   ·intro w'
    go_simp
    with_reducible rfl
   rotate_left
   ·simp only [Act.put,List.setIfInBounds_toArray,List.set_cons_zero,List.set_cons_succ,i64_w,i32_w]
    rfl
   refine pure_ (i:=6) (N:=some 21) (v:=?_) (a':=?_) #[tT,tT,tT,tT,tT,tT,tT,fF,fF] rfl rfl (any_of HT_.out (by kernel_rfl)) (fun _ _ _ h=>h) (Or.inl ⟨by rfl,?_⟩) ?_ ?_
   rotate_left
   ·intro w'
    go_simp
    with_reducible rfl
   rotate_left
   ·simp only [Act.put,List.setIfInBounds_toArray,List.set_cons_zero,List.set_cons_succ,i64_w,i32_w]
    rfl
   refine one_ (i:=7) (N:=some 7) #[tT,tT,tT,tT,tT,tT,tT,tT,fF] rfl rfl (one_of HT_.out (by kernel_rfl)) (by decide) (fun K hK=>?_)
   refine box_step ?hg (N:=7) ?hd (cs:=#[.int .i64 0,.int .i64 0]) (t:=77) ?hr ?_;(case hd=>rfl);(case hg=>rfl);(case hr=>first|(go_simp;done)|(go_simp;rfl))
   intro I1 hg w23 hbox hb
   have n0_:=aK (qk_ (g:=l7) (o:=.cells #[.int .i64 0,.int .i64 0] 77 (0,0)) (by (with_reducible repeat (first|refine qg_ ?_ _|refine qj_ ?_|refine qf_ ?_ _));exact l5.out) hb)
   have n1_:=aK (qh_ (by repeat (first|(with_reducible first|exact HB.out|apply qb_|apply qa_|apply qc_|refine qi_ ?_ N7.out)|exact HB.out)) hb)
   have n2_:=aK (hbox)
   have n3_:=aK ((by rw [hg];exact (ql_ (by repeat (first|(with_reducible first|exact HB.out|apply qb_|apply qa_|apply qc_|refine qi_ ?_ N7.out)|exact HB.out))):w.heap.size≤I1))
   have n4_:=aK ((by rw [hg];exact (ql_ (by repeat (first|(with_reducible first|exact HB.out|apply qb_|apply qa_|apply qc_|refine qi_ ?_ N7.out)|exact HB.out))):w.heap.size≤I1))
   have n5_:=aK ((by rw [hg];exact Nat.ne_of_lt (blk_lt (g:=l7) (o:=.cells #[.int .i64 0,.int .i64 0] 77 (0,0)) (by (with_reducible repeat (first|refine qg_ ?_ _|refine qj_ ?_|refine qf_ ?_ _));exact l5.out)):l7≠I1))
   have n6_:=aK ((by rw [hg];exact Nat.ne_of_gt (blk_lt (g:=l7) (o:=.cells #[.int .i64 0,.int .i64 0] 77 (0,0)) (by (with_reducible repeat (first|refine qg_ ?_ _|refine qj_ ?_|refine qf_ ?_ _));exact l5.out)):I1≠l7))
   clear l5
   clear HB
   have l5:=n0_
   have HB:=n1_
   have I5:=n2_
   have GW463:=n3_
   have aY4:=n4_
   have L6:=n5_
   have G5:=n6_
   clear n0_ n1_ n2_ n3_ n4_ n5_ n6_
   clear hb hbox hg
   refine hK.out _ _ trivial (fun hHeld=>?_)
   clear hK K
   refine norm_ (a':=?_) ?_ ?_
   rotate_left
   ·show Act.put _ (some 7) _=_
    simp only [Act.put,List.setIfInBounds_toArray,List.set_cons_zero,List.set_cons_succ,i64_w,i32_w]
    rfl
   refine one_ (i:=8) (N:=none) #[tT,tT,tT,tT,tT,tT,tT,tT,tT] rfl rfl (one_of HT_.out (by kernel_rfl)) (by decide) (fun K hK=>?_)
   have hs24:w23.cell? ⟨I1,0,none⟩=some (.int .i64 0):=(qe_ I5.out 0).trans rfl
   have hfs24:=qd_ I5.out 0
   have hns24_0:=L6.out
   have hms24_0:=G5.out
   have hs25:w23.cell? ⟨I1,1,none⟩=some (.int .i64 0):=(qe_ I5.out 1).trans rfl
   have hfs25:=qd_ I5.out 1
   have hns25_0:=L6.out
   have hms25_0:=G5.out
   refine skip_ (w1:=?_) (by rfl) rfl ?_ ?_
   rotate_left
   ·go_simp
    rfl
   refine hK.out _ _ trivial (fun hHeld=>?_)
   clear hK K
   refine done_ (done_of HT_.out (by kernel_rfl)) ?_
   try go_wp2
   have n0_:Aside0 (((w23.setCell ⟨I1,0,none⟩ (.int .i64 (wrap64 (Int.tdiv a0 j4)))).setCell ⟨I1,1,none⟩ (.int .i64 (wrap64 (Int.tdiv a1 j4)))).heap[l7]?=some (.cells #[.int .i64 0,.int .i64 0] 77 (0,0))):=⟨by (with_reducible repeat (first|refine qg_ ?_ _|refine qj_ ?_|refine qf_ ?_ _));refine qr1_ ?_ L6.out _;(with_reducible repeat (first|refine qg_ ?_ _|refine qj_ ?_|refine qf_ ?_ _));refine qr1_ ?_ L6.out _;(with_reducible repeat (first|refine qg_ ?_ _|refine qj_ ?_|refine qf_ ?_ _));exact l5.out⟩
   have n1_:Aside0 (((w23.setCell ⟨I1,0,none⟩ (.int .i64 (wrap64 (Int.tdiv a0 j4)))).setCell ⟨I1,1,none⟩ (.int .i64 (wrap64 (Int.tdiv a1 j4)))).heap[I1]?=some (.cells #[.int .i64 (wrap64 (Int.tdiv a0 j4)),.int .i64 (wrap64 (Int.tdiv a1 j4))] 77 (0,0))):=⟨by (with_reducible repeat (first|refine qg_ ?_ _|refine qj_ ?_|refine qf_ ?_ _));refine ql1_ (cs:=#[.int .i64 (wrap64 (Int.tdiv a0 j4)),.int .i64 0]) ?_ 1 _ rfl;(with_reducible repeat (first|refine qg_ ?_ _|refine qj_ ?_|refine qf_ ?_ _));refine ql1_ (cs:=#[.int .i64 0,.int .i64 0]) ?_ 0 _ rfl;(with_reducible repeat (first|refine qg_ ?_ _|refine qj_ ?_|refine qf_ ?_ _));exact I5.out⟩
   have n2_:Aside0 (Below w.heap.size w ((w23.setCell ⟨I1,0,none⟩ (.int .i64 (wrap64 (Int.tdiv a0 j4)))).setCell ⟨I1,1,none⟩ (.int .i64 (wrap64 (Int.tdiv a1 j4))))):=⟨by repeat (first|(with_reducible first|exact HB.out|apply qb_|apply qa_|apply qc_|refine qi_ ?_ N7.out|refine qi_ ?_ aY4.out)|exact HB.out)⟩
   (try clear l5)
   (try clear I5)
   (try clear HB)
   generalize ((w23.setCell ⟨I1,0,none⟩ (.int .i64 (wrap64 (Int.tdiv a0 j4)))).setCell ⟨I1,1,none⟩ (.int .i64 (wrap64 (Int.tdiv a1 j4))))=w26 at n0_ n1_ n2_ ⊢
   have l5:=n0_
   have I5:=n1_
   have HB:=n2_
   clear n0_ n1_ n2_
   have n0_:=aK (qj_ l5.out)
   have n1_:=aK (qj_ I5.out)
   have n2_:=aK (qc_ HB.out)
   clear l5
   clear I5
   clear HB
   have l5:=n0_
   have I5:=n1_
   have HB:=n2_
   clear n0_ n1_ n2_
   refine start_ (n:=5) (S:=fun w'=>w'.cell? ⟨I1,0,none⟩=some (.int .i64 (wrap64 (Int.tdiv a0 j4)))∧w'.cell? ⟨I1,1,none⟩=some (.int .i64 (wrap64 (Int.tdiv a1 j4)))) (ds:=[]) #[fF,fF,fF,fF,fF] (by kernel_rfl) rfl rfl ⟨(qe_ I5.out 0).trans rfl,(qe_ I5.out 1).trans rfl⟩ (fun hHeld=>?_)
   generalize w26.drew=w27 at l5 I5 HB hHeld ⊢
   refine take_ (i:=0) (N:=some 22) (v:=?_) (a':=?_) #[tT,fF,fF,fF,fF] rfl rfl (by kernel_rfl) (fun _ _ _ h=>h) (Or.inl ⟨by rfl,?_⟩) hHeld ?_ ?_
   rotate_left
   ·rintro w' ⟨s0,s1⟩
    go_simp
    with_reducible rfl
   rotate_left
   ·simp only [Act.put,List.setIfInBounds_toArray,List.set_cons_zero,List.set_cons_succ,i64_w,i32_w]
    rfl
   refine take_ (i:=1) (N:=some 23) (v:=?_) (a':=?_) #[tT,tT,fF,fF,fF] rfl rfl (by kernel_rfl) (fun _ _ _ h=>h) (Or.inl ⟨by rfl,?_⟩) hHeld ?_ ?_
   rotate_left
   ·rintro w' ⟨s0,s1⟩
    go_simp
    with_reducible rfl
   rotate_left
   ·simp only [Act.put,List.setIfInBounds_toArray,List.set_cons_zero,List.set_cons_succ,i64_w,i32_w]
    rfl
   refine one_ (i:=2) (N:=some 24) #[tT,tT,tT,fF,fF] rfl rfl (by kernel_rfl) (by decide) (fun K hK=>?_)
   refine goes_ Try.func206 (by kernel_rfl) rfl #[.agg #[.int .i64 (wrap64 (Int.tdiv a0 j4)),.int .i64 (wrap64 (Int.tdiv a1 j4))]] (by rfl) rfl rfl (by (try simp only [List.map_toArray,List.map_cons,List.map_nil]);first|done|rfl|(simp only [List.length_drop,List.length_take];rfl)) ?_
   with_reducible refine (qf1_.calls k (wrap64 (Int.tdiv a0 j4)) (wrap64 (Int.tdiv a1 j4)) aJ1 _ A19.out).mono ?_
   rintro e w28 ⟨rfl,hb⟩
   refine ⟨_,rfl,?_⟩
   have n0_:=aK (qk_ (g:=l7) (o:=.cells #[.int .i64 0,.int .i64 0] 77 (0,0)) (by (with_reducible repeat (first|refine qg_ ?_ _|refine qj_ ?_|refine qf_ ?_ _));exact l5.out) hb)
   have n1_:=aK (qk_ (g:=I1) (o:=.cells #[.int .i64 (wrap64 (Int.tdiv a0 j4)),.int .i64 (wrap64 (Int.tdiv a1 j4))] 77 (0,0)) (by (with_reducible repeat (first|refine qg_ ?_ _|refine qj_ ?_|refine qf_ ?_ _));exact I5.out) hb)
   have n2_:=aK (qh_ (by repeat (first|(with_reducible first|exact HB.out|apply qb_|apply qa_|apply qc_|refine qi_ ?_ N7.out|refine qi_ ?_ aY4.out)|exact HB.out)) hb)
   clear l5
   clear I5
   clear HB
   have l5:=n0_
   have I5:=n1_
   have HB:=n2_
   clear n0_ n1_ n2_
   (try clear hb)
   (try clear hb2)
   (try clear hk)
   (try clear hi)
   refine hK.out _ _ ⟨(qe_ I5.out 0).trans rfl,(qe_ I5.out 1).trans rfl⟩ (fun hHeld=>?_)
   clear hK K
   refine norm_ (a':=?_) ?_ ?_
   rotate_left
   ·show Act.put _ (some 24) _=_
    simp only [Act.put,List.setIfInBounds_toArray,List.set_cons_zero,List.set_cons_succ,i64_w,i32_w]
    rfl
   refine one_ (i:=3) (N:=none) #[tT,tT,tT,tT,fF] rfl rfl (by kernel_rfl) (by decide) (fun K hK=>?_)
   have hs29:w28.cell? ⟨l7,0,none⟩=some (.int .i64 0):=(qe_ l5.out 0).trans rfl
   have hfs29:=qd_ l5.out 0
   have hns29_1:=G5.out
   have hms29_1:=L6.out
   have hs30:w28.cell? ⟨l7,1,none⟩=some (.int .i64 0):=(qe_ l5.out 1).trans rfl
   have hfs30:=qd_ l5.out 1
   have hns30_1:=G5.out
   have hms30_1:=L6.out
   refine skip_ (w1:=?_) (by rfl) rfl ?_ ?_
   rotate_left
   ·go_simp
    rfl
   refine hK.out _ _ ⟨((cell_far (p:=⟨l7,_,none⟩) G5.out _).trans (((cell_far (p:=⟨l7,_,none⟩) G5.out _).trans (hHeld.1)))),((cell_far (p:=⟨l7,_,none⟩) G5.out _).trans (((cell_far (p:=⟨l7,_,none⟩) G5.out _).trans (hHeld.2))))⟩ (fun hHeld=>?_)
   clear hK K
   refine pure_ (i:=4) (N:=some 5) (v:=?_) (a':=?_) #[tT,tT,tT,tT,tT] rfl rfl (by kernel_rfl) (fun _ _ _ h=>h) (Or.inl ⟨by rfl,?_⟩) ?_ ?_
   rotate_left
   ·intro w'
    go_simp
    with_reducible rfl
   rotate_left
   ·simp only [Act.put,List.setIfInBounds_toArray,List.set_cons_zero,List.set_cons_succ,i64_w,i32_w]
    rfl
   refine done_ (by kernel_rfl) ?_
   try go_wp2
   refine bodyPost_ret (results_ct rfl _ _ l7 77 #[.int .i64 (wrap64 (Int.tdiv a0 j4)),.int .i64 (wrap64 (Int.tdiv a1 j4))] (0,0) _ rfl (by (with_reducible repeat (first|refine qg_ ?_ _|refine qj_ ?_|refine qf_ ?_ _));refine ql1_ (cs:=#[.int .i64 (wrap64 (Int.tdiv a0 j4)),.int .i64 0]) ?_ 1 _ rfl;(with_reducible repeat (first|refine qg_ ?_ _|refine qj_ ?_|refine qf_ ?_ _));refine ql1_ (cs:=#[.int .i64 0,.int .i64 0]) ?_ 0 _ rfl;(with_reducible repeat (first|refine qg_ ?_ _|refine qj_ ?_|refine qf_ ?_ _));exact l5.out) Try.underlying77 rfl (by kernel_rfl)) rfl ?_
   exact ⟨by first|rfl|(simp [qn_,qo_] <;> rfl)|(simp [*,qn_,qo_] <;> rfl),by repeat (first|(with_reducible first|exact HB.out|apply qb_|apply qa_|apply qc_|refine qi_ ?_ N7.out|refine qi_ ?_ aY4.out)|exact HB.out)⟩
end Go.Proofs.Ytaiefdhenikiiaa.Base
namespace Go.Proofs.Ytaiefdhenikiiaa.Base
open Go.RowKit Go.Proofs.YtaiefdhenikiiaaW.PrintWords Go.Proofs.YtaiefdhenikiiaaW.PrintLast Go.Proofs.YtaiefdhenikiiaaW.PrintMore
attribute [local go_sem] max2_int qp1_ max_two min_two max_three min_three max_four min_four Go.Proofs.YtaiefdhenikiiaaZ.qw_   -- for this text's walks alone
set_option linter.unusedVariables false
set_option linter.unusedSimpArgs false
def qg2_.f (k:Nat) (a0_0:Int) (a0_1:Int) (a1_0:Int) (a1_1:Int):Option (Int × Int × Bool):=(qt1_.f k (wrap64 ((wrap64 (a0_0*a1_1))+(wrap64 (a1_0*a0_1)))) (wrap64 (a0_1*a1_1))).bind fun Y4=>(some (Y4.1,Y4.2.1,Y4.2.2))
theorem qg2_.mono:∀ a0 a1 a2 a3 k,LeO (qg2_.f k a0 a1 a2 a3) (qg2_.f (k+1) a0 a1 a2 a3):=by
 intro a0 a1 a2 a3 k
 unfold qg2_.f
 repeat' first
   | (with_reducible exact qt1_.mono _ _ _)
   | (with_reducible exact LeO.refl _)
   | (with_reducible exact LeO.none _)
   | (with_reducible refine LeO.ite ?_ ?_)
   | (with_reducible refine LeO.bind ?_ (fun _=>?_))
   | exact qt1_.mono _ _ _
   | exact LeO.none _
   | refine LeO.ite ?_ ?_
   | refine LeO.bind ?_ (fun _=>?_)
set_option maxHeartbeats 8000000 in
set_option maxRecDepth 100000 in
theorem qg2_.calls (k:Nat) (a0_0:Int) (a0_1:Int) (a1_0:Int) (a1_1:Int) (r1:Int) (r2:Int) (r3:Bool) (w:World) (h:qg2_.f k a0_0 a0_1 a1_0 a1_1=some (r1,r2,r3)) :
  Calls Try.prog 183 #[.agg #[.int .i64 a0_0,.int .i64 a0_1],.agg #[.int .i64 a1_0,.int .i64 a1_1]] w fun e w'=>e=.returned (.tuple #[.agg #[.int .i64 r1,.int .i64 r2],.bool r3])∧Below w.heap.size w w':=by
 have hu77:=Try.underlying77
 have HB:=aK (Below.refl w.heap.size w)
 have H:((qt1_.f k (wrap64 ((wrap64 (a0_0*a1_1))+(wrap64 (a1_0*a0_1)))) (wrap64 (a0_1*a1_1))).bind fun Y4=>(some (Y4.1,Y4.2.1,Y4.2.2)))=some (r1,r2,r3):=h
 clear h
 replace H:=Option.bind_eq_some_iff.mp H
 obtain ⟨⟨aY9,aW7,bQ1⟩,A30,H⟩:=H
 replace H:(some (aY9,aW7,bQ1))=some (r1,r2,r3):=H
 have A3:=aK A30
 clear A30
 simp only [Option.some.injEq,Prod.mk.injEq] at H
 obtain ⟨rfl,rfl,rfl⟩:=H
 go_enter Try.func183,Try.ntmps183
 go_wp2_with (first|((with_reducible refine qt_ (N:=2) rfl ?_);refine qr_ ?hg (N:=2) ?hd (cs:=#[.int .i64 a0_0,.int .i64 a0_1]) (t:=77) ?hr ?_;(case hd=>rfl);(case hg=>rfl);(case hr=>first|(go_simp;done)|(go_simp;rfl));intro M6 hg w4 hbox hb;have n0_:=aK (qh_ (by repeat (first|(with_reducible first|exact HB.out|apply qb_|apply qa_|apply qc_)|exact HB.out)) hb);have n1_:=aK (hbox);have n2_:=aK ((by rw [hg];exact (ql_ (by repeat (first|(with_reducible first|exact HB.out|apply qb_|apply qa_|apply qc_)|exact HB.out))):w.heap.size≤M6));have n3_:=aK ((by rw [hg];exact (ql_ (by repeat (first|(with_reducible first|exact HB.out|apply qb_|apply qa_|apply qc_)|exact HB.out))):w.heap.size≤M6));clear HB;have HB:=n0_;have J5:=n1_;have GW465:=n2_;have V6:=n3_;clear n0_ n1_ n2_ n3_;clear hb hbox hg)|((with_reducible refine qt_ (N:=3) rfl ?_);refine qr_ ?hg (N:=3) ?hd (cs:=#[.int .i64 a1_0,.int .i64 a1_1]) (t:=77) ?hr ?_;(case hd=>rfl);(case hg=>rfl);(case hr=>first|(go_simp;done)|(go_simp;rfl));intro Q7 hg w5 hbox hb;have n0_:=aK (qk_ (g:=M6) (o:=.cells #[.int .i64 a0_0,.int .i64 a0_1] 77 (0,0)) (by (with_reducible repeat (first|refine qg_ ?_ _|refine qj_ ?_|refine qf_ ?_ _));exact J5.out) hb);have n1_:=aK (qh_ (by repeat (first|(with_reducible first|exact HB.out|apply qb_|apply qa_|apply qc_|refine qi_ ?_ V6.out)|exact HB.out)) hb);have n2_:=aK (hbox);have n3_:=aK ((by rw [hg];exact (ql_ (by repeat (first|(with_reducible first|exact HB.out|apply qb_|apply qa_|apply qc_|refine qi_ ?_ V6.out)|exact HB.out))):w.heap.size≤Q7));have n4_:=aK ((by rw [hg];exact (ql_ (by repeat (first|(with_reducible first|exact HB.out|apply qb_|apply qa_|apply qc_|refine qi_ ?_ V6.out)|exact HB.out))):w.heap.size≤Q7));have n5_:=aK ((by rw [hg];exact Nat.ne_of_lt (blk_lt (g:=M6) (o:=.cells #[.int .i64 a0_0,.int .i64 a0_1] 77 (0,0)) (by (with_reducible repeat (first|refine qg_ ?_ _|refine qj_ ?_|refine qf_ ?_ _));exact J5.out)):M6≠Q7));have n6_:=aK ((by rw [hg];exact Nat.ne_of_gt (blk_lt (g:=M6) (o:=.cells #[.int .i64 a0_0,.int .i64 a0_1] 77 (0,0)) (by (with_reducible repeat (first|refine qg_ ?_ _|refine qj_ ?_|refine qf_ ?_ _));exact J5.out)):Q7≠M6));clear J5;clear HB;have J5:=n0_;have HB:=n1_;have R3:=n2_;have GW466:=n3_;have aQ1:=n4_;have NB465_466:=n5_;have NB466_465:=n6_;clear n0_ n1_ n2_ n3_ n4_ n5_ n6_;clear hb hbox hg)|((with_reducible refine qt_ (N:=4) rfl ?_);refine qr_ ?hg (N:=4) ?hd (cs:=#[.int .i64 0,.int .i64 0]) (t:=77) ?hr ?_;(case hd=>rfl);(case hg=>rfl);(case hr=>first|(go_simp;done)|(go_simp;rfl));intro U1 hg w6 hbox hb;have n0_:=aK (qk_ (g:=M6) (o:=.cells #[.int .i64 a0_0,.int .i64 a0_1] 77 (0,0)) (by (with_reducible repeat (first|refine qg_ ?_ _|refine qj_ ?_|refine qf_ ?_ _));exact J5.out) hb);have n1_:=aK (qk_ (g:=Q7) (o:=.cells #[.int .i64 a1_0,.int .i64 a1_1] 77 (0,0)) (by (with_reducible repeat (first|refine qg_ ?_ _|refine qj_ ?_|refine qf_ ?_ _));exact R3.out) hb);have n2_:=aK (qh_ (by repeat (first|(with_reducible first|exact HB.out|apply qb_|apply qa_|apply qc_|refine qi_ ?_ V6.out|refine qi_ ?_ aQ1.out)|exact HB.out)) hb);have n3_:=aK (hbox);have n4_:=aK ((by rw [hg];exact (ql_ (by repeat (first|(with_reducible first|exact HB.out|apply qb_|apply qa_|apply qc_|refine qi_ ?_ V6.out|refine qi_ ?_ aQ1.out)|exact HB.out))):w.heap.size≤U1));have n5_:=aK ((by rw [hg];exact (ql_ (by repeat (first|(with_reducible first|exact HB.out|apply qb_|apply qa_|apply qc_|refine qi_ ?_ V6.out|refine qi_ ?_ aQ1.out)|exact HB.out))):w.heap.size≤U1));have n6_:=aK ((by rw [hg];exact Nat.ne_of_lt (blk_lt (g:=M6) (o:=.cells #[.int .i64 a0_0,.int .i64 a0_1] 77 (0,0)) (by (with_reducible repeat (first|refine qg_ ?_ _|refine qj_ ?_|refine qf_ ?_ _));exact J5.out)):M6≠U1));have n7_:=aK ((by rw [hg];exact Nat.ne_of_gt (blk_lt (g:=M6) (o:=.cells #[.int .i64 a0_0,.int .i64 a0_1] 77 (0,0)) (by (with_reducible repeat (first|refine qg_ ?_ _|refine qj_ ?_|refine qf_ ?_ _));exact J5.out)):U1≠M6));have n8_:=aK ((by rw [hg];exact Nat.ne_of_lt (blk_lt (g:=Q7) (o:=.cells #[.int .i64 a1_0,.int .i64 a1_1] 77 (0,0)) (by (with_reducible repeat (first|refine qg_ ?_ _|refine qj_ ?_|refine qf_ ?_ _));exact R3.out)):Q7≠U1));have n9_:=aK ((by rw [hg];exact Nat.ne_of_gt (blk_lt (g:=Q7) (o:=.cells #[.int .i64 a1_0,.int .i64 a1_1] 77 (0,0)) (by (with_reducible repeat (first|refine qg_ ?_ _|refine qj_ ?_|refine qf_ ?_ _));exact R3.out)):U1≠Q7));clear J5;clear R3;clear HB;have J5:=n0_;have R3:=n1_;have HB:=n2_;have W9:=n3_;have GW467:=n4_;have aW2:=n5_;have NB465_467:=n6_;have NB467_465:=n7_;have NB466_467:=n8_;have NB467_466:=n9_;clear n0_ n1_ n2_ n3_ n4_ n5_ n6_ n7_ n8_ n9_;clear hb hbox hg;have hnb7:=NB465_466.out;have hnc7:=NB466_465.out;have aY1:=NB465_467.out;have aX9:=NB467_465.out;have hcz9_0:w6.cell? ⟨M6,0,none⟩=some (.int .i64 a0_0):=(qe_ J5.out 0).trans rfl;have hcz9_1:w6.cell? ⟨M6,1,none⟩=some (.int .i64 a0_1):=(qe_ J5.out 1).trans rfl;have hfz9_0:=qd_ J5.out 0;have hfz9_1:=qd_ J5.out 1;have aY2:=NB466_467.out;have aY0:=NB467_466.out;have hcz11_0:w6.cell? ⟨Q7,0,none⟩=some (.int .i64 a1_0):=(qe_ R3.out 0).trans rfl;have hcz11_1:w6.cell? ⟨Q7,1,none⟩=some (.int .i64 a1_1):=(qe_ R3.out 1).trans rfl;have hfz11_0:=qd_ R3.out 0;have hfz11_1:=qd_ R3.out 1)|((with_reducible refine qy_ (f:=181) rfl ?_);refine goesL_ (some 22) rfl rfl Try.func181 (by kernel_rfl) rfl #[.int .i64 (wrap64 ((wrap64 (a0_0*a1_1))+(wrap64 (a1_0*a0_1)))),.int .i64 (wrap64 (a0_1*a1_1))] rfl (by (try simp only [List.map_toArray,List.map_cons,List.map_nil]);first|done|rfl|(simp only [List.length_drop,List.length_take];rfl)) ?_;(with_reducible refine (qt1_.calls k (wrap64 ((wrap64 (a0_0*a1_1))+(wrap64 (a1_0*a0_1)))) (wrap64 (a0_1*a1_1)) aY9 aW7 bQ1 _ A3.out).mono ?_);rintro e w12 ⟨rfl,hb⟩;refine ⟨_,rfl,?_⟩;have n0_:=aK (qk_ (g:=M6) (o:=.cells #[.int .i64 a0_0,.int .i64 a0_1] 77 (0,0)) (by (with_reducible repeat (first|refine qg_ ?_ _|refine qj_ ?_|refine qf_ ?_ _));exact J5.out) hb);have n1_:=aK (qk_ (g:=Q7) (o:=.cells #[.int .i64 a1_0,.int .i64 a1_1] 77 (0,0)) (by (with_reducible repeat (first|refine qg_ ?_ _|refine qj_ ?_|refine qf_ ?_ _));exact R3.out) hb);have n2_:=aK (qk_ (g:=U1) (o:=.cells #[.int .i64 0,.int .i64 0] 77 (0,0)) (by (with_reducible repeat (first|refine qg_ ?_ _|refine qj_ ?_|refine qf_ ?_ _));exact W9.out) hb);have n3_:=aK (qh_ (by repeat (first|(with_reducible first|exact HB.out|apply qb_|apply qa_|apply qc_|refine qi_ ?_ V6.out|refine qi_ ?_ aQ1.out|refine qi_ ?_ aW2.out)|exact HB.out)) hb);clear J5;clear R3;clear W9;clear HB;have J5:=n0_;have R3:=n1_;have W9:=n2_;have HB:=n3_;clear n0_ n1_ n2_ n3_;(try clear hb);(try clear hb2);(try clear hk);(try clear hi);have hcz13_0:w12.cell? ⟨U1,0,none⟩=some (.int .i64 0):=(qe_ W9.out 0).trans rfl;have hcz13_1:w12.cell? ⟨U1,1,none⟩=some (.int .i64 0):=(qe_ W9.out 1).trans rfl;have hfz13_0:=qd_ W9.out 0;have hfz13_1:=qd_ W9.out 1))
 refine bodyPost_ret (results_ct rfl _ _ U1 77 #[.int .i64 aY9,.int .i64 aW7] (0,0) _ rfl (by (with_reducible repeat (first|refine qg_ ?_ _|refine qj_ ?_|refine qf_ ?_ _));refine ql1_ (cs:=#[.int .i64 aY9,.int .i64 0]) ?_ 1 _ rfl;(with_reducible repeat (first|refine qg_ ?_ _|refine qj_ ?_|refine qf_ ?_ _));refine ql1_ (cs:=#[.int .i64 0,.int .i64 0]) ?_ 0 _ rfl;(with_reducible repeat (first|refine qg_ ?_ _|refine qj_ ?_|refine qf_ ?_ _));exact W9.out) Try.underlying77 rfl (by kernel_rfl)) rfl ?_
 exact ⟨by first|rfl|(simp [qn_,qo_] <;> rfl)|(simp [*,qn_,qo_] <;> rfl),by repeat (first|(with_reducible first|exact HB.out|apply qb_|apply qa_|apply qc_|refine qi_ ?_ V6.out|refine qi_ ?_ aQ1.out|refine qi_ ?_ aW2.out)|exact HB.out)⟩
end Go.Proofs.Ytaiefdhenikiiaa.Base
namespace Go.Proofs.Ytaiefdhenikiiaa.Base
open Go.RowKit Go.Proofs.YtaiefdhenikiiaaW.PrintWords Go.Proofs.YtaiefdhenikiiaaW.PrintLast Go.Proofs.YtaiefdhenikiiaaW.PrintMore
attribute [local go_sem] max2_int qp1_ max_two min_two max_three min_three max_four min_four Go.Proofs.YtaiefdhenikiiaaZ.qw_   -- for this text's walks alone
set_option linter.unusedVariables false
set_option linter.unusedSimpArgs false
def qh2_.f (k:Nat) (a0_0:Int) (a0_1:Int) (a1_0:Int) (a1_1:Int):Option (Int × Int × Bool):=(qt1_.f k (wrap64 (a0_0*a1_0)) (wrap64 (a0_1*a1_1))).bind fun Y2=>(some (Y2.1,Y2.2.1,Y2.2.2))
theorem qh2_.mono:∀ a0 a1 a2 a3 k,LeO (qh2_.f k a0 a1 a2 a3) (qh2_.f (k+1) a0 a1 a2 a3):=by
 intro a0 a1 a2 a3 k
 unfold qh2_.f
 repeat' first
   | (with_reducible exact qt1_.mono _ _ _)
   | (with_reducible exact LeO.refl _)
   | (with_reducible exact LeO.none _)
   | (with_reducible refine LeO.ite ?_ ?_)
   | (with_reducible refine LeO.bind ?_ (fun _=>?_))
   | exact qt1_.mono _ _ _
   | exact LeO.none _
   | refine LeO.ite ?_ ?_
   | refine LeO.bind ?_ (fun _=>?_)
set_option maxHeartbeats 8000000 in
set_option maxRecDepth 100000 in
theorem qh2_.calls (k:Nat) (a0_0:Int) (a0_1:Int) (a1_0:Int) (a1_1:Int) (r1:Int) (r2:Int) (r3:Bool) (w:World) (h:qh2_.f k a0_0 a0_1 a1_0 a1_1=some (r1,r2,r3)) :
  Calls Try.prog 128 #[.agg #[.int .i64 a0_0,.int .i64 a0_1],.agg #[.int .i64 a1_0,.int .i64 a1_1]] w fun e w'=>e=.returned (.tuple #[.agg #[.int .i64 r1,.int .i64 r2],.bool r3])∧Below w.heap.size w w':=by
 have hu77:=Try.underlying77
 have HB:=aK (Below.refl w.heap.size w)
 have H:((qt1_.f k (wrap64 (a0_0*a1_0)) (wrap64 (a0_1*a1_1))).bind fun Y2=>(some (Y2.1,Y2.2.1,Y2.2.2)))=some (r1,r2,r3):=h
 clear h
 replace H:=Option.bind_eq_some_iff.mp H
 obtain ⟨⟨aY7,aW5,bJ9⟩,A30,H⟩:=H
 replace H:(some (aY7,aW5,bJ9))=some (r1,r2,r3):=H
 have A3:=aK A30
 clear A30
 simp only [Option.some.injEq,Prod.mk.injEq] at H
 obtain ⟨rfl,rfl,rfl⟩:=H
 go_enter Try.func128,Try.ntmps128
 go_wp2_with (first|((with_reducible refine qt_ (N:=2) rfl ?_);refine qr_ ?hg (N:=2) ?hd (cs:=#[.int .i64 a0_0,.int .i64 a0_1]) (t:=77) ?hr ?_;(case hd=>rfl);(case hg=>rfl);(case hr=>first|(go_simp;done)|(go_simp;rfl));intro L9 hg w4 hbox hb;have n0_:=aK (qh_ (by repeat (first|(with_reducible first|exact HB.out|apply qb_|apply qa_|apply qc_)|exact HB.out)) hb);have n1_:=aK (hbox);have n2_:=aK ((by rw [hg];exact (ql_ (by repeat (first|(with_reducible first|exact HB.out|apply qb_|apply qa_|apply qc_)|exact HB.out))):w.heap.size≤L9));have n3_:=aK ((by rw [hg];exact (ql_ (by repeat (first|(with_reducible first|exact HB.out|apply qb_|apply qa_|apply qc_)|exact HB.out))):w.heap.size≤L9));clear HB;have HB:=n0_;have J3:=n1_;have GW771:=n2_;have V4:=n3_;clear n0_ n1_ n2_ n3_;clear hb hbox hg)|((with_reducible refine qt_ (N:=3) rfl ?_);refine qr_ ?hg (N:=3) ?hd (cs:=#[.int .i64 a1_0,.int .i64 a1_1]) (t:=77) ?hr ?_;(case hd=>rfl);(case hg=>rfl);(case hr=>first|(go_simp;done)|(go_simp;rfl));intro Q6 hg w5 hbox hb;have n0_:=aK (qk_ (g:=L9) (o:=.cells #[.int .i64 a0_0,.int .i64 a0_1] 77 (0,0)) (by (with_reducible repeat (first|refine qg_ ?_ _|refine qj_ ?_|refine qf_ ?_ _));exact J3.out) hb);have n1_:=aK (qh_ (by repeat (first|(with_reducible first|exact HB.out|apply qb_|apply qa_|apply qc_|refine qi_ ?_ V4.out)|exact HB.out)) hb);have n2_:=aK (hbox);have n3_:=aK ((by rw [hg];exact (ql_ (by repeat (first|(with_reducible first|exact HB.out|apply qb_|apply qa_|apply qc_|refine qi_ ?_ V4.out)|exact HB.out))):w.heap.size≤Q6));have n4_:=aK ((by rw [hg];exact (ql_ (by repeat (first|(with_reducible first|exact HB.out|apply qb_|apply qa_|apply qc_|refine qi_ ?_ V4.out)|exact HB.out))):w.heap.size≤Q6));have n5_:=aK ((by rw [hg];exact Nat.ne_of_lt (blk_lt (g:=L9) (o:=.cells #[.int .i64 a0_0,.int .i64 a0_1] 77 (0,0)) (by (with_reducible repeat (first|refine qg_ ?_ _|refine qj_ ?_|refine qf_ ?_ _));exact J3.out)):L9≠Q6));have n6_:=aK ((by rw [hg];exact Nat.ne_of_gt (blk_lt (g:=L9) (o:=.cells #[.int .i64 a0_0,.int .i64 a0_1] 77 (0,0)) (by (with_reducible repeat (first|refine qg_ ?_ _|refine qj_ ?_|refine qf_ ?_ _));exact J3.out)):Q6≠L9));clear J3;clear HB;have J3:=n0_;have HB:=n1_;have Q9:=n2_;have GW772:=n3_;have aJ9:=n4_;have NB771_772:=n5_;have NB772_771:=n6_;clear n0_ n1_ n2_ n3_ n4_ n5_ n6_;clear hb hbox hg)|((with_reducible refine qt_ (N:=4) rfl ?_);refine qr_ ?hg (N:=4) ?hd (cs:=#[.int .i64 0,.int .i64 0]) (t:=77) ?hr ?_;(case hd=>rfl);(case hg=>rfl);(case hr=>first|(go_simp;done)|(go_simp;rfl));intro T9 hg w6 hbox hb;have n0_:=aK (qk_ (g:=L9) (o:=.cells #[.int .i64 a0_0,.int .i64 a0_1] 77 (0,0)) (by (with_reducible repeat (first|refine qg_ ?_ _|refine qj_ ?_|refine qf_ ?_ _));exact J3.out) hb);have n1_:=aK (qk_ (g:=Q6) (o:=.cells #[.int .i64 a1_0,.int .i64 a1_1] 77 (0,0)) (by (with_reducible repeat (first|refine qg_ ?_ _|refine qj_ ?_|refine qf_ ?_ _));exact Q9.out) hb);have n2_:=aK (qh_ (by repeat (first|(with_reducible first|exact HB.out|apply qb_|apply qa_|apply qc_|refine qi_ ?_ V4.out|refine qi_ ?_ aJ9.out)|exact HB.out)) hb);have n3_:=aK (hbox);have n4_:=aK ((by rw [hg];exact (ql_ (by repeat (first|(with_reducible first|exact HB.out|apply qb_|apply qa_|apply qc_|refine qi_ ?_ V4.out|refine qi_ ?_ aJ9.out)|exact HB.out))):w.heap.size≤T9));have n5_:=aK ((by rw [hg];exact (ql_ (by repeat (first|(with_reducible first|exact HB.out|apply qb_|apply qa_|apply qc_|refine qi_ ?_ V4.out|refine qi_ ?_ aJ9.out)|exact HB.out))):w.heap.size≤T9));have n6_:=aK ((by rw [hg];exact Nat.ne_of_lt (blk_lt (g:=L9) (o:=.cells #[.int .i64 a0_0,.int .i64 a0_1] 77 (0,0)) (by (with_reducible repeat (first|refine qg_ ?_ _|refine qj_ ?_|refine qf_ ?_ _));exact J3.out)):L9≠T9));have n7_:=aK ((by rw [hg];exact Nat.ne_of_gt (blk_lt (g:=L9) (o:=.cells #[.int .i64 a0_0,.int .i64 a0_1] 77 (0,0)) (by (with_reducible repeat (first|refine qg_ ?_ _|refine qj_ ?_|refine qf_ ?_ _));exact J3.out)):T9≠L9));have n8_:=aK ((by rw [hg];exact Nat.ne_of_lt (blk_lt (g:=Q6) (o:=.cells #[.int .i64 a1_0,.int .i64 a1_1] 77 (0,0)) (by (with_reducible repeat (first|refine qg_ ?_ _|refine qj_ ?_|refine qf_ ?_ _));exact Q9.out)):Q6≠T9));have n9_:=aK ((by rw [hg];exact Nat.ne_of_gt (blk_lt (g:=Q6) (o:=.cells #[.int .i64 a1_0,.int .i64 a1_1] 77 (0,0)) (by (with_reducible repeat (first|refine qg_ ?_ _|refine qj_ ?_|refine qf_ ?_ _));exact Q9.out)):T9≠Q6));clear J3;clear Q9;clear HB;have J3:=n0_;have Q9:=n1_;have HB:=n2_;have V9:=n3_;have GW773:=n4_;have aW1:=n5_;have NB771_773:=n6_;have NB773_771:=n7_;have NB772_773:=n8_;have NB773_772:=n9_;clear n0_ n1_ n2_ n3_ n4_ n5_ n6_ n7_ n8_ n9_;clear hb hbox hg;have hnb7:=NB771_772.out;have hnc7:=NB772_771.out;have aY1:=NB771_773.out;have aX9:=NB773_771.out;have hcz9_0:w6.cell? ⟨L9,0,none⟩=some (.int .i64 a0_0):=(qe_ J3.out 0).trans rfl;have hcz9_1:w6.cell? ⟨L9,1,none⟩=some (.int .i64 a0_1):=(qe_ J3.out 1).trans rfl;have hfz9_0:=qd_ J3.out 0;have hfz9_1:=qd_ J3.out 1;have aY2:=NB772_773.out;have aY0:=NB773_772.out;have hcz11_0:w6.cell? ⟨Q6,0,none⟩=some (.int .i64 a1_0):=(qe_ Q9.out 0).trans rfl;have hcz11_1:w6.cell? ⟨Q6,1,none⟩=some (.int .i64 a1_1):=(qe_ Q9.out 1).trans rfl;have hfz11_0:=qd_ Q9.out 0;have hfz11_1:=qd_ Q9.out 1)|((with_reducible refine qy_ (f:=181) rfl ?_);refine goesL_ (some 16) rfl rfl Try.func181 (by kernel_rfl) rfl #[.int .i64 (wrap64 (a0_0*a1_0)),.int .i64 (wrap64 (a0_1*a1_1))] rfl (by (try simp only [List.map_toArray,List.map_cons,List.map_nil]);first|done|rfl|(simp only [List.length_drop,List.length_take];rfl)) ?_;(with_reducible refine (qt1_.calls k (wrap64 (a0_0*a1_0)) (wrap64 (a0_1*a1_1)) aY7 aW5 bJ9 _ A3.out).mono ?_);rintro e w12 ⟨rfl,hb⟩;refine ⟨_,rfl,?_⟩;have n0_:=aK (qk_ (g:=L9) (o:=.cells #[.int .i64 a0_0,.int .i64 a0_1] 77 (0,0)) (by (with_reducible repeat (first|refine qg_ ?_ _|refine qj_ ?_|refine qf_ ?_ _));exact J3.out) hb);have n1_:=aK (qk_ (g:=Q6) (o:=.cells #[.int .i64 a1_0,.int .i64 a1_1] 77 (0,0)) (by (with_reducible repeat (first|refine qg_ ?_ _|refine qj_ ?_|refine qf_ ?_ _));exact Q9.out) hb);have n2_:=aK (qk_ (g:=T9) (o:=.cells #[.int .i64 0,.int .i64 0] 77 (0,0)) (by (with_reducible repeat (first|refine qg_ ?_ _|refine qj_ ?_|refine qf_ ?_ _));exact V9.out) hb);have n3_:=aK (qh_ (by repeat (first|(with_reducible first|exact HB.out|apply qb_|apply qa_|apply qc_|refine qi_ ?_ V4.out|refine qi_ ?_ aJ9.out|refine qi_ ?_ aW1.out)|exact HB.out)) hb);clear J3;clear Q9;clear V9;clear HB;have J3:=n0_;have Q9:=n1_;have V9:=n2_;have HB:=n3_;clear n0_ n1_ n2_ n3_;(try clear hb);(try clear hb2);(try clear hk);(try clear hi);have hcz13_0:w12.cell? ⟨T9,0,none⟩=some (.int .i64 0):=(qe_ V9.out 0).trans rfl;have hcz13_1:w12.cell? ⟨T9,1,none⟩=some (.int .i64 0):=(qe_ V9.out 1).trans rfl;have hfz13_0:=qd_ V9.out 0;have hfz13_1:=qd_ V9.out 1))
 refine bodyPost_ret (results_ct rfl _ _ T9 77 #[.int .i64 aY7,.int .i64 aW5] (0,0) _ rfl (by (with_reducible repeat (first|refine qg_ ?_ _|refine qj_ ?_|refine qf_ ?_ _));refine ql1_ (cs:=#[.int .i64 aY7,.int .i64 0]) ?_ 1 _ rfl;(with_reducible repeat (first|refine qg_ ?_ _|refine qj_ ?_|refine qf_ ?_ _));refine ql1_ (cs:=#[.int .i64 0,.int .i64 0]) ?_ 0 _ rfl;(with_reducible repeat (first|refine qg_ ?_ _|refine qj_ ?_|refine qf_ ?_ _));exact V9.out) Try.underlying77 rfl (by kernel_rfl)) rfl ?_
 exact ⟨by first|rfl|(simp [qn_,qo_] <;> rfl)|(simp [*,qn_,qo_] <;> rfl),by repeat (first|(with_reducible first|exact HB.out|apply qb_|apply qa_|apply qc_|refine qi_ ?_ V4.out|refine qi_ ?_ aJ9.out|refine qi_ ?_ aW1.out)|exact HB.out)⟩
end Go.Proofs.Ytaiefdhenikiiaa.Base
namespace Go.Proofs.Ytaiefdhenikiiaa.Base
open Go.RowKit Go.Proofs.YtaiefdhenikiiaaW.PrintWords Go.Proofs.YtaiefdhenikiiaaW.PrintLast Go.Proofs.YtaiefdhenikiiaaW.PrintMore
attribute [local go_sem] max2_int qp1_ max_two min_two max_three min_three max_four min_four Go.Proofs.YtaiefdhenikiiaaZ.qw_   -- for this text's walks alone
set_option linter.unusedVariables false
set_option linter.unusedSimpArgs false
def qy1_.f (a0:Int) (a1:Int) (a2:Int):Option (Bool):=if a0≥a1 then (some (decide (a0≤a2))) else (some false)
set_option maxHeartbeats 8000000 in
set_option maxRecDepth 100000 in
theorem qy1_.calls (a0:Int) (a1:Int) (a2:Int) (r:Bool) (w:World) (h:qy1_.f a0 a1 a2=some r) :
  Calls Try.prog 107 #[.int .i64 a0,.int .i64 a1,.int .i64 a2] w fun e w'=>e=.returned (.bool r)∧Drawn0 w w':=by
 have H:(if a0≥a1 then (some (decide (a0≤a2))) else (some false))=some r:=h
 clear h
 by_cases c4:a0≥a1
 ·rw [if_pos c4] at H
  have c4b0:decide (a1≤a0)=true:=decide_eq_true c4
  clear c4
  obtain rfl:=Option.some.inj H
  go_enter Try.func107,Try.ntmps107
  go_wp2
  go_ret
  exact ⟨by first|rfl|(simp;done)|(simp [*];done)|(simp [Go.Proofs.YtaiefdhenikiiaaZ.bne_nil];done),by repeat (first|exact Drawn0.refl _|apply Drawn0.step)⟩
 ·rw [if_neg c4] at H
  have c4b0:decide (a1≤a0)=false:=decide_eq_false c4
  clear c4
  obtain rfl:=Option.some.inj H
  go_enter Try.func107,Try.ntmps107
  go_wp2
  go_ret
  exact ⟨by first|rfl|(simp;done)|(simp [*];done)|(simp [Go.Proofs.YtaiefdhenikiiaaZ.bne_nil];done),by repeat (first|exact Drawn0.refl _|apply Drawn0.step)⟩
end Go.Proofs.Ytaiefdhenikiiaa.Base
namespace Go.Proofs.Ytaiefdhenikiiaa.Base
open Go.RowKit Go.Proofs.YtaiefdhenikiiaaW.PrintWords Go.Proofs.YtaiefdhenikiiaaW.PrintLast Go.Proofs.YtaiefdhenikiiaaW.PrintMore
attribute [local go_sem] max2_int qp1_ max_two min_two max_three min_three max_four min_four Go.Proofs.YtaiefdhenikiiaaZ.qw_   -- for this text's walks alone
set_option linter.unusedVariables false
set_option linter.unusedSimpArgs false
def qi1_.l0:Nat→Int→Int→Option (Int)
 | 0,_,_=>none
 | k+1,x0,x1=>if x1=0 then (some (mx x0 (wrap64 (-x0)))) else (qi1_.l0 k x1 (Int.tmod x0 x1))
def qi1_.f (k:Nat) (a0:Int) (a1:Int):Option (Int):=qi1_.l0 k a0 a1
theorem qi1_.mono_l:∀ k,(∀ y0 y1,LeO (qi1_.l0 k y0 y1) (qi1_.l0 (k+1) y0 y1))
 | 0=>fun _ _ r h=>by simp [qi1_.l0] at h
 | k+1=>by
  have ih0:=qi1_.mono_l k
  ·intro y0 y1
   unfold qi1_.l0
   repeat' first
   | (with_reducible exact ih0 _ _)
   | (with_reducible exact LeO.refl _)
   | (with_reducible exact LeO.none _)
   | (with_reducible refine LeO.ite ?_ ?_)
   | (with_reducible refine LeO.bind ?_ (fun _=>?_))
   | exact ih0 _ _
   | exact LeO.none _
   | refine LeO.ite ?_ ?_
   | refine LeO.bind ?_ (fun _=>?_)
theorem qi1_.mono:∀ a0 a1 k,LeO (qi1_.f k a0 a1) (qi1_.f (k+1) a0 a1):=by
 intro a0 a1 k
 have ih0:=qi1_.mono_l k
 unfold qi1_.f
 repeat' first
   | (with_reducible exact ih0 _ _)
   | (with_reducible exact LeO.refl _)
   | (with_reducible exact LeO.none _)
   | (with_reducible refine LeO.ite ?_ ?_)
   | (with_reducible refine LeO.bind ?_ (fun _=>?_))
   | exact ih0 _ _
   | exact LeO.none _
   | refine LeO.ite ?_ ?_
   | refine LeO.bind ?_ (fun _=>?_)
set_option maxHeartbeats 8000000 in
set_option maxRecDepth 100000 in
theorem qi1_.calls (k:Nat) (a0:Int) (a1:Int) (r:Int) (w:World) (h:qi1_.f k a0 a1=some r) :
  Calls Try.prog 205 #[.int .i64 a0,.int .i64 a1] w fun e w'=>e=.returned (.int .i64 r)∧Below w.heap.size w w':=by
 have HB:=aK (Below.refl w.heap.size w)
 have H:(qi1_.l0 k a0 a1)=some r:=h
 clear h
 have H':=aK H
 clear H
 go_enter Try.func205,Try.ntmps205
 go_wp2
 go_loopg [0,1] k (fun kq v0 v1 w'=>∃ (x0_1:Int) (x1_1:Int),v0=.int .i64 x0_1∧v1=.int .i64 x1_1∧Aside0 (qi1_.l0 kq x0_1 x1_1=some r)∧Aside0 (kq≤k)∧Aside0 (Below w.heap.size w w'))
 case atStart=>exact ⟨(a0),(a1),(by first|rfl|(simp;done)|(simp [*];done)),(by first|rfl|(simp;done)|(simp [*];done)),H',⟨Nat.le_refl _⟩,⟨by repeat (first|(with_reducible first|exact HB.out|apply qb_|apply qa_|apply qc_)|exact HB.out)⟩⟩
 case round =>
  clear H'
  try clear c2
  try clear p2
  obtain ⟨x0_1,x1_1,rfl,rfl,HA,HK1,HB⟩:=hrel
  cases gk with
  | zero=>exact absurd HA.out (by simp [qi1_.l0])
  | succ k1 =>
   have H:=HA.out
   clear HA
   simp only [qi1_.l0] at H
   by_cases c3:x1_1=0
   ·rw [if_pos c3] at H
    have c3b0:(x1_1==0)=true:=beq_iff_eq.mpr c3
    have c3b1:(x1_1 != 0)=false:=bne_eq_false_iff_eq.mpr c3
    clear c3
    obtain ⟨ji4,aV1⟩:∃ j_:Int,(mx x0_1 (wrap64 (-x0_1)))=j_:=⟨_,rfl⟩
    replace H:(some ji4)=some r:=by first|(rw [aV1] at H;exact H)|(simp only [aV1] at H ⊢;exact H)
    have hji4_:(if x0_1<(wrap64 (-x0_1)) then (wrap64 (-x0_1)) else x0_1)=ji4:=aV1
    obtain rfl:=Option.some.inj H
    go_wp2
    go_ret
    exact ⟨by first|rfl|(simp [qn_,qo_] <;> rfl)|(simp only [← aV1];first|rfl|(simp [qn_,qo_] <;> rfl))|(simp [*,qn_,qo_] <;> rfl),by repeat (first|(with_reducible first|exact HB.out|apply qb_|apply qa_|apply qc_)|exact HB.out)⟩
   ·rw [if_neg c3] at H
    have c3b0:(x1_1==0)=false:=beq_eq_false_iff_ne.mpr c3
    have c3b1:(x1_1 != 0)=true:=bne_iff_ne.mpr c3
    have H':=aK H
    clear H
    go_wp2
    go_roundg k1
    case measure=>have:=HK1.out;omega
    case rel=>exact ⟨(x1_1),(Int.tmod x0_1 x1_1),(by first|rfl|(simp;done)|(simp [*];done)),(by first|rfl|(simp;done)|(simp [*];done)),H',⟨by have:=HK1.out;omega⟩,⟨by repeat (first|(with_reducible first|exact HB.out|apply qb_|apply qa_|apply qc_)|exact HB.out)⟩⟩
end Go.Proofs.Ytaiefdhenikiiaa.Base
namespace Go.Proofs.Ytaiefdhenikiiaa.Base
open Go.RowKit Go.Proofs.YtaiefdhenikiiaaW.PrintWords Go.Proofs.YtaiefdhenikiiaaW.PrintLast Go.Proofs.YtaiefdhenikiiaaW.PrintMore
attribute [local go_sem] max2_int qp1_ max_two min_two max_three min_three max_four min_four Go.Proofs.YtaiefdhenikiiaaZ.qw_   -- for this text's walks alone
set_option linter.unusedVariables false
set_option linter.unusedSimpArgs false
def qx_.f (k:Nat) (a0_0:Int) (a0_1:Int):Option (Bool):=(qy1_.f a0_1 1 1000000000).bind fun aX6=>(if aX6=true then ((qy1_.f a0_0 (-1000000000) 1000000000).bind fun t109=>(if t109=true then ((qi1_.f k a0_0 a0_1).bind fun U6=>(some (U6==1))) else (some false))) else (some false))
theorem qx_.mono:∀ a0 a1 k,LeO (qx_.f k a0 a1) (qx_.f (k+1) a0 a1):=by
 intro a0 a1 k
 unfold qx_.f
 repeat' first
   | (with_reducible exact qi1_.mono _ _ _)
   | (with_reducible exact LeO.refl _)
   | (with_reducible exact LeO.none _)
   | (with_reducible refine LeO.ite ?_ ?_)
   | (with_reducible refine LeO.bind ?_ (fun _=>?_))
   | exact qi1_.mono _ _ _
   | exact LeO.none _
   | refine LeO.ite ?_ ?_
   | refine LeO.bind ?_ (fun _=>?_)
set_option maxHeartbeats 8000000 in
set_option maxRecDepth 100000 in
theorem qx_.calls (k:Nat) (a0_0:Int) (a0_1:Int) (r:Bool) (w:World) (h:qx_.f k a0_0 a0_1=some r) :
  Calls Try.prog 151 #[.agg #[.int .i64 a0_0,.int .i64 a0_1]] w fun e w'=>e=.returned (.bool r)∧Below w.heap.size w w':=by
 have hu77:=Try.underlying77
 have HB:=aK (Below.refl w.heap.size w)
 have H:((qy1_.f a0_1 1 1000000000).bind fun aX6=>(if aX6=true then ((qy1_.f a0_0 (-1000000000) 1000000000).bind fun t109=>(if t109=true then ((qi1_.f k a0_0 a0_1).bind fun U6=>(some (U6==1))) else (some false))) else (some false)))=some r:=h
 clear h
 replace H:=Option.bind_eq_some_iff.mp H
 obtain ⟨aX6,A20,H⟩:=H
 replace H:(if aX6=true then ((qy1_.f a0_0 (-1000000000) 1000000000).bind fun t109=>(if t109=true then ((qi1_.f k a0_0 a0_1).bind fun U6=>(some (U6==1))) else (some false))) else (some false))=some r:=H
 have A2:=aK A20
 clear A20
 by_cases c3:aX6=true
 ·subst c3
  have H1:((qy1_.f a0_0 (-1000000000) 1000000000).bind fun t109=>(if t109=true then ((qi1_.f k a0_0 a0_1).bind fun U6=>(some (U6==1))) else (some false)))=some r:=by rw [if_pos rfl] at H;exact H
  clear H
  have H:=H1
  clear H1
  replace H:=Option.bind_eq_some_iff.mp H
  obtain ⟨t109,A40,H⟩:=H
  replace H:(if t109=true then ((qi1_.f k a0_0 a0_1).bind fun U6=>(some (U6==1))) else (some false))=some r:=H
  have A4:=aK A40
  clear A40
  by_cases c5:t109=true
  ·subst c5
   have H1:((qi1_.f k a0_0 a0_1).bind fun U6=>(some (U6==1)))=some r:=by rw [if_pos rfl] at H;exact H
   clear H
   have H:=H1
   clear H1
   replace H:=Option.bind_eq_some_iff.mp H
   obtain ⟨U6,A60,H⟩:=H
   replace H:(some (U6==1))=some r:=H
   have A6:=aK A60
   clear A60
   obtain rfl:=Option.some.inj H
   go_enter Try.func151,Try.ntmps151
   go_wp2_with (first|((with_reducible refine qt_ (N:=1) rfl ?_);refine qr_ ?hg (N:=1) ?hd (cs:=#[.int .i64 a0_0,.int .i64 a0_1]) (t:=77) ?hr ?_;(case hd=>rfl);(case hg=>rfl);(case hr=>first|(go_simp;done)|(go_simp;rfl));intro M9 hg w7 hbox hb;have n0_:=aK (qh_ (by repeat (first|(with_reducible first|exact HB.out|apply qb_|apply qa_|apply qc_)|exact HB.out)) hb);have n1_:=aK (hbox);have n2_:=aK ((by rw [hg];exact (ql_ (by repeat (first|(with_reducible first|exact HB.out|apply qb_|apply qa_|apply qc_)|exact HB.out))):w.heap.size≤M9));have n3_:=aK ((by rw [hg];exact (ql_ (by repeat (first|(with_reducible first|exact HB.out|apply qb_|apply qa_|apply qc_)|exact HB.out))):w.heap.size≤M9));clear HB;have HB:=n0_;have J8:=n1_;have aW0:=n2_;have Z0:=n3_;clear n0_ n1_ n2_ n3_;clear hb hbox hg;have hcz8_0:w7.cell? ⟨M9,0,none⟩=some (.int .i64 a0_0):=(qe_ J8.out 0).trans rfl;have hcz8_1:w7.cell? ⟨M9,1,none⟩=some (.int .i64 a0_1):=(qe_ J8.out 1).trans rfl;have hfz8_0:=qd_ J8.out 0;have hfz8_1:=qd_ J8.out 1)|((with_reducible refine qy_ (f:=107) rfl ?_);refine goesL_ (some 5) rfl rfl Try.func107 (by kernel_rfl) rfl #[.int .i64 a0_1,.int .i64 1,.int .i64 1000000000] rfl (by (try simp only [List.map_toArray,List.map_cons,List.map_nil]);first|done|rfl|(simp only [List.length_drop,List.length_take];rfl)) ?_;(with_reducible refine (qy1_.calls a0_1 1 1000000000 true _ A2.out).mono ?_);rintro e w' ⟨rfl,⟨nd,rfl⟩⟩;refine ⟨_,rfl,?_⟩)|(go_at_call 107;(with_reducible refine (qy1_.calls a0_0 (-1000000000) 1000000000 true _ A4.out).mono ?_);rintro e w' ⟨rfl,⟨nd,rfl⟩⟩)|(go_at_call 205;(with_reducible refine (qi1_.calls k a0_0 a0_1 U6 _ A6.out).mono ?_);rintro e w9 ⟨rfl,hb⟩;have n0_:=aK (qk_ (g:=M9) (o:=.cells #[.int .i64 a0_0,.int .i64 a0_1] 77 (0,0)) (by (with_reducible repeat (first|refine qg_ ?_ _|refine qj_ ?_|refine qf_ ?_ _));exact J8.out) hb);have n1_:=aK (qh_ (by repeat (first|(with_reducible first|exact HB.out|apply qb_|apply qa_|apply qc_|refine qi_ ?_ Z0.out)|exact HB.out)) hb);clear J8;clear HB;have J8:=n0_;have HB:=n1_;clear n0_ n1_;(try clear hb);(try clear hb2);(try clear hk);(try clear hi)))
   go_ret
   exact ⟨by first|rfl|(simp [qn_,qo_] <;> rfl)|(simp [*,qn_,qo_] <;> rfl),by repeat (first|(with_reducible first|exact HB.out|apply qb_|apply qa_|apply qc_|refine qi_ ?_ Z0.out)|exact HB.out)⟩
  ·replace c5:=Bool.eq_false_iff.mpr c5
   subst c5
   have H1:(some false)=some r:=by rw [if_neg (show ¬ (false=true) by decide)] at H;exact H
   clear H
   have H:=H1
   clear H1
   obtain rfl:=Option.some.inj H
   go_enter Try.func151,Try.ntmps151
   go_wp2_with (first|((with_reducible refine qt_ (N:=1) rfl ?_);refine qr_ ?hg (N:=1) ?hd (cs:=#[.int .i64 a0_0,.int .i64 a0_1]) (t:=77) ?hr ?_;(case hd=>rfl);(case hg=>rfl);(case hr=>first|(go_simp;done)|(go_simp;rfl));intro M9 hg w10 hbox hb;have n0_:=aK (qh_ (by repeat (first|(with_reducible first|exact HB.out|apply qb_|apply qa_|apply qc_)|exact HB.out)) hb);have n1_:=aK (hbox);have n2_:=aK ((by rw [hg];exact (ql_ (by repeat (first|(with_reducible first|exact HB.out|apply qb_|apply qa_|apply qc_)|exact HB.out))):w.heap.size≤M9));have n3_:=aK ((by rw [hg];exact (ql_ (by repeat (first|(with_reducible first|exact HB.out|apply qb_|apply qa_|apply qc_)|exact HB.out))):w.heap.size≤M9));clear HB;have HB:=n0_;have J8:=n1_;have aW0:=n2_;have Z0:=n3_;clear n0_ n1_ n2_ n3_;clear hb hbox hg;have hcz11_0:w10.cell? ⟨M9,0,none⟩=some (.int .i64 a0_0):=(qe_ J8.out 0).trans rfl;have hcz11_1:w10.cell? ⟨M9,1,none⟩=some (.int .i64 a0_1):=(qe_ J8.out 1).trans rfl;have hfz11_0:=qd_ J8.out 0;have hfz11_1:=qd_ J8.out 1)|((with_reducible refine qy_ (f:=107) rfl ?_);refine goesL_ (some 5) rfl rfl Try.func107 (by kernel_rfl) rfl #[.int .i64 a0_1,.int .i64 1,.int .i64 1000000000] rfl (by (try simp only [List.map_toArray,List.map_cons,List.map_nil]);first|done|rfl|(simp only [List.length_drop,List.length_take];rfl)) ?_;(with_reducible refine (qy1_.calls a0_1 1 1000000000 true _ A2.out).mono ?_);rintro e w' ⟨rfl,⟨nd,rfl⟩⟩;refine ⟨_,rfl,?_⟩)|(go_at_call 107;(with_reducible refine (qy1_.calls a0_0 (-1000000000) 1000000000 false _ A4.out).mono ?_);rintro e w' ⟨rfl,⟨nd,rfl⟩⟩))
   go_ret
   exact ⟨by first|rfl|(simp [qn_,qo_] <;> rfl)|(simp [*,qn_,qo_] <;> rfl),by repeat (first|(with_reducible first|exact HB.out|apply qb_|apply qa_|apply qc_|refine qi_ ?_ Z0.out)|exact HB.out)⟩
 ·replace c3:=Bool.eq_false_iff.mpr c3
  subst c3
  have H1:(some false)=some r:=by rw [if_neg (show ¬ (false=true) by decide)] at H;exact H
  clear H
  have H:=H1
  clear H1
  obtain rfl:=Option.some.inj H
  go_enter Try.func151,Try.ntmps151
  go_wp2_with (first|((with_reducible refine qt_ (N:=1) rfl ?_);refine qr_ ?hg (N:=1) ?hd (cs:=#[.int .i64 a0_0,.int .i64 a0_1]) (t:=77) ?hr ?_;(case hd=>rfl);(case hg=>rfl);(case hr=>first|(go_simp;done)|(go_simp;rfl));intro M9 hg w12 hbox hb;have n0_:=aK (qh_ (by repeat (first|(with_reducible first|exact HB.out|apply qb_|apply qa_|apply qc_)|exact HB.out)) hb);have n1_:=aK (hbox);have n2_:=aK ((by rw [hg];exact (ql_ (by repeat (first|(with_reducible first|exact HB.out|apply qb_|apply qa_|apply qc_)|exact HB.out))):w.heap.size≤M9));have n3_:=aK ((by rw [hg];exact (ql_ (by repeat (first|(with_reducible first|exact HB.out|apply qb_|apply qa_|apply qc_)|exact HB.out))):w.heap.size≤M9));clear HB;have HB:=n0_;have J8:=n1_;have aW0:=n2_;have Z0:=n3_;clear n0_ n1_ n2_ n3_;clear hb hbox hg;have hcz13_0:w12.cell? ⟨M9,0,none⟩=some (.int .i64 a0_0):=(qe_ J8.out 0).trans rfl;have hcz13_1:w12.cell? ⟨M9,1,none⟩=some (.int .i64 a0_1):=(qe_ J8.out 1).trans rfl;have hfz13_0:=qd_ J8.out 0;have hfz13_1:=qd_ J8.out 1)|((with_reducible refine qy_ (f:=107) rfl ?_);refine goesL_ (some 5) rfl rfl Try.func107 (by kernel_rfl) rfl #[.int .i64 a0_1,.int .i64 1,.int .i64 1000000000] rfl (by (try simp only [List.map_toArray,List.map_cons,List.map_nil]);first|done|rfl|(simp only [List.length_drop,List.length_take];rfl)) ?_;(with_reducible refine (qy1_.calls a0_1 1 1000000000 false _ A2.out).mono ?_);rintro e w' ⟨rfl,⟨nd,rfl⟩⟩;refine ⟨_,rfl,?_⟩))
  go_ret
  exact ⟨by first|rfl|(simp [qn_,qo_] <;> rfl)|(simp [*,qn_,qo_] <;> rfl),by repeat (first|(with_reducible first|exact HB.out|apply qb_|apply qa_|apply qc_|refine qi_ ?_ Z0.out)|exact HB.out)⟩
end Go.Proofs.Ytaiefdhenikiiaa.Base
namespace Go.Proofs.Ytaiefdhenikiiaa.Base
open Go.RowKit Go.Proofs.YtaiefdhenikiiaaW.PrintWords Go.Proofs.YtaiefdhenikiiaaW.PrintLast Go.Proofs.YtaiefdhenikiiaaW.PrintMore
attribute [local go_sem] max2_int qp1_ max_two min_two max_three min_three max_four min_four Go.Proofs.YtaiefdhenikiiaaZ.qw_   -- for this text's walks alone
set_option linter.unusedVariables false
set_option linter.unusedSimpArgs false
def qn1_.f (k:Nat) (a0:Int) (a1:Int):Option (Int × Int × Bool):=if a1=0 then (some (0,0,false)) else ((qi1_.f k a0 a1).bind fun j5=>(if a1<0 then (if (wrap64 (-j5))=0 then (none) else ((qx_.f k (wrap64 (Int.tdiv a0 (wrap64 (-j5)))) (wrap64 (Int.tdiv a1 (wrap64 (-j5))))).bind fun aJ4=>(if aJ4=true then (some (wrap64 (Int.tdiv a0 (wrap64 (-j5))),wrap64 (Int.tdiv a1 (wrap64 (-j5))),true)) else (some (0,0,false))))) else (if j5=0 then (none) else ((qx_.f k (wrap64 (Int.tdiv a0 j5)) (wrap64 (Int.tdiv a1 j5))).bind fun aJ3=>(if aJ3=true then (some (wrap64 (Int.tdiv a0 j5),wrap64 (Int.tdiv a1 j5),true)) else (some (0,0,false)))))))
theorem qn1_.mono:∀ a0 a1 k,LeO (qn1_.f k a0 a1) (qn1_.f (k+1) a0 a1):=by
 intro a0 a1 k
 unfold qn1_.f
 repeat' first
   | (with_reducible exact qi1_.mono _ _ _)
   | (with_reducible exact qx_.mono _ _ _)
   | (with_reducible exact LeO.refl _)
   | (with_reducible exact LeO.none _)
   | (with_reducible refine LeO.ite ?_ ?_)
   | (with_reducible refine LeO.bind ?_ (fun _=>?_))
   | exact qi1_.mono _ _ _
   | exact qx_.mono _ _ _
   | exact LeO.none _
   | refine LeO.ite ?_ ?_
   | refine LeO.bind ?_ (fun _=>?_)
def qn1_.T6:Bool × List (List Nat × List Nat):=(true,[([],[]),([],[]),([0,1],[0,1]),([],[]),([],[]),([3,4],[3,4]),([2,5],[2,5]),([],[]),([7,6,0,1,2,3,4,5,6,7],[6,7])])
def qn1_.B6:List Nat:=[0,0,3,0,0,24,63,0,255]
theorem qn1_.tab6:rtab .any (opsOf Try.f177 6)=qn1_.T6:=by kernel_rfl
theorem qn1_.bits6:waitsOk qn1_.T6.2 qn1_.B6=true:=by kernel_rfl
set_option maxHeartbeats 8000000 in
set_option maxRecDepth 100000 in
theorem qn1_.calls (k:Nat) (a0:Int) (a1:Int) (r1:Int) (r2:Int) (r3:Bool) (w:World) (h:qn1_.f k a0 a1=some (r1,r2,r3)) :
  Calls Try.prog 177 #[.int .i64 a0,.int .i64 a1] w fun e w'=>e=.returned (.tuple #[.agg #[.int .i64 r1,.int .i64 r2],.bool r3])∧Below w.heap.size w w':=by
 have hu77:=Try.underlying77
 have HB:=aK (Below.refl w.heap.size w)
 have H:(if a1=0 then (some (0,0,false)) else ((qi1_.f k a0 a1).bind fun j5=>(if a1<0 then (if (wrap64 (-j5))=0 then (none) else ((qx_.f k (wrap64 (Int.tdiv a0 (wrap64 (-j5)))) (wrap64 (Int.tdiv a1 (wrap64 (-j5))))).bind fun aJ4=>(if aJ4=true then (some (wrap64 (Int.tdiv a0 (wrap64 (-j5))),wrap64 (Int.tdiv a1 (wrap64 (-j5))),true)) else (some (0,0,false))))) else (if j5=0 then (none) else ((qx_.f k (wrap64 (Int.tdiv a0 j5)) (wrap64 (Int.tdiv a1 j5))).bind fun aJ3=>(if aJ3=true then (some (wrap64 (Int.tdiv a0 j5),wrap64 (Int.tdiv a1 j5),true)) else (some (0,0,false))))))))=some (r1,r2,r3):=h
 clear h
 by_cases c3:a1=0
 ·rw [if_pos c3] at H
  have c3b0:(a1==0)=true:=beq_iff_eq.mpr c3
  have c3b1:(a1 != 0)=false:=bne_eq_false_iff_eq.mpr c3
  clear c3
  simp only [Option.some.injEq,Prod.mk.injEq] at H
  obtain ⟨rfl,rfl,rfl⟩:=H
  go_enter Try.func177,Try.ntmps177
  go_wp2_with (first|((with_reducible refine qt_ (N:=4) rfl ?_);refine qr_ ?hg (N:=4) ?hd (cs:=#[.int .i64 0,.int .i64 0]) (t:=77) ?hr ?_;(case hd=>rfl);(case hg=>rfl);(case hr=>first|(go_simp;done)|(go_simp;rfl));intro j6 hg w4 hbox hb;have n0_:=aK (qh_ (by repeat (first|(with_reducible first|exact HB.out|apply qb_|apply qa_|apply qc_)|exact HB.out)) hb);have n1_:=aK (hbox);have n2_:=aK ((by rw [hg];exact (ql_ (by repeat (first|(with_reducible first|exact HB.out|apply qb_|apply qa_|apply qc_)|exact HB.out))):w.heap.size≤j6));have n3_:=aK ((by rw [hg];exact (ql_ (by repeat (first|(with_reducible first|exact HB.out|apply qb_|apply qa_|apply qc_)|exact HB.out))):w.heap.size≤j6));clear HB;have HB:=n0_;have j3:=n1_;have aZ9:=n2_;have o9:=n3_;clear n0_ n1_ n2_ n3_;clear hb hbox hg;have hcz5_0:w4.cell? ⟨j6,0,none⟩=some (.int .i64 0):=(qe_ j3.out 0).trans rfl;have hcz5_1:w4.cell? ⟨j6,1,none⟩=some (.int .i64 0):=(qe_ j3.out 1).trans rfl;have hfz5_0:=qd_ j3.out 0;have hfz5_1:=qd_ j3.out 1))
  refine bodyPost_ret (results_ct rfl _ _ j6 77 #[.int .i64 0,.int .i64 0] (0,0) _ rfl (by (with_reducible repeat (first|refine qg_ ?_ _|refine qj_ ?_|refine qf_ ?_ _));refine ql1_ (cs:=#[.int .i64 0,.int .i64 0]) ?_ 1 _ rfl;(with_reducible repeat (first|refine qg_ ?_ _|refine qj_ ?_|refine qf_ ?_ _));refine ql1_ (cs:=#[.int .i64 0,.int .i64 0]) ?_ 0 _ rfl;(with_reducible repeat (first|refine qg_ ?_ _|refine qj_ ?_|refine qf_ ?_ _));exact j3.out) Try.underlying77 rfl (by kernel_rfl)) rfl ?_
  exact ⟨by first|rfl|(simp [qn_,qo_] <;> rfl)|(simp [*,qn_,qo_] <;> rfl),by repeat (first|(with_reducible first|exact HB.out|apply qb_|apply qa_|apply qc_|refine qi_ ?_ o9.out)|exact HB.out)⟩
 ·rw [if_neg c3] at H
  have c3b0:(a1==0)=false:=beq_eq_false_iff_ne.mpr c3
  have c3b1:(a1 != 0)=true:=bne_iff_ne.mpr c3
  replace H:=Option.bind_eq_some_iff.mp H
  obtain ⟨j5,A60,H⟩:=H
  replace H:(if a1<0 then (if (wrap64 (-j5))=0 then (none) else ((qx_.f k (wrap64 (Int.tdiv a0 (wrap64 (-j5)))) (wrap64 (Int.tdiv a1 (wrap64 (-j5))))).bind fun aJ4=>(if aJ4=true then (some (wrap64 (Int.tdiv a0 (wrap64 (-j5))),wrap64 (Int.tdiv a1 (wrap64 (-j5))),true)) else (some (0,0,false))))) else (if j5=0 then (none) else ((qx_.f k (wrap64 (Int.tdiv a0 j5)) (wrap64 (Int.tdiv a1 j5))).bind fun aJ3=>(if aJ3=true then (some (wrap64 (Int.tdiv a0 j5),wrap64 (Int.tdiv a1 j5),true)) else (some (0,0,false))))))=some (r1,r2,r3):=H
  have A6:=aK A60
  clear A60
  by_cases c7:a1<0
  ·rw [if_pos c7] at H
   have c7b0:decide (a1<0)=true:=decide_eq_true c7
   clear c7
   by_cases c8:(wrap64 (-j5))=0
   ·rw [if_pos c8] at H
    exact absurd H (by simp)
   ·rw [if_neg c8] at H
    have c8b0:((wrap64 (-j5))==0)=false:=beq_eq_false_iff_ne.mpr c8
    have c8b1:((wrap64 (-j5)) != 0)=true:=bne_iff_ne.mpr c8
    replace H:=Option.bind_eq_some_iff.mp H
    obtain ⟨aJ4,A90,H⟩:=H
    replace H:(if aJ4=true then (some (wrap64 (Int.tdiv a0 (wrap64 (-j5))),wrap64 (Int.tdiv a1 (wrap64 (-j5))),true)) else (some (0,0,false)))=some (r1,r2,r3):=H
    have A9:=aK A90
    clear A90
    by_cases c10:aJ4=true
    ·subst c10
     have H1:(some (wrap64 (Int.tdiv a0 (wrap64 (-j5))),wrap64 (Int.tdiv a1 (wrap64 (-j5))),true))=some (r1,r2,r3):=by rw [if_pos rfl] at H;exact H
     clear H
     have H:=H1
     clear H1
     simp only [Option.some.injEq,Prod.mk.injEq] at H
     obtain ⟨rfl,rfl,rfl⟩:=H
     go_enter Try.func177,Try.ntmps177
     try go_wp2_with (first|((with_reducible refine qt_ (N:=4) rfl ?_);refine qr_ ?hg (N:=4) ?hd (cs:=#[.int .i64 0,.int .i64 0]) (t:=77) ?hr ?_;(case hd=>rfl);(case hg=>rfl);(case hr=>first|(go_simp;done)|(go_simp;rfl));intro j6 hg w11 hbox hb;have n0_:=aK (qh_ (by repeat (first|(with_reducible first|exact HB.out|apply qb_|apply qa_|apply qc_)|exact HB.out)) hb);have n1_:=aK (hbox);have n2_:=aK ((by rw [hg];exact (ql_ (by repeat (first|(with_reducible first|exact HB.out|apply qb_|apply qa_|apply qc_)|exact HB.out))):w.heap.size≤j6));have n3_:=aK ((by rw [hg];exact (ql_ (by repeat (first|(with_reducible first|exact HB.out|apply qb_|apply qa_|apply qc_)|exact HB.out))):w.heap.size≤j6));clear HB;have HB:=n0_;have j3:=n1_;have aZ9:=n2_;have o9:=n3_;clear n0_ n1_ n2_ n3_;clear hb hbox hg)|((with_reducible refine qy_ (f:=205) rfl ?_);refine goesL_ (some 13) rfl rfl Try.func205 (by kernel_rfl) rfl #[.int .i64 a0,.int .i64 a1] rfl (by (try simp only [List.map_toArray,List.map_cons,List.map_nil]);first|done|rfl|(simp only [List.length_drop,List.length_take];rfl)) ?_;(with_reducible refine (qi1_.calls k a0 a1 j5 _ A6.out).mono ?_);rintro e w12 ⟨rfl,hb⟩;refine ⟨_,rfl,?_⟩;have n0_:=aK (qk_ (g:=j6) (o:=.cells #[.int .i64 0,.int .i64 0] 77 (0,0)) (by (with_reducible repeat (first|refine qg_ ?_ _|refine qj_ ?_|refine qf_ ?_ _));exact j3.out) hb);have n1_:=aK (qh_ (by repeat (first|(with_reducible first|exact HB.out|apply qb_|apply qa_|apply qc_|refine qi_ ?_ o9.out)|exact HB.out)) hb);clear j3;clear HB;have j3:=n0_;have HB:=n1_;clear n0_ n1_;(try clear hb);(try clear hb2);(try clear hk);(try clear hi)))
     have n0_:=aK (qj_ j3.out)
     have n1_:=aK (qc_ HB.out)
     clear j3
     clear HB
     have j3:=n0_
     have HB:=n1_
     clear n0_ n1_
     refine start_ (n:=9) (S:=fun w'=>True) (ds:=[]) #[fF,fF,fF,fF,fF,fF,fF,fF,fF] (by kernel_rfl) rfl rfl trivial (fun hHeld=>?_);refine with_tabW qn1_.tab6 qn1_.bits6 (fun HT_ HW_=>?_)
     generalize w12.drew=w13 at j3 HB hHeld ⊢
     refine pure_ (i:=0) (N:=some 18) (v:=?_) (a':=?_) #[tT,fF,fF,fF,fF,fF,fF,fF,fF] rfl rfl (any_of HT_.out (by kernel_rfl)) (fun _ _ _ h=>h) (Or.inl ⟨by rfl,?_⟩) ?_ ?_
     rotate_left
     ·intro w'
      go_simp
      with_reducible rfl
     rotate_left
     ·simp only [Act.put,List.setIfInBounds_toArray,List.set_cons_zero,List.set_cons_succ,i64_w,i32_w]
      rfl
     refine pure_ (i:=1) (N:=some 19) (v:=?_) (a':=?_) #[tT,tT,fF,fF,fF,fF,fF,fF,fF] rfl rfl (any_of HT_.out (by kernel_rfl)) (fun _ _ _ h=>h) (Or.inl ⟨by rfl,?_⟩) ?_ ?_
     rotate_left
     ·intro w'
      go_simp
      with_reducible rfl
     rotate_left
     ·simp only [Act.put,List.setIfInBounds_toArray,List.set_cons_zero,List.set_cons_succ,i64_w,i32_w]
      rfl
     refine pure_ (i:=2) (N:=some 20) (v:=?_) (a':=?_) #[tT,tT,tT,fF,fF,fF,fF,fF,fF] rfl rfl (any_of HT_.out (by kernel_rfl)) (fun _ _ _ h=>h) (Or.inl ⟨by rfl,?_⟩) ?_ ?_
     rotate_left
     ·intro w'
      go_simp
      with_reducible rfl
     rotate_left
     ·simp only [Act.put,List.setIfInBounds_toArray,List.set_cons_zero,List.set_cons_succ,i64_w,i32_w]
      rfl
     refine pure_ (i:=3) (N:=some 21) (v:=?_) (a':=?_) #[tT,tT,tT,tT,fF,fF,fF,fF,fF] rfl rfl (any_of HT_.out (by kernel_rfl)) (fun _ _ _ h=>h) (Or.inl ⟨by rfl,?_⟩) ?_ ?_
     rotate_left
     ·intro w'
      go_simp
      with_reducible rfl
     rotate_left
     ·simp only [Act.put,List.setIfInBounds_toArray,List.set_cons_zero,List.set_cons_succ,i64_w,i32_w]
      rfl
     refine pure_ (i:=4) (N:=some 22) (v:=?_) (a':=?_) #[tT,tT,tT,tT,tT,fF,fF,fF,fF] rfl rfl (any_of HT_.out (by kernel_rfl)) (fun _ _ _ h=>h) (Or.inl ⟨by rfl,?_⟩) ?_ ?_
     rotate_left
     ·intro w'
      go_simp
      with_reducible rfl
     rotate_left
     ·simp only [Act.put,List.setIfInBounds_toArray,List.set_cons_zero,List.set_cons_succ,i64_w,i32_w]
      rfl
     refine pure_ (i:=5) (N:=some 23) (v:=?_) (a':=?_) #[tT,tT,tT,tT,tT,tT,fF,fF,fF] rfl rfl (any_of HT_.out (by kernel_rfl)) (fun _ _ _ h=>h) (Or.inl ⟨by rfl,?_⟩) ?_ ?_
     rotate_left
     ·intro w'
      go_simp
      with_reducible rfl
     rotate_left
     ·simp only [Act.put,List.setIfInBounds_toArray,List.set_cons_zero,List.set_cons_succ,i64_w,i32_w]
      rfl
     refine pure_ (i:=6) (N:=some 24) (v:=?_) (a':=?_) #[tT,tT,tT,tT,tT,tT,tT,fF,fF] rfl rfl (any_of HT_.out (by kernel_rfl)) (fun _ _ _ h=>h) (Or.inl ⟨by rfl,?_⟩) ?_ ?_
     rotate_left
     ·intro w'
      go_simp
      with_reducible rfl
     rotate_left
     ·simp only [Act.put,List.setIfInBounds_toArray,List.set_cons_zero,List.set_cons_succ,i64_w,i32_w]
      rfl
     refine one_ (i:=7) (N:=some 7) #[tT,tT,tT,tT,tT,tT,tT,tT,fF] rfl rfl (one_of HT_.out (by kernel_rfl)) (by decide) (fun K hK=>?_)
     refine box_step ?hg (N:=7) ?hd (cs:=#[.int .i64 0,.int .i64 0]) (t:=77) ?hr ?_;(case hd=>rfl);(case hg=>rfl);(case hr=>first|(go_simp;done)|(go_simp;rfl))
     intro F4 hg w14 hbox hb
     have n0_:=aK (qk_ (g:=j6) (o:=.cells #[.int .i64 0,.int .i64 0] 77 (0,0)) (by (with_reducible repeat (first|refine qg_ ?_ _|refine qj_ ?_|refine qf_ ?_ _));exact j3.out) hb)
     have n1_:=aK (qh_ (by repeat (first|(with_reducible first|exact HB.out|apply qb_|apply qa_|apply qc_|refine qi_ ?_ o9.out)|exact HB.out)) hb)
     have n2_:=aK (hbox)
     have n3_:=aK ((by rw [hg];exact (ql_ (by repeat (first|(with_reducible first|exact HB.out|apply qb_|apply qa_|apply qc_|refine qi_ ?_ o9.out)|exact HB.out))):w.heap.size≤F4))
     have n4_:=aK ((by rw [hg];exact (ql_ (by repeat (first|(with_reducible first|exact HB.out|apply qb_|apply qa_|apply qc_|refine qi_ ?_ o9.out)|exact HB.out))):w.heap.size≤F4))
     have n5_:=aK ((by rw [hg];exact Nat.ne_of_lt (blk_lt (g:=j6) (o:=.cells #[.int .i64 0,.int .i64 0] 77 (0,0)) (by (with_reducible repeat (first|refine qg_ ?_ _|refine qj_ ?_|refine qf_ ?_ _));exact j3.out)):j6≠F4))
     have n6_:=aK ((by rw [hg];exact Nat.ne_of_gt (blk_lt (g:=j6) (o:=.cells #[.int .i64 0,.int .i64 0] 77 (0,0)) (by (with_reducible repeat (first|refine qg_ ?_ _|refine qj_ ?_|refine qf_ ?_ _));exact j3.out)):F4≠j6))
     clear j3
     clear HB
     have j3:=n0_
     have HB:=n1_
     have C8:=n2_
     have GW322:=n3_
     have aQ4:=n4_
     have u7:=n5_
     have I8:=n6_
     clear n0_ n1_ n2_ n3_ n4_ n5_ n6_
     clear hb hbox hg
     refine hK.out _ _ trivial (fun hHeld=>?_)
     clear hK K
     refine norm_ (a':=?_) ?_ ?_
     rotate_left
     ·show Act.put _ (some 7) _=_
      simp only [Act.put,List.setIfInBounds_toArray,List.set_cons_zero,List.set_cons_succ,i64_w,i32_w]
      rfl
     refine one_ (i:=8) (N:=none) #[tT,tT,tT,tT,tT,tT,tT,tT,tT] rfl rfl (one_of HT_.out (by kernel_rfl)) (by decide) (fun K hK=>?_)
     have hs15:w14.cell? ⟨F4,0,none⟩=some (.int .i64 0):=(qe_ C8.out 0).trans rfl
     have hfs15:=qd_ C8.out 0
     have hns15_0:=u7.out
     have hms15_0:=I8.out
     have hs16:w14.cell? ⟨F4,1,none⟩=some (.int .i64 0):=(qe_ C8.out 1).trans rfl
     have hfs16:=qd_ C8.out 1
     have hns16_0:=u7.out
     have hms16_0:=I8.out
     refine skip_ (w1:=?_) (by rfl) rfl ?_ ?_
     rotate_left
     ·go_simp
      rfl
     refine hK.out _ _ trivial (fun hHeld=>?_)
     clear hK K
     refine done_ (done_of HT_.out (by kernel_rfl)) ?_
     have hnb17:=I8.out
     have hnc17:=u7.out
     have aJ0:w14.cell? ⟨F4,0,none⟩=some (.int .i64 0):=(qe_ C8.out 0).trans rfl
     have Z9:w14.cell? ⟨F4,1,none⟩=some (.int .i64 0):=(qe_ C8.out 1).trans rfl
     have Z8:=qd_ C8.out 0
     have Z7:=qd_ C8.out 1
     try go_wp2_with (first|((with_reducible refine qy_ (f:=151) rfl ?_);refine goesL_ (some 26) rfl rfl Try.func151 (by kernel_rfl) rfl #[.agg #[.int .i64 (wrap64 (Int.tdiv a0 (wrap64 (-j5)))),.int .i64 (wrap64 (Int.tdiv a1 (wrap64 (-j5))))]] rfl (by (try simp only [List.map_toArray,List.map_cons,List.map_nil]);first|done|rfl|(simp only [List.length_drop,List.length_take];rfl)) ?_;(with_reducible refine (qx_.calls k (wrap64 (Int.tdiv a0 (wrap64 (-j5)))) (wrap64 (Int.tdiv a1 (wrap64 (-j5)))) true _ A9.out).mono ?_);rintro e w19 ⟨rfl,hb⟩;refine ⟨_,rfl,?_⟩;have n0_:=aK (qk_ (g:=j6) (o:=.cells #[.int .i64 0,.int .i64 0] 77 (0,0)) (by (with_reducible repeat (first|refine qg_ ?_ _|refine qj_ ?_|refine qf_ ?_ _));refine qr1_ ?_ u7.out _;(with_reducible repeat (first|refine qg_ ?_ _|refine qj_ ?_|refine qf_ ?_ _));refine qr1_ ?_ u7.out _;(with_reducible repeat (first|refine qg_ ?_ _|refine qj_ ?_|refine qf_ ?_ _));exact j3.out) hb);have n1_:=aK (qk_ (g:=F4) (o:=.cells #[.int .i64 (wrap64 (Int.tdiv a0 (wrap64 (-j5)))),.int .i64 (wrap64 (Int.tdiv a1 (wrap64 (-j5))))] 77 (0,0)) (by (with_reducible repeat (first|refine qg_ ?_ _|refine qj_ ?_|refine qf_ ?_ _));refine ql1_ (cs:=#[.int .i64 (wrap64 (Int.tdiv a0 (wrap64 (-j5)))),.int .i64 0]) ?_ 1 _ rfl;(with_reducible repeat (first|refine qg_ ?_ _|refine qj_ ?_|refine qf_ ?_ _));refine ql1_ (cs:=#[.int .i64 0,.int .i64 0]) ?_ 0 _ rfl;(with_reducible repeat (first|refine qg_ ?_ _|refine qj_ ?_|refine qf_ ?_ _));exact C8.out) hb);have n2_:=aK (qh_ (by repeat (first|(with_reducible first|exact HB.out|apply qb_|apply qa_|apply qc_|refine qi_ ?_ o9.out|refine qi_ ?_ aQ4.out)|exact HB.out)) hb);clear j3;clear C8;clear HB;have j3:=n0_;have C8:=n1_;have HB:=n2_;clear n0_ n1_ n2_;(try clear hb);(try clear hb2);(try clear hk);(try clear hi);have hcz20_0:w19.cell? ⟨F4,0,none⟩=some (.int .i64 (wrap64 (Int.tdiv a0 (wrap64 (-j5))))):=(qe_ C8.out 0).trans rfl;have hcz20_1:w19.cell? ⟨F4,1,none⟩=some (.int .i64 (wrap64 (Int.tdiv a1 (wrap64 (-j5))))):=(qe_ C8.out 1).trans rfl;have hfz20_0:=qd_ C8.out 0;have hfz20_1:=qd_ C8.out 1;have hcz21_0:w19.cell? ⟨j6,0,none⟩=some (.int .i64 0):=(qe_ j3.out 0).trans rfl;have hcz21_1:w19.cell? ⟨j6,1,none⟩=some (.int .i64 0):=(qe_ j3.out 1).trans rfl;have hfz21_0:=qd_ j3.out 0;have hfz21_1:=qd_ j3.out 1))
     refine bodyPost_ret (results_ct rfl _ _ j6 77 #[.int .i64 (wrap64 (Int.tdiv a0 (wrap64 (-j5)))),.int .i64 (wrap64 (Int.tdiv a1 (wrap64 (-j5))))] (0,0) _ rfl (by (with_reducible repeat (first|refine qg_ ?_ _|refine qj_ ?_|refine qf_ ?_ _));refine ql1_ (cs:=#[.int .i64 (wrap64 (Int.tdiv a0 (wrap64 (-j5)))),.int .i64 0]) ?_ 1 _ rfl;(with_reducible repeat (first|refine qg_ ?_ _|refine qj_ ?_|refine qf_ ?_ _));refine ql1_ (cs:=#[.int .i64 0,.int .i64 0]) ?_ 0 _ rfl;(with_reducible repeat (first|refine qg_ ?_ _|refine qj_ ?_|refine qf_ ?_ _));exact j3.out) Try.underlying77 rfl (by kernel_rfl)) rfl ?_
     exact ⟨by first|rfl|(simp [qn_,qo_] <;> rfl)|(simp [*,qn_,qo_] <;> rfl),by repeat (first|(with_reducible first|exact HB.out|apply qb_|apply qa_|apply qc_|refine qi_ ?_ o9.out|refine qi_ ?_ aQ4.out)|exact HB.out)⟩
    ·replace c10:=Bool.eq_false_iff.mpr c10
     subst c10
     have H1:(some (0,0,false))=some (r1,r2,r3):=by rw [if_neg (show ¬ (false=true) by decide)] at H;exact H
     clear H
     have H:=H1
     clear H1
     simp only [Option.some.injEq,Prod.mk.injEq] at H
     obtain ⟨rfl,rfl,rfl⟩:=H
     go_enter Try.func177,Try.ntmps177
     try go_wp2_with (first|((with_reducible refine qt_ (N:=4) rfl ?_);refine qr_ ?hg (N:=4) ?hd (cs:=#[.int .i64 0,.int .i64 0]) (t:=77) ?hr ?_;(case hd=>rfl);(case hg=>rfl);(case hr=>first|(go_simp;done)|(go_simp;rfl));intro j6 hg w22 hbox hb;have n0_:=aK (qh_ (by repeat (first|(with_reducible first|exact HB.out|apply qb_|apply qa_|apply qc_)|exact HB.out)) hb);have n1_:=aK (hbox);have n2_:=aK ((by rw [hg];exact (ql_ (by repeat (first|(with_reducible first|exact HB.out|apply qb_|apply qa_|apply qc_)|exact HB.out))):w.heap.size≤j6));have n3_:=aK ((by rw [hg];exact (ql_ (by repeat (first|(with_reducible first|exact HB.out|apply qb_|apply qa_|apply qc_)|exact HB.out))):w.heap.size≤j6));clear HB;have HB:=n0_;have j3:=n1_;have aZ9:=n2_;have o9:=n3_;clear n0_ n1_ n2_ n3_;clear hb hbox hg)|((with_reducible refine qy_ (f:=205) rfl ?_);refine goesL_ (some 13) rfl rfl Try.func205 (by kernel_rfl) rfl #[.int .i64 a0,.int .i64 a1] rfl (by (try simp only [List.map_toArray,List.map_cons,List.map_nil]);first|done|rfl|(simp only [List.length_drop,List.length_take];rfl)) ?_;(with_reducible refine (qi1_.calls k a0 a1 j5 _ A6.out).mono ?_);rintro e w23 ⟨rfl,hb⟩;refine ⟨_,rfl,?_⟩;have n0_:=aK (qk_ (g:=j6) (o:=.cells #[.int .i64 0,.int .i64 0] 77 (0,0)) (by (with_reducible repeat (first|refine qg_ ?_ _|refine qj_ ?_|refine qf_ ?_ _));exact j3.out) hb);have n1_:=aK (qh_ (by repeat (first|(with_reducible first|exact HB.out|apply qb_|apply qa_|apply qc_|refine qi_ ?_ o9.out)|exact HB.out)) hb);clear j3;clear HB;have j3:=n0_;have HB:=n1_;clear n0_ n1_;(try clear hb);(try clear hb2);(try clear hk);(try clear hi)))
     have n0_:=aK (qj_ j3.out)
     have n1_:=aK (qc_ HB.out)
     clear j3
     clear HB
     have j3:=n0_
     have HB:=n1_
     clear n0_ n1_
     refine start_ (n:=9) (S:=fun w'=>True) (ds:=[]) #[fF,fF,fF,fF,fF,fF,fF,fF,fF] (by kernel_rfl) rfl rfl trivial (fun hHeld=>?_);refine with_tabW qn1_.tab6 qn1_.bits6 (fun HT_ HW_=>?_)
     generalize w23.drew=w24 at j3 HB hHeld ⊢
     refine pure_ (i:=0) (N:=some 18) (v:=?_) (a':=?_) #[tT,fF,fF,fF,fF,fF,fF,fF,fF] rfl rfl (any_of HT_.out (by kernel_rfl)) (fun _ _ _ h=>h) (Or.inl ⟨by rfl,?_⟩) ?_ ?_
     rotate_left
     ·intro w'
      go_simp
      with_reducible rfl
     rotate_left
     ·simp only [Act.put,List.setIfInBounds_toArray,List.set_cons_zero,List.set_cons_succ,i64_w,i32_w]
      rfl
     refine pure_ (i:=1) (N:=some 19) (v:=?_) (a':=?_) #[tT,tT,fF,fF,fF,fF,fF,fF,fF] rfl rfl (any_of HT_.out (by kernel_rfl)) (fun _ _ _ h=>h) (Or.inl ⟨by rfl,?_⟩) ?_ ?_
     rotate_left
     ·intro w'
      go_simp
      with_reducible rfl
     rotate_left
     ·simp only [Act.put,List.setIfInBounds_toArray,List.set_cons_zero,List.set_cons_succ,i64_w,i32_w]
      rfl
     refine pure_ (i:=2) (N:=some 20) (v:=?_) (a':=?_) #[tT,tT,tT,fF,fF,fF,fF,fF,fF] rfl rfl (any_of HT_.out (by kernel_rfl)) (fun _ _ _ h=>h) (Or.inl ⟨by rfl,?_⟩) ?_ ?_
     rotate_left
     ·intro w'
      go_simp
      with_reducible rfl
     rotate_left
     ·simp only [Act.put,List.setIfInBounds_toArray,List.set_cons_zero,List.set_cons_succ,i64_w,i32_w]
      rfl
     refine pure_ (i:=3) (N:=some 21) (v:=?_) (a':=?_) #[tT,tT,tT,tT,fF,fF,fF,fF,fF] rfl rfl (any_of HT_.out (by kernel_rfl)) (fun _ _ _ h=>h) (Or.inl ⟨by rfl,?_⟩) ?_ ?_
     rotate_left
     ·intro w'
      go_simp
      with_reducible rfl
     rotate_left
     ·simp only [Act.put,List.setIfInBounds_toArray,List.set_cons_zero,List.set_cons_succ,i64_w,i32_w]
      rfl
     refine pure_ (i:=4) (N:=some 22) (v:=?_) (a':=?_) #[tT,tT,tT,tT,tT,fF,fF,fF,fF] rfl rfl (any_of HT_.out (by kernel_rfl)) (fun _ _ _ h=>h) (Or.inl ⟨by rfl,?_⟩) ?_ ?_
     rotate_left
     ·intro w'
      go_simp
      with_reducible rfl
     rotate_left
     ·simp only [Act.put,List.setIfInBounds_toArray,List.set_cons_zero,List.set_cons_succ,i64_w,i32_w]
      rfl
     refine pure_ (i:=5) (N:=some 23) (v:=?_) (a':=?_) #[tT,tT,tT,tT,tT,tT,fF,fF,fF] rfl rfl (any_of HT_.out (by kernel_rfl)) (fun _ _ _ h=>h) (Or.inl ⟨by rfl,?_⟩) ?_ ?_
     rotate_left
     ·intro w'
      go_simp
      with_reducible rfl
     rotate_left
     ·simp only [Act.put,List.setIfInBounds_toArray,List.set_cons_zero,List.set_cons_succ,i64_w,i32_w]
      rfl
     refine pure_ (i:=6) (N:=some 24) (v:=?_) (a':=?_) #[tT,tT,tT,tT,tT,tT,tT,fF,fF] rfl rfl (any_of HT_.out (by kernel_rfl)) (fun _ _ _ h=>h) (Or.inl ⟨by rfl,?_⟩) ?_ ?_
     rotate_left
     ·intro w'
      go_simp
      with_reducible rfl
     rotate_left
     ·simp only [Act.put,List.setIfInBounds_toArray,List.set_cons_zero,List.set_cons_succ,i64_w,i32_w]
      rfl
     refine one_ (i:=7) (N:=some 7) #[tT,tT,tT,tT,tT,tT,tT,tT,fF] rfl rfl (one_of HT_.out (by kernel_rfl)) (by decide) (fun K hK=>?_)
     refine box_step ?hg (N:=7) ?hd (cs:=#[.int .i64 0,.int .i64 0]) (t:=77) ?hr ?_;(case hd=>rfl);(case hg=>rfl);(case hr=>first|(go_simp;done)|(go_simp;rfl))
     intro F4 hg w25 hbox hb
     have n0_:=aK (qk_ (g:=j6) (o:=.cells #[.int .i64 0,.int .i64 0] 77 (0,0)) (by (with_reducible repeat (first|refine qg_ ?_ _|refine qj_ ?_|refine qf_ ?_ _));exact j3.out) hb)
     have n1_:=aK (qh_ (by repeat (first|(with_reducible first|exact HB.out|apply qb_|apply qa_|apply qc_|refine qi_ ?_ o9.out)|exact HB.out)) hb)
     have n2_:=aK (hbox)
     have n3_:=aK ((by rw [hg];exact (ql_ (by repeat (first|(with_reducible first|exact HB.out|apply qb_|apply qa_|apply qc_|refine qi_ ?_ o9.out)|exact HB.out))):w.heap.size≤F4))
     have n4_:=aK ((by rw [hg];exact (ql_ (by repeat (first|(with_reducible first|exact HB.out|apply qb_|apply qa_|apply qc_|refine qi_ ?_ o9.out)|exact HB.out))):w.heap.size≤F4))
     have n5_:=aK ((by rw [hg];exact Nat.ne_of_lt (blk_lt (g:=j6) (o:=.cells #[.int .i64 0,.int .i64 0] 77 (0,0)) (by (with_reducible repeat (first|refine qg_ ?_ _|refine qj_ ?_|refine qf_ ?_ _));exact j3.out)):j6≠F4))
     have n6_:=aK ((by rw [hg];exact Nat.ne_of_gt (blk_lt (g:=j6) (o:=.cells #[.int .i64 0,.int .i64 0] 77 (0,0)) (by (with_reducible repeat (first|refine qg_ ?_ _|refine qj_ ?_|refine qf_ ?_ _));exact j3.out)):F4≠j6))
     clear j3
     clear HB
     have j3:=n0_
     have HB:=n1_
     have C8:=n2_
     have GW322:=n3_
     have aQ4:=n4_
     have u7:=n5_
     have I8:=n6_
     clear n0_ n1_ n2_ n3_ n4_ n5_ n6_
     clear hb hbox hg
     refine hK.out _ _ trivial (fun hHeld=>?_)
     clear hK K
     refine norm_ (a':=?_) ?_ ?_
     rotate_left
     ·show Act.put _ (some 7) _=_
      simp only [Act.put,List.setIfInBounds_toArray,List.set_cons_zero,List.set_cons_succ,i64_w,i32_w]
      rfl
     refine one_ (i:=8) (N:=none) #[tT,tT,tT,tT,tT,tT,tT,tT,tT] rfl rfl (one_of HT_.out (by kernel_rfl)) (by decide) (fun K hK=>?_)
     have hs26:w25.cell? ⟨F4,0,none⟩=some (.int .i64 0):=(qe_ C8.out 0).trans rfl
     have hfs26:=qd_ C8.out 0
     have hns26_0:=u7.out
     have hms26_0:=I8.out
     have hs27:w25.cell? ⟨F4,1,none⟩=some (.int .i64 0):=(qe_ C8.out 1).trans rfl
     have hfs27:=qd_ C8.out 1
     have hns27_0:=u7.out
     have hms27_0:=I8.out
     refine skip_ (w1:=?_) (by rfl) rfl ?_ ?_
     rotate_left
     ·go_simp
      rfl
     refine hK.out _ _ trivial (fun hHeld=>?_)
     clear hK K
     refine done_ (done_of HT_.out (by kernel_rfl)) ?_
     have hnb28:=I8.out
     have hnc28:=u7.out
     have hcz29_0:w25.cell? ⟨F4,0,none⟩=some (.int .i64 0):=(qe_ C8.out 0).trans rfl
     have hcz29_1:w25.cell? ⟨F4,1,none⟩=some (.int .i64 0):=(qe_ C8.out 1).trans rfl
     have hfz29_0:=qd_ C8.out 0
     have hfz29_1:=qd_ C8.out 1
     try go_wp2_with (first|((with_reducible refine qy_ (f:=151) rfl ?_);refine goesL_ (some 26) rfl rfl Try.func151 (by kernel_rfl) rfl #[.agg #[.int .i64 (wrap64 (Int.tdiv a0 (wrap64 (-j5)))),.int .i64 (wrap64 (Int.tdiv a1 (wrap64 (-j5))))]] rfl (by (try simp only [List.map_toArray,List.map_cons,List.map_nil]);first|done|rfl|(simp only [List.length_drop,List.length_take];rfl)) ?_;(with_reducible refine (qx_.calls k (wrap64 (Int.tdiv a0 (wrap64 (-j5)))) (wrap64 (Int.tdiv a1 (wrap64 (-j5)))) false _ A9.out).mono ?_);rintro e w30 ⟨rfl,hb⟩;refine ⟨_,rfl,?_⟩;have n0_:=aK (qk_ (g:=j6) (o:=.cells #[.int .i64 0,.int .i64 0] 77 (0,0)) (by (with_reducible repeat (first|refine qg_ ?_ _|refine qj_ ?_|refine qf_ ?_ _));refine qr1_ ?_ u7.out _;(with_reducible repeat (first|refine qg_ ?_ _|refine qj_ ?_|refine qf_ ?_ _));refine qr1_ ?_ u7.out _;(with_reducible repeat (first|refine qg_ ?_ _|refine qj_ ?_|refine qf_ ?_ _));exact j3.out) hb);have n1_:=aK (qk_ (g:=F4) (o:=.cells #[.int .i64 (wrap64 (Int.tdiv a0 (wrap64 (-j5)))),.int .i64 (wrap64 (Int.tdiv a1 (wrap64 (-j5))))] 77 (0,0)) (by (with_reducible repeat (first|refine qg_ ?_ _|refine qj_ ?_|refine qf_ ?_ _));refine ql1_ (cs:=#[.int .i64 (wrap64 (Int.tdiv a0 (wrap64 (-j5)))),.int .i64 0]) ?_ 1 _ rfl;(with_reducible repeat (first|refine qg_ ?_ _|refine qj_ ?_|refine qf_ ?_ _));refine ql1_ (cs:=#[.int .i64 0,.int .i64 0]) ?_ 0 _ rfl;(with_reducible repeat (first|refine qg_ ?_ _|refine qj_ ?_|refine qf_ ?_ _));exact C8.out) hb);have n2_:=aK (qh_ (by repeat (first|(with_reducible first|exact HB.out|apply qb_|apply qa_|apply qc_|refine qi_ ?_ o9.out|refine qi_ ?_ aQ4.out)|exact HB.out)) hb);clear j3;clear C8;clear HB;have j3:=n0_;have C8:=n1_;have HB:=n2_;clear n0_ n1_ n2_;(try clear hb);(try clear hb2);(try clear hk);(try clear hi);have hcz31_0:w30.cell? ⟨j6,0,none⟩=some (.int .i64 0):=(qe_ j3.out 0).trans rfl;have hcz31_1:w30.cell? ⟨j6,1,none⟩=some (.int .i64 0):=(qe_ j3.out 1).trans rfl;have hfz31_0:=qd_ j3.out 0;have hfz31_1:=qd_ j3.out 1))
     refine bodyPost_ret (results_ct rfl _ _ j6 77 #[.int .i64 0,.int .i64 0] (0,0) _ rfl (by (with_reducible repeat (first|refine qg_ ?_ _|refine qj_ ?_|refine qf_ ?_ _));refine ql1_ (cs:=#[.int .i64 0,.int .i64 0]) ?_ 1 _ rfl;(with_reducible repeat (first|refine qg_ ?_ _|refine qj_ ?_|refine qf_ ?_ _));refine ql1_ (cs:=#[.int .i64 0,.int .i64 0]) ?_ 0 _ rfl;(with_reducible repeat (first|refine qg_ ?_ _|refine qj_ ?_|refine qf_ ?_ _));exact j3.out) Try.underlying77 rfl (by kernel_rfl)) rfl ?_
     exact ⟨by first|rfl|(simp [qn_,qo_] <;> rfl)|(simp [*,qn_,qo_] <;> rfl),by repeat (first|(with_reducible first|exact HB.out|apply qb_|apply qa_|apply qc_|refine qi_ ?_ o9.out|refine qi_ ?_ aQ4.out)|exact HB.out)⟩
  ·rw [if_neg c7] at H
   have c7b0:decide (a1<0)=false:=decide_eq_false c7
   clear c7
   by_cases c32:j5=0
   ·rw [if_pos c32] at H
    exact absurd H (by simp)
   ·rw [if_neg c32] at H
    have c32b0:(j5==0)=false:=beq_eq_false_iff_ne.mpr c32
    have c32b1:(j5 != 0)=true:=bne_iff_ne.mpr c32
    replace H:=Option.bind_eq_some_iff.mp H
    obtain ⟨aJ3,bZ0,H⟩:=H
    replace H:(if aJ3=true then (some (wrap64 (Int.tdiv a0 j5),wrap64 (Int.tdiv a1 j5),true)) else (some (0,0,false)))=some (r1,r2,r3):=H
    have A33:=aK bZ0
    clear bZ0
    by_cases c34:aJ3=true
    ·subst c34
     have H1:(some (wrap64 (Int.tdiv a0 j5),wrap64 (Int.tdiv a1 j5),true))=some (r1,r2,r3):=by rw [if_pos rfl] at H;exact H
     clear H
     have H:=H1
     clear H1
     simp only [Option.some.injEq,Prod.mk.injEq] at H
     obtain ⟨rfl,rfl,rfl⟩:=H
     go_enter Try.func177,Try.ntmps177
     try go_wp2_with (first|((with_reducible refine qt_ (N:=4) rfl ?_);refine qr_ ?hg (N:=4) ?hd (cs:=#[.int .i64 0,.int .i64 0]) (t:=77) ?hr ?_;(case hd=>rfl);(case hg=>rfl);(case hr=>first|(go_simp;done)|(go_simp;rfl));intro j6 hg w35 hbox hb;have n0_:=aK (qh_ (by repeat (first|(with_reducible first|exact HB.out|apply qb_|apply qa_|apply qc_)|exact HB.out)) hb);have n1_:=aK (hbox);have n2_:=aK ((by rw [hg];exact (ql_ (by repeat (first|(with_reducible first|exact HB.out|apply qb_|apply qa_|apply qc_)|exact HB.out))):w.heap.size≤j6));have n3_:=aK ((by rw [hg];exact (ql_ (by repeat (first|(with_reducible first|exact HB.out|apply qb_|apply qa_|apply qc_)|exact HB.out))):w.heap.size≤j6));clear HB;have HB:=n0_;have j3:=n1_;have aZ9:=n2_;have o9:=n3_;clear n0_ n1_ n2_ n3_;clear hb hbox hg)|((with_reducible refine qy_ (f:=205) rfl ?_);refine goesL_ (some 13) rfl rfl Try.func205 (by kernel_rfl) rfl #[.int .i64 a0,.int .i64 a1] rfl (by (try simp only [List.map_toArray,List.map_cons,List.map_nil]);first|done|rfl|(simp only [List.length_drop,List.length_take];rfl)) ?_;(with_reducible refine (qi1_.calls k a0 a1 j5 _ A6.out).mono ?_);rintro e w36 ⟨rfl,hb⟩;refine ⟨_,rfl,?_⟩;have n0_:=aK (qk_ (g:=j6) (o:=.cells #[.int .i64 0,.int .i64 0] 77 (0,0)) (by (with_reducible repeat (first|refine qg_ ?_ _|refine qj_ ?_|refine qf_ ?_ _));exact j3.out) hb);have n1_:=aK (qh_ (by repeat (first|(with_reducible first|exact HB.out|apply qb_|apply qa_|apply qc_|refine qi_ ?_ o9.out)|exact HB.out)) hb);clear j3;clear HB;have j3:=n0_;have HB:=n1_;clear n0_ n1_;(try clear hb);(try clear hb2);(try clear hk);(try clear hi)))
     have n0_:=aK (qj_ j3.out)
     have n1_:=aK (qc_ HB.out)
     clear j3
     clear HB
     have j3:=n0_
     have HB:=n1_
     clear n0_ n1_
     refine start_ (n:=9) (S:=fun w'=>True) (ds:=[]) #[fF,fF,fF,fF,fF,fF,fF,fF,fF] (by kernel_rfl) rfl rfl trivial (fun hHeld=>?_);refine with_tabW qn1_.tab6 qn1_.bits6 (fun HT_ HW_=>?_)
     generalize w36.drew=w37 at j3 HB hHeld ⊢
     refine pure_ (i:=0) (N:=some 18) (v:=?_) (a':=?_) #[tT,fF,fF,fF,fF,fF,fF,fF,fF] rfl rfl (any_of HT_.out (by kernel_rfl)) (fun _ _ _ h=>h) (Or.inl ⟨by rfl,?_⟩) ?_ ?_
     rotate_left
     ·intro w'
      go_simp
      with_reducible rfl
     rotate_left
     ·simp only [Act.put,List.setIfInBounds_toArray,List.set_cons_zero,List.set_cons_succ,i64_w,i32_w]
      rfl
     refine pure_ (i:=1) (N:=some 19) (v:=?_) (a':=?_) #[tT,tT,fF,fF,fF,fF,fF,fF,fF] rfl rfl (any_of HT_.out (by kernel_rfl)) (fun _ _ _ h=>h) (Or.inl ⟨by rfl,?_⟩) ?_ ?_
     rotate_left
     ·intro w'
      go_simp
      with_reducible rfl
     rotate_left
     ·simp only [Act.put,List.setIfInBounds_toArray,List.set_cons_zero,List.set_cons_succ,i64_w,i32_w]
      rfl
     refine pure_ (i:=2) (N:=some 20) (v:=?_) (a':=?_) #[tT,tT,tT,fF,fF,fF,fF,fF,fF] rfl rfl (any_of HT_.out (by kernel_rfl)) (fun _ _ _ h=>h) (Or.inl ⟨by rfl,?_⟩) ?_ ?_
     rotate_left
     ·intro w'
      go_simp
      with_reducible rfl
     rotate_left
     ·simp only [Act.put,List.setIfInBounds_toArray,List.set_cons_zero,List.set_cons_succ,i64_w,i32_w]
      rfl
     refine pure_ (i:=3) (N:=some 21) (v:=?_) (a':=?_) #[tT,tT,tT,tT,fF,fF,fF,fF,fF] rfl rfl (any_of HT_.out (by kernel_rfl)) (fun _ _ _ h=>h) (Or.inl ⟨by rfl,?_⟩) ?_ ?_
     rotate_left
     ·intro w'
      go_simp
      with_reducible rfl
     rotate_left
     ·simp only [Act.put,List.setIfInBounds_toArray,List.set_cons_zero,List.set_cons_succ,i64_w,i32_w]
      rfl
     refine pure_ (i:=4) (N:=some 22) (v:=?_) (a':=?_) #[tT,tT,tT,tT,tT,fF,fF,fF,fF] rfl rfl (any_of HT_.out (by kernel_rfl)) (fun _ _ _ h=>h) (Or.inl ⟨by rfl,?_⟩) ?_ ?_
     rotate_left
     ·intro w'
      go_simp
      with_reducible rfl
     rotate_left
     ·simp only [Act.put,List.setIfInBounds_toArray,List.set_cons_zero,List.set_cons_succ,i64_w,i32_w]
      rfl
     refine pure_ (i:=5) (N:=some 23) (v:=?_) (a':=?_) #[tT,tT,tT,tT,tT,tT,fF,fF,fF] rfl rfl (any_of HT_.out (by kernel_rfl)) (fun _ _ _ h=>h) (Or.inl ⟨by rfl,?_⟩) ?_ ?_
     rotate_left
     ·intro w'
      go_simp
      with_reducible rfl
     rotate_left
     ·simp only [Act.put,List.setIfInBounds_toArray,List.set_cons_zero,List.set_cons_succ,i64_w,i32_w]
      rfl
     refine pure_ (i:=6) (N:=some 24) (v:=?_) (a':=?_) #[tT,tT,tT,tT,tT,tT,tT,fF,fF] rfl rfl (any_of HT_.out (by kernel_rfl)) (fun _ _ _ h=>h) (Or.inl ⟨by rfl,?_⟩) ?_ ?_
     rotate_left
     ·intro w'
      go_simp
      with_reducible rfl
     rotate_left
     ·simp only [Act.put,List.setIfInBounds_toArray,List.set_cons_zero,List.set_cons_succ,i64_w,i32_w]
      rfl
     refine one_ (i:=7) (N:=some 7) #[tT,tT,tT,tT,tT,tT,tT,tT,fF] rfl rfl (one_of HT_.out (by kernel_rfl)) (by decide) (fun K hK=>?_)
     refine box_step ?hg (N:=7) ?hd (cs:=#[.int .i64 0,.int .i64 0]) (t:=77) ?hr ?_;(case hd=>rfl);(case hg=>rfl);(case hr=>first|(go_simp;done)|(go_simp;rfl))
     intro F3 hg w38 hbox hb
     have n0_:=aK (qk_ (g:=j6) (o:=.cells #[.int .i64 0,.int .i64 0] 77 (0,0)) (by (with_reducible repeat (first|refine qg_ ?_ _|refine qj_ ?_|refine qf_ ?_ _));exact j3.out) hb)
     have n1_:=aK (qh_ (by repeat (first|(with_reducible first|exact HB.out|apply qb_|apply qa_|apply qc_|refine qi_ ?_ o9.out)|exact HB.out)) hb)
     have n2_:=aK (hbox)
     have n3_:=aK ((by rw [hg];exact (ql_ (by repeat (first|(with_reducible first|exact HB.out|apply qb_|apply qa_|apply qc_|refine qi_ ?_ o9.out)|exact HB.out))):w.heap.size≤F3))
     have n4_:=aK ((by rw [hg];exact (ql_ (by repeat (first|(with_reducible first|exact HB.out|apply qb_|apply qa_|apply qc_|refine qi_ ?_ o9.out)|exact HB.out))):w.heap.size≤F3))
     have n5_:=aK ((by rw [hg];exact Nat.ne_of_lt (blk_lt (g:=j6) (o:=.cells #[.int .i64 0,.int .i64 0] 77 (0,0)) (by (with_reducible repeat (first|refine qg_ ?_ _|refine qj_ ?_|refine qf_ ?_ _));exact j3.out)):j6≠F3))
     have n6_:=aK ((by rw [hg];exact Nat.ne_of_gt (blk_lt (g:=j6) (o:=.cells #[.int .i64 0,.int .i64 0] 77 (0,0)) (by (with_reducible repeat (first|refine qg_ ?_ _|refine qj_ ?_|refine qf_ ?_ _));exact j3.out)):F3≠j6))
     clear j3
     clear HB
     have j3:=n0_
     have HB:=n1_
     have z8:=n2_
     have GW324:=n3_
     have aQ3:=n4_
     have r9:=n5_
     have I7:=n6_
     clear n0_ n1_ n2_ n3_ n4_ n5_ n6_
     clear hb hbox hg
     refine hK.out _ _ trivial (fun hHeld=>?_)
     clear hK K
     refine norm_ (a':=?_) ?_ ?_
     rotate_left
     ·show Act.put _ (some 7) _=_
      simp only [Act.put,List.setIfInBounds_toArray,List.set_cons_zero,List.set_cons_succ,i64_w,i32_w]
      rfl
     refine one_ (i:=8) (N:=none) #[tT,tT,tT,tT,tT,tT,tT,tT,tT] rfl rfl (one_of HT_.out (by kernel_rfl)) (by decide) (fun K hK=>?_)
     have hs39:w38.cell? ⟨F3,0,none⟩=some (.int .i64 0):=(qe_ z8.out 0).trans rfl
     have hfs39:=qd_ z8.out 0
     have hns39_0:=r9.out
     have hms39_0:=I7.out
     have hs40:w38.cell? ⟨F3,1,none⟩=some (.int .i64 0):=(qe_ z8.out 1).trans rfl
     have hfs40:=qd_ z8.out 1
     have hns40_0:=r9.out
     have hms40_0:=I7.out
     refine skip_ (w1:=?_) (by rfl) rfl ?_ ?_
     rotate_left
     ·go_simp
      rfl
     refine hK.out _ _ trivial (fun hHeld=>?_)
     clear hK K
     refine done_ (done_of HT_.out (by kernel_rfl)) ?_
     have hnb41:=I7.out
     have hnc41:=r9.out
     have hcz42_0:w38.cell? ⟨F3,0,none⟩=some (.int .i64 0):=(qe_ z8.out 0).trans rfl
     have hcz42_1:w38.cell? ⟨F3,1,none⟩=some (.int .i64 0):=(qe_ z8.out 1).trans rfl
     have hfz42_0:=qd_ z8.out 0
     have hfz42_1:=qd_ z8.out 1
     try go_wp2_with (first|((with_reducible refine qy_ (f:=151) rfl ?_);refine goesL_ (some 26) rfl rfl Try.func151 (by kernel_rfl) rfl #[.agg #[.int .i64 (wrap64 (Int.tdiv a0 j5)),.int .i64 (wrap64 (Int.tdiv a1 j5))]] rfl (by (try simp only [List.map_toArray,List.map_cons,List.map_nil]);first|done|rfl|(simp only [List.length_drop,List.length_take];rfl)) ?_;(with_reducible refine (qx_.calls k (wrap64 (Int.tdiv a0 j5)) (wrap64 (Int.tdiv a1 j5)) true _ A33.out).mono ?_);rintro e w43 ⟨rfl,hb⟩;refine ⟨_,rfl,?_⟩;have n0_:=aK (qk_ (g:=j6) (o:=.cells #[.int .i64 0,.int .i64 0] 77 (0,0)) (by (with_reducible repeat (first|refine qg_ ?_ _|refine qj_ ?_|refine qf_ ?_ _));refine qr1_ ?_ r9.out _;(with_reducible repeat (first|refine qg_ ?_ _|refine qj_ ?_|refine qf_ ?_ _));refine qr1_ ?_ r9.out _;(with_reducible repeat (first|refine qg_ ?_ _|refine qj_ ?_|refine qf_ ?_ _));exact j3.out) hb);have n1_:=aK (qk_ (g:=F3) (o:=.cells #[.int .i64 (wrap64 (Int.tdiv a0 j5)),.int .i64 (wrap64 (Int.tdiv a1 j5))] 77 (0,0)) (by (with_reducible repeat (first|refine qg_ ?_ _|refine qj_ ?_|refine qf_ ?_ _));refine ql1_ (cs:=#[.int .i64 (wrap64 (Int.tdiv a0 j5)),.int .i64 0]) ?_ 1 _ rfl;(with_reducible repeat (first|refine qg_ ?_ _|refine qj_ ?_|refine qf_ ?_ _));refine ql1_ (cs:=#[.int .i64 0,.int .i64 0]) ?_ 0 _ rfl;(with_reducible repeat (first|refine qg_ ?_ _|refine qj_ ?_|refine qf_ ?_ _));exact z8.out) hb);have n2_:=aK (qh_ (by repeat (first|(with_reducible first|exact HB.out|apply qb_|apply qa_|apply qc_|refine qi_ ?_ o9.out|refine qi_ ?_ aQ3.out)|exact HB.out)) hb);clear j3;clear z8;clear HB;have j3:=n0_;have z8:=n1_;have HB:=n2_;clear n0_ n1_ n2_;(try clear hb);(try clear hb2);(try clear hk);(try clear hi);have hcz44_0:w43.cell? ⟨F3,0,none⟩=some (.int .i64 (wrap64 (Int.tdiv a0 j5))):=(qe_ z8.out 0).trans rfl;have hcz44_1:w43.cell? ⟨F3,1,none⟩=some (.int .i64 (wrap64 (Int.tdiv a1 j5))):=(qe_ z8.out 1).trans rfl;have hfz44_0:=qd_ z8.out 0;have hfz44_1:=qd_ z8.out 1;have hcz45_0:w43.cell? ⟨j6,0,none⟩=some (.int .i64 0):=(qe_ j3.out 0).trans rfl;have hcz45_1:w43.cell? ⟨j6,1,none⟩=some (.int .i64 0):=(qe_ j3.out 1).trans rfl;have hfz45_0:=qd_ j3.out 0;have hfz45_1:=qd_ j3.out 1))
     refine bodyPost_ret (results_ct rfl _ _ j6 77 #[.int .i64 (wrap64 (Int.tdiv a0 j5)),.int .i64 (wrap64 (Int.tdiv a1 j5))] (0,0) _ rfl (by (with_reducible repeat (first|refine qg_ ?_ _|refine qj_ ?_|refine qf_ ?_ _));refine ql1_ (cs:=#[.int .i64 (wrap64 (Int.tdiv a0 j5)),.int .i64 0]) ?_ 1 _ rfl;(with_reducible repeat (first|refine qg_ ?_ _|refine qj_ ?_|refine qf_ ?_ _));refine ql1_ (cs:=#[.int .i64 0,.int .i64 0]) ?_ 0 _ rfl;(with_reducible repeat (first|refine qg_ ?_ _|refine qj_ ?_|refine qf_ ?_ _));exact j3.out) Try.underlying77 rfl (by kernel_rfl)) rfl ?_
     exact ⟨by first|rfl|(simp [qn_,qo_] <;> rfl)|(simp [*,qn_,qo_] <;> rfl),by repeat (first|(with_reducible first|exact HB.out|apply qb_|apply qa_|apply qc_|refine qi_ ?_ o9.out|refine qi_ ?_ aQ3.out)|exact HB.out)⟩
    ·replace c34:=Bool.eq_false_iff.mpr c34
     subst c34
     have H1:(some (0,0,false))=some (r1,r2,r3):=by rw [if_neg (show ¬ (false=true) by decide)] at H;exact H
     clear H
     have H:=H1
     clear H1
     simp only [Option.some.injEq,Prod.mk.injEq] at H
     obtain ⟨rfl,rfl,rfl⟩:=H
     go_enter Try.func177,Try.ntmps177
     try go_wp2_with (first|((with_reducible refine qt_ (N:=4) rfl ?_);refine qr_ ?hg (N:=4) ?hd (cs:=#[.int .i64 0,.int .i64 0]) (t:=77) ?hr ?_;(case hd=>rfl);(case hg=>rfl);(case hr=>first|(go_simp;done)|(go_simp;rfl));intro j6 hg w46 hbox hb;have n0_:=aK (qh_ (by repeat (first|(with_reducible first|exact HB.out|apply qb_|apply qa_|apply qc_)|exact HB.out)) hb);have n1_:=aK (hbox);have n2_:=aK ((by rw [hg];exact (ql_ (by repeat (first|(with_reducible first|exact HB.out|apply qb_|apply qa_|apply qc_)|exact HB.out))):w.heap.size≤j6));have n3_:=aK ((by rw [hg];exact (ql_ (by repeat (first|(with_reducible first|exact HB.out|apply qb_|apply qa_|apply qc_)|exact HB.out))):w.heap.size≤j6));clear HB;have HB:=n0_;have j3:=n1_;have aZ9:=n2_;have o9:=n3_;clear n0_ n1_ n2_ n3_;clear hb hbox hg)|((with_reducible refine qy_ (f:=205) rfl ?_);refine goesL_ (some 13) rfl rfl Try.func205 (by kernel_rfl) rfl #[.int .i64 a0,.int .i64 a1] rfl (by (try simp only [List.map_toArray,List.map_cons,List.map_nil]);first|done|rfl|(simp only [List.length_drop,List.length_take];rfl)) ?_;(with_reducible refine (qi1_.calls k a0 a1 j5 _ A6.out).mono ?_);rintro e w47 ⟨rfl,hb⟩;refine ⟨_,rfl,?_⟩;have n0_:=aK (qk_ (g:=j6) (o:=.cells #[.int .i64 0,.int .i64 0] 77 (0,0)) (by (with_reducible repeat (first|refine qg_ ?_ _|refine qj_ ?_|refine qf_ ?_ _));exact j3.out) hb);have n1_:=aK (qh_ (by repeat (first|(with_reducible first|exact HB.out|apply qb_|apply qa_|apply qc_|refine qi_ ?_ o9.out)|exact HB.out)) hb);clear j3;clear HB;have j3:=n0_;have HB:=n1_;clear n0_ n1_;(try clear hb);(try clear hb2);(try clear hk);(try clear hi)))
     have n0_:=aK (qj_ j3.out)
     have n1_:=aK (qc_ HB.out)
     clear j3
     clear HB
     have j3:=n0_
     have HB:=n1_
     clear n0_ n1_
     refine start_ (n:=9) (S:=fun w'=>True) (ds:=[]) #[fF,fF,fF,fF,fF,fF,fF,fF,fF] (by kernel_rfl) rfl rfl trivial (fun hHeld=>?_);refine with_tabW qn1_.tab6 qn1_.bits6 (fun HT_ HW_=>?_)
     generalize w47.drew=w48 at j3 HB hHeld ⊢
     refine pure_ (i:=0) (N:=some 18) (v:=?_) (a':=?_) #[tT,fF,fF,fF,fF,fF,fF,fF,fF] rfl rfl (any_of HT_.out (by kernel_rfl)) (fun _ _ _ h=>h) (Or.inl ⟨by rfl,?_⟩) ?_ ?_
     rotate_left
     ·intro w'
      go_simp
      with_reducible rfl
     rotate_left
     ·simp only [Act.put,List.setIfInBounds_toArray,List.set_cons_zero,List.set_cons_succ,i64_w,i32_w]
      rfl
     refine pure_ (i:=1) (N:=some 19) (v:=?_) (a':=?_) #[tT,tT,fF,fF,fF,fF,fF,fF,fF] rfl rfl (any_of HT_.out (by kernel_rfl)) (fun _ _ _ h=>h) (Or.inl ⟨by rfl,?_⟩) ?_ ?_
     rotate_left
     ·intro w'
      go_simp
      with_reducible rfl
     rotate_left
     ·simp only [Act.put,List.setIfInBounds_toArray,List.set_cons_zero,List.set_cons_succ,i64_w,i32_w]
      rfl
     refine pure_ (i:=2) (N:=some 20) (v:=?_) (a':=?_) #[tT,tT,tT,fF,fF,fF,fF,fF,fF] rfl rfl (any_of HT_.out (by kernel_rfl)) (fun _ _ _ h=>h) (Or.inl ⟨by rfl,?_⟩) ?_ ?_
     rotate_left
     ·intro w'
      go_simp
      with_reducible rfl
     rotate_left
     ·simp only [Act.put,List.setIfInBounds_toArray,List.set_cons_zero,List.set_cons_succ,i64_w,i32_w]
      rfl
     refine pure_ (i:=3) (N:=some 21) (v:=?_) (a':=?_) #[tT,tT,tT,tT,fF,fF,fF,fF,fF] rfl rfl (any_of HT_.out (by kernel_rfl)) (fun _ _ _ h=>h) (Or.inl ⟨by rfl,?_⟩) ?_ ?_
     rotate_left
     ·intro w'
      go_simp
      with_reducible rfl
     rotate_left
     ·simp only [Act.put,List.setIfInBounds_toArray,List.set_cons_zero,List.set_cons_succ,i64_w,i32_w]
      rfl
     refine pure_ (i:=4) (N:=some 22) (v:=?_) (a':=?_) #[tT,tT,tT,tT,tT,fF,fF,fF,fF] rfl rfl (any_of HT_.out (by kernel_rfl)) (fun _ _ _ h=>h) (Or.inl ⟨by rfl,?_⟩) ?_ ?_
     rotate_left
     ·intro w'
      go_simp
      with_reducible rfl
     rotate_left
     ·simp only [Act.put,List.setIfInBounds_toArray,List.set_cons_zero,List.set_cons_succ,i64_w,i32_w]
      rfl
     refine pure_ (i:=5) (N:=some 23) (v:=?_) (a':=?_) #[tT,tT,tT,tT,tT,tT,fF,fF,fF] rfl rfl (any_of HT_.out (by kernel_rfl)) (fun _ _ _ h=>h) (Or.inl ⟨by rfl,?_⟩) ?_ ?_
     rotate_left
     ·intro w'
      go_simp
      with_reducible rfl
     rotate_left
     ·simp only [Act.put,List.setIfInBounds_toArray,List.set_cons_zero,List.set_cons_succ,i64_w,i32_w]
      rfl
     refine pure_ (i:=6) (N:=some 24) (v:=?_) (a':=?_) #[tT,tT,tT,tT,tT,tT,tT,fF,fF] rfl rfl (any_of HT_.out (by kernel_rfl)) (fun _ _ _ h=>h) (Or.inl ⟨by rfl,?_⟩) ?_ ?_
     rotate_left
     ·intro w'
      go_simp
      with_reducible rfl
     rotate_left
     ·simp only [Act.put,List.setIfInBounds_toArray,List.set_cons_zero,List.set_cons_succ,i64_w,i32_w]
      rfl
     refine one_ (i:=7) (N:=some 7) #[tT,tT,tT,tT,tT,tT,tT,tT,fF] rfl rfl (one_of HT_.out (by kernel_rfl)) (by decide) (fun K hK=>?_)
     refine box_step ?hg (N:=7) ?hd (cs:=#[.int .i64 0,.int .i64 0]) (t:=77) ?hr ?_;(case hd=>rfl);(case hg=>rfl);(case hr=>first|(go_simp;done)|(go_simp;rfl))
     intro F3 hg w49 hbox hb
     have n0_:=aK (qk_ (g:=j6) (o:=.cells #[.int .i64 0,.int .i64 0] 77 (0,0)) (by (with_reducible repeat (first|refine qg_ ?_ _|refine qj_ ?_|refine qf_ ?_ _));exact j3.out) hb)
     have n1_:=aK (qh_ (by repeat (first|(with_reducible first|exact HB.out|apply qb_|apply qa_|apply qc_|refine qi_ ?_ o9.out)|exact HB.out)) hb)
     have n2_:=aK (hbox)
     have n3_:=aK ((by rw [hg];exact (ql_ (by repeat (first|(with_reducible first|exact HB.out|apply qb_|apply qa_|apply qc_|refine qi_ ?_ o9.out)|exact HB.out))):w.heap.size≤F3))
     have n4_:=aK ((by rw [hg];exact (ql_ (by repeat (first|(with_reducible first|exact HB.out|apply qb_|apply qa_|apply qc_|refine qi_ ?_ o9.out)|exact HB.out))):w.heap.size≤F3))
     have n5_:=aK ((by rw [hg];exact Nat.ne_of_lt (blk_lt (g:=j6) (o:=.cells #[.int .i64 0,.int .i64 0] 77 (0,0)) (by (with_reducible repeat (first|refine qg_ ?_ _|refine qj_ ?_|refine qf_ ?_ _));exact j3.out)):j6≠F3))
     have n6_:=aK ((by rw [hg];exact Nat.ne_of_gt (blk_lt (g:=j6) (o:=.cells #[.int .i64 0,.int .i64 0] 77 (0,0)) (by (with_reducible repeat (first|refine qg_ ?_ _|refine qj_ ?_|refine qf_ ?_ _));exact j3.out)):F3≠j6))
     clear j3
     clear HB
     have j3:=n0_
     have HB:=n1_
     have z8:=n2_
     have GW324:=n3_
     have aQ3:=n4_
     have r9:=n5_
     have I7:=n6_
     clear n0_ n1_ n2_ n3_ n4_ n5_ n6_
     clear hb hbox hg
     refine hK.out _ _ trivial (fun hHeld=>?_)
     clear hK K
     refine norm_ (a':=?_) ?_ ?_
     rotate_left
     ·show Act.put _ (some 7) _=_
      simp only [Act.put,List.setIfInBounds_toArray,List.set_cons_zero,List.set_cons_succ,i64_w,i32_w]
      rfl
     refine one_ (i:=8) (N:=none) #[tT,tT,tT,tT,tT,tT,tT,tT,tT] rfl rfl (one_of HT_.out (by kernel_rfl)) (by decide) (fun K hK=>?_)
     have hs50:w49.cell? ⟨F3,0,none⟩=some (.int .i64 0):=(qe_ z8.out 0).trans rfl
     have hfs50:=qd_ z8.out 0
     have hns50_0:=r9.out
     have hms50_0:=I7.out
     have hs51:w49.cell? ⟨F3,1,none⟩=some (.int .i64 0):=(qe_ z8.out 1).trans rfl
     have hfs51:=qd_ z8.out 1
     have hns51_0:=r9.out
     have hms51_0:=I7.out
     refine skip_ (w1:=?_) (by rfl) rfl ?_ ?_
     rotate_left
     ·go_simp
      rfl
     refine hK.out _ _ trivial (fun hHeld=>?_)
     clear hK K
     refine done_ (done_of HT_.out (by kernel_rfl)) ?_
     have hnb52:=I7.out
     have hnc52:=r9.out
     have hcz53_0:w49.cell? ⟨F3,0,none⟩=some (.int .i64 0):=(qe_ z8.out 0).trans rfl
     have hcz53_1:w49.cell? ⟨F3,1,none⟩=some (.int .i64 0):=(qe_ z8.out 1).trans rfl
     have hfz53_0:=qd_ z8.out 0
     have hfz53_1:=qd_ z8.out 1
     try go_wp2_with (first|((with_reducible refine qy_ (f:=151) rfl ?_);refine goesL_ (some 26) rfl rfl Try.func151 (by kernel_rfl) rfl #[.agg #[.int .i64 (wrap64 (Int.tdiv a0 j5)),.int .i64 (wrap64 (Int.tdiv a1 j5))]] rfl (by (try simp only [List.map_toArray,List.map_cons,List.map_nil]);first|done|rfl|(simp only [List.length_drop,List.length_take];rfl)) ?_;(with_reducible refine (qx_.calls k (wrap64 (Int.tdiv a0 j5)) (wrap64 (Int.tdiv a1 j5)) false _ A33.out).mono ?_);rintro e w54 ⟨rfl,hb⟩;refine ⟨_,rfl,?_⟩;have n0_:=aK (qk_ (g:=j6) (o:=.cells #[.int .i64 0,.int .i64 0] 77 (0,0)) (by (with_reducible repeat (first|refine qg_ ?_ _|refine qj_ ?_|refine qf_ ?_ _));refine qr1_ ?_ r9.out _;(with_reducible repeat (first|refine qg_ ?_ _|refine qj_ ?_|refine qf_ ?_ _));refine qr1_ ?_ r9.out _;(with_reducible repeat (first|refine qg_ ?_ _|refine qj_ ?_|refine qf_ ?_ _));exact j3.out) hb);have n1_:=aK (qk_ (g:=F3) (o:=.cells #[.int .i64 (wrap64 (Int.tdiv a0 j5)),.int .i64 (wrap64 (Int.tdiv a1 j5))] 77 (0,0)) (by (with_reducible repeat (first|refine qg_ ?_ _|refine qj_ ?_|refine qf_ ?_ _));refine ql1_ (cs:=#[.int .i64 (wrap64 (Int.tdiv a0 j5)),.int .i64 0]) ?_ 1 _ rfl;(with_reducible repeat (first|refine qg_ ?_ _|refine qj_ ?_|refine qf_ ?_ _));refine ql1_ (cs:=#[.int .i64 0,.int .i64 0]) ?_ 0 _ rfl;(with_reducible repeat (first|refine qg_ ?_ _|refine qj_ ?_|refine qf_ ?_ _));exact z8.out) hb);have n2_:=aK (qh_ (by repeat (first|(with_reducible first|exact HB.out|apply qb_|apply qa_|apply qc_|refine qi_ ?_ o9.out|refine qi_ ?_ aQ3.out)|exact HB.out)) hb);clear j3;clear z8;clear HB;have j3:=n0_;have z8:=n1_;have HB:=n2_;clear n0_ n1_ n2_;(try clear hb);(try clear hb2);(try clear hk);(try clear hi);have hcz55_0:w54.cell? ⟨j6,0,none⟩=some (.int .i64 0):=(qe_ j3.out 0).trans rfl;have hcz55_1:w54.cell? ⟨j6,1,none⟩=some (.int .i64 0):=(qe_ j3.out 1).trans rfl;have hfz55_0:=qd_ j3.out 0;have hfz55_1:=qd_ j3.out 1))
     refine bodyPost_ret (results_ct rfl _ _ j6 77 #[.int .i64 0,.int .i64 0] (0,0) _ rfl (by (with_reducible repeat (first|refine qg_ ?_ _|refine qj_ ?_|refine qf_ ?_ _));refine ql1_ (cs:=#[.int .i64 0,.int .i64 0]) ?_ 1 _ rfl;(with_reducible repeat (first|refine qg_ ?_ _|refine qj_ ?_|refine qf_ ?_ _));refine ql1_ (cs:=#[.int .i64 0,.int .i64 0]) ?_ 0 _ rfl;(with_reducible repeat (first|refine qg_ ?_ _|refine qj_ ?_|refine qf_ ?_ _));exact j3.out) Try.underlying77 rfl (by kernel_rfl)) rfl ?_
     exact ⟨by first|rfl|(simp [qn_,qo_] <;> rfl)|(simp [*,qn_,qo_] <;> rfl),by repeat (first|(with_reducible first|exact HB.out|apply qb_|apply qa_|apply qc_|refine qi_ ?_ o9.out|refine qi_ ?_ aQ3.out)|exact HB.out)⟩
end Go.Proofs.Ytaiefdhenikiiaa.Base
namespace Go.Proofs.Ytaiefdhenikiiaa.Base
open Go.RowKit Go.Proofs.YtaiefdhenikiiaaW.PrintWords Go.Proofs.YtaiefdhenikiiaaW.PrintLast Go.Proofs.YtaiefdhenikiiaaW.PrintMore
attribute [local go_sem] max2_int qp1_ max_two min_two max_three min_three max_four min_four Go.Proofs.YtaiefdhenikiiaaZ.qw_   -- for this text's walks alone
set_option linter.unusedVariables false
set_option linter.unusedSimpArgs false
def qr2_.f (k:Nat) (a0_0:Int) (a0_1:Int) (a1_0:Int) (a1_1:Int):Option (Int × Int × Bool):=(qn1_.f k (wrap64 ((wrap64 (a0_0*a1_1))+(wrap64 (a1_0*a0_1)))) (wrap64 (a0_1*a1_1))).bind fun Y5=>(some (Y5.1,Y5.2.1,Y5.2.2))
theorem qr2_.mono:∀ a0 a1 a2 a3 k,LeO (qr2_.f k a0 a1 a2 a3) (qr2_.f (k+1) a0 a1 a2 a3):=by
 intro a0 a1 a2 a3 k
 unfold qr2_.f
 repeat' first
   | (with_reducible exact qn1_.mono _ _ _)
   | (with_reducible exact LeO.refl _)
   | (with_reducible exact LeO.none _)
   | (with_reducible refine LeO.ite ?_ ?_)
   | (with_reducible refine LeO.bind ?_ (fun _=>?_))
   | exact qn1_.mono _ _ _
   | exact LeO.none _
   | refine LeO.ite ?_ ?_
   | refine LeO.bind ?_ (fun _=>?_)
set_option maxHeartbeats 8000000 in
set_option maxRecDepth 100000 in
theorem qr2_.calls (k:Nat) (a0_0:Int) (a0_1:Int) (a1_0:Int) (a1_1:Int) (r1:Int) (r2:Int) (r3:Bool) (w:World) (h:qr2_.f k a0_0 a0_1 a1_0 a1_1=some (r1,r2,r3)) :
  Calls Try.prog 187 #[.agg #[.int .i64 a0_0,.int .i64 a0_1],.agg #[.int .i64 a1_0,.int .i64 a1_1]] w fun e w'=>e=.returned (.tuple #[.agg #[.int .i64 r1,.int .i64 r2],.bool r3])∧Below w.heap.size w w':=by
 have hu77:=Try.underlying77
 have HB:=aK (Below.refl w.heap.size w)
 have H:((qn1_.f k (wrap64 ((wrap64 (a0_0*a1_1))+(wrap64 (a1_0*a0_1)))) (wrap64 (a0_1*a1_1))).bind fun Y5=>(some (Y5.1,Y5.2.1,Y5.2.2)))=some (r1,r2,r3):=h
 clear h
 replace H:=Option.bind_eq_some_iff.mp H
 obtain ⟨⟨aV0,aW8,bQ2⟩,A30,H⟩:=H
 replace H:(some (aV0,aW8,bQ2))=some (r1,r2,r3):=H
 have A3:=aK A30
 clear A30
 simp only [Option.some.injEq,Prod.mk.injEq] at H
 obtain ⟨rfl,rfl,rfl⟩:=H
 go_enter Try.func187,Try.ntmps187
 go_wp2_with (first|((with_reducible refine qt_ (N:=2) rfl ?_);refine qr_ ?hg (N:=2) ?hd (cs:=#[.int .i64 a0_0,.int .i64 a0_1]) (t:=77) ?hr ?_;(case hd=>rfl);(case hg=>rfl);(case hr=>first|(go_simp;done)|(go_simp;rfl));intro F6 hg w4 hbox hb;have n0_:=aK (qh_ (by repeat (first|(with_reducible first|exact HB.out|apply qb_|apply qa_|apply qc_)|exact HB.out)) hb);have n1_:=aK (hbox);have n2_:=aK ((by rw [hg];exact (ql_ (by repeat (first|(with_reducible first|exact HB.out|apply qb_|apply qa_|apply qc_)|exact HB.out))):w.heap.size≤F6));have n3_:=aK ((by rw [hg];exact (ql_ (by repeat (first|(with_reducible first|exact HB.out|apply qb_|apply qa_|apply qc_)|exact HB.out))):w.heap.size≤F6));clear HB;have HB:=n0_;have D8:=n1_;have GW326:=n2_;have R9:=n3_;clear n0_ n1_ n2_ n3_;clear hb hbox hg)|((with_reducible refine qt_ (N:=3) rfl ?_);refine qr_ ?hg (N:=3) ?hd (cs:=#[.int .i64 a1_0,.int .i64 a1_1]) (t:=77) ?hr ?_;(case hd=>rfl);(case hg=>rfl);(case hr=>first|(go_simp;done)|(go_simp;rfl));intro J2 hg w5 hbox hb;have n0_:=aK (qk_ (g:=F6) (o:=.cells #[.int .i64 a0_0,.int .i64 a0_1] 77 (0,0)) (by (with_reducible repeat (first|refine qg_ ?_ _|refine qj_ ?_|refine qf_ ?_ _));exact D8.out) hb);have n1_:=aK (qh_ (by repeat (first|(with_reducible first|exact HB.out|apply qb_|apply qa_|apply qc_|refine qi_ ?_ R9.out)|exact HB.out)) hb);have n2_:=aK (hbox);have n3_:=aK ((by rw [hg];exact (ql_ (by repeat (first|(with_reducible first|exact HB.out|apply qb_|apply qa_|apply qc_|refine qi_ ?_ R9.out)|exact HB.out))):w.heap.size≤J2));have n4_:=aK ((by rw [hg];exact (ql_ (by repeat (first|(with_reducible first|exact HB.out|apply qb_|apply qa_|apply qc_|refine qi_ ?_ R9.out)|exact HB.out))):w.heap.size≤J2));have n5_:=aK ((by rw [hg];exact Nat.ne_of_lt (blk_lt (g:=F6) (o:=.cells #[.int .i64 a0_0,.int .i64 a0_1] 77 (0,0)) (by (with_reducible repeat (first|refine qg_ ?_ _|refine qj_ ?_|refine qf_ ?_ _));exact D8.out)):F6≠J2));have n6_:=aK ((by rw [hg];exact Nat.ne_of_gt (blk_lt (g:=F6) (o:=.cells #[.int .i64 a0_0,.int .i64 a0_1] 77 (0,0)) (by (with_reducible repeat (first|refine qg_ ?_ _|refine qj_ ?_|refine qf_ ?_ _));exact D8.out)):J2≠F6));clear D8;clear HB;have D8:=n0_;have HB:=n1_;have J6:=n2_;have GW327:=n3_;have V7:=n4_;have NB326_327:=n5_;have NB327_326:=n6_;clear n0_ n1_ n2_ n3_ n4_ n5_ n6_;clear hb hbox hg)|((with_reducible refine qt_ (N:=4) rfl ?_);refine qr_ ?hg (N:=4) ?hd (cs:=#[.int .i64 0,.int .i64 0]) (t:=77) ?hr ?_;(case hd=>rfl);(case hg=>rfl);(case hr=>first|(go_simp;done)|(go_simp;rfl));intro M7 hg w6 hbox hb;have n0_:=aK (qk_ (g:=F6) (o:=.cells #[.int .i64 a0_0,.int .i64 a0_1] 77 (0,0)) (by (with_reducible repeat (first|refine qg_ ?_ _|refine qj_ ?_|refine qf_ ?_ _));exact D8.out) hb);have n1_:=aK (qk_ (g:=J2) (o:=.cells #[.int .i64 a1_0,.int .i64 a1_1] 77 (0,0)) (by (with_reducible repeat (first|refine qg_ ?_ _|refine qj_ ?_|refine qf_ ?_ _));exact J6.out) hb);have n2_:=aK (qh_ (by repeat (first|(with_reducible first|exact HB.out|apply qb_|apply qa_|apply qc_|refine qi_ ?_ R9.out|refine qi_ ?_ V7.out)|exact HB.out)) hb);have n3_:=aK (hbox);have n4_:=aK ((by rw [hg];exact (ql_ (by repeat (first|(with_reducible first|exact HB.out|apply qb_|apply qa_|apply qc_|refine qi_ ?_ R9.out|refine qi_ ?_ V7.out)|exact HB.out))):w.heap.size≤M7));have n5_:=aK ((by rw [hg];exact (ql_ (by repeat (first|(with_reducible first|exact HB.out|apply qb_|apply qa_|apply qc_|refine qi_ ?_ R9.out|refine qi_ ?_ V7.out)|exact HB.out))):w.heap.size≤M7));have n6_:=aK ((by rw [hg];exact Nat.ne_of_lt (blk_lt (g:=F6) (o:=.cells #[.int .i64 a0_0,.int .i64 a0_1] 77 (0,0)) (by (with_reducible repeat (first|refine qg_ ?_ _|refine qj_ ?_|refine qf_ ?_ _));exact D8.out)):F6≠M7));have n7_:=aK ((by rw [hg];exact Nat.ne_of_gt (blk_lt (g:=F6) (o:=.cells #[.int .i64 a0_0,.int .i64 a0_1] 77 (0,0)) (by (with_reducible repeat (first|refine qg_ ?_ _|refine qj_ ?_|refine qf_ ?_ _));exact D8.out)):M7≠F6));have n8_:=aK ((by rw [hg];exact Nat.ne_of_lt (blk_lt (g:=J2) (o:=.cells #[.int .i64 a1_0,.int .i64 a1_1] 77 (0,0)) (by (with_reducible repeat (first|refine qg_ ?_ _|refine qj_ ?_|refine qf_ ?_ _));exact J6.out)):J2≠M7));have n9_:=aK ((by rw [hg];exact Nat.ne_of_gt (blk_lt (g:=J2) (o:=.cells #[.int .i64 a1_0,.int .i64 a1_1] 77 (0,0)) (by (with_reducible repeat (first|refine qg_ ?_ _|refine qj_ ?_|refine qf_ ?_ _));exact J6.out)):M7≠J2));clear D8;clear J6;clear HB;have D8:=n0_;have J6:=n1_;have HB:=n2_;have P9:=n3_;have GW328:=n4_;have aQ2:=n5_;have NB326_328:=n6_;have NB328_326:=n7_;have NB327_328:=n8_;have NB328_327:=n9_;clear n0_ n1_ n2_ n3_ n4_ n5_ n6_ n7_ n8_ n9_;clear hb hbox hg;have hnb7:=NB326_327.out;have hnc7:=NB327_326.out;have aY1:=NB326_328.out;have aX9:=NB328_326.out;have hcz9_0:w6.cell? ⟨F6,0,none⟩=some (.int .i64 a0_0):=(qe_ D8.out 0).trans rfl;have hcz9_1:w6.cell? ⟨F6,1,none⟩=some (.int .i64 a0_1):=(qe_ D8.out 1).trans rfl;have hfz9_0:=qd_ D8.out 0;have hfz9_1:=qd_ D8.out 1;have aY2:=NB327_328.out;have aY0:=NB328_327.out;have hcz11_0:w6.cell? ⟨J2,0,none⟩=some (.int .i64 a1_0):=(qe_ J6.out 0).trans rfl;have hcz11_1:w6.cell? ⟨J2,1,none⟩=some (.int .i64 a1_1):=(qe_ J6.out 1).trans rfl;have hfz11_0:=qd_ J6.out 0;have hfz11_1:=qd_ J6.out 1)|((with_reducible refine qy_ (f:=177) rfl ?_);refine goesL_ (some 25) rfl rfl Try.func177 (by kernel_rfl) rfl #[.int .i64 (wrap64 ((wrap64 (a0_0*a1_1))+(wrap64 (a1_0*a0_1)))),.int .i64 (wrap64 (a0_1*a1_1))] rfl (by (try simp only [List.map_toArray,List.map_cons,List.map_nil]);first|done|rfl|(simp only [List.length_drop,List.length_take];rfl)) ?_;(with_reducible refine (qn1_.calls k (wrap64 ((wrap64 (a0_0*a1_1))+(wrap64 (a1_0*a0_1)))) (wrap64 (a0_1*a1_1)) aV0 aW8 bQ2 _ A3.out).mono ?_);rintro e w12 ⟨rfl,hb⟩;refine ⟨_,rfl,?_⟩;have n0_:=aK (qk_ (g:=F6) (o:=.cells #[.int .i64 a0_0,.int .i64 a0_1] 77 (0,0)) (by (with_reducible repeat (first|refine qg_ ?_ _|refine qj_ ?_|refine qf_ ?_ _));exact D8.out) hb);have n1_:=aK (qk_ (g:=J2) (o:=.cells #[.int .i64 a1_0,.int .i64 a1_1] 77 (0,0)) (by (with_reducible repeat (first|refine qg_ ?_ _|refine qj_ ?_|refine qf_ ?_ _));exact J6.out) hb);have n2_:=aK (qk_ (g:=M7) (o:=.cells #[.int .i64 0,.int .i64 0] 77 (0,0)) (by (with_reducible repeat (first|refine qg_ ?_ _|refine qj_ ?_|refine qf_ ?_ _));exact P9.out) hb);have n3_:=aK (qh_ (by repeat (first|(with_reducible first|exact HB.out|apply qb_|apply qa_|apply qc_|refine qi_ ?_ R9.out|refine qi_ ?_ V7.out|refine qi_ ?_ aQ2.out)|exact HB.out)) hb);clear D8;clear J6;clear P9;clear HB;have D8:=n0_;have J6:=n1_;have P9:=n2_;have HB:=n3_;clear n0_ n1_ n2_ n3_;(try clear hb);(try clear hb2);(try clear hk);(try clear hi))|((with_reducible refine qt_ (N:=6) rfl ?_);refine qr_ ?hg (N:=6) ?hd (cs:=#[.int .i64 0,.int .i64 0]) (t:=77) ?hr ?_;(case hd=>rfl);(case hg=>rfl);(case hr=>first|(go_simp;done)|(go_simp;rfl));intro U4 hg w13 hbox hb;have n0_:=aK (qk_ (g:=F6) (o:=.cells #[.int .i64 a0_0,.int .i64 a0_1] 77 (0,0)) (by (with_reducible repeat (first|refine qg_ ?_ _|refine qj_ ?_|refine qf_ ?_ _));exact D8.out) hb);have n1_:=aK (qk_ (g:=J2) (o:=.cells #[.int .i64 a1_0,.int .i64 a1_1] 77 (0,0)) (by (with_reducible repeat (first|refine qg_ ?_ _|refine qj_ ?_|refine qf_ ?_ _));exact J6.out) hb);have n2_:=aK (qk_ (g:=M7) (o:=.cells #[.int .i64 0,.int .i64 0] 77 (0,0)) (by (with_reducible repeat (first|refine qg_ ?_ _|refine qj_ ?_|refine qf_ ?_ _));exact P9.out) hb);have n3_:=aK (qh_ (by repeat (first|(with_reducible first|exact HB.out|apply qb_|apply qa_|apply qc_|refine qi_ ?_ R9.out|refine qi_ ?_ V7.out|refine qi_ ?_ aQ2.out)|exact HB.out)) hb);have n4_:=aK (hbox);have n5_:=aK ((by rw [hg];exact (ql_ (by repeat (first|(with_reducible first|exact HB.out|apply qb_|apply qa_|apply qc_|refine qi_ ?_ R9.out|refine qi_ ?_ V7.out|refine qi_ ?_ aQ2.out)|exact HB.out))):w.heap.size≤U4));have n6_:=aK ((by rw [hg];exact (ql_ (by repeat (first|(with_reducible first|exact HB.out|apply qb_|apply qa_|apply qc_|refine qi_ ?_ R9.out|refine qi_ ?_ V7.out|refine qi_ ?_ aQ2.out)|exact HB.out))):w.heap.size≤U4));have n7_:=aK ((by rw [hg];exact Nat.ne_of_lt (blk_lt (g:=F6) (o:=.cells #[.int .i64 a0_0,.int .i64 a0_1] 77 (0,0)) (by (with_reducible repeat (first|refine qg_ ?_ _|refine qj_ ?_|refine qf_ ?_ _));exact D8.out)):F6≠U4));have n8_:=aK ((by rw [hg];exact Nat.ne_of_gt (blk_lt (g:=F6) (o:=.cells #[.int .i64 a0_0,.int .i64 a0_1] 77 (0,0)) (by (with_reducible repeat (first|refine qg_ ?_ _|refine qj_ ?_|refine qf_ ?_ _));exact D8.out)):U4≠F6));have n9_:=aK ((by rw [hg];exact Nat.ne_of_lt (blk_lt (g:=J2) (o:=.cells #[.int .i64 a1_0,.int .i64 a1_1] 77 (0,0)) (by (with_reducible repeat (first|refine qg_ ?_ _|refine qj_ ?_|refine qf_ ?_ _));exact J6.out)):J2≠U4));have n10_:=aK ((by rw [hg];exact Nat.ne_of_gt (blk_lt (g:=J2) (o:=.cells #[.int .i64 a1_0,.int .i64 a1_1] 77 (0,0)) (by (with_reducible repeat (first|refine qg_ ?_ _|refine qj_ ?_|refine qf_ ?_ _));exact J6.out)):U4≠J2));have aX8:=aK ((by rw [hg];exact Nat.ne_of_lt (blk_lt (g:=M7) (o:=.cells #[.int .i64 0,.int .i64 0] 77 (0,0)) (by (with_reducible repeat (first|refine qg_ ?_ _|refine qj_ ?_|refine qf_ ?_ _));exact P9.out)):M7≠U4));have aX7:=aK ((by rw [hg];exact Nat.ne_of_gt (blk_lt (g:=M7) (o:=.cells #[.int .i64 0,.int .i64 0] 77 (0,0)) (by (with_reducible repeat (first|refine qg_ ?_ _|refine qj_ ?_|refine qf_ ?_ _));exact P9.out)):U4≠M7));clear D8;clear J6;clear P9;clear HB;have D8:=n0_;have J6:=n1_;have P9:=n2_;have HB:=n3_;have aX2:=n4_;have GW332:=n5_;have GE332:=n6_;have NB326_332:=n7_;have NB332_326:=n8_;have NB327_332:=n9_;have NB332_327:=n10_;have U8:=aX8;have NB332_328:=aX7;clear n0_ n1_ n2_ n3_ n4_ n5_ n6_ n7_ n8_ n9_ n10_ aX8 aX7;clear hb hbox hg;have hnb14:=NB332_326.out;have hnc14:=NB326_332.out;have hnb15:=NB332_327.out;have hnc15:=NB327_332.out;have hnb16:=NB332_328.out;have hnc16:=U8.out;have hcz17_0:w13.cell? ⟨U4,0,none⟩=some (.int .i64 0):=(qe_ aX2.out 0).trans rfl;have hcz17_1:w13.cell? ⟨U4,1,none⟩=some (.int .i64 0):=(qe_ aX2.out 1).trans rfl;have hfz17_0:=qd_ aX2.out 0;have hfz17_1:=qd_ aX2.out 1;have aJ0:w13.cell? ⟨M7,0,none⟩=some (.int .i64 0):=(qe_ P9.out 0).trans rfl;have Z9:w13.cell? ⟨M7,1,none⟩=some (.int .i64 0):=(qe_ P9.out 1).trans rfl;have Z8:=qd_ P9.out 0;have Z7:=qd_ P9.out 1))
 refine bodyPost_ret (results_ct rfl _ _ M7 77 #[.int .i64 aV0,.int .i64 aW8] (0,0) _ rfl (by (with_reducible repeat (first|refine qg_ ?_ _|refine qj_ ?_|refine qf_ ?_ _));refine ql1_ (cs:=#[.int .i64 aV0,.int .i64 0]) ?_ 1 _ rfl;(with_reducible repeat (first|refine qg_ ?_ _|refine qj_ ?_|refine qf_ ?_ _));refine ql1_ (cs:=#[.int .i64 0,.int .i64 0]) ?_ 0 _ rfl;(with_reducible repeat (first|refine qg_ ?_ _|refine qj_ ?_|refine qf_ ?_ _));refine qr1_ ?_ U8.out _;(with_reducible repeat (first|refine qg_ ?_ _|refine qj_ ?_|refine qf_ ?_ _));refine qr1_ ?_ U8.out _;(with_reducible repeat (first|refine qg_ ?_ _|refine qj_ ?_|refine qf_ ?_ _));exact P9.out) Try.underlying77 rfl (by kernel_rfl)) rfl ?_
 exact ⟨by first|rfl|(simp [qn_,qo_] <;> rfl)|(simp [*,qn_,qo_] <;> rfl),by repeat (first|(with_reducible first|exact HB.out|apply qb_|apply qa_|apply qc_|refine qi_ ?_ R9.out|refine qi_ ?_ V7.out|refine qi_ ?_ aQ2.out|refine qi_ ?_ GE332.out)|exact HB.out)⟩
end Go.Proofs.Ytaiefdhenikiiaa.Base
namespace Go.Proofs.Ytaiefdhenikiiaa.Base
open Go.RowKit Go.Proofs.YtaiefdhenikiiaaW.PrintWords Go.Proofs.YtaiefdhenikiiaaW.PrintLast Go.Proofs.YtaiefdhenikiiaaW.PrintMore
attribute [local go_sem] max2_int qp1_ max_two min_two max_three min_three max_four min_four Go.Proofs.YtaiefdhenikiiaaZ.qw_   -- for this text's walks alone
set_option linter.unusedVariables false
set_option linter.unusedSimpArgs false
def qm2_.f (k:Nat) (a0_0:Int) (a0_1:Int) (a1_0:Int) (a1_1:Int):Option (Int × Int × Bool):=(qn1_.f k (wrap64 (a0_0*a1_0)) (wrap64 (a0_1*a1_1))).bind fun Y3=>(some (Y3.1,Y3.2.1,Y3.2.2))
theorem qm2_.mono:∀ a0 a1 a2 a3 k,LeO (qm2_.f k a0 a1 a2 a3) (qm2_.f (k+1) a0 a1 a2 a3):=by
 intro a0 a1 a2 a3 k
 unfold qm2_.f
 repeat' first
   | (with_reducible exact qn1_.mono _ _ _)
   | (with_reducible exact LeO.refl _)
   | (with_reducible exact LeO.none _)
   | (with_reducible refine LeO.ite ?_ ?_)
   | (with_reducible refine LeO.bind ?_ (fun _=>?_))
   | exact qn1_.mono _ _ _
   | exact LeO.none _
   | refine LeO.ite ?_ ?_
   | refine LeO.bind ?_ (fun _=>?_)
set_option maxHeartbeats 8000000 in
set_option maxRecDepth 100000 in
theorem qm2_.calls (k:Nat) (a0_0:Int) (a0_1:Int) (a1_0:Int) (a1_1:Int) (r1:Int) (r2:Int) (r3:Bool) (w:World) (h:qm2_.f k a0_0 a0_1 a1_0 a1_1=some (r1,r2,r3)) :
  Calls Try.prog 178 #[.agg #[.int .i64 a0_0,.int .i64 a0_1],.agg #[.int .i64 a1_0,.int .i64 a1_1]] w fun e w'=>e=.returned (.tuple #[.agg #[.int .i64 r1,.int .i64 r2],.bool r3])∧Below w.heap.size w w':=by
 have hu77:=Try.underlying77
 have HB:=aK (Below.refl w.heap.size w)
 have H:((qn1_.f k (wrap64 (a0_0*a1_0)) (wrap64 (a0_1*a1_1))).bind fun Y3=>(some (Y3.1,Y3.2.1,Y3.2.2)))=some (r1,r2,r3):=h
 clear h
 replace H:=Option.bind_eq_some_iff.mp H
 obtain ⟨⟨aY8,aW6,bQ0⟩,A30,H⟩:=H
 replace H:(some (aY8,aW6,bQ0))=some (r1,r2,r3):=H
 have A3:=aK A30
 clear A30
 simp only [Option.some.injEq,Prod.mk.injEq] at H
 obtain ⟨rfl,rfl,rfl⟩:=H
 go_enter Try.func178,Try.ntmps178
 go_wp2_with (first|((with_reducible refine qt_ (N:=2) rfl ?_);refine qr_ ?hg (N:=2) ?hd (cs:=#[.int .i64 a0_0,.int .i64 a0_1]) (t:=77) ?hr ?_;(case hd=>rfl);(case hg=>rfl);(case hr=>first|(go_simp;done)|(go_simp;rfl));intro F5 hg w4 hbox hb;have n0_:=aK (qh_ (by repeat (first|(with_reducible first|exact HB.out|apply qb_|apply qa_|apply qc_)|exact HB.out)) hb);have n1_:=aK (hbox);have n2_:=aK ((by rw [hg];exact (ql_ (by repeat (first|(with_reducible first|exact HB.out|apply qb_|apply qa_|apply qc_)|exact HB.out))):w.heap.size≤F5));have n3_:=aK ((by rw [hg];exact (ql_ (by repeat (first|(with_reducible first|exact HB.out|apply qb_|apply qa_|apply qc_)|exact HB.out))):w.heap.size≤F5));clear HB;have HB:=n0_;have D7:=n1_;have GW610:=n2_;have R8:=n3_;clear n0_ n1_ n2_ n3_;clear hb hbox hg)|((with_reducible refine qt_ (N:=3) rfl ?_);refine qr_ ?hg (N:=3) ?hd (cs:=#[.int .i64 a1_0,.int .i64 a1_1]) (t:=77) ?hr ?_;(case hd=>rfl);(case hg=>rfl);(case hr=>first|(go_simp;done)|(go_simp;rfl));intro I9 hg w5 hbox hb;have n0_:=aK (qk_ (g:=F5) (o:=.cells #[.int .i64 a0_0,.int .i64 a0_1] 77 (0,0)) (by (with_reducible repeat (first|refine qg_ ?_ _|refine qj_ ?_|refine qf_ ?_ _));exact D7.out) hb);have n1_:=aK (qh_ (by repeat (first|(with_reducible first|exact HB.out|apply qb_|apply qa_|apply qc_|refine qi_ ?_ R8.out)|exact HB.out)) hb);have n2_:=aK (hbox);have n3_:=aK ((by rw [hg];exact (ql_ (by repeat (first|(with_reducible first|exact HB.out|apply qb_|apply qa_|apply qc_|refine qi_ ?_ R8.out)|exact HB.out))):w.heap.size≤I9));have n4_:=aK ((by rw [hg];exact (ql_ (by repeat (first|(with_reducible first|exact HB.out|apply qb_|apply qa_|apply qc_|refine qi_ ?_ R8.out)|exact HB.out))):w.heap.size≤I9));have n5_:=aK ((by rw [hg];exact Nat.ne_of_lt (blk_lt (g:=F5) (o:=.cells #[.int .i64 a0_0,.int .i64 a0_1] 77 (0,0)) (by (with_reducible repeat (first|refine qg_ ?_ _|refine qj_ ?_|refine qf_ ?_ _));exact D7.out)):F5≠I9));have n6_:=aK ((by rw [hg];exact Nat.ne_of_gt (blk_lt (g:=F5) (o:=.cells #[.int .i64 a0_0,.int .i64 a0_1] 77 (0,0)) (by (with_reducible repeat (first|refine qg_ ?_ _|refine qj_ ?_|refine qf_ ?_ _));exact D7.out)):I9≠F5));clear D7;clear HB;have D7:=n0_;have HB:=n1_;have J4:=n2_;have GW611:=n3_;have V5:=n4_;have NB610_611:=n5_;have NB611_610:=n6_;clear n0_ n1_ n2_ n3_ n4_ n5_ n6_;clear hb hbox hg)|((with_reducible refine qt_ (N:=4) rfl ?_);refine qr_ ?hg (N:=4) ?hd (cs:=#[.int .i64 0,.int .i64 0]) (t:=77) ?hr ?_;(case hd=>rfl);(case hg=>rfl);(case hr=>first|(go_simp;done)|(go_simp;rfl));intro M0 hg w6 hbox hb;have n0_:=aK (qk_ (g:=F5) (o:=.cells #[.int .i64 a0_0,.int .i64 a0_1] 77 (0,0)) (by (with_reducible repeat (first|refine qg_ ?_ _|refine qj_ ?_|refine qf_ ?_ _));exact D7.out) hb);have n1_:=aK (qk_ (g:=I9) (o:=.cells #[.int .i64 a1_0,.int .i64 a1_1] 77 (0,0)) (by (with_reducible repeat (first|refine qg_ ?_ _|refine qj_ ?_|refine qf_ ?_ _));exact J4.out) hb);have n2_:=aK (qh_ (by repeat (first|(with_reducible first|exact HB.out|apply qb_|apply qa_|apply qc_|refine qi_ ?_ R8.out|refine qi_ ?_ V5.out)|exact HB.out)) hb);have n3_:=aK (hbox);have n4_:=aK ((by rw [hg];exact (ql_ (by repeat (first|(with_reducible first|exact HB.out|apply qb_|apply qa_|apply qc_|refine qi_ ?_ R8.out|refine qi_ ?_ V5.out)|exact HB.out))):w.heap.size≤M0));have n5_:=aK ((by rw [hg];exact (ql_ (by repeat (first|(with_reducible first|exact HB.out|apply qb_|apply qa_|apply qc_|refine qi_ ?_ R8.out|refine qi_ ?_ V5.out)|exact HB.out))):w.heap.size≤M0));have n6_:=aK ((by rw [hg];exact Nat.ne_of_lt (blk_lt (g:=F5) (o:=.cells #[.int .i64 a0_0,.int .i64 a0_1] 77 (0,0)) (by (with_reducible repeat (first|refine qg_ ?_ _|refine qj_ ?_|refine qf_ ?_ _));exact D7.out)):F5≠M0));have n7_:=aK ((by rw [hg];exact Nat.ne_of_gt (blk_lt (g:=F5) (o:=.cells #[.int .i64 a0_0,.int .i64 a0_1] 77 (0,0)) (by (with_reducible repeat (first|refine qg_ ?_ _|refine qj_ ?_|refine qf_ ?_ _));exact D7.out)):M0≠F5));have n8_:=aK ((by rw [hg];exact Nat.ne_of_lt (blk_lt (g:=I9) (o:=.cells #[.int .i64 a1_0,.int .i64 a1_1] 77 (0,0)) (by (with_reducible repeat (first|refine qg_ ?_ _|refine qj_ ?_|refine qf_ ?_ _));exact J4.out)):I9≠M0));have n9_:=aK ((by rw [hg];exact Nat.ne_of_gt (blk_lt (g:=I9) (o:=.cells #[.int .i64 a1_0,.int .i64 a1_1] 77 (0,0)) (by (with_reducible repeat (first|refine qg_ ?_ _|refine qj_ ?_|refine qf_ ?_ _));exact J4.out)):M0≠I9));clear D7;clear J4;clear HB;have D7:=n0_;have J4:=n1_;have HB:=n2_;have P8:=n3_;have GW612:=n4_;have aQ0:=n5_;have NB610_612:=n6_;have NB612_610:=n7_;have NB611_612:=n8_;have NB612_611:=n9_;clear n0_ n1_ n2_ n3_ n4_ n5_ n6_ n7_ n8_ n9_;clear hb hbox hg;have hnb7:=NB610_611.out;have hnc7:=NB611_610.out;have aY1:=NB610_612.out;have aX9:=NB612_610.out;have hcz9_0:w6.cell? ⟨F5,0,none⟩=some (.int .i64 a0_0):=(qe_ D7.out 0).trans rfl;have hcz9_1:w6.cell? ⟨F5,1,none⟩=some (.int .i64 a0_1):=(qe_ D7.out 1).trans rfl;have hfz9_0:=qd_ D7.out 0;have hfz9_1:=qd_ D7.out 1;have aY2:=NB611_612.out;have aY0:=NB612_611.out;have hcz11_0:w6.cell? ⟨I9,0,none⟩=some (.int .i64 a1_0):=(qe_ J4.out 0).trans rfl;have hcz11_1:w6.cell? ⟨I9,1,none⟩=some (.int .i64 a1_1):=(qe_ J4.out 1).trans rfl;have hfz11_0:=qd_ J4.out 0;have hfz11_1:=qd_ J4.out 1)|((with_reducible refine qy_ (f:=177) rfl ?_);refine goesL_ (some 19) rfl rfl Try.func177 (by kernel_rfl) rfl #[.int .i64 (wrap64 (a0_0*a1_0)),.int .i64 (wrap64 (a0_1*a1_1))] rfl (by (try simp only [List.map_toArray,List.map_cons,List.map_nil]);first|done|rfl|(simp only [List.length_drop,List.length_take];rfl)) ?_;(with_reducible refine (qn1_.calls k (wrap64 (a0_0*a1_0)) (wrap64 (a0_1*a1_1)) aY8 aW6 bQ0 _ A3.out).mono ?_);rintro e w12 ⟨rfl,hb⟩;refine ⟨_,rfl,?_⟩;have n0_:=aK (qk_ (g:=F5) (o:=.cells #[.int .i64 a0_0,.int .i64 a0_1] 77 (0,0)) (by (with_reducible repeat (first|refine qg_ ?_ _|refine qj_ ?_|refine qf_ ?_ _));exact D7.out) hb);have n1_:=aK (qk_ (g:=I9) (o:=.cells #[.int .i64 a1_0,.int .i64 a1_1] 77 (0,0)) (by (with_reducible repeat (first|refine qg_ ?_ _|refine qj_ ?_|refine qf_ ?_ _));exact J4.out) hb);have n2_:=aK (qk_ (g:=M0) (o:=.cells #[.int .i64 0,.int .i64 0] 77 (0,0)) (by (with_reducible repeat (first|refine qg_ ?_ _|refine qj_ ?_|refine qf_ ?_ _));exact P8.out) hb);have n3_:=aK (qh_ (by repeat (first|(with_reducible first|exact HB.out|apply qb_|apply qa_|apply qc_|refine qi_ ?_ R8.out|refine qi_ ?_ V5.out|refine qi_ ?_ aQ0.out)|exact HB.out)) hb);clear D7;clear J4;clear P8;clear HB;have D7:=n0_;have J4:=n1_;have P8:=n2_;have HB:=n3_;clear n0_ n1_ n2_ n3_;(try clear hb);(try clear hb2);(try clear hk);(try clear hi))|((with_reducible refine qt_ (N:=6) rfl ?_);refine qr_ ?hg (N:=6) ?hd (cs:=#[.int .i64 0,.int .i64 0]) (t:=77) ?hr ?_;(case hd=>rfl);(case hg=>rfl);(case hr=>first|(go_simp;done)|(go_simp;rfl));intro U0 hg w13 hbox hb;have n0_:=aK (qk_ (g:=F5) (o:=.cells #[.int .i64 a0_0,.int .i64 a0_1] 77 (0,0)) (by (with_reducible repeat (first|refine qg_ ?_ _|refine qj_ ?_|refine qf_ ?_ _));exact D7.out) hb);have n1_:=aK (qk_ (g:=I9) (o:=.cells #[.int .i64 a1_0,.int .i64 a1_1] 77 (0,0)) (by (with_reducible repeat (first|refine qg_ ?_ _|refine qj_ ?_|refine qf_ ?_ _));exact J4.out) hb);have n2_:=aK (qk_ (g:=M0) (o:=.cells #[.int .i64 0,.int .i64 0] 77 (0,0)) (by (with_reducible repeat (first|refine qg_ ?_ _|refine qj_ ?_|refine qf_ ?_ _));exact P8.out) hb);have n3_:=aK (qh_ (by repeat (first|(with_reducible first|exact HB.out|apply qb_|apply qa_|apply qc_|refine qi_ ?_ R8.out|refine qi_ ?_ V5.out|refine qi_ ?_ aQ0.out)|exact HB.out)) hb);have n4_:=aK (hbox);have n5_:=aK ((by rw [hg];exact (ql_ (by repeat (first|(with_reducible first|exact HB.out|apply qb_|apply qa_|apply qc_|refine qi_ ?_ R8.out|refine qi_ ?_ V5.out|refine qi_ ?_ aQ0.out)|exact HB.out))):w.heap.size≤U0));have n6_:=aK ((by rw [hg];exact (ql_ (by repeat (first|(with_reducible first|exact HB.out|apply qb_|apply qa_|apply qc_|refine qi_ ?_ R8.out|refine qi_ ?_ V5.out|refine qi_ ?_ aQ0.out)|exact HB.out))):w.heap.size≤U0));have n7_:=aK ((by rw [hg];exact Nat.ne_of_lt (blk_lt (g:=F5) (o:=.cells #[.int .i64 a0_0,.int .i64 a0_1] 77 (0,0)) (by (with_reducible repeat (first|refine qg_ ?_ _|refine qj_ ?_|refine qf_ ?_ _));exact D7.out)):F5≠U0));have n8_:=aK ((by rw [hg];exact Nat.ne_of_gt (blk_lt (g:=F5) (o:=.cells #[.int .i64 a0_0,.int .i64 a0_1] 77 (0,0)) (by (with_reducible repeat (first|refine qg_ ?_ _|refine qj_ ?_|refine qf_ ?_ _));exact D7.out)):U0≠F5));have n9_:=aK ((by rw [hg];exact Nat.ne_of_lt (blk_lt (g:=I9) (o:=.cells #[.int .i64 a1_0,.int .i64 a1_1] 77 (0,0)) (by (with_reducible repeat (first|refine qg_ ?_ _|refine qj_ ?_|refine qf_ ?_ _));exact J4.out)):I9≠U0));have n10_:=aK ((by rw [hg];exact Nat.ne_of_gt (blk_lt (g:=I9) (o:=.cells #[.int .i64 a1_0,.int .i64 a1_1] 77 (0,0)) (by (with_reducible repeat (first|refine qg_ ?_ _|refine qj_ ?_|refine qf_ ?_ _));exact J4.out)):U0≠I9));have aX8:=aK ((by rw [hg];exact Nat.ne_of_lt (blk_lt (g:=M0) (o:=.cells #[.int .i64 0,.int .i64 0] 77 (0,0)) (by (with_reducible repeat (first|refine qg_ ?_ _|refine qj_ ?_|refine qf_ ?_ _));exact P8.out)):M0≠U0));have aX7:=aK ((by rw [hg];exact Nat.ne_of_gt (blk_lt (g:=M0) (o:=.cells #[.int .i64 0,.int .i64 0] 77 (0,0)) (by (with_reducible repeat (first|refine qg_ ?_ _|refine qj_ ?_|refine qf_ ?_ _));exact P8.out)):U0≠M0));clear D7;clear J4;clear P8;clear HB;have D7:=n0_;have J4:=n1_;have P8:=n2_;have HB:=n3_;have aX1:=n4_;have GW616:=n5_;have GE616:=n6_;have NB610_616:=n7_;have NB616_610:=n8_;have NB611_616:=n9_;have NB616_611:=n10_;have U7:=aX8;have NB616_612:=aX7;clear n0_ n1_ n2_ n3_ n4_ n5_ n6_ n7_ n8_ n9_ n10_ aX8 aX7;clear hb hbox hg;have hnb14:=NB616_610.out;have hnc14:=NB610_616.out;have hnb15:=NB616_611.out;have hnc15:=NB611_616.out;have hnb16:=NB616_612.out;have hnc16:=U7.out;have hcz17_0:w13.cell? ⟨U0,0,none⟩=some (.int .i64 0):=(qe_ aX1.out 0).trans rfl;have hcz17_1:w13.cell? ⟨U0,1,none⟩=some (.int .i64 0):=(qe_ aX1.out 1).trans rfl;have hfz17_0:=qd_ aX1.out 0;have hfz17_1:=qd_ aX1.out 1;have aJ0:w13.cell? ⟨M0,0,none⟩=some (.int .i64 0):=(qe_ P8.out 0).trans rfl;have Z9:w13.cell? ⟨M0,1,none⟩=some (.int .i64 0):=(qe_ P8.out 1).trans rfl;have Z8:=qd_ P8.out 0;have Z7:=qd_ P8.out 1))
 refine bodyPost_ret (results_ct rfl _ _ M0 77 #[.int .i64 aY8,.int .i64 aW6] (0,0) _ rfl (by (with_reducible repeat (first|refine qg_ ?_ _|refine qj_ ?_|refine qf_ ?_ _));refine ql1_ (cs:=#[.int .i64 aY8,.int .i64 0]) ?_ 1 _ rfl;(with_reducible repeat (first|refine qg_ ?_ _|refine qj_ ?_|refine qf_ ?_ _));refine ql1_ (cs:=#[.int .i64 0,.int .i64 0]) ?_ 0 _ rfl;(with_reducible repeat (first|refine qg_ ?_ _|refine qj_ ?_|refine qf_ ?_ _));refine qr1_ ?_ U7.out _;(with_reducible repeat (first|refine qg_ ?_ _|refine qj_ ?_|refine qf_ ?_ _));refine qr1_ ?_ U7.out _;(with_reducible repeat (first|refine qg_ ?_ _|refine qj_ ?_|refine qf_ ?_ _));exact P8.out) Try.underlying77 rfl (by kernel_rfl)) rfl ?_
 exact ⟨by first|rfl|(simp [qn_,qo_] <;> rfl)|(simp [*,qn_,qo_] <;> rfl),by repeat (first|(with_reducible first|exact HB.out|apply qb_|apply qa_|apply qc_|refine qi_ ?_ R8.out|refine qi_ ?_ V5.out|refine qi_ ?_ aQ0.out|refine qi_ ?_ GE616.out)|exact HB.out)⟩
end Go.Proofs.Ytaiefdhenikiiaa.Base
namespace Go.Proofs.Ytaiefdhenikiiaa.Base
open Go.RowKit Go.Proofs.YtaiefdhenikiiaaW.PrintWords Go.Proofs.YtaiefdhenikiiaaW.PrintLast Go.Proofs.YtaiefdhenikiiaaW.PrintMore
attribute [local go_sem] max2_int qp1_ max_two min_two max_three min_three max_four min_four Go.Proofs.YtaiefdhenikiiaaZ.qw_   -- for this text's walks alone
set_option linter.unusedVariables false
set_option linter.unusedSimpArgs false
def qu1_.l0:Nat→Int→ByteArray→Int→Int→Int→Option (Bool)
 | 0,_,_,_,_,_=>none
 | k+1,x0,x1,x2,x9,x10=>if x10<x9 then (if 0≤x10 then (if x10<(x1.size:Int) then (if (wrap64 (bt x1 x10))<48 then (some false) else (if (wrap64 (bt x1 x10))≥(wrap64 (48+x0)) then (some false) else (qu1_.l0 k x0 x1 x2 x9 (wrap64 (x10+1))))) else (none)) else (none)) else (some (decide ((x1.size:Int)≤x2)))
def qu1_.f (k:Nat) (a0:Int) (a1:ByteArray) (a2:Int):Option (Bool):=qu1_.l0 k a0 a1 a2 (a1.size:Int) 0
theorem qu1_.mono_l:∀ k,(∀ y0 y1 y2 y3 y4,LeO (qu1_.l0 k y0 y1 y2 y3 y4) (qu1_.l0 (k+1) y0 y1 y2 y3 y4))
 | 0=>fun _ _ _ _ _ r h=>by simp [qu1_.l0] at h
 | k+1=>by
  have ih0:=qu1_.mono_l k
  ·intro y0 y1 y2 y3 y4
   unfold qu1_.l0
   repeat' first
   | (with_reducible exact ih0 _ _ _ _ _)
   | (with_reducible exact LeO.refl _)
   | (with_reducible exact LeO.none _)
   | (with_reducible refine LeO.ite ?_ ?_)
   | (with_reducible refine LeO.bind ?_ (fun _=>?_))
   | exact ih0 _ _ _ _ _
   | exact LeO.none _
   | refine LeO.ite ?_ ?_
   | refine LeO.bind ?_ (fun _=>?_)
theorem qu1_.mono:∀ a0 a1 a2 k,LeO (qu1_.f k a0 a1 a2) (qu1_.f (k+1) a0 a1 a2):=by
 intro a0 a1 a2 k
 have ih0:=qu1_.mono_l k
 unfold qu1_.f
 repeat' first
   | (with_reducible exact ih0 _ _ _ _ _)
   | (with_reducible exact LeO.refl _)
   | (with_reducible exact LeO.none _)
   | (with_reducible refine LeO.ite ?_ ?_)
   | (with_reducible refine LeO.bind ?_ (fun _=>?_))
   | exact ih0 _ _ _ _ _
   | exact LeO.none _
   | refine LeO.ite ?_ ?_
   | refine LeO.bind ?_ (fun _=>?_)
set_option maxHeartbeats 8000000 in
set_option maxRecDepth 100000 in
theorem qu1_.calls (k:Nat) (a0:Int) (a1:ByteArray) (a2:Int) (r:Bool) (w:World) (h:qu1_.f k a0 a1 a2=some r) :
  Calls Try.prog 139 #[.int .i64 a0,.string a1,.int .i64 a2] w fun e w'=>e=.returned (.bool r)∧Drawn0 w w':=by
 have H:(qu1_.l0 k a0 a1 a2 (a1.size:Int) 0)=some r:=h
 clear h
 have H':=aK H
 clear H
 go_enter Try.func139,Try.ntmps139
 go_wp2
 go_loopg [10] k (fun kq v10 w'=>∃ (o6:Int),v10=.int .i64 o6∧Aside0 (qu1_.l0 kq a0 a1 a2 (a1.size:Int) o6=some r)∧Aside0 (kq≤k)∧Drawn0 w w')
 case atStart=>exact ⟨(0),(by first|rfl|(simp;done)|(simp [*];done)),H',⟨Nat.le_refl _⟩,by repeat (first|exact Drawn0.refl _|apply Drawn0.step)⟩
 case round =>
  clear H'
  try clear c1
  try clear p2
  obtain ⟨o6,rfl,HA,HK1,⟨m1,rfl⟩⟩:=hrel
  cases gk with
  | zero=>exact absurd HA.out (by simp [qu1_.l0])
  | succ k1 =>
   have H:=HA.out
   clear HA
   simp only [qu1_.l0] at H
   by_cases c4:o6<(a1.size:Int)
   ·rw [if_pos c4] at H
    have c4b0:decide (o6<(a1.size:Int))=true:=decide_eq_true c4
    clear c4
    by_cases c5:0≤o6
    ·rw [if_pos c5] at H
     have c5b0:decide (0≤o6)=true:=decide_eq_true c5
     clear c5
     by_cases c6:o6<(a1.size:Int)
     ·rw [if_pos c6] at H
      have c6b0:decide (o6<(a1.size:Int))=true:=decide_eq_true c6
      clear c6
      by_cases c8:(wrap64 (bt a1 o6))<48
      ·rw [if_pos c8] at H
       have c8b0:decide ((wrap64 (bt a1 o6))<48)=true:=decide_eq_true c8
       clear c8
       obtain rfl:=Option.some.inj H
       have p7:0≤(o6:Int):=of_decide_eq_true (by first|(with_reducible assumption)|assumption)
       have q7:o6<(a1.size:Int):=of_decide_eq_true (by first|(with_reducible assumption)|assumption)
       have hx7:=bt_at a1 o6
       replace p7:=eq_true p7
       replace q7:=eq_true q7
       go_wp2
       go_ret
       exact ⟨by first|rfl|(simp;done)|(simp [*];done)|(simp [Go.Proofs.YtaiefdhenikiiaaZ.bne_nil];done),by repeat (first|exact Drawn0.refl _|apply Drawn0.step)⟩
      ·rw [if_neg c8] at H
       have c8b0:decide ((wrap64 (bt a1 o6))<48)=false:=decide_eq_false c8
       clear c8
       by_cases c10:(wrap64 (bt a1 o6))≥(wrap64 (48+a0))
       ·rw [if_pos c10] at H
        have c10b0:decide ((wrap64 (48+a0))≤(wrap64 (bt a1 o6)))=true:=decide_eq_true c10
        clear c10
        obtain rfl:=Option.some.inj H
        have p7:0≤(o6:Int):=of_decide_eq_true (by first|(with_reducible assumption)|assumption)
        have q7:o6<(a1.size:Int):=of_decide_eq_true (by first|(with_reducible assumption)|assumption)
        have hx7:=bt_at a1 o6
        replace p7:=eq_true p7
        replace q7:=eq_true q7
        have p9:0≤(o6:Int):=of_decide_eq_true (by first|(with_reducible assumption)|assumption)
        have q9:o6<(a1.size:Int):=of_decide_eq_true (by first|(with_reducible assumption)|assumption)
        have hx9:=bt_at a1 o6
        replace p9:=eq_true p9
        replace q9:=eq_true q9
        go_wp2
        go_ret
        exact ⟨by first|rfl|(simp;done)|(simp [*];done)|(simp [Go.Proofs.YtaiefdhenikiiaaZ.bne_nil];done),by repeat (first|exact Drawn0.refl _|apply Drawn0.step)⟩
       ·rw [if_neg c10] at H
        have c10b0:decide ((wrap64 (48+a0))≤(wrap64 (bt a1 o6)))=false:=decide_eq_false c10
        clear c10
        have H':=aK H
        clear H
        have p7:0≤(o6:Int):=of_decide_eq_true (by first|(with_reducible assumption)|assumption)
        have q7:o6<(a1.size:Int):=of_decide_eq_true (by first|(with_reducible assumption)|assumption)
        have hx7:=bt_at a1 o6
        replace p7:=eq_true p7
        replace q7:=eq_true q7
        have p9:0≤(o6:Int):=of_decide_eq_true (by first|(with_reducible assumption)|assumption)
        have q9:o6<(a1.size:Int):=of_decide_eq_true (by first|(with_reducible assumption)|assumption)
        have hx9:=bt_at a1 o6
        replace p9:=eq_true p9
        replace q9:=eq_true q9
        go_wp2
        go_roundg k1
        case measure=>have:=HK1.out;omega
        case rel=>exact ⟨(wrap64 (o6+1)),(by first|rfl|(simp;done)|(simp [*];done)),H',⟨by have:=HK1.out;omega⟩,by repeat (first|exact Drawn0.refl _|apply Drawn0.step)⟩
     ·rw [if_neg c6] at H
      exact absurd H (by simp)
    ·rw [if_neg c5] at H
     exact absurd H (by simp)
   ·rw [if_neg c4] at H
    have c4b0:decide (o6<(a1.size:Int))=false:=decide_eq_false c4
    clear c4
    obtain rfl:=Option.some.inj H
    go_wp2
    go_ret
    exact ⟨by first|rfl|(simp;done)|(simp [*];done)|(simp [Go.Proofs.YtaiefdhenikiiaaZ.bne_nil];done),by repeat (first|exact Drawn0.refl _|apply Drawn0.step)⟩
end Go.Proofs.Ytaiefdhenikiiaa.Base
namespace Go.Proofs.Ytaiefdhenikiiaa.Base
open Go.RowKit Go.Proofs.YtaiefdhenikiiaaW.PrintWords Go.Proofs.YtaiefdhenikiiaaW.PrintLast Go.Proofs.YtaiefdhenikiiaaW.PrintMore
attribute [local go_sem] max2_int qp1_ max_two min_two max_three min_three max_four min_four Go.Proofs.YtaiefdhenikiiaaZ.qw_   -- for this text's walks alone
set_option linter.unusedVariables false
set_option linter.unusedSimpArgs false
def qj3_.f (a0_0:ByteArray) (a0_1:Int) (o5:Int) (a1:Int):Option (Int):=if (wrap64 (a1 - (a0_0.size:Int)))<0 then (some (-1)) else (some (wrap64 (a1 - (a0_0.size:Int))))
set_option maxHeartbeats 8000000 in
set_option maxRecDepth 100000 in
theorem qj3_.calls (a0_0:ByteArray) (a0_1:Int) (o5:Int) (a1:Int) (r:Int) (w:World) (h:qj3_.f a0_0 a0_1 o5 a1=some r) :
  Calls Try.prog 75 #[.agg #[.string a0_0,.int .i64 a0_1,.int .i64 o5],.int .i64 a1] w fun e w'=>e=.returned (.int .i64 r)∧Below w.heap.size w w':=by
 have bJ2:=Try.underlying75
 have HB:=aK (Below.refl w.heap.size w)
 have H:(if (wrap64 (a1 - (a0_0.size:Int)))<0 then (some (-1)) else (some (wrap64 (a1 - (a0_0.size:Int)))))=some r:=h
 clear h
 by_cases c3:(wrap64 (a1 - (a0_0.size:Int)))<0
 ·rw [if_pos c3] at H
  have c3b0:decide ((wrap64 (a1 - (a0_0.size:Int)))<0)=true:=decide_eq_true c3
  clear c3
  obtain rfl:=Option.some.inj H
  go_enter Try.func75,Try.ntmps75
  go_wp2_with (first|((with_reducible refine qt_ (N:=2) rfl ?_);refine qr_ ?hg (N:=2) ?hd (cs:=#[.string a0_0,.int .i64 a0_1,.int .i64 o5]) (t:=75) ?hr ?_;(case hd=>rfl);(case hg=>rfl);(case hr=>first|(go_simp;done)|(go_simp;rfl));intro R4 hg w4 hbox hb;have n0_:=aK (qh_ (by repeat (first|(with_reducible first|exact HB.out|apply qb_|apply qa_|apply qc_)|exact HB.out)) hb);have n1_:=aK (hbox);have n2_:=aK ((by rw [hg];exact (ql_ (by repeat (first|(with_reducible first|exact HB.out|apply qb_|apply qa_|apply qc_)|exact HB.out))):w.heap.size≤R4));have n3_:=aK ((by rw [hg];exact (ql_ (by repeat (first|(with_reducible first|exact HB.out|apply qb_|apply qa_|apply qc_)|exact HB.out))):w.heap.size≤R4));clear HB;have HB:=n0_;have Q0:=n1_;have GW101:=n2_;have aY6:=n3_;clear n0_ n1_ n2_ n3_;clear hb hbox hg;have hcz5_0:w4.cell? ⟨R4,0,none⟩=some (.string a0_0):=(qe_ Q0.out 0).trans rfl;have hcz5_1:w4.cell? ⟨R4,1,none⟩=some (.int .i64 a0_1):=(qe_ Q0.out 1).trans rfl;have hcz5_2:w4.cell? ⟨R4,2,none⟩=some (.int .i64 o5):=(qe_ Q0.out 2).trans rfl;have hfz5_0:=qd_ Q0.out 0;have hfz5_1:=qd_ Q0.out 1;have hfz5_2:=qd_ Q0.out 2))
  go_ret
  exact ⟨by first|rfl|(simp [qn_,qo_] <;> rfl)|(simp [*,qn_,qo_] <;> rfl),by repeat (first|(with_reducible first|exact HB.out|apply qb_|apply qa_|apply qc_|refine qi_ ?_ aY6.out)|exact HB.out)⟩
 ·rw [if_neg c3] at H
  have c3b0:decide ((wrap64 (a1 - (a0_0.size:Int)))<0)=false:=decide_eq_false c3
  clear c3
  obtain rfl:=Option.some.inj H
  go_enter Try.func75,Try.ntmps75
  go_wp2_with (first|((with_reducible refine qt_ (N:=2) rfl ?_);refine qr_ ?hg (N:=2) ?hd (cs:=#[.string a0_0,.int .i64 a0_1,.int .i64 o5]) (t:=75) ?hr ?_;(case hd=>rfl);(case hg=>rfl);(case hr=>first|(go_simp;done)|(go_simp;rfl));intro R4 hg w6 hbox hb;have n0_:=aK (qh_ (by repeat (first|(with_reducible first|exact HB.out|apply qb_|apply qa_|apply qc_)|exact HB.out)) hb);have n1_:=aK (hbox);have n2_:=aK ((by rw [hg];exact (ql_ (by repeat (first|(with_reducible first|exact HB.out|apply qb_|apply qa_|apply qc_)|exact HB.out))):w.heap.size≤R4));have n3_:=aK ((by rw [hg];exact (ql_ (by repeat (first|(with_reducible first|exact HB.out|apply qb_|apply qa_|apply qc_)|exact HB.out))):w.heap.size≤R4));clear HB;have HB:=n0_;have Q0:=n1_;have GW101:=n2_;have aY6:=n3_;clear n0_ n1_ n2_ n3_;clear hb hbox hg;have hcz7_0:w6.cell? ⟨R4,0,none⟩=some (.string a0_0):=(qe_ Q0.out 0).trans rfl;have hcz7_1:w6.cell? ⟨R4,1,none⟩=some (.int .i64 a0_1):=(qe_ Q0.out 1).trans rfl;have hcz7_2:w6.cell? ⟨R4,2,none⟩=some (.int .i64 o5):=(qe_ Q0.out 2).trans rfl;have hfz7_0:=qd_ Q0.out 0;have hfz7_1:=qd_ Q0.out 1;have hfz7_2:=qd_ Q0.out 2))
  go_ret
  exact ⟨by first|rfl|(simp [qn_,qo_] <;> rfl)|(simp [*,qn_,qo_] <;> rfl),by repeat (first|(with_reducible first|exact HB.out|apply qb_|apply qa_|apply qc_|refine qi_ ?_ aY6.out)|exact HB.out)⟩
end Go.Proofs.Ytaiefdhenikiiaa.Base
namespace Go.Proofs.Ytaiefdhenikiiaa.Base
open Go.RowKit Go.Proofs.YtaiefdhenikiiaaW.PrintWords Go.Proofs.YtaiefdhenikiiaaW.PrintLast Go.Proofs.YtaiefdhenikiiaaW.PrintMore
attribute [local go_sem] max2_int qp1_ max_two min_two max_three min_three max_four min_four Go.Proofs.YtaiefdhenikiiaaZ.qw_   -- for this text's walks alone
set_option linter.unusedVariables false
set_option linter.unusedSimpArgs false
def qm1_.l0:Nat→List (S75)→Int→Int→Option (Int)
 | 0,_,_,_=>none
 | k+1,x0,x1,x5=>if x5<(x0.length:Int) then (if 0≤x5 then ((qj3_.f ((rd_T75 x0 x5).f0) ((rd_T75 x0 x5).f1.f0) ((rd_T75 x0 x5).f1.f1) x1).bind fun X9=>(if X9<0 then (some (-1)) else (qm1_.l0 k x0 X9 (wrap64 (x5+1))))) else (none)) else (some x1)
def qm1_.f (k:Nat) (l0:List (S75)) (a1:Int):Option (Int):=if (wrap64 (a1 - (l0.length:Int)))<0 then (some (-1)) else (qm1_.l0 k l0 (wrap64 (a1 - (l0.length:Int))) 0)
theorem qm1_.mono_l:∀ k,(∀ y0 y1 y2,LeO (qm1_.l0 k y0 y1 y2) (qm1_.l0 (k+1) y0 y1 y2))
 | 0=>fun _ _ _ r h=>by simp [qm1_.l0] at h
 | k+1=>by
  have ih0:=qm1_.mono_l k
  ·intro y0 y1 y2
   unfold qm1_.l0
   repeat' first
   | (with_reducible exact ih0 _ _ _)
   | (with_reducible exact LeO.refl _)
   | (with_reducible exact LeO.none _)
   | (with_reducible refine LeO.ite ?_ ?_)
   | (with_reducible refine LeO.bind ?_ (fun _=>?_))
   | exact ih0 _ _ _
   | exact LeO.none _
   | refine LeO.ite ?_ ?_
   | refine LeO.bind ?_ (fun _=>?_)
theorem qm1_.mono:∀ a0 a1 k,LeO (qm1_.f k a0 a1) (qm1_.f (k+1) a0 a1):=by
 intro a0 a1 k
 have ih0:=qm1_.mono_l k
 unfold qm1_.f
 repeat' first
   | (with_reducible exact ih0 _ _ _)
   | (with_reducible exact LeO.refl _)
   | (with_reducible exact LeO.none _)
   | (with_reducible refine LeO.ite ?_ ?_)
   | (with_reducible refine LeO.bind ?_ (fun _=>?_))
   | exact ih0 _ _ _
   | exact LeO.none _
   | refine LeO.ite ?_ ?_
   | refine LeO.bind ?_ (fun _=>?_)
set_option maxHeartbeats 8000000 in
set_option maxRecDepth 100000 in
theorem qm1_.calls (k:Nat) (A0:Option Addr) (c0:Nat) (l0:List (S75)) (a1:Int) (r:Int) (w:World) (hr0:Kd.C k75 w A0 l0.length l0) (hc0:l0.length≤c0) (h:qm1_.f k l0 a1=some r) :
  Calls Try.prog 21 #[.slice A0 l0.length c0,.int .i64 a1] w fun e w'=>e=.returned (.int .i64 r)∧Below w.heap.size w w':=by
 have bJ2:=Try.underlying75
 have HR0:=aK hr0
 have HC0:=aK hc0
 clear hr0 hc0
 have HB:=aK (Below.refl w.heap.size w)
 have H:(if (wrap64 (a1 - (l0.length:Int)))<0 then (some (-1)) else (qm1_.l0 k l0 (wrap64 (a1 - (l0.length:Int))) 0))=some r:=h
 clear h
 by_cases c3:(wrap64 (a1 - (l0.length:Int)))<0
 ·rw [if_pos c3] at H
  have c3b0:decide ((wrap64 (a1 - (l0.length:Int)))<0)=true:=decide_eq_true c3
  clear c3
  obtain rfl:=Option.some.inj H
  go_enter Try.func21,Try.ntmps21
  go_wp2
  go_ret
  exact ⟨by first|rfl|(simp [qn_,qo_] <;> rfl)|(simp [*,qn_,qo_] <;> rfl),by repeat (first|(with_reducible first|exact HB.out|apply qb_|apply qa_|apply qc_)|exact HB.out)⟩
 ·rw [if_neg c3] at H
  have c3b0:decide ((wrap64 (a1 - (l0.length:Int)))<0)=false:=decide_eq_false c3
  clear c3
  have H':=aK H
  clear H
  go_enter Try.func21,Try.ntmps21
  go_wp2
  go_loopg [1,5] k (fun kq v1 v5 w'=>∃ (x1_1:Int) (x5_1:Int),v1=.int .i64 x1_1∧v5=.int .i64 x5_1∧Aside0 (qm1_.l0 kq l0 x1_1 x5_1=some r)∧Aside0 (kq≤k)∧Aside0 (Below w.heap.size w w'))
  case atStart=>exact ⟨(wrap64 (a1 - (l0.length:Int))),(0),(by first|rfl|(simp;done)|(simp [*];done)),(by first|rfl|(simp;done)|(simp [*];done)),H',⟨Nat.le_refl _⟩,⟨by repeat (first|(with_reducible first|exact HB.out|apply qb_|apply qa_|apply qc_)|exact HB.out)⟩⟩
  case round =>
   clear H'
   try clear c2
   try clear p2
   try clear c3
   try clear c3b0
   obtain ⟨x1_1,x5_1,rfl,rfl,HA,HK1,HB⟩:=hrel
   cases gk with
   | zero=>exact absurd HA.out (by simp [qm1_.l0])
   | succ k1 =>
    have H:=HA.out
    clear HA
    simp only [qm1_.l0] at H
    by_cases c4:x5_1<(l0.length:Int)
    ·rw [if_pos c4] at H
     have c4b0:decide (x5_1<(l0.length:Int))=true:=decide_eq_true c4
     clear c4
     by_cases c5:0≤x5_1
     ·rw [if_pos c5] at H
      have c5b0:decide (0≤x5_1)=true:=decide_eq_true c5
      clear c5
      replace H:=Option.bind_eq_some_iff.mp H
      obtain ⟨X9,A60,H⟩:=H
      replace H:(if X9<0 then (some (-1)) else (qm1_.l0 k1 l0 X9 (wrap64 (x5_1+1))))=some r:=H
      have A6:=aK A60
      clear A60
      by_cases c7:X9<0
      ·rw [if_pos c7] at H
       have c7b0:decide (X9<0)=true:=decide_eq_true c7
       clear c7
       obtain rfl:=Option.some.inj H
       have aZ5:0≤(x5_1:Int):=of_decide_eq_true (by first|(with_reducible assumption)|assumption)
       have aZ2:x5_1<(l0.length:Int):=of_decide_eq_true (by first|(with_reducible assumption)|assumption)
       obtain ⟨ad102,bJ5,Q5,Q4,Q3⟩:=at_T75 HR0.out x5_1 aZ5 aZ2
       cases bJ5
       replace Q5:=(HB.out.cell (World.block_lt_of_cell? w _ Q5)).trans Q5
       replace Q4:=(HB.out.cell (World.block_lt_of_cell? w _ Q4)).trans Q4
       replace Q3:=(HB.out.cell (World.block_lt_of_cell? w _ Q3)).trans Q3
       replace aZ5:=eq_true aZ5
       replace aZ2:=eq_true aZ2
       go_wp2_with (first|((with_reducible refine qy_ (f:=75) rfl ?_);refine goesL_ (some 23) rfl rfl Try.func75 (by kernel_rfl) rfl #[.agg #[.string ((rd_T75 l0 x5_1).f0),.int .i64 ((rd_T75 l0 x5_1).f1.f0),.int .i64 ((rd_T75 l0 x5_1).f1.f1)],.int .i64 x1_1] rfl (by (try simp only [List.map_toArray,List.map_cons,List.map_nil]);first|done|rfl|(simp only [List.length_drop,List.length_take];rfl)) ?_;(with_reducible refine (qj3_.calls ((rd_T75 l0 x5_1).f0) ((rd_T75 l0 x5_1).f1.f0) ((rd_T75 l0 x5_1).f1.f1) x1_1 X9 _ A6.out).mono ?_);rintro e w8 ⟨rfl,hb⟩;refine ⟨_,rfl,?_⟩;have n0_:=aK (qh_ (by repeat (first|(with_reducible first|exact HB.out|apply qb_|apply qa_|apply qc_)|exact HB.out)) hb);clear HB;have HB:=n0_;clear n0_;(try clear hb);(try clear hb2);(try clear hk);(try clear hi)))
       go_ret
       exact ⟨by first|rfl|(simp [qn_,qo_] <;> rfl)|(simp [*,qn_,qo_] <;> rfl),by repeat (first|(with_reducible first|exact HB.out|apply qb_|apply qa_|apply qc_)|exact HB.out)⟩
      ·rw [if_neg c7] at H
       have c7b0:decide (X9<0)=false:=decide_eq_false c7
       clear c7
       have H':=aK H
       clear H
       have aZ5:0≤(x5_1:Int):=of_decide_eq_true (by first|(with_reducible assumption)|assumption)
       have aZ2:x5_1<(l0.length:Int):=of_decide_eq_true (by first|(with_reducible assumption)|assumption)
       obtain ⟨ad102,bJ5,Q5,Q4,Q3⟩:=at_T75 HR0.out x5_1 aZ5 aZ2
       cases bJ5
       replace Q5:=(HB.out.cell (World.block_lt_of_cell? w _ Q5)).trans Q5
       replace Q4:=(HB.out.cell (World.block_lt_of_cell? w _ Q4)).trans Q4
       replace Q3:=(HB.out.cell (World.block_lt_of_cell? w _ Q3)).trans Q3
       replace aZ5:=eq_true aZ5
       replace aZ2:=eq_true aZ2
       go_wp2_with (first|((with_reducible refine qy_ (f:=75) rfl ?_);refine goesL_ (some 23) rfl rfl Try.func75 (by kernel_rfl) rfl #[.agg #[.string ((rd_T75 l0 x5_1).f0),.int .i64 ((rd_T75 l0 x5_1).f1.f0),.int .i64 ((rd_T75 l0 x5_1).f1.f1)],.int .i64 x1_1] rfl (by (try simp only [List.map_toArray,List.map_cons,List.map_nil]);first|done|rfl|(simp only [List.length_drop,List.length_take];rfl)) ?_;(with_reducible refine (qj3_.calls ((rd_T75 l0 x5_1).f0) ((rd_T75 l0 x5_1).f1.f0) ((rd_T75 l0 x5_1).f1.f1) x1_1 X9 _ A6.out).mono ?_);rintro e w9 ⟨rfl,hb⟩;refine ⟨_,rfl,?_⟩;have n0_:=aK (qh_ (by repeat (first|(with_reducible first|exact HB.out|apply qb_|apply qa_|apply qc_)|exact HB.out)) hb);clear HB;have HB:=n0_;clear n0_;(try clear hb);(try clear hb2);(try clear hk);(try clear hi)))
       go_roundg k1
       case measure=>have:=HK1.out;omega
       case rel=>exact ⟨(X9),(wrap64 (x5_1+1)),(by first|rfl|(simp;done)|(simp [*];done)),(by first|rfl|(simp;done)|(simp [*];done)),H',⟨by have:=HK1.out;omega⟩,⟨by repeat (first|(with_reducible first|exact HB.out|apply qb_|apply qa_|apply qc_)|exact HB.out)⟩⟩
     ·rw [if_neg c5] at H
      exact absurd H (by simp)
    ·rw [if_neg c4] at H
     have c4b0:decide (x5_1<(l0.length:Int))=false:=decide_eq_false c4
     clear c4
     obtain rfl:=Option.some.inj H
     go_wp2
     go_ret
     exact ⟨by first|rfl|(simp [qn_,qo_] <;> rfl)|(simp [*,qn_,qo_] <;> rfl),by repeat (first|(with_reducible first|exact HB.out|apply qb_|apply qa_|apply qc_)|exact HB.out)⟩
end Go.Proofs.Ytaiefdhenikiiaa.Base
namespace Go.Proofs.Ytaiefdhenikiiaa.Base
open Go.RowKit Go.Proofs.YtaiefdhenikiiaaW.PrintWords Go.Proofs.YtaiefdhenikiiaaW.PrintLast Go.Proofs.YtaiefdhenikiiaaW.PrintMore
attribute [local go_sem] max2_int qp1_ max_two min_two max_three min_three max_four min_four Go.Proofs.YtaiefdhenikiiaaZ.qw_   -- for this text's walks alone
set_option linter.unusedVariables false
set_option linter.unusedSimpArgs false
def qa3_.f (a0_0:Int) (a0_1:Int):Option (Int × Int):=some (a0_0,a0_1)
set_option maxHeartbeats 8000000 in
set_option maxRecDepth 100000 in
theorem qa3_.calls (a0_0:Int) (a0_1:Int) (r1:Int) (r2:Int) (w:World) (h:qa3_.f a0_0 a0_1=some (r1,r2)) :
  Calls Try.prog 153 #[.agg #[.int .i64 a0_0,.int .i64 a0_1]] w fun e w'=>e=.returned (.agg #[.int .i64 r1,.int .i64 r2])∧Below w.heap.size w w':=by
 have hu73:=Try.underlying73
 have hu77:=Try.underlying77
 have HB:=aK (Below.refl w.heap.size w)
 have H:(some (a0_0,a0_1))=some (r1,r2):=h
 clear h
 simp only [Option.some.injEq,Prod.mk.injEq] at H
 obtain ⟨rfl,rfl⟩:=H
 go_enter Try.func153,Try.ntmps153
 go_wp2_with (first|((with_reducible refine qt_ (N:=1) rfl ?_);refine qr_ ?hg (N:=1) ?hd (cs:=#[.int .i64 a0_0,.int .i64 a0_1]) (t:=73) ?hr ?_;(case hd=>rfl);(case hg=>rfl);(case hr=>first|(go_simp;done)|(go_simp;rfl));intro O4 hg w2 hbox hb;have n0_:=aK (qh_ (by repeat (first|(with_reducible first|exact HB.out|apply qb_|apply qa_|apply qc_)|exact HB.out)) hb);have n1_:=aK (hbox);have n2_:=aK ((by rw [hg];exact (ql_ (by repeat (first|(with_reducible first|exact HB.out|apply qb_|apply qa_|apply qc_)|exact HB.out))):w.heap.size≤O4));have n3_:=aK ((by rw [hg];exact (ql_ (by repeat (first|(with_reducible first|exact HB.out|apply qb_|apply qa_|apply qc_)|exact HB.out))):w.heap.size≤O4));clear HB;have HB:=n0_;have O7:=n1_;have GW121:=n2_;have Y7:=n3_;clear n0_ n1_ n2_ n3_;clear hb hbox hg)|((with_reducible refine qt_ (N:=2) rfl ?_);refine qr_ ?hg (N:=2) ?hd (cs:=#[.int .i64 0,.int .i64 0]) (t:=77) ?hr ?_;(case hd=>rfl);(case hg=>rfl);(case hr=>first|(go_simp;done)|(go_simp;rfl));intro Q8 hg w3 hbox hb;have n0_:=aK (qk_ (g:=O4) (o:=.cells #[.int .i64 a0_0,.int .i64 a0_1] 73 (0,0)) (by (with_reducible repeat (first|refine qg_ ?_ _|refine qj_ ?_|refine qf_ ?_ _));exact O7.out) hb);have n1_:=aK (qh_ (by repeat (first|(with_reducible first|exact HB.out|apply qb_|apply qa_|apply qc_|refine qi_ ?_ Y7.out)|exact HB.out)) hb);have n2_:=aK (hbox);have n3_:=aK ((by rw [hg];exact (ql_ (by repeat (first|(with_reducible first|exact HB.out|apply qb_|apply qa_|apply qc_|refine qi_ ?_ Y7.out)|exact HB.out))):w.heap.size≤Q8));have n4_:=aK ((by rw [hg];exact (ql_ (by repeat (first|(with_reducible first|exact HB.out|apply qb_|apply qa_|apply qc_|refine qi_ ?_ Y7.out)|exact HB.out))):w.heap.size≤Q8));have n5_:=aK ((by rw [hg];exact Nat.ne_of_lt (blk_lt (g:=O4) (o:=.cells #[.int .i64 a0_0,.int .i64 a0_1] 73 (0,0)) (by (with_reducible repeat (first|refine qg_ ?_ _|refine qj_ ?_|refine qf_ ?_ _));exact O7.out)):O4≠Q8));have n6_:=aK ((by rw [hg];exact Nat.ne_of_gt (blk_lt (g:=O4) (o:=.cells #[.int .i64 a0_0,.int .i64 a0_1] 73 (0,0)) (by (with_reducible repeat (first|refine qg_ ?_ _|refine qj_ ?_|refine qf_ ?_ _));exact O7.out)):Q8≠O4));clear O7;clear HB;have O7:=n0_;have HB:=n1_;have U5:=n2_;have GW122:=n3_;have aX0:=n4_;have NB121_122:=n5_;have NB122_121:=n6_;clear n0_ n1_ n2_ n3_ n4_ n5_ n6_;clear hb hbox hg)|((with_reducible refine qt_ (N:=3) rfl ?_);refine qr_ ?hg (N:=3) ?hd (cs:=#[.int .i64 0,.int .i64 0]) (t:=77) ?hr ?_;(case hd=>rfl);(case hg=>rfl);(case hr=>first|(go_simp;done)|(go_simp;rfl));intro V3 hg w4 hbox hb;have n0_:=aK (qk_ (g:=O4) (o:=.cells #[.int .i64 a0_0,.int .i64 a0_1] 73 (0,0)) (by (with_reducible repeat (first|refine qg_ ?_ _|refine qj_ ?_|refine qf_ ?_ _));exact O7.out) hb);have n1_:=aK (qk_ (g:=Q8) (o:=.cells #[.int .i64 0,.int .i64 0] 77 (0,0)) (by (with_reducible repeat (first|refine qg_ ?_ _|refine qj_ ?_|refine qf_ ?_ _));exact U5.out) hb);have n2_:=aK (qh_ (by repeat (first|(with_reducible first|exact HB.out|apply qb_|apply qa_|apply qc_|refine qi_ ?_ Y7.out|refine qi_ ?_ aX0.out)|exact HB.out)) hb);have n3_:=aK (hbox);have n4_:=aK ((by rw [hg];exact (ql_ (by repeat (first|(with_reducible first|exact HB.out|apply qb_|apply qa_|apply qc_|refine qi_ ?_ Y7.out|refine qi_ ?_ aX0.out)|exact HB.out))):w.heap.size≤V3));have n5_:=aK ((by rw [hg];exact (ql_ (by repeat (first|(with_reducible first|exact HB.out|apply qb_|apply qa_|apply qc_|refine qi_ ?_ Y7.out|refine qi_ ?_ aX0.out)|exact HB.out))):w.heap.size≤V3));have n6_:=aK ((by rw [hg];exact Nat.ne_of_lt (blk_lt (g:=O4) (o:=.cells #[.int .i64 a0_0,.int .i64 a0_1] 73 (0,0)) (by (with_reducible repeat (first|refine qg_ ?_ _|refine qj_ ?_|refine qf_ ?_ _));exact O7.out)):O4≠V3));have n7_:=aK ((by rw [hg];exact Nat.ne_of_gt (blk_lt (g:=O4) (o:=.cells #[.int .i64 a0_0,.int .i64 a0_1] 73 (0,0)) (by (with_reducible repeat (first|refine qg_ ?_ _|refine qj_ ?_|refine qf_ ?_ _));exact O7.out)):V3≠O4));have n8_:=aK ((by rw [hg];exact Nat.ne_of_lt (blk_lt (g:=Q8) (o:=.cells #[.int .i64 0,.int .i64 0] 77 (0,0)) (by (with_reducible repeat (first|refine qg_ ?_ _|refine qj_ ?_|refine qf_ ?_ _));exact U5.out)):Q8≠V3));have n9_:=aK ((by rw [hg];exact Nat.ne_of_gt (blk_lt (g:=Q8) (o:=.cells #[.int .i64 0,.int .i64 0] 77 (0,0)) (by (with_reducible repeat (first|refine qg_ ?_ _|refine qj_ ?_|refine qf_ ?_ _));exact U5.out)):V3≠Q8));clear O7;clear U5;clear HB;have O7:=n0_;have U5:=n1_;have HB:=n2_;have aX3:=n3_;have GW123:=n4_;have GE123:=n5_;have NB121_123:=n6_;have NB123_121:=n7_;have U9:=n8_;have NB123_122:=n9_;clear n0_ n1_ n2_ n3_ n4_ n5_ n6_ n7_ n8_ n9_;clear hb hbox hg;have hnb5:=NB121_122.out;have hnc5:=NB122_121.out;have hnb6:=NB121_123.out;have hnc6:=NB123_121.out;have hcz7_0:w4.cell? ⟨O4,0,none⟩=some (.int .i64 a0_0):=(qe_ O7.out 0).trans rfl;have hcz7_1:w4.cell? ⟨O4,1,none⟩=some (.int .i64 a0_1):=(qe_ O7.out 1).trans rfl;have hfz7_0:=qd_ O7.out 0;have hfz7_1:=qd_ O7.out 1;have aY1:=NB123_122.out;have aX9:=U9.out;have hcz9_0:w4.cell? ⟨V3,0,none⟩=some (.int .i64 0):=(qe_ aX3.out 0).trans rfl;have hcz9_1:w4.cell? ⟨V3,1,none⟩=some (.int .i64 0):=(qe_ aX3.out 1).trans rfl;have hfz9_0:=qd_ aX3.out 0;have hfz9_1:=qd_ aX3.out 1;have hcz10_0:w4.cell? ⟨Q8,0,none⟩=some (.int .i64 0):=(qe_ U5.out 0).trans rfl;have hcz10_1:w4.cell? ⟨Q8,1,none⟩=some (.int .i64 0):=(qe_ U5.out 1).trans rfl;have hfz10_0:=qd_ U5.out 0;have hfz10_1:=qd_ U5.out 1))
 refine bodyPost_ret (results_cell_row rfl _ _ Q8 77 #[.int .i64 a0_0,.int .i64 a0_1] (0,0) _ rfl (by (with_reducible repeat (first|refine qg_ ?_ _|refine qj_ ?_|refine qf_ ?_ _));refine ql1_ (cs:=#[.int .i64 a0_0,.int .i64 0]) ?_ 1 _ rfl;(with_reducible repeat (first|refine qg_ ?_ _|refine qj_ ?_|refine qf_ ?_ _));refine ql1_ (cs:=#[.int .i64 0,.int .i64 0]) ?_ 0 _ rfl;(with_reducible repeat (first|refine qg_ ?_ _|refine qj_ ?_|refine qf_ ?_ _));refine qr1_ ?_ U9.out _;(with_reducible repeat (first|refine qg_ ?_ _|refine qj_ ?_|refine qf_ ?_ _));refine qr1_ ?_ U9.out _;(with_reducible repeat (first|refine qg_ ?_ _|refine qj_ ?_|refine qf_ ?_ _));exact U5.out) Try.underlying77 rfl (by kernel_rfl)) rfl ?_
 exact ⟨by first|rfl|(simp [qn_,qo_] <;> rfl)|(simp [*,qn_,qo_] <;> rfl),by repeat (first|(with_reducible first|exact HB.out|apply qb_|apply qa_|apply qc_|refine qi_ ?_ Y7.out|refine qi_ ?_ aX0.out|refine qi_ ?_ GE123.out)|exact HB.out)⟩
end Go.Proofs.Ytaiefdhenikiiaa.Base
namespace Go.Proofs.Ytaiefdhenikiiaa.Base
open Go.RowKit Go.Proofs.YtaiefdhenikiiaaW.PrintWords Go.Proofs.YtaiefdhenikiiaaW.PrintLast Go.Proofs.YtaiefdhenikiiaaW.PrintMore
attribute [local go_sem] max2_int qp1_ max_two min_two max_three min_three max_four min_four Go.Proofs.YtaiefdhenikiiaaZ.qw_   -- for this text's walks alone
set_option linter.unusedVariables false
set_option linter.unusedSimpArgs false
def laws_toTerm.f (a0_0:ByteArray) (a0_1:Int) (o5:Int):Option (ByteArray × Int × Int):=(qa3_.f a0_1 o5).bind fun aJ8=>(some (a0_0,aJ8.1,aJ8.2))
set_option maxHeartbeats 8000000 in
set_option maxRecDepth 100000 in
theorem laws_toTerm.calls (a0_0:ByteArray) (a0_1:Int) (o5:Int) (r1:ByteArray) (r2:Int) (r3:Int) (w:World) (h:laws_toTerm.f a0_0 a0_1 o5=some (r1,r2,r3)) :
  Calls Try.prog 77 #[.agg #[.string a0_0,.int .i64 a0_1,.int .i64 o5]] w fun e w'=>e=.returned (.agg #[.string r1,.int .i64 r2,.int .i64 r3])∧Below w.heap.size w w':=by
 have bJ2:=Try.underlying75
 have hu79:=Try.underlying79
 have hu73:=Try.underlying73
 have hu77:=Try.underlying77
 have HB:=aK (Below.refl w.heap.size w)
 have H:((qa3_.f a0_1 o5).bind fun aJ8=>(some (a0_0,aJ8.1,aJ8.2)))=some (r1,r2,r3):=h
 clear h
 replace H:=Option.bind_eq_some_iff.mp H
 obtain ⟨⟨t127,aW9⟩,A20,H⟩:=H
 replace H:(some (a0_0,t127,aW9))=some (r1,r2,r3):=H
 have A2:=aK A20
 clear A20
 simp only [Option.some.injEq,Prod.mk.injEq] at H
 obtain ⟨rfl,rfl,rfl⟩:=H
 go_enter Try.func77,Try.ntmps77
 go_wp2_with (first|((with_reducible refine qt_ (N:=1) rfl ?_);refine qr_ ?hg (N:=1) ?hd (cs:=#[.string a0_0,.int .i64 a0_1,.int .i64 o5]) (t:=75) ?hr ?_;(case hd=>rfl);(case hg=>rfl);(case hr=>first|(go_simp;done)|(go_simp;rfl));intro J9 hg w3 hbox hb;have n0_:=aK (qh_ (by repeat (first|(with_reducible first|exact HB.out|apply qb_|apply qa_|apply qc_)|exact HB.out)) hb);have n1_:=aK (hbox);have n2_:=aK ((by rw [hg];exact (ql_ (by repeat (first|(with_reducible first|exact HB.out|apply qb_|apply qa_|apply qc_)|exact HB.out))):w.heap.size≤J9));have n3_:=aK ((by rw [hg];exact (ql_ (by repeat (first|(with_reducible first|exact HB.out|apply qb_|apply qa_|apply qc_)|exact HB.out))):w.heap.size≤J9));clear HB;have HB:=n0_;have H9:=n1_;have GW124:=n2_;have V8:=n3_;clear n0_ n1_ n2_ n3_;clear hb hbox hg)|((with_reducible refine qt_ (N:=2) rfl ?_);refine qr_ ?hg (N:=2) ?hd (cs:=#[.string (⟨#[]⟩:ByteArray),.int .i64 0,.int .i64 0]) (t:=79) ?hr ?_;(case hd=>rfl);(case hg=>rfl);(case hr=>first|(go_simp;done)|(go_simp;rfl));intro O1 hg w4 hbox hb;have n0_:=aK (qk_ (g:=J9) (o:=.cells #[.string a0_0,.int .i64 a0_1,.int .i64 o5] 75 (0,0)) (by (with_reducible repeat (first|refine qg_ ?_ _|refine qj_ ?_|refine qf_ ?_ _));exact H9.out) hb);have n1_:=aK (qh_ (by repeat (first|(with_reducible first|exact HB.out|apply qb_|apply qa_|apply qc_|refine qi_ ?_ V8.out)|exact HB.out)) hb);have n2_:=aK (hbox);have n3_:=aK ((by rw [hg];exact (ql_ (by repeat (first|(with_reducible first|exact HB.out|apply qb_|apply qa_|apply qc_|refine qi_ ?_ V8.out)|exact HB.out))):w.heap.size≤O1));have n4_:=aK ((by rw [hg];exact (ql_ (by repeat (first|(with_reducible first|exact HB.out|apply qb_|apply qa_|apply qc_|refine qi_ ?_ V8.out)|exact HB.out))):w.heap.size≤O1));have n5_:=aK ((by rw [hg];exact Nat.ne_of_lt (blk_lt (g:=J9) (o:=.cells #[.string a0_0,.int .i64 a0_1,.int .i64 o5] 75 (0,0)) (by (with_reducible repeat (first|refine qg_ ?_ _|refine qj_ ?_|refine qf_ ?_ _));exact H9.out)):J9≠O1));have n6_:=aK ((by rw [hg];exact Nat.ne_of_gt (blk_lt (g:=J9) (o:=.cells #[.string a0_0,.int .i64 a0_1,.int .i64 o5] 75 (0,0)) (by (with_reducible repeat (first|refine qg_ ?_ _|refine qj_ ?_|refine qf_ ?_ _));exact H9.out)):O1≠J9));clear H9;clear HB;have H9:=n0_;have HB:=n1_;have O0:=n2_;have GW125:=n3_;have aQ6:=n4_;have NB124_125:=n5_;have NB125_124:=n6_;clear n0_ n1_ n2_ n3_ n4_ n5_ n6_;clear hb hbox hg)|((with_reducible refine qt_ (N:=3) rfl ?_);refine qr_ ?hg (N:=3) ?hd (cs:=#[.string (⟨#[]⟩:ByteArray),.int .i64 0,.int .i64 0]) (t:=79) ?hr ?_;(case hd=>rfl);(case hg=>rfl);(case hr=>first|(go_simp;done)|(go_simp;rfl));intro O8 hg w5 hbox hb;have n0_:=aK (qk_ (g:=J9) (o:=.cells #[.string a0_0,.int .i64 a0_1,.int .i64 o5] 75 (0,0)) (by (with_reducible repeat (first|refine qg_ ?_ _|refine qj_ ?_|refine qf_ ?_ _));exact H9.out) hb);have n1_:=aK (qk_ (g:=O1) (o:=.cells #[.string (⟨#[]⟩:ByteArray),.int .i64 0,.int .i64 0] 79 (0,0)) (by (with_reducible repeat (first|refine qg_ ?_ _|refine qj_ ?_|refine qf_ ?_ _));exact O0.out) hb);have n2_:=aK (qh_ (by repeat (first|(with_reducible first|exact HB.out|apply qb_|apply qa_|apply qc_|refine qi_ ?_ V8.out|refine qi_ ?_ aQ6.out)|exact HB.out)) hb);have n3_:=aK (hbox);have n4_:=aK ((by rw [hg];exact (ql_ (by repeat (first|(with_reducible first|exact HB.out|apply qb_|apply qa_|apply qc_|refine qi_ ?_ V8.out|refine qi_ ?_ aQ6.out)|exact HB.out))):w.heap.size≤O8));have n5_:=aK ((by rw [hg];exact (ql_ (by repeat (first|(with_reducible first|exact HB.out|apply qb_|apply qa_|apply qc_|refine qi_ ?_ V8.out|refine qi_ ?_ aQ6.out)|exact HB.out))):w.heap.size≤O8));have n6_:=aK ((by rw [hg];exact Nat.ne_of_lt (blk_lt (g:=J9) (o:=.cells #[.string a0_0,.int .i64 a0_1,.int .i64 o5] 75 (0,0)) (by (with_reducible repeat (first|refine qg_ ?_ _|refine qj_ ?_|refine qf_ ?_ _));exact H9.out)):J9≠O8));have n7_:=aK ((by rw [hg];exact Nat.ne_of_gt (blk_lt (g:=J9) (o:=.cells #[.string a0_0,.int .i64 a0_1,.int .i64 o5] 75 (0,0)) (by (with_reducible repeat (first|refine qg_ ?_ _|refine qj_ ?_|refine qf_ ?_ _));exact H9.out)):O8≠J9));have n8_:=aK ((by rw [hg];exact Nat.ne_of_lt (blk_lt (g:=O1) (o:=.cells #[.string (⟨#[]⟩:ByteArray),.int .i64 0,.int .i64 0] 79 (0,0)) (by (with_reducible repeat (first|refine qg_ ?_ _|refine qj_ ?_|refine qf_ ?_ _));exact O0.out)):O1≠O8));have n9_:=aK ((by rw [hg];exact Nat.ne_of_gt (blk_lt (g:=O1) (o:=.cells #[.string (⟨#[]⟩:ByteArray),.int .i64 0,.int .i64 0] 79 (0,0)) (by (with_reducible repeat (first|refine qg_ ?_ _|refine qj_ ?_|refine qf_ ?_ _));exact O0.out)):O8≠O1));clear H9;clear O0;clear HB;have H9:=n0_;have O0:=n1_;have HB:=n2_;have N8:=n3_;have GW126:=n4_;have aW3:=n5_;have Y8:=n6_;have NB126_124:=n7_;have S9:=n8_;have NB126_125:=n9_;clear n0_ n1_ n2_ n3_ n4_ n5_ n6_ n7_ n8_ n9_;clear hb hbox hg;have hnb6:=NB124_125.out;have hnc6:=NB125_124.out;have hnb7:=Y8.out;have hnc7:=NB126_124.out;have hcz8_0:w5.cell? ⟨J9,0,none⟩=some (.string a0_0):=(qe_ H9.out 0).trans rfl;have hcz8_1:w5.cell? ⟨J9,1,none⟩=some (.int .i64 a0_1):=(qe_ H9.out 1).trans rfl;have hcz8_2:w5.cell? ⟨J9,2,none⟩=some (.int .i64 o5):=(qe_ H9.out 2).trans rfl;have hfz8_0:=qd_ H9.out 0;have hfz8_1:=qd_ H9.out 1;have hfz8_2:=qd_ H9.out 2;have hnb9:=NB126_125.out;have hnc9:=S9.out;have hcz10_0:w5.cell? ⟨O8,0,none⟩=some (.string (⟨#[]⟩:ByteArray)):=(qe_ N8.out 0).trans rfl;have hcz10_1:w5.cell? ⟨O8,1,none⟩=some (.int .i64 0):=(qe_ N8.out 1).trans rfl;have hcz10_2:w5.cell? ⟨O8,2,none⟩=some (.int .i64 0):=(qe_ N8.out 2).trans rfl;have hfz10_0:=qd_ N8.out 0;have hfz10_1:=qd_ N8.out 1;have hfz10_2:=qd_ N8.out 2)|((with_reducible refine qy_ (f:=153) rfl ?_);refine goesL_ (some 9) rfl rfl Try.func153 (by kernel_rfl) rfl #[.agg #[.int .i64 a0_1,.int .i64 o5]] rfl (by (try simp only [List.map_toArray,List.map_cons,List.map_nil]);first|done|rfl|(simp only [List.length_drop,List.length_take];rfl)) ?_;(with_reducible refine (qa3_.calls a0_1 o5 t127 aW9 _ A2.out).mono ?_);rintro e w11 ⟨rfl,hb⟩;refine ⟨_,rfl,?_⟩;have n0_:=aK (qk_ (g:=J9) (o:=.cells #[.string a0_0,.int .i64 a0_1,.int .i64 o5] 75 (0,0)) (by (with_reducible repeat (first|refine qg_ ?_ _|refine qj_ ?_|refine qf_ ?_ _));refine qr1_ ?_ Y8.out _;(with_reducible repeat (first|refine qg_ ?_ _|refine qj_ ?_|refine qf_ ?_ _));exact H9.out) hb);have n1_:=aK (qk_ (g:=O1) (o:=.cells #[.string (⟨#[]⟩:ByteArray),.int .i64 0,.int .i64 0] 79 (0,0)) (by (with_reducible repeat (first|refine qg_ ?_ _|refine qj_ ?_|refine qf_ ?_ _));refine qr1_ ?_ S9.out _;(with_reducible repeat (first|refine qg_ ?_ _|refine qj_ ?_|refine qf_ ?_ _));exact O0.out) hb);have n2_:=aK (qk_ (g:=O8) (o:=.cells #[.string a0_0,.int .i64 0,.int .i64 0] 79 (0,0)) (by (with_reducible repeat (first|refine qg_ ?_ _|refine qj_ ?_|refine qf_ ?_ _));refine ql1_ (cs:=#[.string (⟨#[]⟩:ByteArray),.int .i64 0,.int .i64 0]) ?_ 0 _ rfl;(with_reducible repeat (first|refine qg_ ?_ _|refine qj_ ?_|refine qf_ ?_ _));exact N8.out) hb);have n3_:=aK (qh_ (by repeat (first|(with_reducible first|exact HB.out|apply qb_|apply qa_|apply qc_|refine qi_ ?_ V8.out|refine qi_ ?_ aQ6.out|refine qi_ ?_ aW3.out)|exact HB.out)) hb);clear H9;clear O0;clear N8;clear HB;have H9:=n0_;have O0:=n1_;have N8:=n2_;have HB:=n3_;clear n0_ n1_ n2_ n3_;(try clear hb);(try clear hb2);(try clear hk);(try clear hi);have hcz12_0:w11.cell? ⟨O8,0,none⟩=some (.string a0_0):=(qe_ N8.out 0).trans rfl;have hcz12_1:w11.cell? ⟨O8,1,none⟩=some (.int .i64 0):=(qe_ N8.out 1).trans rfl;have hcz12_2:w11.cell? ⟨O8,2,none⟩=some (.int .i64 0):=(qe_ N8.out 2).trans rfl;have hfz12_0:=qd_ N8.out 0;have hfz12_1:=qd_ N8.out 1;have hfz12_2:=qd_ N8.out 2;have hcz13_0:w11.cell? ⟨O1,0,none⟩=some (.string (⟨#[]⟩:ByteArray)):=(qe_ O0.out 0).trans rfl;have hcz13_1:w11.cell? ⟨O1,1,none⟩=some (.int .i64 0):=(qe_ O0.out 1).trans rfl;have hcz13_2:w11.cell? ⟨O1,2,none⟩=some (.int .i64 0):=(qe_ O0.out 2).trans rfl;have hfz13_0:=qd_ O0.out 0;have hfz13_1:=qd_ O0.out 1;have hfz13_2:=qd_ O0.out 2))
 refine bodyPost_ret (results_cell_row rfl _ _ O1 79 #[.string a0_0,.int .i64 t127,.int .i64 aW9] (0,0) _ rfl (by (with_reducible repeat (first|refine qg_ ?_ _|refine qj_ ?_|refine qf_ ?_ _));refine ql1_ (cs:=#[.string a0_0,.int .i64 t127,.int .i64 0]) ?_ 2 _ rfl;(with_reducible repeat (first|refine qg_ ?_ _|refine qj_ ?_|refine qf_ ?_ _));refine ql1_ (cs:=#[.string a0_0,.int .i64 0,.int .i64 0]) ?_ 1 _ rfl;(with_reducible repeat (first|refine qg_ ?_ _|refine qj_ ?_|refine qf_ ?_ _));refine ql1_ (cs:=#[.string (⟨#[]⟩:ByteArray),.int .i64 0,.int .i64 0]) ?_ 0 _ rfl;(with_reducible repeat (first|refine qg_ ?_ _|refine qj_ ?_|refine qf_ ?_ _));refine qr1_ ?_ S9.out _;(with_reducible repeat (first|refine qg_ ?_ _|refine qj_ ?_|refine qf_ ?_ _));refine qr1_ ?_ S9.out _;(with_reducible repeat (first|refine qg_ ?_ _|refine qj_ ?_|refine qf_ ?_ _));exact O0.out) Try.underlying79 rfl (by kernel_rfl)) rfl ?_
 exact ⟨by first|rfl|(simp [qn_,qo_] <;> rfl)|(simp [*,qn_,qo_] <;> rfl),by repeat (first|(with_reducible first|exact HB.out|apply qb_|apply qa_|apply qc_|refine qi_ ?_ V8.out|refine qi_ ?_ aQ6.out|refine qi_ ?_ aW3.out)|exact HB.out)⟩
end Go.Proofs.Ytaiefdhenikiiaa.Base
namespace Go.Proofs.Ytaiefdhenikiiaa.Base
open Go.RowKit Go.Proofs.YtaiefdhenikiiaaW.PrintWords Go.Proofs.YtaiefdhenikiiaaW.PrintLast Go.Proofs.YtaiefdhenikiiaaW.PrintMore
attribute [local go_sem] max2_int qp1_ max_two min_two max_three min_three max_four min_four Go.Proofs.YtaiefdhenikiiaaZ.qw_   -- for this text's walks alone
set_option linter.unusedVariables false
set_option linter.unusedSimpArgs false
def qo1_.l0:Nat→List (S75)→List (S79)→Int→Option ((List (S79)))
 | 0,_,_,_=>none
 | k+1,x0,x3,x4=>if x4<(x0.length:Int) then (if 0≤x4 then ((laws_toTerm.f ((rd_T75 x0 x4).f0) ((rd_T75 x0 x4).f1.f0) ((rd_T75 x0 x4).f1.f1)).bind fun aY3=>(if x4<(x3.length:Int) then (qo1_.l0 k x0 (x3.set (x4:Int).toNat (⟨aY3.1,(⟨aY3.2.1,aY3.2.2⟩:S77)⟩:S79)) (wrap64 (x4+1))) else (none))) else (none)) else (some x3)
def qo1_.f (k:Nat) (l0:List (S75)):Option ((List (S79))):=if 0≤(l0.length:Int) then (if ((l0.length:Int):Int).toNat≤8796093022208 then (qo1_.l0 k l0 (List.replicate ((l0.length:Int):Int).toNat z79) 0) else (none)) else (none)
theorem qo1_.mono_l:∀ k,(∀ y0 y1 y2,LeO (qo1_.l0 k y0 y1 y2) (qo1_.l0 (k+1) y0 y1 y2))
 | 0=>fun _ _ _ r h=>by simp [qo1_.l0] at h
 | k+1=>by
  have ih0:=qo1_.mono_l k
  ·intro y0 y1 y2
   unfold qo1_.l0
   repeat' first
   | (with_reducible exact ih0 _ _ _)
   | (with_reducible exact LeO.refl _)
   | (with_reducible exact LeO.none _)
   | (with_reducible refine LeO.ite ?_ ?_)
   | (with_reducible refine LeO.bind ?_ (fun _=>?_))
   | exact ih0 _ _ _
   | exact LeO.none _
   | refine LeO.ite ?_ ?_
   | refine LeO.bind ?_ (fun _=>?_)
theorem qo1_.mono:∀ a0 k,LeO (qo1_.f k a0) (qo1_.f (k+1) a0):=by
 intro a0 k
 have ih0:=qo1_.mono_l k
 unfold qo1_.f
 repeat' first
   | (with_reducible exact ih0 _ _ _)
   | (with_reducible exact LeO.refl _)
   | (with_reducible exact LeO.none _)
   | (with_reducible refine LeO.ite ?_ ?_)
   | (with_reducible refine LeO.bind ?_ (fun _=>?_))
   | exact ih0 _ _ _
   | exact LeO.none _
   | refine LeO.ite ?_ ?_
   | refine LeO.bind ?_ (fun _=>?_)
set_option maxHeartbeats 8000000 in
set_option maxRecDepth 100000 in
theorem qo1_.calls (k:Nat) (A0:Option Addr) (c0:Nat) (l0:List (S75)) (r:List (S79)) (w:World) (hr0:Kd.C k75 w A0 l0.length l0) (hc0:l0.length≤c0) (h:qo1_.f k l0=some r) :
  Calls Try.prog 23 #[.slice A0 l0.length c0] w fun e w'=>∃ v0_:Value,e=.returned (v0_)∧Kd.R k79 79 w' w.heap.size (fun _=>True) v0_ r∧Below w.heap.size w w':=by
 have bJ2:=Try.underlying75
 have hu79:=Try.underlying79
 have HR0:=aK hr0
 have HC0:=aK hc0
 clear hr0 hc0
 have HB:=aK (Below.refl w.heap.size w)
 have H:(if 0≤(l0.length:Int) then (if ((l0.length:Int):Int).toNat≤8796093022208 then (qo1_.l0 k l0 (List.replicate ((l0.length:Int):Int).toNat z79) 0) else (none)) else (none))=some r:=h
 clear h
 by_cases c2:0≤(l0.length:Int)
 ·rw [if_pos c2] at H
  have c2b0:=eq_true c2
  have c2b1:decide (0≤(l0.length:Int))=true:=decide_eq_true c2
  clear c2
  by_cases c3:((l0.length:Int):Int).toNat≤8796093022208
  ·rw [if_pos c3] at H
   have c3b0:=eq_true c3
   have c3b1:decide (((l0.length:Int):Int).toNat≤8796093022208)=true:=decide_eq_true c3
   clear c3
   obtain ⟨bJ8,aJ6⟩:∃ y_:List (S79),y_=(List.replicate ((l0.length:Int):Int).toNat z79):=⟨_,rfl⟩
   replace H:(qo1_.l0 k l0 bJ8 0)=some r:=by first|(rw [aJ6];with_reducible exact H)|(have H2_:=(Option.bind_some _ _).symm.trans H;rw [aJ6];with_reducible exact H2_)|(have H2_:=(Option.bind_some _ _).symm.trans H;with_reducible exact H2_)|with_reducible exact H|(rw [aJ6];exact H)|exact H
   have aV4:=aK aJ6
   clear aJ6
   have H':=aK H
   clear H
   go_enter Try.func23,Try.ntmps23
   go_wp2_with (first|((with_reducible refine qt_ (N:=7) rfl ?_);refine Kd.R_make k79 _ 79 rfl (N:=7) rfl 24 _ _ rfl (l0.length:Int) rfl rfl Try.underlying24 (.agg #[(.string ⟨#[]⟩),(.int .i64 0),(.int .i64 0)]) 32 info79 rfl (by decide) (by omega) z79 (ok:=fun _=>True) (okp:=fun _=>True) (k79_mkM _ _ _ z79 ) (fun _ hk=>hk) trivial (of_decide_eq_true (by first|(with_reducible assumption)|assumption)) (Nat.le_trans (Nat.mul_le_mul_right _ (of_decide_eq_true (by first|(with_reducible assumption)|assumption):(l0.length:Int).toNat≤8796093022208)) (by omega)) (Below.refl _ _) (Nat.le_refl _) ?_;intro v130 w4 ho5 hb hg_ hnew_;clear hg_ hnew_;(first|rw [← aV4.out] at ho5|(simp only [Int.reduceToNat] at ho5;rw [← aV4.out] at ho5));have n0_:=aK (Kd.qn2_ ho5 (ql_ (by repeat (first|(with_reducible first|exact HB.out|apply qb_|apply qa_|apply qc_)|exact HB.out))));have n1_:=aK (qh_ (by repeat (first|(with_reducible first|exact HB.out|apply qb_|apply qa_|apply qc_)|exact HB.out)) hb);clear HB;have HO131:=n0_;have HB:=n1_;clear n0_ n1_;clear hb ho5))
   go_loopg [4] k (fun kq v4 w'=>∃ (x3_1:List (S79)) (o7:Int),v4=.int .i64 o7∧Aside0 (qo1_.l0 kq l0 x3_1 o7=some r)∧Aside0 (kq≤k)∧Aside0 (Kd.R k79 79 w' w.heap.size (fun _=>True) v130 x3_1)∧Aside0 (Below w.heap.size w w'))
   case atStart=>exact ⟨(bJ8),(0),(by first|rfl|(simp;done)|(simp [*];done)),H',⟨Nat.le_refl _⟩,⟨by (with_reducible repeat (first|apply Kd.qs1_|apply Kd.qx1_|apply Kd.R_drew));exact HO131.out⟩,⟨by repeat (first|(with_reducible first|exact HB.out|apply qb_|apply qa_|apply qc_)|exact HB.out)⟩⟩
   case round =>
    clear H'
    try clear c2
    try clear c2b0
    try clear c2b1
    try clear p2
    try clear c3
    try clear c3b0
    try clear c3b1
    obtain ⟨x3_1,o7,rfl,HA,HK1,X7,HB⟩:=hrel
    cases gk with
    | zero=>exact absurd HA.out (by simp [qo1_.l0])
    | succ k1 =>
     have H:=HA.out
     clear HA
     simp only [qo1_.l0] at H
     by_cases c6:o7<(l0.length:Int)
     ·rw [if_pos c6] at H
      have c6b0:decide (o7<(l0.length:Int))=true:=decide_eq_true c6
      clear c6
      by_cases c7:0≤o7
      ·rw [if_pos c7] at H
       have c7b0:decide (0≤o7)=true:=decide_eq_true c7
       clear c7
       replace H:=Option.bind_eq_some_iff.mp H
       obtain ⟨⟨aQ9,aQ8,aQ7⟩,A80,H⟩:=H
       replace H:(if o7<(x3_1.length:Int) then (qo1_.l0 k1 l0 (x3_1.set (o7:Int).toNat (⟨aQ9,(⟨aQ8,aQ7⟩:S77)⟩:S79)) (wrap64 (o7+1))) else (none))=some r:=H
       have A8:=aK A80
       clear A80
       by_cases c9:o7<(x3_1.length:Int)
       ·rw [if_pos c9] at H
        have c9b0:decide (o7<(x3_1.length:Int))=true:=decide_eq_true c9
        clear c9
        obtain ⟨aW4,aJ5⟩:∃ y_:List (S79),y_=(x3_1.set (o7:Int).toNat (⟨aQ9,(⟨aQ8,aQ7⟩:S77)⟩:S79)):=⟨_,rfl⟩
        replace H:(qo1_.l0 k1 l0 aW4 (wrap64 (o7+1)))=some r:=by first|(rw [aJ5];with_reducible exact H)|(have H2_:=(Option.bind_some _ _).symm.trans H;rw [aJ5];with_reducible exact H2_)|(have H2_:=(Option.bind_some _ _).symm.trans H;with_reducible exact H2_)|with_reducible exact H|(rw [aJ5];exact H)|exact H
        have Ny136:=aK aJ5
        clear aJ5
        have H':=aK H
        clear H
        have bJ1:0≤(o7:Int):=of_decide_eq_true (by first|(with_reducible assumption)|assumption)
        have bJ0:o7<(l0.length:Int):=of_decide_eq_true (by first|(with_reducible assumption)|assumption)
        obtain ⟨ad132,e132,Z6,Z5,Z4⟩:=at_T75 HR0.out o7 bJ1 bJ0
        cases e132
        replace Z6:=(HB.out.cell (World.block_lt_of_cell? w _ Z6)).trans Z6
        replace Z5:=(HB.out.cell (World.block_lt_of_cell? w _ Z5)).trans Z5
        replace Z4:=(HB.out.cell (World.block_lt_of_cell? w _ Z4)).trans Z4
        replace bJ1:=eq_true bJ1
        replace bJ0:=eq_true bJ0
        go_wp2_with (first|((with_reducible refine qy_ (f:=77) rfl ?_);refine goesL_ (some 20) rfl rfl Try.func77 (by kernel_rfl) rfl #[.agg #[.string ((rd_T75 l0 o7).f0),.int .i64 ((rd_T75 l0 o7).f1.f0),.int .i64 ((rd_T75 l0 o7).f1.f1)]] rfl (by (try simp only [List.map_toArray,List.map_cons,List.map_nil]);first|done|rfl|(simp only [List.length_drop,List.length_take];rfl)) ?_;(with_reducible refine (laws_toTerm.calls ((rd_T75 l0 o7).f0) ((rd_T75 l0 o7).f1.f0) ((rd_T75 l0 o7).f1.f1) aQ9 aQ8 aQ7 _ A8.out).mono ?_);rintro e w11 ⟨rfl,hb⟩;refine ⟨_,rfl,?_⟩;have n0_:=aK (Kd.ql2_ (by (with_reducible repeat (first|apply Kd.qs1_|apply Kd.qx1_|apply Kd.R_drew));exact X7.out) hb);have n1_:=aK (qh_ (by repeat (first|(with_reducible first|exact HB.out|apply qb_|apply qa_|apply qc_)|exact HB.out)) hb);clear X7;clear HB;have X7:=n0_;have HB:=n1_;clear n0_ n1_;(try clear hb);(try clear hb2);(try clear hk);(try clear hi);have p10:0≤(o7:Int):=of_decide_eq_true (by first|(with_reducible assumption)|assumption);have q10:(o7:Int)<((x3_1.length:Int):Int):=of_decide_eq_true (by first|(with_reducible assumption)|assumption);obtain ⟨X5,bQ7,bQ6,bQ5,gl10,cl10,bQ9⟩:=Kd.R_form X7.out (by omega);(first|cases bQ6|(injection bQ6 with ea_ en_ ec_;(first|subst ea_|(injection ea_ with ea_;subst ea_));subst ec_;clear en_));have bJ7:=aK bQ5;have GG10:=aK bQ9;clear bQ5 gl10 bQ9;obtain ⟨ce10,hcl10,bQ4,aZ8,aZ7⟩:=Kd.R_elem X7.out z79 (o7:Int) p10 q10;obtain rfl:=k79_openM bQ4;have hx10_0:w11.cell? ⟨X5,(o7:Int).toNat*3,none⟩=some (.string ((rd_T79 x3_1 o7).f0)):=aZ8 0 _ rfl;have hx10_1:w11.cell? ⟨X5,(o7:Int).toNat*3+1,none⟩=some (.int .i64 ((rd_T79 x3_1 o7).f1.f0)):=aZ8 1 _ rfl;have hx10_2:w11.cell? ⟨X5,(o7:Int).toNat*3+2,none⟩=some (.int .i64 ((rd_T79 x3_1 o7).f1.f1)):=aZ8 2 _ rfl;have hf10_0:w11.frozen? ⟨X5,(o7:Int).toNat*3,none⟩=false:=aZ7 0;have hf10_1:w11.frozen? ⟨X5,(o7:Int).toNat*3+1,none⟩=false:=aZ7 1;have hf10_2:w11.frozen? ⟨X5,(o7:Int).toNat*3+2,none⟩=false:=aZ7 2;(try clear hcl10);(try clear aZ8);(try clear aZ7);(try clear bQ4);replace p10:=eq_true p10;replace q10:=eq_true q10;have bQ8:=aK (show Kd.R k79 79 w11 w.heap.size (fun _=>True) (.slice (some ⟨X5,0,none⟩) x3_1.length bQ7) x3_1 from (by (with_reducible repeat (first|apply Kd.qs1_|apply Kd.qx1_|apply Kd.R_drew));exact X7.out));obtain ⟨ce12,aV3,bQ3,aJ7,aZ6⟩:=Kd.R_elem bQ8.out z79 (o7:Int) (of_decide_eq_true (by first|(with_reducible assumption)|assumption)) (by have h_:(o7:Int)<((x3_1.length:Int):Int):=of_decide_eq_true (by first|(with_reducible assumption)|assumption);first|exact h_|(have e_:=(Kd.qg3_ X7.out).1;omega)|simpa using h_);obtain rfl:=k79_openM bQ3;have bJ6:=Kd.R_seg bQ8.out (o7:Int) (of_decide_eq_true (by first|(with_reducible assumption)|assumption)) (by have h_:(o7:Int)<((x3_1.length:Int):Int):=of_decide_eq_true (by first|(with_reducible assumption)|assumption);first|exact h_|(have e_:=(Kd.qg3_ X7.out).1;omega)|simpa using h_) (seg:=[.string aQ9,.int .i64 aQ8,.int .i64 aQ7]) (j:=0) aV3 aJ7 (show 3≤3 from by decide) (x':=(⟨aQ9,(⟨aQ8,aQ7⟩:S77)⟩:S79)) (k79_mkM _ _ _ (⟨aQ9,(⟨aQ8,aQ7⟩:S77)⟩:S79) ) (fun _ hk=>hk);have hx12_0:=aJ7 0 _ rfl;(try simp only [show (k79).sz=3 from rfl,Nat.mul_one,Nat.add_zero] at hx12_0);have hf12_0:=aZ6 0;(try simp only [show (k79).sz=3 from rfl,Nat.mul_one,Nat.add_zero] at hf12_0);have hx12_1:=aJ7 1 _ rfl;(try simp only [show (k79).sz=3 from rfl,Nat.mul_one,Nat.add_zero] at hx12_1);have hf12_1:=aZ6 1;(try simp only [show (k79).sz=3 from rfl,Nat.mul_one,Nat.add_zero] at hf12_1);have hx12_2:=aJ7 2 _ rfl;(try simp only [show (k79).sz=3 from rfl,Nat.mul_one,Nat.add_zero] at hx12_2);have hf12_2:=aZ6 2;(try simp only [show (k79).sz=3 from rfl,Nat.mul_one,Nat.add_zero] at hf12_2);(try clear aV3);(try clear aJ7);(try clear aZ6);(try clear bQ3))|((with_reducible refine gate_store (t:=79) (p:=21) rfl ?_);refine store_event (t:=79) (p:=21) (v:=?vo_w13) (w1:=(((w11.setCell ⟨X5,(o7:Int).toNat*3,none⟩ (.string aQ9)).setCell ⟨X5,(o7:Int).toNat*3+1,none⟩ (.int .i64 aQ8)).setCell ⟨X5,(o7:Int).toNat*3+2,none⟩ (.int .i64 aQ7))) ?hg ?ho ?hn ?hr ?_;(case ho=>rfl);(case hg=>rfl);(case hn=>rfl);(case hr=>first|(go_simp;done)|(go_simp;rfl));intro w13 hw;have hg:w11.grownBy w13 (some X5):=(by rw [hw];exact bJ6.2);have hp_:Kd.R k79 79 w13 w.heap.size (fun _=>True) (.slice (some ⟨X5,0,none⟩) x3_1.length bQ7) aW4:=(by rw [hw,Ny136.out];exact bJ6.1);clear bJ6;have n0_:=aK (hp_);have n1_:=aK ((by rw [hw];exact qi_ (qi_ (qi_ (HB.out) bJ7.out) bJ7.out) bJ7.out:Below w.heap.size w w13));clear X7;clear HB;have X7:=n0_;have HB:=n1_;clear n0_ n1_;clear hg hw hp_))
        go_roundg k1
        case measure=>have:=HK1.out;omega
        case rel=>exact ⟨(aW4),(wrap64 (o7+1)),(by first|rfl|(simp;done)|(simp [*];done)),H',⟨by have:=HK1.out;omega⟩,⟨by (with_reducible repeat (first|apply Kd.qs1_|apply Kd.qx1_|apply Kd.R_drew));exact X7.out⟩,⟨by repeat (first|(with_reducible first|exact HB.out|apply qb_|apply qa_|apply qc_)|exact HB.out)⟩⟩
       ·rw [if_neg c9] at H
        exact absurd H (by simp)
      ·rw [if_neg c7] at H
       exact absurd H (by simp)
     ·rw [if_neg c6] at H
      have c6b0:decide (o7<(l0.length:Int))=false:=decide_eq_false c6
      clear c6
      obtain rfl:=Option.some.inj H
      go_wp2
      go_ret
      exact ⟨_,by first|rfl|(simp [qn_,qo_] <;> rfl)|(simp [*,qn_,qo_] <;> rfl),by (with_reducible repeat (first|apply Kd.qs1_|apply Kd.qx1_|apply Kd.R_drew));exact X7.out,by repeat (first|(with_reducible first|exact HB.out|apply qb_|apply qa_|apply qc_)|exact HB.out)⟩
  ·rw [if_neg c3] at H
   exact absurd H (by simp)
 ·rw [if_neg c2] at H
  exact absurd H (by simp)
end Go.Proofs.Ytaiefdhenikiiaa.Base
namespace Go.Proofs.Ytaiefdhenikiiaa.Base
open Go.RowKit Go.Proofs.YtaiefdhenikiiaaW.PrintWords Go.Proofs.YtaiefdhenikiiaaW.PrintLast Go.Proofs.YtaiefdhenikiiaaW.PrintMore
attribute [local go_sem] max2_int qp1_ max_two min_two max_three min_three max_four min_four Go.Proofs.YtaiefdhenikiiaaZ.qw_   -- for this text's walks alone
set_option linter.unusedVariables false
set_option linter.unusedSimpArgs false
def qz2_.f (a0_0:Int) (a0_1:Int) (a1_0:Int) (a1_1:Int):Option (Bool):=if a0_0=a1_0 then (if a0_1=a1_1 then (some true) else (some false)) else (some false)
set_option maxHeartbeats 8000000 in
set_option maxRecDepth 100000 in
theorem qz2_.calls (a0_0:Int) (a0_1:Int) (a1_0:Int) (a1_1:Int) (r:Bool) (w:World) (h:qz2_.f a0_0 a0_1 a1_0 a1_1=some r) :
  Calls Try.prog 157 #[.agg #[.int .i64 a0_0,.int .i64 a0_1],.agg #[.int .i64 a1_0,.int .i64 a1_1]] w fun e w'=>e=.returned (.bool r)∧Below w.heap.size w w':=by
 have hu77:=Try.underlying77
 have HB:=aK (Below.refl w.heap.size w)
 have H:(if a0_0=a1_0 then (if a0_1=a1_1 then (some true) else (some false)) else (some false))=some r:=h
 clear h
 by_cases c3:a0_0=a1_0
 ·rw [if_pos c3] at H
  have c3b0:(a0_0==a1_0)=true:=beq_iff_eq.mpr c3
  have c3b1:(a0_0 != a1_0)=false:=bne_eq_false_iff_eq.mpr c3
  clear c3
  by_cases c4:a0_1=a1_1
  ·rw [if_pos c4] at H
   have c4b0:(a0_1==a1_1)=true:=beq_iff_eq.mpr c4
   have c4b1:(a0_1 != a1_1)=false:=bne_eq_false_iff_eq.mpr c4
   clear c4
   obtain rfl:=Option.some.inj H
   go_enter Try.func157,Try.ntmps157
   go_wp2_with (first|((with_reducible refine qt_ (N:=2) rfl ?_);refine qr_ ?hg (N:=2) ?hd (cs:=#[.int .i64 a0_0,.int .i64 a0_1]) (t:=77) ?hr ?_;(case hd=>rfl);(case hg=>rfl);(case hr=>first|(go_simp;done)|(go_simp;rfl));intro o8 hg w5 hbox hb;have n0_:=aK (qh_ (by repeat (first|(with_reducible first|exact HB.out|apply qb_|apply qa_|apply qc_)|exact HB.out)) hb);have n1_:=aK (hbox);have n2_:=aK ((by rw [hg];exact (ql_ (by repeat (first|(with_reducible first|exact HB.out|apply qb_|apply qa_|apply qc_)|exact HB.out))):w.heap.size≤o8));have n3_:=aK ((by rw [hg];exact (ql_ (by repeat (first|(with_reducible first|exact HB.out|apply qb_|apply qa_|apply qc_)|exact HB.out))):w.heap.size≤o8));clear HB;have HB:=n0_;have q8:=n1_;have aV8:=n2_;have O5:=n3_;clear n0_ n1_ n2_ n3_;clear hb hbox hg)|((with_reducible refine qt_ (N:=3) rfl ?_);refine qr_ ?hg (N:=3) ?hd (cs:=#[.int .i64 a1_0,.int .i64 a1_1]) (t:=77) ?hr ?_;(case hd=>rfl);(case hg=>rfl);(case hr=>first|(go_simp;done)|(go_simp;rfl));intro F7 hg w6 hbox hb;have n0_:=aK (qk_ (g:=o8) (o:=.cells #[.int .i64 a0_0,.int .i64 a0_1] 77 (0,0)) (by (with_reducible repeat (first|refine qg_ ?_ _|refine qj_ ?_|refine qf_ ?_ _));exact q8.out) hb);have n1_:=aK (qh_ (by repeat (first|(with_reducible first|exact HB.out|apply qb_|apply qa_|apply qc_|refine qi_ ?_ O5.out)|exact HB.out)) hb);have n2_:=aK (hbox);have n3_:=aK ((by rw [hg];exact (ql_ (by repeat (first|(with_reducible first|exact HB.out|apply qb_|apply qa_|apply qc_|refine qi_ ?_ O5.out)|exact HB.out))):w.heap.size≤F7));have n4_:=aK ((by rw [hg];exact (ql_ (by repeat (first|(with_reducible first|exact HB.out|apply qb_|apply qa_|apply qc_|refine qi_ ?_ O5.out)|exact HB.out))):w.heap.size≤F7));have n5_:=aK ((by rw [hg];exact Nat.ne_of_lt (blk_lt (g:=o8) (o:=.cells #[.int .i64 a0_0,.int .i64 a0_1] 77 (0,0)) (by (with_reducible repeat (first|refine qg_ ?_ _|refine qj_ ?_|refine qf_ ?_ _));exact q8.out)):o8≠F7));have n6_:=aK ((by rw [hg];exact Nat.ne_of_gt (blk_lt (g:=o8) (o:=.cells #[.int .i64 a0_0,.int .i64 a0_1] 77 (0,0)) (by (with_reducible repeat (first|refine qg_ ?_ _|refine qj_ ?_|refine qf_ ?_ _));exact q8.out)):F7≠o8));clear q8;clear HB;have q8:=n0_;have HB:=n1_;have O6:=n2_;have aV7:=n3_;have aQ5:=n4_;have P7:=n5_;have P6:=n6_;clear n0_ n1_ n2_ n3_ n4_ n5_ n6_;clear hb hbox hg;have hnb7:=P7.out;have hnc7:=P6.out;have hcz8_0:w6.cell? ⟨o8,0,none⟩=some (.int .i64 a0_0):=(qe_ q8.out 0).trans rfl;have hcz8_1:w6.cell? ⟨o8,1,none⟩=some (.int .i64 a0_1):=(qe_ q8.out 1).trans rfl;have hfz8_0:=qd_ q8.out 0;have hfz8_1:=qd_ q8.out 1;have hcz9_0:w6.cell? ⟨F7,0,none⟩=some (.int .i64 a1_0):=(qe_ O6.out 0).trans rfl;have hcz9_1:w6.cell? ⟨F7,1,none⟩=some (.int .i64 a1_1):=(qe_ O6.out 1).trans rfl;have hfz9_0:=qd_ O6.out 0;have hfz9_1:=qd_ O6.out 1))
   go_ret
   exact ⟨by first|rfl|(simp [qn_,qo_] <;> rfl)|(simp [*,qn_,qo_] <;> rfl),by repeat (first|(with_reducible first|exact HB.out|apply qb_|apply qa_|apply qc_|refine qi_ ?_ O5.out|refine qi_ ?_ aQ5.out)|exact HB.out)⟩
  ·rw [if_neg c4] at H
   have c4b0:(a0_1==a1_1)=false:=beq_eq_false_iff_ne.mpr c4
   have c4b1:(a0_1 != a1_1)=true:=bne_iff_ne.mpr c4
   obtain rfl:=Option.some.inj H
   go_enter Try.func157,Try.ntmps157
   go_wp2_with (first|((with_reducible refine qt_ (N:=2) rfl ?_);refine qr_ ?hg (N:=2) ?hd (cs:=#[.int .i64 a0_0,.int .i64 a0_1]) (t:=77) ?hr ?_;(case hd=>rfl);(case hg=>rfl);(case hr=>first|(go_simp;done)|(go_simp;rfl));intro o8 hg w10 hbox hb;have n0_:=aK (qh_ (by repeat (first|(with_reducible first|exact HB.out|apply qb_|apply qa_|apply qc_)|exact HB.out)) hb);have n1_:=aK (hbox);have n2_:=aK ((by rw [hg];exact (ql_ (by repeat (first|(with_reducible first|exact HB.out|apply qb_|apply qa_|apply qc_)|exact HB.out))):w.heap.size≤o8));have n3_:=aK ((by rw [hg];exact (ql_ (by repeat (first|(with_reducible first|exact HB.out|apply qb_|apply qa_|apply qc_)|exact HB.out))):w.heap.size≤o8));clear HB;have HB:=n0_;have q8:=n1_;have aV8:=n2_;have O5:=n3_;clear n0_ n1_ n2_ n3_;clear hb hbox hg)|((with_reducible refine qt_ (N:=3) rfl ?_);refine qr_ ?hg (N:=3) ?hd (cs:=#[.int .i64 a1_0,.int .i64 a1_1]) (t:=77) ?hr ?_;(case hd=>rfl);(case hg=>rfl);(case hr=>first|(go_simp;done)|(go_simp;rfl));intro F7 hg w11 hbox hb;have n0_:=aK (qk_ (g:=o8) (o:=.cells #[.int .i64 a0_0,.int .i64 a0_1] 77 (0,0)) (by (with_reducible repeat (first|refine qg_ ?_ _|refine qj_ ?_|refine qf_ ?_ _));exact q8.out) hb);have n1_:=aK (qh_ (by repeat (first|(with_reducible first|exact HB.out|apply qb_|apply qa_|apply qc_|refine qi_ ?_ O5.out)|exact HB.out)) hb);have n2_:=aK (hbox);have n3_:=aK ((by rw [hg];exact (ql_ (by repeat (first|(with_reducible first|exact HB.out|apply qb_|apply qa_|apply qc_|refine qi_ ?_ O5.out)|exact HB.out))):w.heap.size≤F7));have n4_:=aK ((by rw [hg];exact (ql_ (by repeat (first|(with_reducible first|exact HB.out|apply qb_|apply qa_|apply qc_|refine qi_ ?_ O5.out)|exact HB.out))):w.heap.size≤F7));have n5_:=aK ((by rw [hg];exact Nat.ne_of_lt (blk_lt (g:=o8) (o:=.cells #[.int .i64 a0_0,.int .i64 a0_1] 77 (0,0)) (by (with_reducible repeat (first|refine qg_ ?_ _|refine qj_ ?_|refine qf_ ?_ _));exact q8.out)):o8≠F7));have n6_:=aK ((by rw [hg];exact Nat.ne_of_gt (blk_lt (g:=o8) (o:=.cells #[.int .i64 a0_0,.int .i64 a0_1] 77 (0,0)) (by (with_reducible repeat (first|refine qg_ ?_ _|refine qj_ ?_|refine qf_ ?_ _));exact q8.out)):F7≠o8));clear q8;clear HB;have q8:=n0_;have HB:=n1_;have O6:=n2_;have aV7:=n3_;have aQ5:=n4_;have P7:=n5_;have P6:=n6_;clear n0_ n1_ n2_ n3_ n4_ n5_ n6_;clear hb hbox hg;have hnb12:=P7.out;have hnc12:=P6.out;have hcz13_0:w11.cell? ⟨o8,0,none⟩=some (.int .i64 a0_0):=(qe_ q8.out 0).trans rfl;have hcz13_1:w11.cell? ⟨o8,1,none⟩=some (.int .i64 a0_1):=(qe_ q8.out 1).trans rfl;have hfz13_0:=qd_ q8.out 0;have hfz13_1:=qd_ q8.out 1;have hcz14_0:w11.cell? ⟨F7,0,none⟩=some (.int .i64 a1_0):=(qe_ O6.out 0).trans rfl;have hcz14_1:w11.cell? ⟨F7,1,none⟩=some (.int .i64 a1_1):=(qe_ O6.out 1).trans rfl;have hfz14_0:=qd_ O6.out 0;have hfz14_1:=qd_ O6.out 1))
   go_ret
   exact ⟨by first|rfl|(simp [qn_,qo_] <;> rfl)|(simp [*,qn_,qo_] <;> rfl),by repeat (first|(with_reducible first|exact HB.out|apply qb_|apply qa_|apply qc_|refine qi_ ?_ O5.out|refine qi_ ?_ aQ5.out)|exact HB.out)⟩
 ·rw [if_neg c3] at H
  have c3b0:(a0_0==a1_0)=false:=beq_eq_false_iff_ne.mpr c3
  have c3b1:(a0_0 != a1_0)=true:=bne_iff_ne.mpr c3
  obtain rfl:=Option.some.inj H
  go_enter Try.func157,Try.ntmps157
  go_wp2_with (first|((with_reducible refine qt_ (N:=2) rfl ?_);refine qr_ ?hg (N:=2) ?hd (cs:=#[.int .i64 a0_0,.int .i64 a0_1]) (t:=77) ?hr ?_;(case hd=>rfl);(case hg=>rfl);(case hr=>first|(go_simp;done)|(go_simp;rfl));intro o8 hg w15 hbox hb;have n0_:=aK (qh_ (by repeat (first|(with_reducible first|exact HB.out|apply qb_|apply qa_|apply qc_)|exact HB.out)) hb);have n1_:=aK (hbox);have n2_:=aK ((by rw [hg];exact (ql_ (by repeat (first|(with_reducible first|exact HB.out|apply qb_|apply qa_|apply qc_)|exact HB.out))):w.heap.size≤o8));have n3_:=aK ((by rw [hg];exact (ql_ (by repeat (first|(with_reducible first|exact HB.out|apply qb_|apply qa_|apply qc_)|exact HB.out))):w.heap.size≤o8));clear HB;have HB:=n0_;have q8:=n1_;have aV8:=n2_;have O5:=n3_;clear n0_ n1_ n2_ n3_;clear hb hbox hg)|((with_reducible refine qt_ (N:=3) rfl ?_);refine qr_ ?hg (N:=3) ?hd (cs:=#[.int .i64 a1_0,.int .i64 a1_1]) (t:=77) ?hr ?_;(case hd=>rfl);(case hg=>rfl);(case hr=>first|(go_simp;done)|(go_simp;rfl));intro F7 hg w16 hbox hb;have n0_:=aK (qk_ (g:=o8) (o:=.cells #[.int .i64 a0_0,.int .i64 a0_1] 77 (0,0)) (by (with_reducible repeat (first|refine qg_ ?_ _|refine qj_ ?_|refine qf_ ?_ _));exact q8.out) hb);have n1_:=aK (qh_ (by repeat (first|(with_reducible first|exact HB.out|apply qb_|apply qa_|apply qc_|refine qi_ ?_ O5.out)|exact HB.out)) hb);have n2_:=aK (hbox);have n3_:=aK ((by rw [hg];exact (ql_ (by repeat (first|(with_reducible first|exact HB.out|apply qb_|apply qa_|apply qc_|refine qi_ ?_ O5.out)|exact HB.out))):w.heap.size≤F7));have n4_:=aK ((by rw [hg];exact (ql_ (by repeat (first|(with_reducible first|exact HB.out|apply qb_|apply qa_|apply qc_|refine qi_ ?_ O5.out)|exact HB.out))):w.heap.size≤F7));have n5_:=aK ((by rw [hg];exact Nat.ne_of_lt (blk_lt (g:=o8) (o:=.cells #[.int .i64 a0_0,.int .i64 a0_1] 77 (0,0)) (by (with_reducible repeat (first|refine qg_ ?_ _|refine qj_ ?_|refine qf_ ?_ _));exact q8.out)):o8≠F7));have n6_:=aK ((by rw [hg];exact Nat.ne_of_gt (blk_lt (g:=o8) (o:=.cells #[.int .i64 a0_0,.int .i64 a0_1] 77 (0,0)) (by (with_reducible repeat (first|refine qg_ ?_ _|refine qj_ ?_|refine qf_ ?_ _));exact q8.out)):F7≠o8));clear q8;clear HB;have q8:=n0_;have HB:=n1_;have O6:=n2_;have aV7:=n3_;have aQ5:=n4_;have P7:=n5_;have P6:=n6_;clear n0_ n1_ n2_ n3_ n4_ n5_ n6_;clear hb hbox hg;have hnb17:=P7.out;have hnc17:=P6.out;have aJ0:w16.cell? ⟨o8,0,none⟩=some (.int .i64 a0_0):=(qe_ q8.out 0).trans rfl;have Z9:w16.cell? ⟨o8,1,none⟩=some (.int .i64 a0_1):=(qe_ q8.out 1).trans rfl;have Z8:=qd_ q8.out 0;have Z7:=qd_ q8.out 1;have hcz19_0:w16.cell? ⟨F7,0,none⟩=some (.int .i64 a1_0):=(qe_ O6.out 0).trans rfl;have hcz19_1:w16.cell? ⟨F7,1,none⟩=some (.int .i64 a1_1):=(qe_ O6.out 1).trans rfl;have hfz19_0:=qd_ O6.out 0;have hfz19_1:=qd_ O6.out 1))
  go_ret
  exact ⟨by first|rfl|(simp [qn_,qo_] <;> rfl)|(simp [*,qn_,qo_] <;> rfl),by repeat (first|(with_reducible first|exact HB.out|apply qb_|apply qa_|apply qc_|refine qi_ ?_ O5.out|refine qi_ ?_ aQ5.out)|exact HB.out)⟩
end Go.Proofs.Ytaiefdhenikiiaa.Base
namespace Go.Proofs.Ytaiefdhenikiiaa.Base
open Go.RowKit Go.Proofs.YtaiefdhenikiiaaW.PrintWords Go.Proofs.YtaiefdhenikiiaaW.PrintLast Go.Proofs.YtaiefdhenikiiaaW.PrintMore
attribute [local go_sem] max2_int qp1_ max_two min_two max_three min_three max_four min_four Go.Proofs.YtaiefdhenikiiaaZ.qw_   -- for this text's walks alone
set_option linter.unusedVariables false
set_option linter.unusedSimpArgs false
def qi3_.f (a0_0:ByteArray) (a0_1:Int) (o5:Int) (a1_0:ByteArray) (a1_1:Int) (R7:Int):Option (Bool):=if a0_0.toList=a1_0.toList then ((qz2_.f a0_1 o5 a1_1 R7).bind fun t157=>(if t157=true then (some true) else (some false))) else (some false)
set_option maxHeartbeats 8000000 in
set_option maxRecDepth 100000 in
theorem qi3_.calls (a0_0:ByteArray) (a0_1:Int) (o5:Int) (a1_0:ByteArray) (a1_1:Int) (R7:Int) (r:Bool) (w:World) (h:qi3_.f a0_0 a0_1 o5 a1_0 a1_1 R7=some r) :
  Calls Try.prog 80 #[.agg #[.string a0_0,.int .i64 a0_1,.int .i64 o5],.agg #[.string a1_0,.int .i64 a1_1,.int .i64 R7]] w fun e w'=>e=.returned (.bool r)∧Below w.heap.size w w':=by
 have hu79:=Try.underlying79
 have hu77:=Try.underlying77
 have HB:=aK (Below.refl w.heap.size w)
 have H:(if a0_0.toList=a1_0.toList then ((qz2_.f a0_1 o5 a1_1 R7).bind fun t157=>(if t157=true then (some true) else (some false))) else (some false))=some r:=h
 clear h
 by_cases c3:a0_0.toList=a1_0.toList
 ·rw [if_pos c3] at H
  have c3b0:(a0_0.toList==a1_0.toList)=true:=beq_iff_eq.mpr c3
  have c3b1:(a0_0.toList != a1_0.toList)=false:=bne_eq_false_iff_eq.mpr c3
  clear c3
  replace H:=Option.bind_eq_some_iff.mp H
  obtain ⟨t157,A40,H⟩:=H
  replace H:(if t157=true then (some true) else (some false))=some r:=H
  have A4:=aK A40
  clear A40
  by_cases c5:t157=true
  ·subst c5
   have H1:(some true)=some r:=by rw [if_pos rfl] at H;exact H
   clear H
   have H:=H1
   clear H1
   obtain rfl:=Option.some.inj H
   go_enter Try.func80,Try.ntmps80
   go_wp2_with (first|((with_reducible refine qt_ (N:=2) rfl ?_);refine qr_ ?hg (N:=2) ?hd (cs:=#[.string a0_0,.int .i64 a0_1,.int .i64 o5]) (t:=79) ?hr ?_;(case hd=>rfl);(case hg=>rfl);(case hr=>first|(go_simp;done)|(go_simp;rfl));intro l8 hg w6 hbox hb;have n0_:=aK (qh_ (by repeat (first|(with_reducible first|exact HB.out|apply qb_|apply qa_|apply qc_)|exact HB.out)) hb);have n1_:=aK (hbox);have n2_:=aK ((by rw [hg];exact (ql_ (by repeat (first|(with_reducible first|exact HB.out|apply qb_|apply qa_|apply qc_)|exact HB.out))):w.heap.size≤l8));have n3_:=aK ((by rw [hg];exact (ql_ (by repeat (first|(with_reducible first|exact HB.out|apply qb_|apply qa_|apply qc_)|exact HB.out))):w.heap.size≤l8));clear HB;have HB:=n0_;have l6:=n1_;have aV6:=n2_;have K3:=n3_;clear n0_ n1_ n2_ n3_;clear hb hbox hg)|((with_reducible refine qt_ (N:=3) rfl ?_);refine qr_ ?hg (N:=3) ?hd (cs:=#[.string a1_0,.int .i64 a1_1,.int .i64 R7]) (t:=79) ?hr ?_;(case hd=>rfl);(case hg=>rfl);(case hr=>first|(go_simp;done)|(go_simp;rfl));intro D5 hg w7 hbox hb;have n0_:=aK (qk_ (g:=l8) (o:=.cells #[.string a0_0,.int .i64 a0_1,.int .i64 o5] 79 (0,0)) (by (with_reducible repeat (first|refine qg_ ?_ _|refine qj_ ?_|refine qf_ ?_ _));exact l6.out) hb);have n1_:=aK (qh_ (by repeat (first|(with_reducible first|exact HB.out|apply qb_|apply qa_|apply qc_|refine qi_ ?_ K3.out)|exact HB.out)) hb);have n2_:=aK (hbox);have n3_:=aK ((by rw [hg];exact (ql_ (by repeat (first|(with_reducible first|exact HB.out|apply qb_|apply qa_|apply qc_|refine qi_ ?_ K3.out)|exact HB.out))):w.heap.size≤D5));have n4_:=aK ((by rw [hg];exact (ql_ (by repeat (first|(with_reducible first|exact HB.out|apply qb_|apply qa_|apply qc_|refine qi_ ?_ K3.out)|exact HB.out))):w.heap.size≤D5));have n5_:=aK ((by rw [hg];exact Nat.ne_of_lt (blk_lt (g:=l8) (o:=.cells #[.string a0_0,.int .i64 a0_1,.int .i64 o5] 79 (0,0)) (by (with_reducible repeat (first|refine qg_ ?_ _|refine qj_ ?_|refine qf_ ?_ _));exact l6.out)):l8≠D5));have n6_:=aK ((by rw [hg];exact Nat.ne_of_gt (blk_lt (g:=l8) (o:=.cells #[.string a0_0,.int .i64 a0_1,.int .i64 o5] 79 (0,0)) (by (with_reducible repeat (first|refine qg_ ?_ _|refine qj_ ?_|refine qf_ ?_ _));exact l6.out)):D5≠l8));clear l6;clear HB;have l6:=n0_;have HB:=n1_;have C9:=n2_;have aV5:=n3_;have Y6:=n4_;have P5:=n5_;have O9:=n6_;clear n0_ n1_ n2_ n3_ n4_ n5_ n6_;clear hb hbox hg;have aY1:=P5.out;have aX9:=O9.out;have hcz9_0:w7.cell? ⟨l8,0,none⟩=some (.string a0_0):=(qe_ l6.out 0).trans rfl;have hcz9_1:w7.cell? ⟨l8,1,none⟩=some (.int .i64 a0_1):=(qe_ l6.out 1).trans rfl;have hcz9_2:w7.cell? ⟨l8,2,none⟩=some (.int .i64 o5):=(qe_ l6.out 2).trans rfl;have hfz9_0:=qd_ l6.out 0;have hfz9_1:=qd_ l6.out 1;have hfz9_2:=qd_ l6.out 2;have hcz10_0:w7.cell? ⟨D5,0,none⟩=some (.string a1_0):=(qe_ C9.out 0).trans rfl;have hcz10_1:w7.cell? ⟨D5,1,none⟩=some (.int .i64 a1_1):=(qe_ C9.out 1).trans rfl;have hcz10_2:w7.cell? ⟨D5,2,none⟩=some (.int .i64 R7):=(qe_ C9.out 2).trans rfl;have hfz10_0:=qd_ C9.out 0;have hfz10_1:=qd_ C9.out 1;have hfz10_2:=qd_ C9.out 2)|((with_reducible refine qy_ (f:=157) rfl ?_);refine goesL_ (some 14) rfl rfl Try.func157 (by kernel_rfl) rfl #[.agg #[.int .i64 a0_1,.int .i64 o5],.agg #[.int .i64 a1_1,.int .i64 R7]] rfl (by (try simp only [List.map_toArray,List.map_cons,List.map_nil]);first|done|rfl|(simp only [List.length_drop,List.length_take];rfl)) ?_;(with_reducible refine (qz2_.calls a0_1 o5 a1_1 R7 true _ A4.out).mono ?_);rintro e w11 ⟨rfl,hb⟩;refine ⟨_,rfl,?_⟩;have n0_:=aK (qk_ (g:=l8) (o:=.cells #[.string a0_0,.int .i64 a0_1,.int .i64 o5] 79 (0,0)) (by (with_reducible repeat (first|refine qg_ ?_ _|refine qj_ ?_|refine qf_ ?_ _));exact l6.out) hb);have n1_:=aK (qk_ (g:=D5) (o:=.cells #[.string a1_0,.int .i64 a1_1,.int .i64 R7] 79 (0,0)) (by (with_reducible repeat (first|refine qg_ ?_ _|refine qj_ ?_|refine qf_ ?_ _));exact C9.out) hb);have n2_:=aK (qh_ (by repeat (first|(with_reducible first|exact HB.out|apply qb_|apply qa_|apply qc_|refine qi_ ?_ K3.out|refine qi_ ?_ Y6.out)|exact HB.out)) hb);clear l6;clear C9;clear HB;have l6:=n0_;have C9:=n1_;have HB:=n2_;clear n0_ n1_ n2_;(try clear hb);(try clear hb2);(try clear hk);(try clear hi)))
   go_ret
   exact ⟨by first|rfl|(simp [qn_,qo_] <;> rfl)|(simp [*,qn_,qo_] <;> rfl),by repeat (first|(with_reducible first|exact HB.out|apply qb_|apply qa_|apply qc_|refine qi_ ?_ K3.out|refine qi_ ?_ Y6.out)|exact HB.out)⟩
  ·replace c5:=Bool.eq_false_iff.mpr c5
   subst c5
   have H1:(some false)=some r:=by rw [if_neg (show ¬ (false=true) by decide)] at H;exact H
   clear H
   have H:=H1
   clear H1
   obtain rfl:=Option.some.inj H
   go_enter Try.func80,Try.ntmps80
   go_wp2_with (first|((with_reducible refine qt_ (N:=2) rfl ?_);refine qr_ ?hg (N:=2) ?hd (cs:=#[.string a0_0,.int .i64 a0_1,.int .i64 o5]) (t:=79) ?hr ?_;(case hd=>rfl);(case hg=>rfl);(case hr=>first|(go_simp;done)|(go_simp;rfl));intro l8 hg w12 hbox hb;have n0_:=aK (qh_ (by repeat (first|(with_reducible first|exact HB.out|apply qb_|apply qa_|apply qc_)|exact HB.out)) hb);have n1_:=aK (hbox);have n2_:=aK ((by rw [hg];exact (ql_ (by repeat (first|(with_reducible first|exact HB.out|apply qb_|apply qa_|apply qc_)|exact HB.out))):w.heap.size≤l8));have n3_:=aK ((by rw [hg];exact (ql_ (by repeat (first|(with_reducible first|exact HB.out|apply qb_|apply qa_|apply qc_)|exact HB.out))):w.heap.size≤l8));clear HB;have HB:=n0_;have l6:=n1_;have aV6:=n2_;have K3:=n3_;clear n0_ n1_ n2_ n3_;clear hb hbox hg)|((with_reducible refine qt_ (N:=3) rfl ?_);refine qr_ ?hg (N:=3) ?hd (cs:=#[.string a1_0,.int .i64 a1_1,.int .i64 R7]) (t:=79) ?hr ?_;(case hd=>rfl);(case hg=>rfl);(case hr=>first|(go_simp;done)|(go_simp;rfl));intro D5 hg w13 hbox hb;have n0_:=aK (qk_ (g:=l8) (o:=.cells #[.string a0_0,.int .i64 a0_1,.int .i64 o5] 79 (0,0)) (by (with_reducible repeat (first|refine qg_ ?_ _|refine qj_ ?_|refine qf_ ?_ _));exact l6.out) hb);have n1_:=aK (qh_ (by repeat (first|(with_reducible first|exact HB.out|apply qb_|apply qa_|apply qc_|refine qi_ ?_ K3.out)|exact HB.out)) hb);have n2_:=aK (hbox);have n3_:=aK ((by rw [hg];exact (ql_ (by repeat (first|(with_reducible first|exact HB.out|apply qb_|apply qa_|apply qc_|refine qi_ ?_ K3.out)|exact HB.out))):w.heap.size≤D5));have n4_:=aK ((by rw [hg];exact (ql_ (by repeat (first|(with_reducible first|exact HB.out|apply qb_|apply qa_|apply qc_|refine qi_ ?_ K3.out)|exact HB.out))):w.heap.size≤D5));have n5_:=aK ((by rw [hg];exact Nat.ne_of_lt (blk_lt (g:=l8) (o:=.cells #[.string a0_0,.int .i64 a0_1,.int .i64 o5] 79 (0,0)) (by (with_reducible repeat (first|refine qg_ ?_ _|refine qj_ ?_|refine qf_ ?_ _));exact l6.out)):l8≠D5));have n6_:=aK ((by rw [hg];exact Nat.ne_of_gt (blk_lt (g:=l8) (o:=.cells #[.string a0_0,.int .i64 a0_1,.int .i64 o5] 79 (0,0)) (by (with_reducible repeat (first|refine qg_ ?_ _|refine qj_ ?_|refine qf_ ?_ _));exact l6.out)):D5≠l8));clear l6;clear HB;have l6:=n0_;have HB:=n1_;have C9:=n2_;have aV5:=n3_;have Y6:=n4_;have P5:=n5_;have O9:=n6_;clear n0_ n1_ n2_ n3_ n4_ n5_ n6_;clear hb hbox hg;have hnb14:=P5.out;have hnc14:=O9.out;have hcz15_0:w13.cell? ⟨l8,0,none⟩=some (.string a0_0):=(qe_ l6.out 0).trans rfl;have hcz15_1:w13.cell? ⟨l8,1,none⟩=some (.int .i64 a0_1):=(qe_ l6.out 1).trans rfl;have hcz15_2:w13.cell? ⟨l8,2,none⟩=some (.int .i64 o5):=(qe_ l6.out 2).trans rfl;have hfz15_0:=qd_ l6.out 0;have hfz15_1:=qd_ l6.out 1;have hfz15_2:=qd_ l6.out 2;have hcz16_0:w13.cell? ⟨D5,0,none⟩=some (.string a1_0):=(qe_ C9.out 0).trans rfl;have hcz16_1:w13.cell? ⟨D5,1,none⟩=some (.int .i64 a1_1):=(qe_ C9.out 1).trans rfl;have hcz16_2:w13.cell? ⟨D5,2,none⟩=some (.int .i64 R7):=(qe_ C9.out 2).trans rfl;have hfz16_0:=qd_ C9.out 0;have hfz16_1:=qd_ C9.out 1;have hfz16_2:=qd_ C9.out 2)|((with_reducible refine qy_ (f:=157) rfl ?_);refine goesL_ (some 14) rfl rfl Try.func157 (by kernel_rfl) rfl #[.agg #[.int .i64 a0_1,.int .i64 o5],.agg #[.int .i64 a1_1,.int .i64 R7]] rfl (by (try simp only [List.map_toArray,List.map_cons,List.map_nil]);first|done|rfl|(simp only [List.length_drop,List.length_take];rfl)) ?_;(with_reducible refine (qz2_.calls a0_1 o5 a1_1 R7 false _ A4.out).mono ?_);rintro e w17 ⟨rfl,hb⟩;refine ⟨_,rfl,?_⟩;have n0_:=aK (qk_ (g:=l8) (o:=.cells #[.string a0_0,.int .i64 a0_1,.int .i64 o5] 79 (0,0)) (by (with_reducible repeat (first|refine qg_ ?_ _|refine qj_ ?_|refine qf_ ?_ _));exact l6.out) hb);have n1_:=aK (qk_ (g:=D5) (o:=.cells #[.string a1_0,.int .i64 a1_1,.int .i64 R7] 79 (0,0)) (by (with_reducible repeat (first|refine qg_ ?_ _|refine qj_ ?_|refine qf_ ?_ _));exact C9.out) hb);have n2_:=aK (qh_ (by repeat (first|(with_reducible first|exact HB.out|apply qb_|apply qa_|apply qc_|refine qi_ ?_ K3.out|refine qi_ ?_ Y6.out)|exact HB.out)) hb);clear l6;clear C9;clear HB;have l6:=n0_;have C9:=n1_;have HB:=n2_;clear n0_ n1_ n2_;(try clear hb);(try clear hb2);(try clear hk);(try clear hi)))
   go_ret
   exact ⟨by first|rfl|(simp [qn_,qo_] <;> rfl)|(simp [*,qn_,qo_] <;> rfl),by repeat (first|(with_reducible first|exact HB.out|apply qb_|apply qa_|apply qc_|refine qi_ ?_ K3.out|refine qi_ ?_ Y6.out)|exact HB.out)⟩
 ·rw [if_neg c3] at H
  have c3b0:(a0_0.toList==a1_0.toList)=false:=beq_eq_false_iff_ne.mpr c3
  have c3b1:(a0_0.toList != a1_0.toList)=true:=bne_iff_ne.mpr c3
  obtain rfl:=Option.some.inj H
  go_enter Try.func80,Try.ntmps80
  go_wp2_with (first|((with_reducible refine qt_ (N:=2) rfl ?_);refine qr_ ?hg (N:=2) ?hd (cs:=#[.string a0_0,.int .i64 a0_1,.int .i64 o5]) (t:=79) ?hr ?_;(case hd=>rfl);(case hg=>rfl);(case hr=>first|(go_simp;done)|(go_simp;rfl));intro l8 hg w18 hbox hb;have n0_:=aK (qh_ (by repeat (first|(with_reducible first|exact HB.out|apply qb_|apply qa_|apply qc_)|exact HB.out)) hb);have n1_:=aK (hbox);have n2_:=aK ((by rw [hg];exact (ql_ (by repeat (first|(with_reducible first|exact HB.out|apply qb_|apply qa_|apply qc_)|exact HB.out))):w.heap.size≤l8));have n3_:=aK ((by rw [hg];exact (ql_ (by repeat (first|(with_reducible first|exact HB.out|apply qb_|apply qa_|apply qc_)|exact HB.out))):w.heap.size≤l8));clear HB;have HB:=n0_;have l6:=n1_;have aV6:=n2_;have K3:=n3_;clear n0_ n1_ n2_ n3_;clear hb hbox hg)|((with_reducible refine qt_ (N:=3) rfl ?_);refine qr_ ?hg (N:=3) ?hd (cs:=#[.string a1_0,.int .i64 a1_1,.int .i64 R7]) (t:=79) ?hr ?_;(case hd=>rfl);(case hg=>rfl);(case hr=>first|(go_simp;done)|(go_simp;rfl));intro D5 hg w19 hbox hb;have n0_:=aK (qk_ (g:=l8) (o:=.cells #[.string a0_0,.int .i64 a0_1,.int .i64 o5] 79 (0,0)) (by (with_reducible repeat (first|refine qg_ ?_ _|refine qj_ ?_|refine qf_ ?_ _));exact l6.out) hb);have n1_:=aK (qh_ (by repeat (first|(with_reducible first|exact HB.out|apply qb_|apply qa_|apply qc_|refine qi_ ?_ K3.out)|exact HB.out)) hb);have n2_:=aK (hbox);have n3_:=aK ((by rw [hg];exact (ql_ (by repeat (first|(with_reducible first|exact HB.out|apply qb_|apply qa_|apply qc_|refine qi_ ?_ K3.out)|exact HB.out))):w.heap.size≤D5));have n4_:=aK ((by rw [hg];exact (ql_ (by repeat (first|(with_reducible first|exact HB.out|apply qb_|apply qa_|apply qc_|refine qi_ ?_ K3.out)|exact HB.out))):w.heap.size≤D5));have n5_:=aK ((by rw [hg];exact Nat.ne_of_lt (blk_lt (g:=l8) (o:=.cells #[.string a0_0,.int .i64 a0_1,.int .i64 o5] 79 (0,0)) (by (with_reducible repeat (first|refine qg_ ?_ _|refine qj_ ?_|refine qf_ ?_ _));exact l6.out)):l8≠D5));have n6_:=aK ((by rw [hg];exact Nat.ne_of_gt (blk_lt (g:=l8) (o:=.cells #[.string a0_0,.int .i64 a0_1,.int .i64 o5] 79 (0,0)) (by (with_reducible repeat (first|refine qg_ ?_ _|refine qj_ ?_|refine qf_ ?_ _));exact l6.out)):D5≠l8));clear l6;clear HB;have l6:=n0_;have HB:=n1_;have C9:=n2_;have aV5:=n3_;have Y6:=n4_;have P5:=n5_;have O9:=n6_;clear n0_ n1_ n2_ n3_ n4_ n5_ n6_;clear hb hbox hg;have hnb20:=P5.out;have hnc20:=O9.out;have hcz21_0:w19.cell? ⟨l8,0,none⟩=some (.string a0_0):=(qe_ l6.out 0).trans rfl;have hcz21_1:w19.cell? ⟨l8,1,none⟩=some (.int .i64 a0_1):=(qe_ l6.out 1).trans rfl;have hcz21_2:w19.cell? ⟨l8,2,none⟩=some (.int .i64 o5):=(qe_ l6.out 2).trans rfl;have hfz21_0:=qd_ l6.out 0;have hfz21_1:=qd_ l6.out 1;have hfz21_2:=qd_ l6.out 2;have hcz22_0:w19.cell? ⟨D5,0,none⟩=some (.string a1_0):=(qe_ C9.out 0).trans rfl;have hcz22_1:w19.cell? ⟨D5,1,none⟩=some (.int .i64 a1_1):=(qe_ C9.out 1).trans rfl;have hcz22_2:w19.cell? ⟨D5,2,none⟩=some (.int .i64 R7):=(qe_ C9.out 2).trans rfl;have hfz22_0:=qd_ C9.out 0;have hfz22_1:=qd_ C9.out 1;have hfz22_2:=qd_ C9.out 2))
  go_ret
  exact ⟨by first|rfl|(simp [qn_,qo_] <;> rfl)|(simp [*,qn_,qo_] <;> rfl),by repeat (first|(with_reducible first|exact HB.out|apply qb_|apply qa_|apply qc_|refine qi_ ?_ K3.out|refine qi_ ?_ Y6.out)|exact HB.out)⟩
end Go.Proofs.Ytaiefdhenikiiaa.Base
namespace Go.Proofs.Ytaiefdhenikiiaa.Base
open Go.RowKit Go.Proofs.YtaiefdhenikiiaaW.PrintWords Go.Proofs.YtaiefdhenikiiaaW.PrintLast Go.Proofs.YtaiefdhenikiiaaW.PrintMore
attribute [local go_sem] max2_int qp1_ max_two min_two max_three min_three max_four min_four Go.Proofs.YtaiefdhenikiiaaZ.qw_   -- for this text's walks alone
set_option linter.unusedVariables false
set_option linter.unusedSimpArgs false
def qc1_.l0:Nat→List (S79)→List (S79)→Int→Option (Bool)
 | 0,_,_,_=>none
 | k+1,x0,x1,x5=>if x5<(x0.length:Int) then (if 0≤x5 then (if x5<(x1.length:Int) then ((qi3_.f ((rd_T79 x0 x5).f0) ((rd_T79 x0 x5).f1.f0) ((rd_T79 x0 x5).f1.f1) ((rd_T79 x1 x5).f0) ((rd_T79 x1 x5).f1.f0) ((rd_T79 x1 x5).f1.f1)).bind fun t160=>(if t160=true then (qc1_.l0 k x0 x1 (wrap64 (x5+1))) else (some false))) else (none)) else (none)) else (some true)
def qc1_.f (k:Nat) (l0:List (S79)) (l1:List (S79)):Option (Bool):=if (l0.length:Int)=(l1.length:Int) then (qc1_.l0 k l0 l1 0) else (some false)
theorem qc1_.mono_l:∀ k,(∀ y0 y1 y2,LeO (qc1_.l0 k y0 y1 y2) (qc1_.l0 (k+1) y0 y1 y2))
 | 0=>fun _ _ _ r h=>by simp [qc1_.l0] at h
 | k+1=>by
  have ih0:=qc1_.mono_l k
  ·intro y0 y1 y2
   unfold qc1_.l0
   repeat' first
   | (with_reducible exact ih0 _ _ _)
   | (with_reducible exact LeO.refl _)
   | (with_reducible exact LeO.none _)
   | (with_reducible refine LeO.ite ?_ ?_)
   | (with_reducible refine LeO.bind ?_ (fun _=>?_))
   | exact ih0 _ _ _
   | exact LeO.none _
   | refine LeO.ite ?_ ?_
   | refine LeO.bind ?_ (fun _=>?_)
theorem qc1_.mono:∀ a0 a1 k,LeO (qc1_.f k a0 a1) (qc1_.f (k+1) a0 a1):=by
 intro a0 a1 k
 have ih0:=qc1_.mono_l k
 unfold qc1_.f
 repeat' first
   | (with_reducible exact ih0 _ _ _)
   | (with_reducible exact LeO.refl _)
   | (with_reducible exact LeO.none _)
   | (with_reducible refine LeO.ite ?_ ?_)
   | (with_reducible refine LeO.bind ?_ (fun _=>?_))
   | exact ih0 _ _ _
   | exact LeO.none _
   | refine LeO.ite ?_ ?_
   | refine LeO.bind ?_ (fun _=>?_)
def qc1_.T6:Bool × List (List Nat × List Nat):=(true,[([],[]),([],[]),([0,1],[0,1]),([2],[2]),([],[]),([],[]),([4,5],[4,5]),([6],[6]),([3,7],[3,7]),([8],[8])])
def qc1_.B6:List Nat:=[0,0,3,7,0,0,48,112,255,511]
theorem qc1_.tab6:rtab .any (opsOf Try.f25 6)=qc1_.T6:=by kernel_rfl
theorem qc1_.bits6:waitsOk qc1_.T6.2 qc1_.B6=true:=by kernel_rfl
set_option maxHeartbeats 8000000 in
set_option maxRecDepth 100000 in
theorem qc1_.calls (k:Nat) (A0:Option Addr) (c0:Nat) (l0:List (S79)) (A1:Option Addr) (c1:Nat) (l1:List (S79)) (r:Bool) (w:World) (hr0:Kd.C k79 w A0 l0.length l0) (hc0:l0.length≤c0) (hr1:Kd.C k79 w A1 l1.length l1) (hc1:l1.length≤c1) (h:qc1_.f k l0 l1=some r) :
  Calls Try.prog 25 #[.slice A0 l0.length c0,.slice A1 l1.length c1] w fun e w'=>e=.returned (.bool r)∧Below w.heap.size w w':=by
 have hu79:=Try.underlying79
 have HR0:=aK hr0
 have HC0:=aK hc0
 clear hr0 hc0
 have HR1:=aK hr1
 have HC1:=aK hc1
 clear hr1 hc1
 have HB:=aK (Below.refl w.heap.size w)
 have H:(if (l0.length:Int)=(l1.length:Int) then (qc1_.l0 k l0 l1 0) else (some false))=some r:=h
 clear h
 by_cases c3:(l0.length:Int)=(l1.length:Int)
 ·rw [if_pos c3] at H
  have c3b0:((l0.length:Int)==(l1.length:Int))=true:=beq_iff_eq.mpr c3
  have c3b1:((l0.length:Int) != (l1.length:Int))=false:=bne_eq_false_iff_eq.mpr c3
  have c3b2:(l0.length==l1.length)=true:=by first|simpa using c3|(simp at c3 ⊢;omega)
  clear c3
  have H':=aK H
  clear H
  go_enter Try.func25,Try.ntmps25
  go_wp2
  go_loopg [5] k (fun kq v5 w'=>∃ (x5_1:Int),v5=.int .i64 x5_1∧Aside0 (qc1_.l0 kq l0 l1 x5_1=some r)∧Aside0 (kq≤k)∧Aside0 (Below w.heap.size w w'))
  case atStart=>exact ⟨(0),(by first|rfl|(simp;done)|(simp [*];done)),H',⟨Nat.le_refl _⟩,⟨by repeat (first|(with_reducible first|exact HB.out|apply qb_|apply qa_|apply qc_)|exact HB.out)⟩⟩
  case round =>
   clear H'
   try clear c1
   try clear c2
   try clear p2
   try clear c3
   try clear c3b0
   try clear c3b1
   try clear c3b2
   obtain ⟨x5_1,rfl,HA,HK1,HB⟩:=hrel
   cases gk with
   | zero=>exact absurd HA.out (by simp [qc1_.l0])
   | succ k1 =>
    have H:=HA.out
    clear HA
    simp only [qc1_.l0] at H
    by_cases c4:x5_1<(l0.length:Int)
    ·rw [if_pos c4] at H
     have c4b0:decide (x5_1<(l0.length:Int))=true:=decide_eq_true c4
     clear c4
     by_cases c5:0≤x5_1
     ·rw [if_pos c5] at H
      have c5b0:decide (0≤x5_1)=true:=decide_eq_true c5
      clear c5
      by_cases c6:x5_1<(l1.length:Int)
      ·rw [if_pos c6] at H
       have c6b0:decide (x5_1<(l1.length:Int))=true:=decide_eq_true c6
       clear c6
       replace H:=Option.bind_eq_some_iff.mp H
       obtain ⟨t160,A70,H⟩:=H
       replace H:(if t160=true then (qc1_.l0 k1 l0 l1 (wrap64 (x5_1+1))) else (some false))=some r:=H
       have A7:=aK A70
       clear A70
       by_cases c8:t160=true
       ·subst c8
        have H1:(qc1_.l0 k1 l0 l1 (wrap64 (x5_1+1)))=some r:=by rw [if_pos rfl] at H;exact H
        clear H
        have H:=H1
        clear H1
        have H':=aK H
        clear H
        try go_wp2
        have n0_:=aK (qc_ HB.out)
        clear HB
        have HB:=n0_
        clear n0_
        have aZ4:0≤(x5_1:Int):=of_decide_eq_true (by first|(with_reducible assumption)|assumption)
        have aZ1:x5_1<(l0.length:Int):=of_decide_eq_true (by first|(with_reducible assumption)|assumption)
        obtain ⟨R6,bJ4,H7,H6,H5⟩:=at_T79 HR0.out x5_1 aZ4 aZ1
        have K7:=H5
        have K8:=H6
        have K9:=H7
        cases bJ4
        replace H7:=(HB.out.cell (World.block_lt_of_cell? w _ H7)).trans H7
        replace H6:=(HB.out.cell (World.block_lt_of_cell? w _ H6)).trans H6
        replace H5:=(HB.out.cell (World.block_lt_of_cell? w _ H5)).trans H5
        replace aZ4:=eq_true aZ4
        replace aZ1:=eq_true aZ1
        have aZ3:0≤(x5_1:Int):=of_decide_eq_true (by first|(with_reducible assumption)|assumption)
        have aZ0:x5_1<(l1.length:Int):=of_decide_eq_true (by first|(with_reducible assumption)|assumption)
        obtain ⟨R5,bJ3,G9,G8,G7⟩:=at_T79 HR1.out x5_1 aZ3 aZ0
        have K4:=G7
        have K5:=G8
        have K6:=G9
        cases bJ3
        replace G9:=(HB.out.cell (World.block_lt_of_cell? w _ G9)).trans G9
        replace G8:=(HB.out.cell (World.block_lt_of_cell? w _ G8)).trans G8
        replace G7:=(HB.out.cell (World.block_lt_of_cell? w _ G7)).trans G7
        replace aZ3:=eq_true aZ3
        replace aZ0:=eq_true aZ0
        refine start_ (n:=10) (S:=fun w'=>w'.cell? (R6.add ((x5_1).toNat*3))=some (.string ((rd_T79 l0 x5_1).f0))∧w'.cell? ⟨(R6.add ((x5_1).toNat*3)).block,(R6.add ((x5_1).toNat*3)).off+1,none⟩=some (.int .i64 ((rd_T79 l0 x5_1).f1.f0))∧w'.cell? ⟨(R6.add ((x5_1).toNat*3)).block,(R6.add ((x5_1).toNat*3)).off+2,none⟩=some (.int .i64 ((rd_T79 l0 x5_1).f1.f1))∧w'.cell? (R5.add ((x5_1).toNat*3))=some (.string ((rd_T79 l1 x5_1).f0))∧w'.cell? ⟨(R5.add ((x5_1).toNat*3)).block,(R5.add ((x5_1).toNat*3)).off+1,none⟩=some (.int .i64 ((rd_T79 l1 x5_1).f1.f0))∧w'.cell? ⟨(R5.add ((x5_1).toNat*3)).block,(R5.add ((x5_1).toNat*3)).off+2,none⟩=some (.int .i64 ((rd_T79 l1 x5_1).f1.f1))) (ds:=[]) #[fF,fF,fF,fF,fF,fF,fF,fF,fF,fF] (by kernel_rfl) rfl rfl ⟨((HB.out.cell (World.block_lt_of_cell? w _ K9)).trans K9),((HB.out.cell (World.block_lt_of_cell? w _ K8)).trans K8),((HB.out.cell (World.block_lt_of_cell? w _ K7)).trans K7),((HB.out.cell (World.block_lt_of_cell? w _ K6)).trans K6),((HB.out.cell (World.block_lt_of_cell? w _ K5)).trans K5),((HB.out.cell (World.block_lt_of_cell? w _ K4)).trans K4)⟩ (fun hHeld=>?_);refine with_tabW qc1_.tab6 qc1_.bits6 (fun HT_ HW_=>?_)
        generalize wr.drew=w9 at HB H7 H6 H5 G9 G8 G7 hHeld ⊢
        refine pure_ (i:=0) (N:=some 17) (v:=?_) (a':=?_) #[tT,fF,fF,fF,fF,fF,fF,fF,fF,fF] rfl rfl (any_of HT_.out (by kernel_rfl)) (fun _ _ _ h=>h) (Or.inl ⟨by rfl,?_⟩) ?_ ?_
        rotate_left
        ·intro w'
         go_simp
         with_reducible rfl
        rotate_left
        ·simp only [Act.put,List.setIfInBounds_toArray,List.set_cons_zero,List.set_cons_succ,i64_w,i32_w]
         rfl
        refine pure_ (i:=1) (N:=some 18) (v:=?_) (a':=?_) #[tT,tT,fF,fF,fF,fF,fF,fF,fF,fF] rfl rfl (any_of HT_.out (by kernel_rfl)) (fun _ _ _ h=>h) (Or.inl ⟨by rfl,?_⟩) ?_ ?_
        rotate_left
        ·intro w'
         go_simp
         with_reducible rfl
        rotate_left
        ·simp only [Act.put,List.setIfInBounds_toArray,List.set_cons_zero,List.set_cons_succ,i64_w,i32_w]
         rfl
        refine pure_ (i:=2) (N:=some 19) (v:=?_) (a':=?_) #[tT,tT,tT,fF,fF,fF,fF,fF,fF,fF] rfl rfl (any_of HT_.out (by kernel_rfl)) (fun _ _ _ h=>h) (Or.inl ⟨by rfl,?_⟩) ?_ ?_
        rotate_left
        ·intro w'
         go_simp
         with_reducible rfl
        rotate_left
        ·simp only [Act.put,List.setIfInBounds_toArray,List.set_cons_zero,List.set_cons_succ,i64_w,i32_w]
         rfl
        refine pure_ (i:=4) (N:=some 21) (v:=?_) (a':=?_) #[tT,tT,tT,fF,tT,fF,fF,fF,fF,fF] rfl rfl (any_of HT_.out (by kernel_rfl)) (fun _ _ _ h=>h) (Or.inl ⟨by rfl,?_⟩) ?_ ?_
        rotate_left
        ·intro w'
         go_simp
         with_reducible rfl
        rotate_left
        ·simp only [Act.put,List.setIfInBounds_toArray,List.set_cons_zero,List.set_cons_succ,i64_w,i32_w]
         rfl
        refine pure_ (i:=5) (N:=some 22) (v:=?_) (a':=?_) #[tT,tT,tT,fF,tT,tT,fF,fF,fF,fF] rfl rfl (any_of HT_.out (by kernel_rfl)) (fun _ _ _ h=>h) (Or.inl ⟨by rfl,?_⟩) ?_ ?_
        rotate_left
        ·intro w'
         go_simp
         with_reducible rfl
        rotate_left
        ·simp only [Act.put,List.setIfInBounds_toArray,List.set_cons_zero,List.set_cons_succ,i64_w,i32_w]
         rfl
        refine pure_ (i:=6) (N:=some 23) (v:=?_) (a':=?_) #[tT,tT,tT,fF,tT,tT,tT,fF,fF,fF] rfl rfl (any_of HT_.out (by kernel_rfl)) (fun _ _ _ h=>h) (Or.inl ⟨by rfl,?_⟩) ?_ ?_
        rotate_left
        ·intro w'
         go_simp
         with_reducible rfl
        rotate_left
        ·simp only [Act.put,List.setIfInBounds_toArray,List.set_cons_zero,List.set_cons_succ,i64_w,i32_w]
         rfl
        refine take_ (i:=3) (N:=some 20) (v:=?_) (a':=?_) #[tT,tT,tT,tT,tT,tT,tT,fF,fF,fF] rfl rfl (take_ofW HT_.out HW_.out (by kernel_rfl)) (fun _ _ _ h=>h) (Or.inl ⟨by rfl,?_⟩) hHeld ?_ ?_
        rotate_left
        ·rintro w' ⟨s0,s1,s2,s3,s4,s5⟩
         go_simp
         with_reducible rfl
        rotate_left
        ·simp only [Act.put,List.setIfInBounds_toArray,List.set_cons_zero,List.set_cons_succ,i64_w,i32_w]
         rfl
        refine take_ (i:=7) (N:=some 24) (v:=?_) (a':=?_) #[tT,tT,tT,tT,tT,tT,tT,tT,fF,fF] rfl rfl (take_ofW HT_.out HW_.out (by kernel_rfl)) (fun _ _ _ h=>h) (Or.inl ⟨by rfl,?_⟩) hHeld ?_ ?_
        rotate_left
        ·rintro w' ⟨s0,s1,s2,s3,s4,s5⟩
         go_simp
         with_reducible rfl
        rotate_left
        ·simp only [Act.put,List.setIfInBounds_toArray,List.set_cons_zero,List.set_cons_succ,i64_w,i32_w]
         rfl
        refine one_ (i:=8) (N:=some 25) #[tT,tT,tT,tT,tT,tT,tT,tT,tT,fF] rfl rfl (one_of HT_.out (by kernel_rfl)) (by decide) (fun K hK=>?_)
        refine goes_ Try.func80 (by kernel_rfl) rfl #[.agg #[.string ((rd_T79 l0 x5_1).f0),.int .i64 ((rd_T79 l0 x5_1).f1.f0),.int .i64 ((rd_T79 l0 x5_1).f1.f1)],.agg #[.string ((rd_T79 l1 x5_1).f0),.int .i64 ((rd_T79 l1 x5_1).f1.f0),.int .i64 ((rd_T79 l1 x5_1).f1.f1)]] (by rfl) rfl rfl (by (try simp only [List.map_toArray,List.map_cons,List.map_nil]);first|done|rfl|(simp only [List.length_drop,List.length_take];rfl)) ?_
        with_reducible refine (qi3_.calls ((rd_T79 l0 x5_1).f0) ((rd_T79 l0 x5_1).f1.f0) ((rd_T79 l0 x5_1).f1.f1) ((rd_T79 l1 x5_1).f0) ((rd_T79 l1 x5_1).f1.f0) ((rd_T79 l1 x5_1).f1.f1) true _ A7.out).mono ?_
        rintro e w10 ⟨rfl,hb⟩
        refine ⟨_,rfl,?_⟩
        have n0_:=aK (qh_ (by repeat (first|(with_reducible first|exact HB.out|apply qb_|apply qa_|apply qc_)|exact HB.out)) hb)
        clear HB
        have HB:=n0_
        clear n0_
        (try clear hb)
        (try clear hb2)
        (try clear hk)
        (try clear hi)
        refine hK.out _ _ ⟨((HB.out.cell (World.block_lt_of_cell? w _ K9)).trans K9),((HB.out.cell (World.block_lt_of_cell? w _ K8)).trans K8),((HB.out.cell (World.block_lt_of_cell? w _ K7)).trans K7),((HB.out.cell (World.block_lt_of_cell? w _ K6)).trans K6),((HB.out.cell (World.block_lt_of_cell? w _ K5)).trans K5),((HB.out.cell (World.block_lt_of_cell? w _ K4)).trans K4)⟩ (fun hHeld=>?_)
        clear hK K
        refine norm_ (a':=?_) ?_ ?_
        rotate_left
        ·show Act.put _ (some 25) _=_
         simp only [Act.put,List.setIfInBounds_toArray,List.set_cons_zero,List.set_cons_succ,i64_w,i32_w]
         rfl
        refine pure_ (i:=9) (N:=some 26) (v:=?_) (a':=?_) #[tT,tT,tT,tT,tT,tT,tT,tT,tT,tT] rfl rfl (any_of HT_.out (by kernel_rfl)) (fun _ _ _ h=>h) (Or.inl ⟨by rfl,?_⟩) ?_ ?_
        rotate_left
        ·intro w'
         go_simp
         with_reducible rfl
        rotate_left
        ·simp only [Act.put,List.setIfInBounds_toArray,List.set_cons_zero,List.set_cons_succ,i64_w,i32_w]
         rfl
        refine done_ (done_of HT_.out (by kernel_rfl)) ?_
        try go_wp2
        go_roundg k1
        case measure=>have:=HK1.out;omega
        case rel=>exact ⟨(wrap64 (x5_1+1)),(by first|rfl|(simp;done)|(simp [*];done)),H',⟨by have:=HK1.out;omega⟩,⟨by repeat (first|(with_reducible first|exact HB.out|apply qb_|apply qa_|apply qc_)|exact HB.out)⟩⟩
       ·replace c8:=Bool.eq_false_iff.mpr c8
        subst c8
        have H1:(some false)=some r:=by rw [if_neg (show ¬ (false=true) by decide)] at H;exact H
        clear H
        have H:=H1
        clear H1
        obtain rfl:=Option.some.inj H
        try go_wp2
        have n0_:=aK (qc_ HB.out)
        clear HB
        have HB:=n0_
        clear n0_
        have aZ4:0≤(x5_1:Int):=of_decide_eq_true (by first|(with_reducible assumption)|assumption)
        have aZ1:x5_1<(l0.length:Int):=of_decide_eq_true (by first|(with_reducible assumption)|assumption)
        obtain ⟨R6,bJ4,H7,H6,H5⟩:=at_T79 HR0.out x5_1 aZ4 aZ1
        have K7:=H5
        have K8:=H6
        have K9:=H7
        cases bJ4
        replace H7:=(HB.out.cell (World.block_lt_of_cell? w _ H7)).trans H7
        replace H6:=(HB.out.cell (World.block_lt_of_cell? w _ H6)).trans H6
        replace H5:=(HB.out.cell (World.block_lt_of_cell? w _ H5)).trans H5
        replace aZ4:=eq_true aZ4
        replace aZ1:=eq_true aZ1
        have aZ3:0≤(x5_1:Int):=of_decide_eq_true (by first|(with_reducible assumption)|assumption)
        have aZ0:x5_1<(l1.length:Int):=of_decide_eq_true (by first|(with_reducible assumption)|assumption)
        obtain ⟨R5,bJ3,G9,G8,G7⟩:=at_T79 HR1.out x5_1 aZ3 aZ0
        have K4:=G7
        have K5:=G8
        have K6:=G9
        cases bJ3
        replace G9:=(HB.out.cell (World.block_lt_of_cell? w _ G9)).trans G9
        replace G8:=(HB.out.cell (World.block_lt_of_cell? w _ G8)).trans G8
        replace G7:=(HB.out.cell (World.block_lt_of_cell? w _ G7)).trans G7
        replace aZ3:=eq_true aZ3
        replace aZ0:=eq_true aZ0
        refine start_ (n:=10) (S:=fun w'=>w'.cell? (R6.add ((x5_1).toNat*3))=some (.string ((rd_T79 l0 x5_1).f0))∧w'.cell? ⟨(R6.add ((x5_1).toNat*3)).block,(R6.add ((x5_1).toNat*3)).off+1,none⟩=some (.int .i64 ((rd_T79 l0 x5_1).f1.f0))∧w'.cell? ⟨(R6.add ((x5_1).toNat*3)).block,(R6.add ((x5_1).toNat*3)).off+2,none⟩=some (.int .i64 ((rd_T79 l0 x5_1).f1.f1))∧w'.cell? (R5.add ((x5_1).toNat*3))=some (.string ((rd_T79 l1 x5_1).f0))∧w'.cell? ⟨(R5.add ((x5_1).toNat*3)).block,(R5.add ((x5_1).toNat*3)).off+1,none⟩=some (.int .i64 ((rd_T79 l1 x5_1).f1.f0))∧w'.cell? ⟨(R5.add ((x5_1).toNat*3)).block,(R5.add ((x5_1).toNat*3)).off+2,none⟩=some (.int .i64 ((rd_T79 l1 x5_1).f1.f1))) (ds:=[]) #[fF,fF,fF,fF,fF,fF,fF,fF,fF,fF] (by kernel_rfl) rfl rfl ⟨((HB.out.cell (World.block_lt_of_cell? w _ K9)).trans K9),((HB.out.cell (World.block_lt_of_cell? w _ K8)).trans K8),((HB.out.cell (World.block_lt_of_cell? w _ K7)).trans K7),((HB.out.cell (World.block_lt_of_cell? w _ K6)).trans K6),((HB.out.cell (World.block_lt_of_cell? w _ K5)).trans K5),((HB.out.cell (World.block_lt_of_cell? w _ K4)).trans K4)⟩ (fun hHeld=>?_);refine with_tabW qc1_.tab6 qc1_.bits6 (fun HT_ HW_=>?_)
        generalize wr.drew=w11 at HB H7 H6 H5 G9 G8 G7 hHeld ⊢
        refine pure_ (i:=0) (N:=some 17) (v:=?_) (a':=?_) #[tT,fF,fF,fF,fF,fF,fF,fF,fF,fF] rfl rfl (any_of HT_.out (by kernel_rfl)) (fun _ _ _ h=>h) (Or.inl ⟨by rfl,?_⟩) ?_ ?_
        rotate_left
        ·intro w'
         go_simp
         with_reducible rfl
        rotate_left
        ·simp only [Act.put,List.setIfInBounds_toArray,List.set_cons_zero,List.set_cons_succ,i64_w,i32_w]
         rfl
        refine pure_ (i:=1) (N:=some 18) (v:=?_) (a':=?_) #[tT,tT,fF,fF,fF,fF,fF,fF,fF,fF] rfl rfl (any_of HT_.out (by kernel_rfl)) (fun _ _ _ h=>h) (Or.inl ⟨by rfl,?_⟩) ?_ ?_
        rotate_left
        ·intro w'
         go_simp
         with_reducible rfl
        rotate_left
        ·simp only [Act.put,List.setIfInBounds_toArray,List.set_cons_zero,List.set_cons_succ,i64_w,i32_w]
         rfl
        refine pure_ (i:=2) (N:=some 19) (v:=?_) (a':=?_) #[tT,tT,tT,fF,fF,fF,fF,fF,fF,fF] rfl rfl (any_of HT_.out (by kernel_rfl)) (fun _ _ _ h=>h) (Or.inl ⟨by rfl,?_⟩) ?_ ?_
        rotate_left
        ·intro w'
         go_simp
         with_reducible rfl
        rotate_left
        ·simp only [Act.put,List.setIfInBounds_toArray,List.set_cons_zero,List.set_cons_succ,i64_w,i32_w]
         rfl
        refine pure_ (i:=4) (N:=some 21) (v:=?_) (a':=?_) #[tT,tT,tT,fF,tT,fF,fF,fF,fF,fF] rfl rfl (any_of HT_.out (by kernel_rfl)) (fun _ _ _ h=>h) (Or.inl ⟨by rfl,?_⟩) ?_ ?_
        rotate_left
        ·intro w'
         go_simp
         with_reducible rfl
        rotate_left
        ·simp only [Act.put,List.setIfInBounds_toArray,List.set_cons_zero,List.set_cons_succ,i64_w,i32_w]
         rfl
        refine pure_ (i:=5) (N:=some 22) (v:=?_) (a':=?_) #[tT,tT,tT,fF,tT,tT,fF,fF,fF,fF] rfl rfl (any_of HT_.out (by kernel_rfl)) (fun _ _ _ h=>h) (Or.inl ⟨by rfl,?_⟩) ?_ ?_
        rotate_left
        ·intro w'
         go_simp
         with_reducible rfl
        rotate_left
        ·simp only [Act.put,List.setIfInBounds_toArray,List.set_cons_zero,List.set_cons_succ,i64_w,i32_w]
         rfl
        refine pure_ (i:=6) (N:=some 23) (v:=?_) (a':=?_) #[tT,tT,tT,fF,tT,tT,tT,fF,fF,fF] rfl rfl (any_of HT_.out (by kernel_rfl)) (fun _ _ _ h=>h) (Or.inl ⟨by rfl,?_⟩) ?_ ?_
        rotate_left
        ·intro w'
         go_simp
         with_reducible rfl
        rotate_left
        ·simp only [Act.put,List.setIfInBounds_toArray,List.set_cons_zero,List.set_cons_succ,i64_w,i32_w]
         rfl
        refine take_ (i:=3) (N:=some 20) (v:=?_) (a':=?_) #[tT,tT,tT,tT,tT,tT,tT,fF,fF,fF] rfl rfl (take_ofW HT_.out HW_.out (by kernel_rfl)) (fun _ _ _ h=>h) (Or.inl ⟨by rfl,?_⟩) hHeld ?_ ?_
        rotate_left
        ·rintro w' ⟨s0,s1,s2,s3,s4,s5⟩
         go_simp
         with_reducible rfl
        rotate_left
        ·simp only [Act.put,List.setIfInBounds_toArray,List.set_cons_zero,List.set_cons_succ,i64_w,i32_w]
         rfl
        refine take_ (i:=7) (N:=some 24) (v:=?_) (a':=?_) #[tT,tT,tT,tT,tT,tT,tT,tT,fF,fF] rfl rfl (take_ofW HT_.out HW_.out (by kernel_rfl)) (fun _ _ _ h=>h) (Or.inl ⟨by rfl,?_⟩) hHeld ?_ ?_
        rotate_left
        ·rintro w' ⟨s0,s1,s2,s3,s4,s5⟩
         go_simp
         with_reducible rfl
        rotate_left
        ·simp only [Act.put,List.setIfInBounds_toArray,List.set_cons_zero,List.set_cons_succ,i64_w,i32_w]
         rfl
        refine one_ (i:=8) (N:=some 25) #[tT,tT,tT,tT,tT,tT,tT,tT,tT,fF] rfl rfl (one_of HT_.out (by kernel_rfl)) (by decide) (fun K hK=>?_)
        refine goes_ Try.func80 (by kernel_rfl) rfl #[.agg #[.string ((rd_T79 l0 x5_1).f0),.int .i64 ((rd_T79 l0 x5_1).f1.f0),.int .i64 ((rd_T79 l0 x5_1).f1.f1)],.agg #[.string ((rd_T79 l1 x5_1).f0),.int .i64 ((rd_T79 l1 x5_1).f1.f0),.int .i64 ((rd_T79 l1 x5_1).f1.f1)]] (by rfl) rfl rfl (by (try simp only [List.map_toArray,List.map_cons,List.map_nil]);first|done|rfl|(simp only [List.length_drop,List.length_take];rfl)) ?_
        with_reducible refine (qi3_.calls ((rd_T79 l0 x5_1).f0) ((rd_T79 l0 x5_1).f1.f0) ((rd_T79 l0 x5_1).f1.f1) ((rd_T79 l1 x5_1).f0) ((rd_T79 l1 x5_1).f1.f0) ((rd_T79 l1 x5_1).f1.f1) false _ A7.out).mono ?_
        rintro e w12 ⟨rfl,hb⟩
        refine ⟨_,rfl,?_⟩
        have n0_:=aK (qh_ (by repeat (first|(with_reducible first|exact HB.out|apply qb_|apply qa_|apply qc_)|exact HB.out)) hb)
        clear HB
        have HB:=n0_
        clear n0_
        (try clear hb)
        (try clear hb2)
        (try clear hk)
        (try clear hi)
        refine hK.out _ _ ⟨((HB.out.cell (World.block_lt_of_cell? w _ K9)).trans K9),((HB.out.cell (World.block_lt_of_cell? w _ K8)).trans K8),((HB.out.cell (World.block_lt_of_cell? w _ K7)).trans K7),((HB.out.cell (World.block_lt_of_cell? w _ K6)).trans K6),((HB.out.cell (World.block_lt_of_cell? w _ K5)).trans K5),((HB.out.cell (World.block_lt_of_cell? w _ K4)).trans K4)⟩ (fun hHeld=>?_)
        clear hK K
        refine norm_ (a':=?_) ?_ ?_
        rotate_left
        ·show Act.put _ (some 25) _=_
         simp only [Act.put,List.setIfInBounds_toArray,List.set_cons_zero,List.set_cons_succ,i64_w,i32_w]
         rfl
        refine pure_ (i:=9) (N:=some 26) (v:=?_) (a':=?_) #[tT,tT,tT,tT,tT,tT,tT,tT,tT,tT] rfl rfl (any_of HT_.out (by kernel_rfl)) (fun _ _ _ h=>h) (Or.inl ⟨by rfl,?_⟩) ?_ ?_
        rotate_left
        ·intro w'
         go_simp
         with_reducible rfl
        rotate_left
        ·simp only [Act.put,List.setIfInBounds_toArray,List.set_cons_zero,List.set_cons_succ,i64_w,i32_w]
         rfl
        refine done_ (done_of HT_.out (by kernel_rfl)) ?_
        try go_wp2
        go_ret
        exact ⟨by first|rfl|(simp [qn_,qo_] <;> rfl)|(simp [*,qn_,qo_] <;> rfl),by repeat (first|(with_reducible first|exact HB.out|apply qb_|apply qa_|apply qc_)|exact HB.out)⟩
      ·rw [if_neg c6] at H
       exact absurd H (by simp)
     ·rw [if_neg c5] at H
      exact absurd H (by simp)
    ·rw [if_neg c4] at H
     have c4b0:decide (x5_1<(l0.length:Int))=false:=decide_eq_false c4
     clear c4
     obtain rfl:=Option.some.inj H
     go_wp2
     go_ret
     exact ⟨by first|rfl|(simp [qn_,qo_] <;> rfl)|(simp [*,qn_,qo_] <;> rfl),by repeat (first|(with_reducible first|exact HB.out|apply qb_|apply qa_|apply qc_)|exact HB.out)⟩
 ·rw [if_neg c3] at H
  have c3b0:((l0.length:Int)==(l1.length:Int))=false:=beq_eq_false_iff_ne.mpr c3
  have c3b1:((l0.length:Int) != (l1.length:Int))=true:=bne_iff_ne.mpr c3
  have c3b2:(l0.length==l1.length)=false:=by first|simpa using c3|(simp at c3 ⊢;omega)
  obtain rfl:=Option.some.inj H
  go_enter Try.func25,Try.ntmps25
  go_wp2
  go_ret
  exact ⟨by first|rfl|(simp [qn_,qo_] <;> rfl)|(simp [*,qn_,qo_] <;> rfl),by repeat (first|(with_reducible first|exact HB.out|apply qb_|apply qa_|apply qc_)|exact HB.out)⟩
end Go.Proofs.Ytaiefdhenikiiaa.Base
